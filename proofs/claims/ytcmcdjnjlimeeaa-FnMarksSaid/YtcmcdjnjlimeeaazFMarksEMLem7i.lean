import Derived.Test.YtcmcdjnjlimeeaazFMarksECloneMark
import Derived.Test.YtcmcdjnjlimeeaazFMarksEEvLoop
import Derived.Test.YtcmcdjnjlimeeaazFMarksEMLem
import Derived.Test.YtcmcdjnjlimeeaazFMarksEMLem2
import Derived.Test.YtcmcdjnjlimeeaazFMarksEMLem3
import Derived.Test.YtcmcdjnjlimeeaazFMarksEMLem4a
import Derived.Test.YtcmcdjnjlimeeaazFMarksEMarkCode
import Derived.Test.YtcmcdjnjlimeeaazFMarksEPredMark
import Derived.Test.YtcmcdjnjlimeeaazFMarksERead
import Derived.Test.YtcmcdjnjlimeeaazFMarksM0
import Derived.Test.YtcmcdjnjlimeeaazFMarksM11
import Derived.Test.YtcmcdjnjlimeeaazFMarksM12
import Derived.Test.YtcmcdjnjlimeeaazFMarksM4
import Derived.Test.YtcmcdjnjlimeeaazFMarksM5
namespace Go.Proofs.Ytcmcdjnjlimeeaa.M
open Go.RowKit Go.Proofs.YtcmcdjnjlimeeaaW.PrintWords Go.Proofs.YtcmcdjnjlimeeaaW.PrintLast Go.Proofs.YtcmcdjnjlimeeaaW.PrintMore
attribute [local go_sem] max2_int min2_int max_two min_two max_three min_three max_four min_four
set_option linter.unusedVariables false
set_option linter.unusedSimpArgs false
def readAt (l : List Int) (a : Int) : Int := idxP (fun x => (seenOf x 12).contains a) l
theorem implRead_ev (l : List Int) (a : Int) (hl : ∀ x ∈ l, 0 ≤ x ∧ x < 65536) : Ev (fun k => impl_read.f k l a) (readAt l a) := by
  have key : ∃ K, ∀ k, K ≤ k → ∀ x ∈ l, impl_Mark_lost.f k x = some (seenOf x 12) := by
    induction l with
    | nil => exact ⟨0, fun k _ x hx => by cases hx⟩
    | cons y r ih =>
      obtain ⟨K, hK⟩ := ih (fun x hx => hl x (List.mem_cons_of_mem _ hx))
      have hy := hl y (List.mem_cons_self ..)
      obtain ⟨K', hK'⟩ := implLost_ev y hy.1 hy.2
      refine ⟨max K K', fun k hk x hx => ?_⟩
      rcases List.mem_cons.mp hx with rfl | h2
      · exact hK' k (by omega)
      · exact hK k (by omega) x h2
  obtain ⟨K, hK⟩ := key
  refine ⟨K, fun k hk => ?_⟩
  dsimp only
  unfold impl_read.f
  have b : l.all (fun x => (impl_Mark_lost.f k x).isSome) = true := by
    rw [List.all_eq_true]
    intro x hx
    rw [hK k hk x hx]
    rfl
  rw [if_pos b]
  congr 1
  refine idxP_congr _ _ l fun x hx => ?_
  unfold seesB
  rw [hK k hk x hx]
def codeSeen (n : Int) (l : List Int) (s : Int) : Int := if okMark n s = true then listCode n l else 1
theorem codeSeen_ev (n : Int) (l : List Int) (s : Int) : Ev (fun k => (impl_markCode.f n (l ++ [s])).bind fun a => (impl_fewMarks.f l).bind fun b => impl_firstOf.f k [a, b]) (codeSeen n l s) := by
  have e (a b : Int) := firstOf_ev [a, b] (by simp)
  rw [implCode_f, few_f]
  refine Ev.congr (f := fun k => impl_firstOf.f k [if 1 ≤ n ∧ n ≤ 12 then (if (l ++ [s]).any (fun m => !okMark n m) = true then 1 else 0) else 1, if l.length ≤ 40 then 0 else 3]) (fun k => rfl) ?_
  have q : firstNZ [if 1 ≤ n ∧ n ≤ 12 then (if (l ++ [s]).any (fun m => !okMark n m) = true then (1 : Int) else 0) else 1, if l.length ≤ 40 then 0 else 3] = codeSeen n l s := by
    unfold codeSeen listCode
    rw [List.any_append]
    by_cases c : 1 ≤ n ∧ n ≤ 12
    · rw [if_pos c, if_pos c]
      cases d : l.any (fun m => !okMark n m) with
      | true => cases f : okMark n s <;> rfl
      | false =>
        cases f : okMark n s with
        | true =>
          rw [List.any_cons, f]
          show firstNZ [if false = true then 1 else 0, if l.length ≤ 40 then 0 else 3] = if true = true then (if false = true then 1 else if l.length > 40 then 3 else 0) else 1
          simp only [Bool.false_eq_true, if_false, if_true]
          by_cases g : l.length ≤ 40
          · rw [if_pos g, if_neg (by omega)]; rfl
          · rw [if_neg g, if_pos (by omega)]; rfl
        | false => rw [List.any_cons, f]; rfl
    · have f := okMark_out n s c
      rw [if_neg c, f]; rfl
  have := e (if 1 ≤ n ∧ n ≤ 12 then (if (l ++ [s]).any (fun m => !okMark n m) = true then 1 else 0) else 1) (if l.length ≤ 40 then 0 else 3)
  rw [q] at this
  exact this
def ReadAnswer (n : Int) (l : List Int) (s : Int) (R : Int × Int) : Prop :=
  (codeSeen n l s ≠ 0 ∧ R = (0, codeSeen n l s)) ∨ (codeSeen n l s = 0 ∧ (((∃ a b : Nat, Meeting l a b) ∧ R = (0, 4)) ∨ (Apart l ∧ ((readAt l s < 0 ∧ R = (0, 6)) ∨ (0 ≤ readAt l s ∧ R = (readAt l s, 0))))))
theorem clone_f (l : List Int) (h : l.length ≤ 1048576) : slices_Clone_impl_Mark_impl_Mark.f l = some l := by
  unfold slices_Clone_impl_Mark_impl_Mark.f
  rw [if_pos (by omega)]
theorem implReadS_eq (n : Int) (l : List Int) (s : Int) (h : l.length ≤ 1048576) (k : Nat) : impl_ReadStitches.f k n l s = ((impl_markCode.f n (l ++ [s])).bind fun a => (impl_fewMarks.f l).bind fun b => impl_firstOf.f k [a, b]).bind fun t => if t = 0 then ((impl_apartCode.f k l).bind fun t584 => (impl_ReadStitches.j0 k l s t584)) else impl_ReadStitches.j0 k l s t := by
  unfold impl_ReadStitches.f
  rw [clone_f l h, Option.bind_some, if_pos (by omega), implCode_f, few_f]
  rfl
theorem codeSeen_zero (n : Int) (l : List Int) (s : Int) (h : codeSeen n l s = 0) : okMark n s = true ∧ listCode n l = 0 := by
  unfold codeSeen at h
  by_cases c : okMark n s = true
  · rw [if_pos c] at h; exact ⟨c, h⟩
  · rw [if_neg c] at h; omega
theorem implTold_ev (n : Int) (l : List Int) (hv : ∀ m ∈ l, 0 ≤ m ∧ m < 65536) (hc : listCode n l = 0) :
    ∃ c, ((c = 0 ∧ Apart l) ∨ (c = 4 ∧ ∃ a b : Nat, Meeting l a b)) ∧ Ev (fun k => impl_apartCode.f k l) c := by
  obtain ⟨v1, v2⟩ := valid_bd n l hv hc
  obtain ⟨r, q, hF, hr, hq⟩ := search_both l v1 v2
  rcases found_split l r q hF with ⟨rfl, rfl, e⟩ | ⟨a, b, rfl, rfl, e⟩
  · exact ⟨0, .inl ⟨rfl, e⟩, Ev.bind hq (Ev.const rfl)⟩
  · exact ⟨4, .inr ⟨rfl, a, b, e⟩, Ev.bind hq (Ev.const rfl)⟩
theorem implReadS_ev (n : Int) (l : List Int) (s : Int) (hm : l.length ≤ 1048576) (hv : ∀ m ∈ l, 0 ≤ m ∧ m < 65536) :
    ∃ R, ReadAnswer n l s R ∧ Ev (fun k => impl_ReadStitches.f k n l s) R := by
  have hi := codeSeen_ev n l s
  by_cases c : codeSeen n l s = 0
  · obtain ⟨c1, c2⟩ := codeSeen_zero n l s c
    obtain ⟨t, ht, ha⟩ := implTold_ev n l hv c2
    rw [c] at hi
    rcases ht with ⟨rfl, e⟩ | ⟨rfl, e⟩
    · have r2 := implRead_ev l s hv
      by_cases z : readAt l s < 0
      · refine ⟨(0, 6), .inr ⟨c, .inr ⟨e, .inl ⟨z, rfl⟩⟩⟩, ?_⟩
        refine Ev.congr (implReadS_eq n l s hm) (Ev.bind hi (Ev.ite_t rfl (Ev.bind ha ?_)))
        exact Ev.step (f := fun k => (impl_read.f k l s).bind fun t => if t < 0 then some (0, 6) else some (t, 0)) (fun k => by rw [impl_ReadStitches.j0, if_pos rfl]) (Ev.bind r2 (Ev.ite_t z (Ev.const rfl)))
      · refine ⟨(readAt l s, 0), .inr ⟨c, .inr ⟨e, .inr ⟨by omega, rfl⟩⟩⟩, ?_⟩
        refine Ev.congr (implReadS_eq n l s hm) (Ev.bind hi (Ev.ite_t rfl (Ev.bind ha ?_)))
        exact Ev.step (f := fun k => (impl_read.f k l s).bind fun t => if t < 0 then some (0, 6) else some (t, 0)) (fun k => by rw [impl_ReadStitches.j0, if_pos rfl]) (Ev.bind r2 (Ev.ite_f z (Ev.const rfl)))
    · refine ⟨(0, 4), .inr ⟨c, .inl ⟨e, rfl⟩⟩, ?_⟩
      refine Ev.congr (implReadS_eq n l s hm) (Ev.bind hi (Ev.ite_t rfl (Ev.bind ha ?_)))
      exact Ev.step (f := fun _ => some (0, 4)) (fun k => by rw [impl_ReadStitches.j0, if_neg (by decide)]) (Ev.const rfl)
  · refine ⟨(0, codeSeen n l s), .inl ⟨c, rfl⟩, ?_⟩
    refine Ev.congr (implReadS_eq n l s hm) (Ev.bind hi (Ev.ite_f c ?_))
    exact Ev.step (f := fun _ => some (0, codeSeen n l s)) (fun k => by rw [impl_ReadStitches.j0, if_neg c]) (Ev.const rfl)
end Go.Proofs.Ytcmcdjnjlimeeaa.M
