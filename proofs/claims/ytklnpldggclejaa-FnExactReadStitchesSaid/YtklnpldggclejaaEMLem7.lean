/- Marks that are read: what the program's and the reference's come to. Condition: a mark is a uint16, the lists are not longer than memory. -/
import Derived.Test.YtklnpldggclejaaECloneMark
import Derived.Test.YtklnpldggclejaaEEvLoop
import Derived.Test.YtklnpldggclejaaEMLem
import Derived.Test.YtklnpldggclejaaEMLem2
import Derived.Test.YtklnpldggclejaaEMLem3
import Derived.Test.YtklnpldggclejaaEMLem4
import Derived.Test.YtklnpldggclejaaEMLem6
import Derived.Test.YtklnpldggclejaaEMarkCode
import Derived.Test.YtklnpldggclejaaEPredMark
import Derived.Test.YtklnpldggclejaaERead
import Derived.Test.YtklnpldggclejaaM0
import Derived.Test.YtklnpldggclejaaM10
import Derived.Test.YtklnpldggclejaaM15
import Derived.Test.YtklnpldggclejaaM32
import Derived.Test.YtklnpldggclejaaM36
import Derived.Test.YtklnpldggclejaaM4
import Derived.Test.YtklnpldggclejaaM5
namespace Go.Proofs.Ytklnpldggclejaa.M
open Go.RowKit Go.Proofs.YtklnpldggclejaaW.PrintWords Go.Proofs.YtklnpldggclejaaW.PrintLast Go.Proofs.YtklnpldggclejaaW.PrintMore
attribute [local go_sem] max2_int min2_int max_two min_two max_three min_three max_four min_four
set_option linter.unusedVariables false
set_option linter.unusedSimpArgs false
/-- The place of the mark of which a can be seen, or -1. -/
def readAt (l : List Int) (a : Int) : Int := idxP (fun x => (seenOf x 12).contains a) l
theorem implRead_ev (l : List Int) (a : Int) (hl : ∀ x ∈ l, 0 ≤ x ∧ x < 65536) : Ev (fun k => impl_read.f k l a) (readAt l a) := by
  have key : ∃ K, ∀ k, K ≤ k → ∀ x ∈ l, impl_Mark_lost.f k x = some (seenOf x 12) := by
    induction l with
    | nil => exact ⟨0, fun k _ x hx => by cases hx⟩
    | cons y r ih =>
      obtain ⟨K, hK⟩ := ih (fun x hx => hl x (List.mem_cons_of_mem _ hx))
      have hy := hl y (List.mem_cons_self ..)
      obtain ⟨K', hK'⟩ := implLost_ev y hy.1 hy.2
      refine ⟨max K K', fun k hk x hx => ?_⟩
      rcases List.mem_cons.mp hx with rfl | h2
      · exact hK' k (by omega)
      · exact hK k (by omega) x h2
  obtain ⟨K, hK⟩ := key
  refine ⟨K, fun k hk => ?_⟩
  dsimp only
  unfold impl_read.f
  have b : l.all (fun x => (impl_Mark_lost.f k x).isSome) = true := by
    rw [List.all_eq_true]
    intro x hx
    rw [hK k hk x hx]
    rfl
  rw [if_pos b]
  congr 1
  refine idxP_congr _ _ l fun x hx => ?_
  unfold seesB
  rw [hK k hk x hx]
theorem specRead_ev (l : List Int) (a : Int) (hl : Small l) (hm : l.length ≤ 4611686018427387904) : Ev (fun k => spec_l06Read.f k l a) (readAt l a) := by
  refine Ev.loop (L := fun k s => spec_l06Read.l0 k l a s) (fun s d => ∃ i : Nat, i + d = l.length ∧ s = (i : Int) ∧ ∀ j, j < i → (seenOf (rd l (j : Nat)) 12).contains a = false) ?_ l.length 0 ⟨0, by omega, rfl, fun j h => by omega⟩
  rintro s d ⟨i, hd, rfl, hf⟩
  by_cases c : i < l.length
  · have hx := hl l[i] (List.getElem_mem c)
    obtain ⟨K, hK⟩ := specSeen_ev l[i] hx.1
    have sl := seen_len l[i] 16
    obtain ⟨K', hK'⟩ := has_ev (seenOf l[i] 16) a (by omega)
    have e16 := seen_12 l[i] hx.1 hx.2
    cases q : (seenOf l[i] 12).contains a with
    | true =>
      refine .inl ⟨max K K', fun k hk => ?_⟩
      have g := hK k (by omega)
      have g' := hK' k (by omega)
      dsimp only at g g'
      rw [e16] at g g'
      rw [q] at g'
      rw [spec_l06Read.l0]
      rw [if_pos (by omega), if_pos (by omega), rd_of_lt l i c, g, Option.bind_some, g', Option.bind_some, if_pos rfl]
      rw [readAt, idxP_hit _ l i c (by rw [rd_of_lt l i c]; exact q) hf]
    | false =>
      refine .inr ⟨((i + 1 : Nat) : Int), d - 1, by omega, ⟨i + 1, by omega, rfl, fun j hj => ?_⟩, max K K', fun k hk => ?_⟩
      · by_cases z : j = i
        · subst z; rw [rd_of_lt l j c]; exact q
        · exact hf j (by omega)
      · have g := hK k (by omega)
        have g' := hK' k (by omega)
        dsimp only at g g'
        rw [e16] at g g'
        rw [q] at g'
        rw [spec_l06Read.l0]
        rw [if_pos (by omega), if_pos (by omega), rd_of_lt l i c, g, Option.bind_some, g', Option.bind_some, if_neg (by decide), w64 _ (by omega) (by omega)]
        rfl
  · refine .inl ⟨0, fun k _ => ?_⟩
    rw [spec_l06Read.l0]
    rw [if_neg (by omega)]
    rw [readAt, idxP_miss _ l (fun j hj => hf j (by omega))]
theorem told_both (n : Int) (l : List Int) (hm : l.length ≤ 4611686018427387904) (hv : ∀ m ∈ l, 0 ≤ m ∧ m < 65536) (hc : listCode n l = 0) :
    ∃ c, ((c = 0 ∧ Apart l) ∨ (c = 4 ∧ ∃ a b : Nat, Meeting l a b)) ∧ Ev (fun k => spec_l06Told.f k n l) c ∧ Ev (fun k => impl_apartCode.f k l) c := by
  obtain ⟨v1, v2⟩ := valid_bd n l hv hc
  obtain ⟨r, q, hF, hr, hq⟩ := search_both l v1 v2
  have hs := specList_ev n l hm
  rw [hc] at hs
  rcases found_split l r q hF with ⟨rfl, rfl, e⟩ | ⟨a, b, rfl, rfl, e⟩
  · refine ⟨0, .inl ⟨rfl, e⟩, ?_, ?_⟩
    · exact Ev.bind hs (Ev.ite_t rfl (Ev.bind hr (Ev.ite_f (by decide) (Ev.const rfl))))
    · exact Ev.bind hq (Ev.const rfl)
  · refine ⟨4, .inr ⟨rfl, a, b, e⟩, ?_, ?_⟩
    · exact Ev.bind hs (Ev.ite_t rfl (Ev.bind hr (Ev.ite_t (by dsimp only; omega) (Ev.const rfl))))
    · exact Ev.bind hq (Ev.const rfl)
theorem told_bad (n : Int) (l : List Int) (hm : l.length ≤ 4611686018427387904) (hc : ¬ listCode n l = 0) : Ev (fun k => spec_l06Told.f k n l) (listCode n l) :=
  Ev.bind (specList_ev n l hm) (Ev.ite_f hc (Ev.const rfl))
/-- The code of a list of marks and one more. -/
def codeSeen (n : Int) (l : List Int) (s : Int) : Int := if okMark n s = true then listCode n l else 1
theorem codeSeen_ev (n : Int) (l : List Int) (s : Int) : Ev (fun k => (impl_markCode.f n (l ++ [s])).bind fun a => (impl_fewMarks.f l).bind fun b => impl_firstOf.f k [a, b]) (codeSeen n l s) := by
  have e (a b : Int) := firstOf_ev [a, b] (by simp)
  rw [implCode_f, few_f]
  refine Ev.congr (f := fun k => impl_firstOf.f k [if 1 ≤ n ∧ n ≤ 12 then (if (l ++ [s]).any (fun m => !okMark n m) = true then 1 else 0) else 1, if l.length ≤ 40 then 0 else 3]) (fun k => rfl) ?_
  have q : firstNZ [if 1 ≤ n ∧ n ≤ 12 then (if (l ++ [s]).any (fun m => !okMark n m) = true then (1 : Int) else 0) else 1, if l.length ≤ 40 then 0 else 3] = codeSeen n l s := by
    unfold codeSeen listCode
    rw [List.any_append]
    by_cases c : 1 ≤ n ∧ n ≤ 12
    · rw [if_pos c, if_pos c]
      cases d : l.any (fun m => !okMark n m) with
      | true => cases f : okMark n s <;> rfl
      | false =>
        cases f : okMark n s with
        | true =>
          rw [List.any_cons, f]
          show firstNZ [if false = true then 1 else 0, if l.length ≤ 40 then 0 else 3] = if true = true then (if false = true then 1 else if l.length > 40 then 3 else 0) else 1
          simp only [Bool.false_eq_true, if_false, if_true]
          by_cases g : l.length ≤ 40
          · rw [if_pos g, if_neg (by omega)]; rfl
          · rw [if_neg g, if_pos (by omega)]; rfl
        | false => rw [List.any_cons, f]; rfl
    · have f := okMark_out n s c
      rw [if_neg c, f]; rfl
  have := e (if 1 ≤ n ∧ n ≤ 12 then (if (l ++ [s]).any (fun m => !okMark n m) = true then 1 else 0) else 1) (if l.length ≤ 40 then 0 else 3)
  rw [q] at this
  exact this
theorem codeSeen_bd (n : Int) (l : List Int) (s : Int) (h : codeSeen n l s ≠ 0) : codeSeen n l s = 1 ∨ codeSeen n l s = 3 := by
  unfold codeSeen at h ⊢
  by_cases c : okMark n s = true
  · rw [if_pos c] at h ⊢; exact code_bd n l h
  · rw [if_neg c]; exact .inl rfl
/-- What ReadStitches answers. -/
def ReadAnswer (n : Int) (l : List Int) (s : Int) (R : Int × Int) : Prop :=
  (codeSeen n l s ≠ 0 ∧ R = (0, codeSeen n l s)) ∨ (codeSeen n l s = 0 ∧ (((∃ a b : Nat, Meeting l a b) ∧ R = (0, 4)) ∨ (Apart l ∧ ((readAt l s < 0 ∧ R = (0, 6)) ∨ (0 ≤ readAt l s ∧ R = (readAt l s, 0))))))
theorem clone_f (l : List Int) (h : l.length ≤ 1048576) : slices_Clone_impl_Mark_impl_Mark.f l = some l := by
  unfold slices_Clone_impl_Mark_impl_Mark.f
  rw [if_pos (by omega)]
theorem implReadS_eq (n : Int) (l : List Int) (s : Int) (h : l.length ≤ 1048576) (k : Nat) : impl_ReadStitches.f k n l s = ((impl_markCode.f n (l ++ [s])).bind fun a => (impl_fewMarks.f l).bind fun b => impl_firstOf.f k [a, b]).bind fun t => if t = 0 then ((impl_apartCode.f k l).bind fun t584 => (impl_ReadStitches.j0 k l s t584)) else impl_ReadStitches.j0 k l s t := by
  unfold impl_ReadStitches.f
  rw [clone_f l h, Option.bind_some, if_pos (by omega), implCode_f, few_f]
  rfl
theorem codeSeen_zero (n : Int) (l : List Int) (s : Int) (h : codeSeen n l s = 0) : okMark n s = true ∧ listCode n l = 0 := by
  unfold codeSeen at h
  by_cases c : okMark n s = true
  · rw [if_pos c] at h; exact ⟨c, h⟩
  · rw [if_neg c] at h; omega
theorem ReadStitches_both (n : Int) (l : List Int) (s : Int) (hm : l.length ≤ 1048576) (hv : ∀ m ∈ l, 0 ≤ m ∧ m < 65536) :
    ∃ R, ReadAnswer n l s R ∧ Ev (fun k => spec_ReadStitches.f k n l s) R ∧ Ev (fun k => impl_ReadStitches.f k n l s) R := by
  have hi := codeSeen_ev n l s
  by_cases c : codeSeen n l s = 0
  · obtain ⟨c1, c2⟩ := codeSeen_zero n l s c
    obtain ⟨v1, v2⟩ := valid_bd n l hv c2
    obtain ⟨t, ht, hs, ha⟩ := told_both n l (by omega) hv c2
    rw [c] at hi
    rcases ht with ⟨rfl, e⟩ | ⟨rfl, e⟩
    · have r1 := specRead_ev l s v2 (by omega)
      have r2 := implRead_ev l s hv
      by_cases z : readAt l s < 0
      · refine ⟨(0, 6), .inr ⟨c, .inr ⟨e, .inl ⟨z, rfl⟩⟩⟩, ?_, ?_⟩
        · refine Ev.congr (f := fun k => (spec_l06Told.f k n l).bind fun t513 => (if t513 = 0 then ((spec_l06Read.f k l s).bind fun t514 => (if t514 < 0 then (some (0, 6)) else (some (t514, 0)))) else (some (0, t513)))) (fun k => by unfold spec_ReadStitches.f; rw [ok_f, c1]; rfl) ?_
          exact Ev.bind hs (Ev.ite_t rfl (Ev.bind r1 (Ev.ite_t z (Ev.const rfl))))
        · refine Ev.congr (implReadS_eq n l s hm) (Ev.bind hi (Ev.ite_t rfl (Ev.bind ha ?_)))
          exact Ev.step (f := fun k => (impl_read.f k l s).bind fun t => if t < 0 then some (0, 6) else some (t, 0)) (fun k => by rw [impl_ReadStitches.j0, if_pos rfl]) (Ev.bind r2 (Ev.ite_t z (Ev.const rfl)))
      · refine ⟨(readAt l s, 0), .inr ⟨c, .inr ⟨e, .inr ⟨by omega, rfl⟩⟩⟩, ?_, ?_⟩
        · refine Ev.congr (f := fun k => (spec_l06Told.f k n l).bind fun t513 => (if t513 = 0 then ((spec_l06Read.f k l s).bind fun t514 => (if t514 < 0 then (some (0, 6)) else (some (t514, 0)))) else (some (0, t513)))) (fun k => by unfold spec_ReadStitches.f; rw [ok_f, c1]; rfl) ?_
          exact Ev.bind hs (Ev.ite_t rfl (Ev.bind r1 (Ev.ite_f z (Ev.const rfl))))
        · refine Ev.congr (implReadS_eq n l s hm) (Ev.bind hi (Ev.ite_t rfl (Ev.bind ha ?_)))
          exact Ev.step (f := fun k => (impl_read.f k l s).bind fun t => if t < 0 then some (0, 6) else some (t, 0)) (fun k => by rw [impl_ReadStitches.j0, if_pos rfl]) (Ev.bind r2 (Ev.ite_f z (Ev.const rfl)))
    · refine ⟨(0, 4), .inr ⟨c, .inl ⟨e, rfl⟩⟩, ?_, ?_⟩
      · refine Ev.congr (f := fun k => (spec_l06Told.f k n l).bind fun t513 => (if t513 = 0 then ((spec_l06Read.f k l s).bind fun t514 => (if t514 < 0 then (some (0, 6)) else (some (t514, 0)))) else (some (0, t513)))) (fun k => by unfold spec_ReadStitches.f; rw [ok_f, c1]; rfl) ?_
        exact Ev.bind hs (Ev.ite_f (by decide) (Ev.const rfl))
      · refine Ev.congr (implReadS_eq n l s hm) (Ev.bind hi (Ev.ite_t rfl (Ev.bind ha ?_)))
        exact Ev.step (f := fun _ => some (0, 4)) (fun k => by rw [impl_ReadStitches.j0, if_neg (by decide)]) (Ev.const rfl)
  · refine ⟨(0, codeSeen n l s), .inl ⟨c, rfl⟩, ?_, ?_⟩
    · cases o : okMark n s with
      | false =>
        have e : codeSeen n l s = 1 := by unfold codeSeen; rw [o]; rfl
        rw [e]
        exact Ev.fixed (fun k => by unfold spec_ReadStitches.f; rw [ok_f, o]; rfl)
      | true =>
        have e : codeSeen n l s = listCode n l := by unfold codeSeen; rw [o]; rfl
        rw [e] at c ⊢
        refine Ev.congr (f := fun k => (spec_l06Told.f k n l).bind fun t513 => (if t513 = 0 then ((spec_l06Read.f k l s).bind fun t514 => (if t514 < 0 then (some (0, 6)) else (some (t514, 0)))) else (some (0, t513)))) (fun k => by unfold spec_ReadStitches.f; rw [ok_f, o]; rfl) ?_
        exact Ev.bind (told_bad n l (by omega) c) (Ev.ite_f c (Ev.const rfl))
    · refine Ev.congr (implReadS_eq n l s hm) (Ev.bind hi (Ev.ite_f c ?_))
      exact Ev.step (f := fun _ => some (0, codeSeen n l s)) (fun k => by rw [impl_ReadStitches.j0, if_neg c]) (Ev.const rfl)

end Go.Proofs.Ytklnpldggclejaa.M
