import Derived.Test.YtpokpbhcfdaapaazESortByMarksEEvLoop
import Derived.Test.YtpokpbhcfdaapaazESortByMarksEMLem2
import Derived.Test.YtpokpbhcfdaapaazESortByMarksEMLem3
import Derived.Test.YtpokpbhcfdaapaazESortByMarksEMLem4a
import Derived.Test.YtpokpbhcfdaapaazESortByMarksEPredMark
import Derived.Test.YtpokpbhcfdaapaazESortByMarksERead
import Derived.Test.YtpokpbhcfdaapaazESortByMarksM0
import Derived.Test.YtpokpbhcfdaapaazESortByMarksM11
import Derived.Test.YtpokpbhcfdaapaazESortByMarksM12
import Derived.Test.YtpokpbhcfdaapaazESortByMarksM6
import Derived.Test.YtpokpbhcfdaapaazESortByMarksM7
namespace Go.Proofs.Ytpokpbhcfdaapaa.M
open Go.RowKit Go.Proofs.YtpokpbhcfdaapaaW.PrintWords Go.Proofs.YtpokpbhcfdaapaaW.PrintLast Go.Proofs.YtpokpbhcfdaapaaW.PrintMore
attribute [local go_sem] max2_int min2_int max_two min_two max_three min_three max_four min_four
set_option linter.unusedVariables false
set_option linter.unusedSimpArgs false
def readAt (l : List Int) (a : Int) : Int := idxP (fun x => (seenOf x 12).contains a) l
theorem implRead_ev (l : List Int) (a : Int) (hl : ∀ x ∈ l, 0 ≤ x ∧ x < 65536) : Ev (fun k => impl_read.f k l a) (readAt l a) := by
  have key : ∃ K, ∀ k, K ≤ k → ∀ x ∈ l, impl_Mark_lost.f k x = some (seenOf x 12) := by
    induction l with
    | nil => exact ⟨0, fun k _ x hx => by cases hx⟩
    | cons y r ih =>
      obtain ⟨K, hK⟩ := ih (fun x hx => hl x (List.mem_cons_of_mem _ hx))
      have hy := hl y (List.mem_cons_self ..)
      obtain ⟨K', hK'⟩ := implLost_ev y hy.1 hy.2
      refine ⟨max K K', fun k hk x hx => ?_⟩
      rcases List.mem_cons.mp hx with rfl | h2
      · exact hK' k (by omega)
      · exact hK k (by omega) x h2
  obtain ⟨K, hK⟩ := key
  refine ⟨K, fun k hk => ?_⟩
  dsimp only
  unfold impl_read.f
  have b : l.all (fun x => (impl_Mark_lost.f k x).isSome) = true := by
    rw [List.all_eq_true]
    intro x hx
    rw [hK k hk x hx]
    rfl
  rw [if_pos b]
  congr 1
  refine idxP_congr _ _ l fun x hx => ?_
  unfold seesB
  rw [hK k hk x hx]
theorem specRead_ev (l : List Int) (a : Int) (hl : Small l) (hm : l.length ≤ 4611686018427387904) : Ev (fun k => spec_l06Read.f k l a) (readAt l a) := by
  refine Ev.loop (L := fun k s => spec_l06Read.l0 k l a s) (fun s d => ∃ i : Nat, i + d = l.length ∧ s = (i : Int) ∧ ∀ j, j < i → (seenOf (rd l (j : Nat)) 12).contains a = false) ?_ l.length 0 ⟨0, by omega, rfl, fun j h => by omega⟩
  rintro s d ⟨i, hd, rfl, hf⟩
  by_cases c : i < l.length
  · have hx := hl l[i] (List.getElem_mem c)
    obtain ⟨K, hK⟩ := specSeen_ev l[i] hx.1
    have sl := seen_len l[i] 16
    obtain ⟨K', hK'⟩ := has_ev (seenOf l[i] 16) a (by omega)
    have e16 := seen_12 l[i] hx.1 hx.2
    cases q : (seenOf l[i] 12).contains a with
    | true =>
      refine .inl ⟨max K K', fun k hk => ?_⟩
      have g := hK k (by omega)
      have g' := hK' k (by omega)
      dsimp only at g g'
      rw [e16] at g g'
      rw [q] at g'
      rw [spec_l06Read.l0]
      rw [if_pos (by omega), if_pos (by omega), rd_of_lt l i c, g, Option.bind_some, g', Option.bind_some, if_pos rfl]
      rw [readAt, idxP_hit _ l i c (by rw [rd_of_lt l i c]; exact q) hf]
    | false =>
      refine .inr ⟨((i + 1 : Nat) : Int), d - 1, by omega, ⟨i + 1, by omega, rfl, fun j hj => ?_⟩, max K K', fun k hk => ?_⟩
      · by_cases z : j = i
        · subst z; rw [rd_of_lt l j c]; exact q
        · exact hf j (by omega)
      · have g := hK k (by omega)
        have g' := hK' k (by omega)
        dsimp only at g g'
        rw [e16] at g g'
        rw [q] at g'
        rw [spec_l06Read.l0]
        rw [if_pos (by omega), if_pos (by omega), rd_of_lt l i c, g, Option.bind_some, g', Option.bind_some, if_neg (by decide), w64 _ (by omega) (by omega)]
        rfl
  · refine .inl ⟨0, fun k _ => ?_⟩
    rw [spec_l06Read.l0]
    rw [if_neg (by omega)]
    rw [readAt, idxP_miss _ l (fun j hj => hf j (by omega))]
theorem told_both (n : Int) (l : List Int) (hm : l.length ≤ 4611686018427387904) (hv : ∀ m ∈ l, 0 ≤ m ∧ m < 65536) (hc : listCode n l = 0) :
    ∃ c, ((c = 0 ∧ Apart l) ∨ (c = 4 ∧ ∃ a b : Nat, Meeting l a b)) ∧ Ev (fun k => spec_l06Told.f k n l) c ∧ Ev (fun k => impl_apartCode.f k l) c := by
  obtain ⟨v1, v2⟩ := valid_bd n l hv hc
  obtain ⟨r, q, hF, hr, hq⟩ := search_both l v1 v2
  have hs := specList_ev n l hm
  rw [hc] at hs
  rcases found_split l r q hF with ⟨rfl, rfl, e⟩ | ⟨a, b, rfl, rfl, e⟩
  · refine ⟨0, .inl ⟨rfl, e⟩, ?_, ?_⟩
    · exact Ev.bind hs (Ev.ite_t rfl (Ev.bind hr (Ev.ite_f (by decide) (Ev.const rfl))))
    · exact Ev.bind hq (Ev.const rfl)
  · refine ⟨4, .inr ⟨rfl, a, b, e⟩, ?_, ?_⟩
    · exact Ev.bind hs (Ev.ite_t rfl (Ev.bind hr (Ev.ite_t (by dsimp only; omega) (Ev.const rfl))))
    · exact Ev.bind hq (Ev.const rfl)
end Go.Proofs.Ytpokpbhcfdaapaa.M
