import Derived.Test.YtcmcdjnjlimeeaazFMarksEEvLoop
import Derived.Test.YtcmcdjnjlimeeaazFMarksEMLem3
import Derived.Test.YtcmcdjnjlimeeaazFMarksEMLem4a
import Derived.Test.YtcmcdjnjlimeeaazFMarksM0
import Derived.Test.YtcmcdjnjlimeeaazFMarksM6
import Derived.Test.YtcmcdjnjlimeeaazFMarksM8
namespace Go.Proofs.Ytcmcdjnjlimeeaa.M
open Go.RowKit Go.Proofs.YtcmcdjnjlimeeaaW.PrintWords Go.Proofs.YtcmcdjnjlimeeaaW.PrintLast Go.Proofs.YtcmcdjnjlimeeaaW.PrintMore
attribute [local go_sem] max2_int min2_int max_two min_two max_three min_three max_four min_four
set_option linter.unusedVariables false
set_option linter.unusedSimpArgs false
def ClashAnswer (n : Int) (l : List Int) (R : Int × Int × Int) : Prop :=
  (listCode n l ≠ 0 ∧ R = (0, 0, listCode n l)) ∨ (listCode n l = 0 ∧ ((R = (0, 0, 6) ∧ Apart l) ∨ ∃ a b : Nat, R = ((a : Int), (b : Int), 0) ∧ Meeting l a b))
theorem FirstClash_both (n : Int) (l : List Int) (hm : l.length ≤ 4611686018427387904) (hv : ∀ m ∈ l, 0 ≤ m ∧ m < 65536) :
    ∃ R, ClashAnswer n l R ∧ Ev (fun k => spec_FirstClash.f k n l) R ∧ Ev (fun k => impl_FirstClash.f k n l) R := by
  have hs := specList_ev n l hm
  have hi := implCode_ev n l
  by_cases c : listCode n l = 0
  · obtain ⟨v1, v2⟩ := valid_bd n l hv c
    obtain ⟨r, q, hF, hr, hq⟩ := search_both l v1 v2
    rw [c] at hs hi
    rcases found_split l r q hF with ⟨rfl, rfl, e⟩ | ⟨a, b, rfl, rfl, e⟩
    · refine ⟨(0, 0, 6), .inr ⟨c, .inl ⟨rfl, e⟩⟩, ?_, ?_⟩
      · exact Ev.bind hs (Ev.ite_t rfl (Ev.bind hr (Ev.ite_t (by decide) (Ev.const rfl))))
      · refine Ev.congr (implFirst_eq n l) ?_
        exact Ev.bind hi (Ev.ite_t rfl (Ev.bind hq (Ev.ite_f (by decide) (Ev.const rfl))))
    · refine ⟨((a : Int), (b : Int), 0), .inr ⟨c, .inr ⟨a, b, rfl, e⟩⟩, ?_, ?_⟩
      · exact Ev.bind hs (Ev.ite_t rfl (Ev.bind hr (Ev.ite_f (by dsimp only; omega) (Ev.const rfl))))
      · refine Ev.congr (implFirst_eq n l) ?_
        exact Ev.bind hi (Ev.ite_t rfl (Ev.bind hq (Ev.ite_t rfl (Ev.const rfl))))
  · refine ⟨(0, 0, listCode n l), .inl ⟨c, rfl⟩, ?_, ?_⟩
    · exact Ev.bind hs (Ev.ite_f c (Ev.const rfl))
    · refine Ev.congr (implFirst_eq n l) ?_
      exact Ev.bind hi (Ev.ite_f c (Ev.const rfl))
def CheckAnswer (n : Int) (l : List Int) (R : Bool × Int) : Prop :=
  (listCode n l ≠ 0 ∧ R = (false, listCode n l)) ∨ (listCode n l = 0 ∧ ((R = (true, 0) ∧ Apart l) ∨ (R = (false, 0) ∧ ∃ a b : Nat, Meeting l a b)))
theorem CheckMarks_both (n : Int) (l : List Int) (hm : l.length ≤ 4611686018427387904) (hv : ∀ m ∈ l, 0 ≤ m ∧ m < 65536) :
    ∃ R, CheckAnswer n l R ∧ Ev (fun k => spec_CheckMarks.f k n l) R ∧ Ev (fun k => impl_CheckMarks.f k n l) R := by
  have hs := specList_ev n l hm
  obtain ⟨Q, hA, _, hI⟩ := FirstClash_both n l hm hv
  by_cases c : listCode n l = 0
  · obtain ⟨v1, v2⟩ := valid_bd n l hv c
    obtain ⟨r, q, hF, hr, hq⟩ := search_both l v1 v2
    rw [c] at hs
    have hi := implCode_ev n l
    rw [c] at hi
    rcases found_split l r q hF with ⟨rfl, rfl, e⟩ | ⟨a, b, rfl, rfl, e⟩
    · have hI2 : Ev (fun k => impl_FirstClash.f k n l) (0, 0, 6) := by
        refine Ev.congr (implFirst_eq n l) ?_
        exact Ev.bind hi (Ev.ite_t rfl (Ev.bind hq (Ev.ite_f (by decide) (Ev.const rfl))))
      refine ⟨(true, 0), .inr ⟨c, .inl ⟨rfl, e⟩⟩, ?_, ?_⟩
      · exact Ev.bind hs (Ev.ite_t rfl (Ev.bind hr (Ev.const rfl)))
      · exact Ev.bind hI2 (Ev.ite_t rfl (Ev.const rfl))
    · have hI2 : Ev (fun k => impl_FirstClash.f k n l) ((a : Int), (b : Int), 0) := by
        refine Ev.congr (implFirst_eq n l) ?_
        exact Ev.bind hi (Ev.ite_t rfl (Ev.bind hq (Ev.ite_t rfl (Ev.const rfl))))
      refine ⟨(false, 0), .inr ⟨c, .inr ⟨rfl, a, b, e⟩⟩, ?_, ?_⟩
      · refine Ev.bind hs (Ev.ite_t rfl (Ev.bind hr (Ev.const ?_)))
        have : decide ((a : Int) < 0) = false := decide_eq_false (by omega)
        rw [this]
      · exact Ev.bind hI2 (Ev.ite_f (show ¬ ((0 : Int) = 6) by decide) (Ev.const rfl))
  · refine ⟨(false, listCode n l), .inl ⟨c, rfl⟩, ?_, ?_⟩
    · exact Ev.bind hs (Ev.ite_f c (Ev.const rfl))
    · have hi := implCode_ev n l
      have hI2 : Ev (fun k => impl_FirstClash.f k n l) (0, 0, listCode n l) := by
        refine Ev.congr (implFirst_eq n l) ?_
        exact Ev.bind hi (Ev.ite_f c (Ev.const rfl))
      have c6 : ¬ listCode n l = 6 := by have := code_bd n l c; omega
      exact Ev.bind hI2 (Ev.ite_f c6 (Ev.const rfl))
end Go.Proofs.Ytcmcdjnjlimeeaa.M
