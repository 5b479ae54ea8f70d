import Derived.Test.YthkccaclmodjiaazELatenessOfEEvLoop
import Derived.Test.YthkccaclmodjiaazELatenessOfI0
import Derived.Test.YthkccaclmodjiaazELatenessOfI1
import Derived.Test.YthkccaclmodjiaazELatenessOfI2
import Derived.Test.YthkccaclmodjiaazELatenessOfI7
import Derived.Test.YthkccaclmodjiaazELatenessOfI9
namespace Go.Proofs.Ythkccaclmodjiaa.I
open Go.RowKit Go.Proofs.YthkccaclmodjiaaW.PrintWords Go.Proofs.YthkccaclmodjiaaW.PrintLast Go.Proofs.YthkccaclmodjiaaW.PrintMore
attribute [local go_sem] max2_int min2_int max_two min_two max_three min_three max_four min_four
set_option linter.unusedVariables false
set_option linter.unusedSimpArgs false
theorem has_ev (l : List Int) (x : Int) (hm : l.length ≤ 4611686018427387904) : Ev (fun k => spec_l00Has.f k l x) (l.contains x) := by
  refine Ev.loop (L := fun k s => spec_l00Has.l0 k l x s) (fun s d => ∃ i : Nat, i + d = l.length ∧ s = (i : Int) ∧ (l.drop i).contains x = l.contains x) ?_ l.length 0 ⟨0, by omega, rfl, rfl⟩
  rintro s d ⟨i, hd, rfl, hf⟩
  by_cases c : i < l.length
  · have e : l.drop i = l[i] :: l.drop (i + 1) := List.drop_eq_getElem_cons c
    rw [e, List.contains_cons] at hf
    by_cases q : l[i] = x
    · refine .inl ⟨0, fun k _ => ?_⟩
      rw [spec_l00Has.l0]
      rw [if_pos (by omega), if_pos (by omega), rd_of_lt l i c, if_pos q, ← hf, q]
      simp
    · refine .inr ⟨((i + 1 : Nat) : Int), d - 1, by omega, ⟨i + 1, by omega, rfl, ?_⟩, 0, fun k _ => ?_⟩
      · rw [← hf]
        have : (x == l[i]) = false := beq_eq_false_iff_ne.mpr fun h => q h.symm
        rw [this]
        rfl
      · rw [spec_l00Has.l0]
        rw [if_pos (by omega), if_pos (by omega), rd_of_lt l i c, if_neg q, w64 _ (by omega) (by omega)]
        rfl
  · obtain rfl : i = l.length := by omega
    refine .inl ⟨0, fun k _ => ?_⟩
    rw [spec_l00Has.l0]
    rw [if_neg (by omega), ← hf, List.drop_length]
    rfl
def chg (x y a b : Int) : Int := if b ≥ a then x * (b - a) else y * (a - b)
theorem mul_bd (a x : Int) (ha : 0 ≤ a ∧ a ≤ 60) (hx : 0 ≤ x ∧ x ≤ 3) : 0 ≤ a * x ∧ a * x ≤ 180 := by
  obtain rfl | rfl | rfl | rfl : x = 0 ∨ x = 1 ∨ x = 2 ∨ x = 3 := by omega
  all_goals omega
theorem chg_bd (x y a b : Int) (hx : 0 ≤ x ∧ x ≤ 60) (hy : 0 ≤ y ∧ y ≤ 60) (ha : 0 ≤ a ∧ a ≤ 3) (hb : 0 ≤ b ∧ b ≤ 3) : 0 ≤ chg x y a b ∧ chg x y a b ≤ 180 := by
  unfold chg
  split
  · exact mul_bd x _ hx (by omega)
  · exact mul_bd y _ hy (by omega)
theorem specChange_f (x y a b : Int) (hx : wrap64 x = x ∧ 0 ≤ x ∧ x ≤ 60) (hy : wrap64 y = y ∧ 0 ≤ y ∧ y ≤ 60) (ha : 0 ≤ a ∧ a ≤ 3) (hb : 0 ≤ b ∧ b ≤ 3) : spec_l07Change.f x y a b = some (chg x y a b) := by
  unfold spec_l07Change.f chg
  by_cases c : b ≥ a
  · have m := mul_bd x (b - a) hx.2 (by omega)
    rw [if_pos c, if_pos c, hx.1, w64 (b - a) (by omega) (by omega), w64 _ (by omega) (by omega)]
  · have m := mul_bd y (a - b) hy.2 (by omega)
    rw [if_neg c, if_neg c, hy.1, w64 (a - b) (by omega) (by omega), w64 _ (by omega) (by omega)]
theorem implChange_f (x y a b : Int) (hx : wrap64 x = x ∧ 0 ≤ x ∧ x ≤ 60) (hy : wrap64 y = y ∧ 0 ≤ y ∧ y ≤ 60) (ha : 0 ≤ a ∧ a ≤ 3) (hb : 0 ≤ b ∧ b ≤ 3) : impl_Iron_change.f x y a b = some (chg x y a b) := by
  unfold impl_Iron_change.f chg
  by_cases c : b > a
  · have m := mul_bd x (b - a) hx.2 (by omega)
    rw [if_pos c, if_pos (by omega), hx.1, w64 (b - a) (by omega) (by omega), w64 _ (by omega) (by omega)]
  · have m := mul_bd y (a - b) hy.2 (by omega)
    rw [if_neg c, hy.1, w64 (a - b) (by omega) (by omega), w64 _ (by omega) (by omega)]
    by_cases c2 : b ≥ a
    · rw [if_pos c2, show a - b = 0 by omega, show b - a = 0 by omega, Int.mul_zero, Int.mul_zero]
    · rw [if_neg c2]
end Go.Proofs.Ythkccaclmodjiaa.I
