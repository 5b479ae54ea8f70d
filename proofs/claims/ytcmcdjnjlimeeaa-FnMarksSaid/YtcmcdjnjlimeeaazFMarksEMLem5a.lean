import Derived.Test.YtcmcdjnjlimeeaazFMarksEMLem
import Derived.Test.YtcmcdjnjlimeeaazFMarksM0
import Derived.Test.YtcmcdjnjlimeeaazFMarksM2
import Derived.Test.YtcmcdjnjlimeeaazFMarksM4
import Derived.Test.YtcmcdjnjlimeeaazFMarksM8
namespace Go.Proofs.Ytcmcdjnjlimeeaa.M
open Go.RowKit Go.Proofs.YtcmcdjnjlimeeaaW.PrintWords Go.Proofs.YtcmcdjnjlimeeaaW.PrintLast Go.Proofs.YtcmcdjnjlimeeaaW.PrintMore
attribute [local go_sem] max2_int min2_int max_two min_two max_three min_three max_four min_four
set_option linter.unusedVariables false
set_option linter.unusedSimpArgs false
theorem shl_one (n : Nat) (h : n ≤ 12) : shl .i64 1 (n : Int) = 2 ^ n := by
  unfold shl
  have e : min (n : Int).toNat IntKind.i64.bits = n := Nat.min_eq_left (show n ≤ 64 by omega)
  rw [e, Int.one_mul]
  have := pow_le_12 n h
  have hp : (0 : Int) < 2 ^ n := Int.pow_pos (by decide)
  exact IntWalk.i64_in _ ⟨by omega, by omega⟩
theorem wrap_nat (x : Nat) (h : x < 65536) : IntKind.u16.wrap (x : Int) = x := IntWalk.u16_in _ ⟨by omega, by omega⟩
theorem pow_nat (n : Nat) : ((2 ^ n : Nat) : Int) = 2 ^ n := by simp
theorem pow_nat_le (n : Nat) (h : n ≤ 12) : 2 ^ n ≤ 4096 := by
  have h2 : (2 ^ n : Nat) ≤ 2 ^ 12 := Nat.pow_le_pow_right (n := 2) (by decide) h
  exact h2
theorem in_f (a b c : Int) : spec_l00In.f a b c = some (decide (b ≤ a ∧ a ≤ c)) := by
  unfold spec_l00In.f
  by_cases h1 : b ≤ a <;> by_cases h2 : a ≤ c <;> simp [h1, h2]
theorem within_f (a b c : Int) : impl_within.f a b c = some (decide (b ≤ a ∧ a ≤ c)) := by
  unfold impl_within.f
  by_cases h1 : b ≤ a <;> by_cases h2 : a ≤ c <;> simp [h1, h2]
theorem sizeMark_f (l : List Int) : impl_size_impl_Mark.f l = some (l.length : Int) := rfl
end Go.Proofs.Ytcmcdjnjlimeeaa.M
