import Derived.Test.YtcmcdjnjlimeeaazFMarksEMarkCode
import Derived.Test.YtcmcdjnjlimeeaazFMarksM0
import Derived.Test.YtcmcdjnjlimeeaazFMarksM3
import Derived.Test.YtcmcdjnjlimeeaazFMarksM4
namespace Go.Proofs.Ytcmcdjnjlimeeaa.M
open Go.RowKit Go.Proofs.YtcmcdjnjlimeeaaW.PrintWords Go.Proofs.YtcmcdjnjlimeeaaW.PrintLast Go.Proofs.YtcmcdjnjlimeeaaW.PrintMore
attribute [local go_sem] max2_int min2_int max_two min_two max_three min_three max_four min_four
set_option linter.unusedVariables false
set_option linter.unusedSimpArgs false
def bitAt (m : Int) (i : Nat) : Int := m / 2 ^ i % 2
theorem bitAt_01 (m : Int) (i : Nat) : bitAt m i = 0 ∨ bitAt m i = 1 := by unfold bitAt; omega
theorem shr_nat (m : Int) (i : Nat) (h : i ≤ 16) : shr .u16 m (i : Int) = m / 2 ^ i := by
  unfold shr
  have e : min (i : Int).toNat IntKind.u16.bits = i := Nat.min_eq_left h
  rw [e]
theorem quo_bd (x : Int) (h0 : 0 ≤ x) (i : Nat) : 0 ≤ x / 2 ^ i ∧ x / 2 ^ i ≤ x :=
  ⟨Int.ediv_nonneg h0 (Int.le_of_lt (Int.pow_pos (by decide))), Int.ediv_le_self _ h0⟩
theorem bit_mod (m : Int) (h0 : 0 ≤ m) (i : Nat) (h : i ≤ 16) : Int.tmod (shr .u16 m (i : Int)) 2 = bitAt m i := by
  rw [shr_nat m i h]
  exact Int.tmod_eq_emod_of_nonneg (quo_bd m h0 i).1
theorem bit_and (m : Int) (h0 : 0 ≤ m) (h1 : m < 65536) (i : Nat) (h : i ≤ 16) : Go.bits .and .u16 (shr .u16 m (i : Int)) 1 = bitAt m i := by
  rw [shr_nat m i h]
  have q := quo_bd m h0 i
  exact bits_mask .u16 16 (by decide) (fun m a b => IntWalk.u16_in m ⟨a, by omega⟩) 1 (by decide) _ q.1 (by simp; omega)
def sumBits (x : Int) : Nat → Int
  | 0 => 0
  | n + 1 => sumBits x n + bitAt x n
theorem sumBits_bd (x : Int) : ∀ n : Nat, 0 ≤ sumBits x n ∧ sumBits x n ≤ n
  | 0 => ⟨Int.le_refl _, Int.le_refl _⟩
  | n + 1 => by
    have := sumBits_bd x n
    have := bitAt_01 x n
    unfold sumBits
    omega
theorem many_f (n : Int) : spec_l06Many.f n = some (decide (1 ≤ n ∧ n ≤ 12)) := by
  unfold spec_l06Many.f spec_l00In.f
  by_cases c1 : 1 ≤ n
  · by_cases c2 : n ≤ 12
    · simp [c1, c2]
    · simp [c1, c2]
  · simp [c1]
theorem ok_f (n m : Int) : spec_l06Ok.f n m = some (okMark n m) := by
  unfold spec_l06Ok.f
  rw [many_f]
  unfold okMark
  by_cases c1 : 1 ≤ n
  · by_cases c2 : n ≤ 12
    · have e : IntKind.u64.wrap n = n := IntWalk.u64_in _ ⟨by omega, by omega⟩
      simp [c1, c2, e, show 0 ≤ n by omega]
    · simp [c1, c2]
  · simp [c1]
theorem okMark_iff (n m : Int) (h0 : 0 ≤ m) : okMark n m = true ↔ 1 ≤ n ∧ n ≤ 12 ∧ m < 2 ^ n.toNat := by
  unfold okMark
  by_cases c1 : 1 ≤ n
  · by_cases c2 : n ≤ 12
    · obtain ⟨j, rfl⟩ := Int.eq_ofNat_of_zero_le (show 0 ≤ n by omega)
      rw [shr_nat m j (by omega)]
      have hp : (0 : Int) < 2 ^ j := Int.pow_pos (by decide)
      have e : (m / 2 ^ j = 0) ↔ m < 2 ^ j := by
        constructor
        · intro h
          have := Int.lt_ediv_add_one_mul_self m hp
          rw [h] at this
          simpa using this
        · intro h
          exact Int.ediv_eq_zero_of_lt h0 h
      simp [c1, c2, e]
    · simp [c1, c2]
  · simp [c1]
theorem pow_le_12 (n : Nat) (h : n ≤ 12) : (2 : Int) ^ n ≤ 4096 := by
  have h2 : (2 ^ n : Nat) ≤ 2 ^ 12 := Nat.pow_le_pow_right (n := 2) (by decide) h
  have h3 : ((2 ^ n : Nat) : Int) ≤ ((2 ^ 12 : Nat) : Int) := Int.ofNat_le.mpr h2
  rw [Int.natCast_pow] at h3
  exact h3
theorem okMark_bd (n m : Int) (h0 : 0 ≤ m) (h : okMark n m = true) : 1 ≤ n ∧ n ≤ 12 ∧ m < 4096 := by
  obtain ⟨a, b, c⟩ := (okMark_iff n m h0).mp h
  have := pow_le_12 n.toNat (by omega)
  exact ⟨a, b, by omega⟩
theorem okMark_out (n a : Int) (c : ¬ (1 ≤ n ∧ n ≤ 12)) : okMark n a = false := by
  unfold okMark
  by_cases c1 : 1 ≤ n
  · have c2 : ¬ n ≤ 12 := fun h => c ⟨c1, h⟩
    simp [c2]
  · simp [c1]
theorem code_nil (n : Int) : impl_markCode.f n [] = some (if 1 ≤ n ∧ n ≤ 12 then 0 else 1) := by
  unfold impl_markCode.f
  simp
theorem code_one (n a : Int) : impl_markCode.f n [a] = some (if okMark n a = true then 0 else 1) := by
  unfold impl_markCode.f
  congr 1
  by_cases c : 1 ≤ n ∧ n ≤ 12
  · rw [if_pos c]
    cases h : okMark n a <;> simp [h]
  · rw [if_neg c]
    have := okMark_out n a c
    simp [this]
theorem code_two (n a b : Int) : impl_markCode.f n [a, b] = some (if okMark n a = true ∧ okMark n b = true then 0 else 1) := by
  unfold impl_markCode.f
  congr 1
  by_cases c : 1 ≤ n ∧ n ≤ 12
  · rw [if_pos c]
    cases h : okMark n a <;> cases h' : okMark n b <;> simp [h, h']
  · rw [if_neg c]
    have := okMark_out n a c
    simp [this]
theorem unless_d (p : Prop) [Decidable p] (c : Int) : impl_unless.f (decide p) c = some (if p then 0 else c) := by
  unfold impl_unless.f
  by_cases h : p <;> simp [h]
end Go.Proofs.Ytcmcdjnjlimeeaa.M
