import Derived.Test.YtklnpldggclejaazELikelyLostEEvLoop
import Derived.Test.YtklnpldggclejaazELikelyLostEMarkCode
import Derived.Test.YtklnpldggclejaazELikelyLostM0
import Derived.Test.YtklnpldggclejaazELikelyLostM1
import Derived.Test.YtklnpldggclejaazELikelyLostM2
import Derived.Test.YtklnpldggclejaazELikelyLostM3
namespace Go.Proofs.Ytklnpldggclejaa.M
open Go.RowKit Go.Proofs.YtklnpldggclejaaW.PrintWords Go.Proofs.YtklnpldggclejaaW.PrintLast Go.Proofs.YtklnpldggclejaaW.PrintMore
attribute [local go_sem] max2_int min2_int max_two min_two max_three min_three max_four min_four
set_option linter.unusedVariables false
set_option linter.unusedSimpArgs false
def bitAt (m : Int) (i : Nat) : Int := m / 2 ^ i % 2
theorem bitAt_01 (m : Int) (i : Nat) : bitAt m i = 0 ∨ bitAt m i = 1 := by unfold bitAt; omega
theorem shr_nat (m : Int) (i : Nat) (h : i ≤ 16) : shr .u16 m (i : Int) = m / 2 ^ i := by
  unfold shr
  have e : min (i : Int).toNat IntKind.u16.bits = i := Nat.min_eq_left h
  rw [e]
theorem quo_bd (x : Int) (h0 : 0 ≤ x) (i : Nat) : 0 ≤ x / 2 ^ i ∧ x / 2 ^ i ≤ x :=
  ⟨Int.ediv_nonneg h0 (Int.le_of_lt (Int.pow_pos (by decide))), Int.ediv_le_self _ h0⟩
theorem bit_mod (m : Int) (h0 : 0 ≤ m) (i : Nat) (h : i ≤ 16) : Int.tmod (shr .u16 m (i : Int)) 2 = bitAt m i := by
  rw [shr_nat m i h]
  exact Int.tmod_eq_emod_of_nonneg (quo_bd m h0 i).1
def sumBits (x : Int) : Nat → Int
  | 0 => 0
  | n + 1 => sumBits x n + bitAt x n
theorem sumBits_bd (x : Int) : ∀ n : Nat, 0 ≤ sumBits x n ∧ sumBits x n ≤ n
  | 0 => ⟨Int.le_refl _, Int.le_refl _⟩
  | n + 1 => by
    have := sumBits_bd x n
    have := bitAt_01 x n
    unfold sumBits
    omega
theorem many_f (n : Int) : spec_l06Many.f n = some (decide (1 ≤ n ∧ n ≤ 12)) := by
  unfold spec_l06Many.f spec_l00In.f
  by_cases c1 : 1 ≤ n
  · by_cases c2 : n ≤ 12
    · simp [c1, c2]
    · simp [c1, c2]
  · simp [c1]
theorem ok_f (n m : Int) : spec_l06Ok.f n m = some (okMark n m) := by
  unfold spec_l06Ok.f
  rw [many_f]
  unfold okMark
  by_cases c1 : 1 ≤ n
  · by_cases c2 : n ≤ 12
    · have e : IntKind.u64.wrap n = n := IntWalk.u64_in _ ⟨by omega, by omega⟩
      simp [c1, c2, e, show 0 ≤ n by omega]
    · simp [c1, c2]
  · simp [c1]
theorem okMark_out (n a : Int) (c : ¬ (1 ≤ n ∧ n ≤ 12)) : okMark n a = false := by
  unfold okMark
  by_cases c1 : 1 ≤ n
  · have c2 : ¬ n ≤ 12 := fun h => c ⟨c1, h⟩
    simp [c2]
  · simp [c1]
theorem unless_d (p : Prop) [Decidable p] (c : Int) : impl_unless.f (decide p) c = some (if p then 0 else c) := by
  unfold impl_unless.f
  by_cases h : p <;> simp [h]
theorem count_ev (x : Int) (h0 : 0 ≤ x) (h1 : x < 65536) : Ev (fun k => spec_l06Count.f k x) (sumBits x 16) := by
  refine Ev.loop (L := fun k s => spec_l06Count.l0 k x s.1 s.2) (fun s d => ∃ i : Nat, i + d = 16 ∧ s = (sumBits x i, (i : Int))) ?_ 16 (0, 0) ⟨0, by omega, rfl⟩
  rintro ⟨acc, ii⟩ d ⟨i, hd, e⟩
  obtain ⟨rfl, rfl⟩ := Prod.mk.inj e
  by_cases c : i < 16
  · refine .inr ⟨(sumBits x (i + 1), ((i + 1 : Nat) : Int)), d - 1, by omega, ⟨i + 1, by omega, rfl⟩, 0, fun k _ => ?_⟩
    have hb := sumBits_bd x i
    have hq := quo_bd x h0 i
    have hs := bitAt_01 x i
    show spec_l06Count.l0 (k + 1) x _ _ = spec_l06Count.l0 k x _ _
    rw [spec_l06Count.l0]
    rw [if_pos (by omega), u64_nat i (by omega), if_pos (by omega), w64 (shr .u16 x (i : Int)) (by rw [shr_nat x i (by omega)]; omega) (by rw [shr_nat x i (by omega)]; omega), bit_mod x h0 i (by omega), w64 _ (by omega) (by omega), w64 _ (by omega) (by omega)]
    rfl
  · obtain rfl : i = 16 := by omega
    refine .inl ⟨0, fun k _ => ?_⟩
    show spec_l06Count.l0 (k + 1) x _ _ = _
    rw [spec_l06Count.l0]
    rw [if_neg (by omega)]
end Go.Proofs.Ytklnpldggclejaa.M
