import Derived.Test.YtcmcdjnjlimeeaazFMarksEEvLoop
import Derived.Test.YtcmcdjnjlimeeaazFMarksEMBits
import Derived.Test.YtcmcdjnjlimeeaazFMarksEMLem
import Derived.Test.YtcmcdjnjlimeeaazFMarksEMLem2
import Derived.Test.YtcmcdjnjlimeeaazFMarksEMLem5a
import Derived.Test.YtcmcdjnjlimeeaazFMarksEMarkCode
import Derived.Test.YtcmcdjnjlimeeaazFMarksM0
import Derived.Test.YtcmcdjnjlimeeaazFMarksM10
import Derived.Test.YtcmcdjnjlimeeaazFMarksM4
import Derived.Test.YtcmcdjnjlimeeaazFMarksM5
import Derived.Test.YtcmcdjnjlimeeaazFMarksM9
namespace Go.Proofs.Ytcmcdjnjlimeeaa.M
open Go.RowKit Go.Proofs.YtcmcdjnjlimeeaaW.PrintWords Go.Proofs.YtcmcdjnjlimeeaaW.PrintLast Go.Proofs.YtcmcdjnjlimeeaaW.PrintMore
attribute [local go_sem] max2_int min2_int max_two min_two max_three min_three max_four min_four
set_option linter.unusedVariables false
set_option linter.unusedSimpArgs false
theorem specLostFrom_ev (n m : Int) (h0 : 0 ≤ m) (h : okMark n m = true) : Ev (fun k => spec_LostFrom.f k n m) (seenOf m 12, 0) := by
  have hb := okMark_bd n m h0 h
  refine Ev.congr (f := fun k => (spec_l06Seen.f k m).bind fun t => some (t, 0)) (fun k => by unfold spec_LostFrom.f; simp [ok_f, h]) ?_
  rw [← seen_12 m h0 hb.2.2]
  exact Ev.bind (specSeen_ev m h0) (Ev.const rfl)
theorem apartBy_f (n a b : Int) (ha : okMark n a = true) (hb : okMark n b = true) : impl_ApartBy.f n a b = some (sumBits (Go.bits .xor .u16 a b) 16, 0) := by
  have B := bits_u16_bd .xor a b
  unfold impl_ApartBy.f
  rw [code_two, if_pos ⟨ha, hb⟩, Option.bind_some, if_pos rfl, stitchesIn_f _ B.1 B.2]
  rfl
theorem sameMarks_ev (l : List Int) (hl : l.length ≤ 1000) : Ev (fun k => spec_A2SameMarks.f k l l) true := by
  have L : ∀ d i : Nat, i + d = l.length → Ev (fun k => spec_A2SameMarks.l0 k l l (i : Int)) true := by
    intro d
    induction d with
    | zero => intro i hi; exact Ev.step (fun k => by rw [spec_A2SameMarks.l0, if_neg (by omega)]) (Ev.const rfl)
    | succ d ih =>
      intro i hi
      refine Ev.step (f := fun k => spec_A2SameMarks.l0 k l l ((i + 1 : Nat) : Int)) (fun k => ?_) (ih (i + 1) (by omega))
      rw [spec_A2SameMarks.l0, if_pos (by omega), if_pos (by omega), if_pos (by omega), if_pos rfl, w64 _ (by omega) (by omega)]
      rfl
  refine Ev.congr (f := fun k => spec_A2SameMarks.l0 k l l ((0 : Nat) : Int)) (fun k => by unfold spec_A2SameMarks.f; rw [if_pos rfl]; rfl) (L l.length 0 (by omega))
theorem and_low (X : Int) (hX : 0 ≤ X ∧ X < 65536) (n : Nat) (hn : n ≤ 12) : 0 ≤ Go.bits .and .u16 X ((2 : Int) ^ n - 1) ∧ Go.bits .and .u16 X ((2 : Int) ^ n - 1) < 2 ^ n := by
  obtain ⟨x, rfl⟩ := Int.eq_ofNat_of_zero_le hX.1
  have hp : ((2 : Int) ^ n - 1) = ((2 ^ n - 1 : Nat) : Int) := by
    have := pow_nat n
    have h1 : 1 ≤ 2 ^ n := Nat.one_le_two_pow
    omega
  rw [hp]
  obtain ⟨b0, b1⟩ := bits_u16_bd .and (x : Int) ((2 ^ n - 1 : Nat) : Int)
  obtain ⟨y, hy⟩ := Int.eq_ofNat_of_zero_le b0
  have hbit : ∀ i, i < 16 → y.testBit i = (x.testBit i && (2 ^ n - 1).testBit i) := by
    intro i hi
    have h := bit_bits_and x (2 ^ n - 1) i hi
    rw [hy, bitAt_nat] at h
    unfold b01 at h
    cases h1 : y.testBit i <;> cases h2 : (x.testBit i && (2 ^ n - 1).testBit i) <;> rw [h1, h2] at h <;> simp at h <;> rfl
  have hlt : y < 2 ^ n := by
    refine Nat.lt_pow_two_of_testBit y (fun i hi => ?_)
    by_cases h16 : i < 16
    · rw [hbit i h16, Nat.testBit_two_pow_sub_one, decide_eq_false (by omega), Bool.and_false]
    · refine Nat.testBit_lt_two_pow ?_
      have : y < 65536 := by omega
      have h2 : 2 ^ 16 ≤ 2 ^ i := Nat.pow_le_pow_right (by decide) (by omega)
      omega
  rw [hy]
  have := pow_nat n
  exact ⟨by omega, by omega⟩
end Go.Proofs.Ytcmcdjnjlimeeaa.M
