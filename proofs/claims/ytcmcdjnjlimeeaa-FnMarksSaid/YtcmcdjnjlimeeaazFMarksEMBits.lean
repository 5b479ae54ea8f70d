import Derived.Test.YtcmcdjnjlimeeaazFMarksEMLem
import Derived.Test.YtcmcdjnjlimeeaazFMarksEMLem5a
import Derived.Test.YtcmcdjnjlimeeaazFMarksM0
namespace Go.Proofs.Ytcmcdjnjlimeeaa.M
open Go.RowKit Go.Proofs.YtcmcdjnjlimeeaaW.PrintWords Go.Proofs.YtcmcdjnjlimeeaaW.PrintLast Go.Proofs.YtcmcdjnjlimeeaaW.PrintMore
attribute [local go_sem] max2_int min2_int max_two min_two max_three min_three max_four min_four
set_option linter.unusedVariables false
set_option linter.unusedSimpArgs false
def b01 (b : Bool) : Int := if b = true then 1 else 0
theorem bitAt_nat (m i : Nat) : bitAt (m : Int) i = b01 (m.testBit i) := by
  unfold bitAt b01
  rw [Nat.testBit_eq_decide_div_mod_eq]
  have e : ((m : Int) / 2 ^ i % 2) = ((m / 2 ^ i % 2 : Nat) : Int) := by simp
  rw [e]
  have h : m / 2 ^ i % 2 < 2 := Nat.mod_lt _ (by decide)
  by_cases c : m / 2 ^ i % 2 = 1
  · simp [c]
  · have : m / 2 ^ i % 2 = 0 := by omega
    simp [this]
theorem bits_eq (op : BinOp) (a b : Nat) : ∃ v : BitVec 16, Go.bits op .u16 (a : Int) (b : Int) = ((v.toNat : Nat) : Int) ∧
    v = (match op with
      | .and => BitVec.ofInt 16 a &&& BitVec.ofInt 16 b
      | .or => BitVec.ofInt 16 a ||| BitVec.ofInt 16 b
      | .xor => BitVec.ofInt 16 a ^^^ BitVec.ofInt 16 b
      | _ => BitVec.ofInt 16 a &&& ~~~BitVec.ofInt 16 b) := by
  refine ⟨_, ?_, rfl⟩
  unfold Go.bits
  have h : ∀ v : BitVec 16, IntKind.u16.wrap ((v.toNat : Nat) : Int) = ((v.toNat : Nat) : Int) := fun v => IntWalk.u16_in _ ⟨by omega, by have := v.isLt; omega⟩
  cases op <;> exact h _
theorem lsb_nat (a i : Nat) (h : i < 16) : (BitVec.ofInt 16 (a : Int)).getLsbD i = a.testBit i := by
  have e : BitVec.ofInt 16 (a : Int) = BitVec.ofNat 16 a := by
    apply BitVec.eq_of_toNat_eq
    simp
  rw [e, BitVec.getLsbD_ofNat]
  simp [h]
theorem bitAt_bv (v : BitVec 16) (i : Nat) : bitAt ((v.toNat : Nat) : Int) i = b01 (v.getLsbD i) := by
  rw [bitAt_nat]
  rfl
theorem bit_bits_and (a b i : Nat) (h : i < 16) : bitAt (Go.bits .and .u16 (a : Int) (b : Int)) i = b01 (a.testBit i && b.testBit i) := by
  obtain ⟨v, e, hv⟩ := bits_eq .and a b
  rw [e, bitAt_bv, hv]
  simp only [BitVec.getLsbD_and, lsb_nat _ _ h]
end Go.Proofs.Ytcmcdjnjlimeeaa.M
