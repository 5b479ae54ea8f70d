import Derived.Test.YtcmcdjnjlimeeaazFMarksEEvLoop
import Derived.Test.YtcmcdjnjlimeeaazFMarksEMBits
import Derived.Test.YtcmcdjnjlimeeaazFMarksEMLem
import Derived.Test.YtcmcdjnjlimeeaazFMarksM0
import Derived.Test.YtcmcdjnjlimeeaazFMarksM2
import Derived.Test.YtcmcdjnjlimeeaazFMarksM3
namespace Go.Proofs.Ytcmcdjnjlimeeaa.M
open Go.RowKit Go.Proofs.YtcmcdjnjlimeeaaW.PrintWords Go.Proofs.YtcmcdjnjlimeeaaW.PrintLast Go.Proofs.YtcmcdjnjlimeeaaW.PrintMore
attribute [local go_sem] max2_int min2_int max_two min_two max_three min_three max_four min_four
set_option linter.unusedVariables false
set_option linter.unusedSimpArgs false
def markTold (s : ByteArray) : Nat → Nat
  | 0 => 0
  | i + 1 => if bt s (i : Nat) = 43 then markTold s i ||| 2 ^ i else markTold s i
theorem markTold_succ (s : ByteArray) (i : Nat) : markTold s (i + 1) = if bt s (i : Nat) = 43 then markTold s i ||| 2 ^ i else markTold s i := rfl
theorem markTold_lt (s : ByteArray) : ∀ i, markTold s i < 2 ^ i
  | 0 => by show 0 < 1; omega
  | i + 1 => by
    have ih := markTold_lt s i
    have p : 2 ^ (i + 1) = 2 * 2 ^ i := by rw [Nat.pow_succ]; omega
    unfold markTold
    split
    · exact Nat.or_lt_two_pow (by omega) (by rw [p]; have := Nat.two_pow_pos i; omega)
    · omega
theorem markTold_bit (s : ByteArray) : ∀ n i, i < n → (markTold s n).testBit i = decide (bt s (i : Nat) = 43)
  | 0, _, h => absurd h (by omega)
  | n + 1, i, h => by
    by_cases e : i = n
    · subst e
      have z : (markTold s i).testBit i = false := Nat.testBit_lt_two_pow (markTold_lt s i)
      unfold markTold
      by_cases c : bt s (i : Nat) = 43
      · rw [if_pos c, Nat.testBit_or, Nat.testBit_two_pow_self]; simp [c]
      · rw [if_neg c, z]; simp [c]
    · have ih := markTold_bit s n i (by omega)
      unfold markTold
      by_cases c : bt s (n : Nat) = 43
      · rw [if_pos c, Nat.testBit_or, Nat.testBit_two_pow_of_ne (fun q => e q.symm), ih]; simp
      · rw [if_neg c, ih]
theorem or_nat (a i : Nat) (ha : a < 65536) (hi : i < 16) : Go.bits .or .u16 (a : Int) (shl .u16 1 (i : Int)) = ((a ||| 2 ^ i : Nat) : Int) := by
  have hp : 2 ^ i < 2 ^ 16 := Nat.pow_lt_pow_right (by omega) hi
  have e1 : shl .u16 1 (i : Int) = ((2 ^ i : Nat) : Int) := by
    unfold shl
    have e : min (i : Int).toNat IntKind.u16.bits = i := Nat.min_eq_left (show i ≤ 16 by omega)
    rw [e, Int.one_mul]
    have q : ((2 : Int) ^ i) = ((2 ^ i : Nat) : Int) := by simp
    rw [q]
    exact IntWalk.u16_in _ ⟨Int.natCast_nonneg _, by omega⟩
  rw [e1]
  obtain ⟨v, e, hv⟩ := bits_eq .or a (2 ^ i)
  rw [e, hv]
  show (((BitVec.ofInt 16 (a : Int) ||| BitVec.ofInt 16 ((2 ^ i : Nat) : Int)).toNat : Nat) : Int) = _
  have f : ∀ x : Nat, x < 65536 → (BitVec.ofInt 16 (x : Int)).toNat = x := by
    intro x hx
    have : BitVec.ofInt 16 (x : Int) = BitVec.ofNat 16 x := by apply BitVec.eq_of_toNat_eq; simp
    rw [this, BitVec.toNat_ofNat]
    exact Nat.mod_eq_of_lt (by omega)
  rw [BitVec.toNat_or, f a ha, f _ (by omega)]
def markNums (m : Nat) : Nat → List Int
  | 0 => []
  | n + 1 => markNums m n ++ [if m.testBit n = true then 43 else 46]
theorem markNums_len (m : Nat) : ∀ n, (markNums m n).length = n
  | 0 => rfl
  | n + 1 => by unfold markNums; rw [List.length_append, markNums_len m n]; rfl
theorem markNums_at (m : Nat) : ∀ n i (h : i < n), (markNums m n)[i]'(by rw [markNums_len]; exact h) = if m.testBit i = true then 43 else 46
  | 0, _, h => absurd h (by omega)
  | n + 1, i, h => by
    have e := markNums_len m n
    by_cases q : i = n
    · subst q
      simp only [markNums]
      rw [List.getElem_append_right (by omega)]
      simp [e]
    · have ih := markNums_at m n i (by omega)
      simp only [markNums]
      rw [List.getElem_append_left (by omega)]
      exact ih
theorem text_list (m n : Nat) : (strOfNums (markNums m n)).toList = (markNums m n).map fun x => UInt8.ofNat x.toNat := by
  rw [ByteArray.toList_eq]
  rfl
theorem bt_nat (s : ByteArray) (i : Nat) (h : i < s.size) : bt s (i : Nat) = ((s[i]'h).toNat : Int) := by
  unfold bt
  rw [dif_pos (by simpa using h)]
  rfl
theorem list_at (s : ByteArray) (i : Nat) (h : i < s.size) : s.toList[i]? = some (s[i]'h) := by
  rw [ByteArray.toList_eq, Array.getElem?_toList]
  exact Array.getElem?_eq_getElem h
theorem text_ev (m n : Nat) (hm : m < 65536) (hn : n ≤ 12) (d : Nat) : ∀ i : Nat, i + d = n → Ev (fun k => impl_MarkText.l0 k (m : Int) (markNums m i) (n : Int) (i : Int)) (strOfNums (markNums m n)) := by
  induction d with
  | zero =>
    intro i hd
    obtain rfl : i = n := by omega
    refine Ev.step (f := fun _ => some (strOfNums (markNums m i))) (fun k => ?_) (Ev.const rfl)
    rw [impl_MarkText.l0]
    rw [if_neg (by omega)]
  | succ d ih =>
    intro i hd
    have w1 : wrap64 ((i : Int) + 1) = ((i + 1 : Nat) : Int) := by rw [w64 _ (by omega) (by omega)]; rfl
    have len := markNums_len m i
    have b := bit_and (m : Int) (by omega) (by omega) i (by omega)
    rw [bitAt_nat] at b
    refine Ev.step (f := fun k => impl_MarkText.l0 k (m : Int) (markNums m (i + 1)) (n : Int) ((i + 1 : Nat) : Int)) (fun k => ?_) (ih (i + 1) (by omega))
    rw [impl_MarkText.l0]
    rw [if_pos (by omega), if_pos (by omega), b, w1]
    rw [show markNums m (i + 1) = markNums m i ++ [if m.testBit i = true then 43 else 46] from rfl]
    cases c : m.testBit i with
    | true => rw [if_pos (by rfl), if_pos (by omega), if_pos rfl]
    | false => rw [if_neg (by decide), if_pos (by omega), if_neg (by decide)]
theorem implRM_ev (s : ByteArray) (n : Nat) (e : s.size = n) (q : Nat) (hq : q ≤ n) (h12 : q ≤ 12) (R : Int × Int × Int)
    (next : Ev (fun k => if (n : Int) = 0 then some (0, 0, 5) else ((impl_MarkText.f k (n : Int) ((markTold s q : Nat) : Int)).bind fun t115 => (if t115.toList = s.toList then (some (((markTold s q : Nat) : Int), (n : Int), 0)) else (some (0, 0, 5))))) R) (d : Nat) : ∀ i : Nat, i + d = q → Ev (fun k => impl_ReadMark.l0 k s ((markTold s i : Nat) : Int) (n : Int) (q : Int) (i : Int)) R := by
  induction d with
  | zero =>
    intro i hd
    obtain rfl : i = q := by omega
    refine Ev.step (fun k => ?_) next
    rw [impl_ReadMark.l0]
    rw [if_neg (by omega)]
  | succ d ih =>
    intro i hd
    have w1 : wrap64 ((i : Int) + 1) = ((i + 1 : Nat) : Int) := by rw [w64 _ (by omega) (by omega)]; rfl
    have lt := markTold_lt s i
    have p : 2 ^ i ≤ 2 ^ 16 := Nat.pow_le_pow_right (by omega) (by omega)
    refine Ev.step (f := fun k => impl_ReadMark.l0 k s ((markTold s (i + 1) : Nat) : Int) (n : Int) (q : Int) ((i + 1 : Nat) : Int)) (fun k => ?_) (ih (i + 1) (by omega))
    rw [impl_ReadMark.l0]
    rw [if_pos (by omega), if_pos (by omega), if_pos (by omega), w1]
    rw [markTold_succ]
    by_cases c : bt s (i : Int) = 43
    · rw [if_pos c, if_pos c, or_nat _ _ (by omega) (by omega)]
    · rw [if_neg c, if_neg c]
end Go.Proofs.Ytcmcdjnjlimeeaa.M
