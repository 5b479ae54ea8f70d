import Derived.Test.YtcmcdjnjlimeeaazFMarksEEvLoop
import Derived.Test.YtcmcdjnjlimeeaazFMarksEMLem
import Derived.Test.YtcmcdjnjlimeeaazFMarksEOnes
import Derived.Test.YtcmcdjnjlimeeaazFMarksM0
import Derived.Test.YtcmcdjnjlimeeaazFMarksM10
import Derived.Test.YtcmcdjnjlimeeaazFMarksM4
namespace Go.Proofs.Ytcmcdjnjlimeeaa.M
open Go.RowKit Go.Proofs.YtcmcdjnjlimeeaaW.PrintWords Go.Proofs.YtcmcdjnjlimeeaaW.PrintLast Go.Proofs.YtcmcdjnjlimeeaaW.PrintMore
attribute [local go_sem] max2_int min2_int max_two min_two max_three min_three max_four min_four
set_option linter.unusedVariables false
set_option linter.unusedSimpArgs false
theorem stitchesIn_f (x : Int) (h0 : 0 ≤ x) (h1 : x < 65536) : impl_StitchesIn.f x = some (sumBits x 16) := by
  unfold impl_StitchesIn.f
  rw [ones_all x h0 h1]
  rfl
def clr (m : Int) (i : Nat) : Int := Go.bits .andNot .u16 m (shl .u16 1 (i : Int))
def seenOf (m : Int) : Nat → List Int
  | 0 => [m]
  | n + 1 => if bitAt m n = 1 then seenOf m n ++ [clr m n] else seenOf m n
theorem seen_len (m : Int) : ∀ n, (seenOf m n).length ≤ n + 1
  | 0 => Nat.le_refl _
  | n + 1 => by
    have := seen_len m n
    unfold seenOf
    split
    · rw [List.length_append]
      simp
      omega
    · omega
theorem specSeen_ev (m : Int) (h0 : 0 ≤ m) : Ev (fun k => spec_l06Seen.f k m) (seenOf m 16) := by
  refine Ev.loop (L := fun k s => spec_l06Seen.l0 k m s.1 s.2) (fun s d => ∃ i : Nat, i + d = 16 ∧ s = (seenOf m i, (i : Int))) ?_ 16 ([m], 0) ⟨0, by omega, rfl⟩
  rintro ⟨acc, ii⟩ d ⟨i, hd, e⟩
  cases e
  have hb := seen_len m i
  by_cases c : i < 16
  · refine .inr ⟨(seenOf m (i + 1), ((i + 1 : Nat) : Int)), d - 1, by omega, ⟨i + 1, by omega, rfl⟩, 0, fun k _ => ?_⟩
    dsimp only
    rw [spec_l06Seen.l0]
    rw [if_pos (by omega), u64_nat i (by omega), if_pos (by omega), bit_mod m h0 i (by omega), w64 ((i : Int) + 1) (by omega) (by omega)]
    by_cases q : bitAt m i = 1
    · have e : seenOf m (i + 1) = seenOf m i ++ [clr m i] := by rw [seenOf, if_pos q]
      rw [if_pos q, if_pos (by omega), e]
      rfl
    · have e : seenOf m (i + 1) = seenOf m i := by rw [seenOf, if_neg q]
      rw [if_neg q, e]
      rfl
  · obtain rfl : i = 16 := by omega
    refine .inl ⟨0, fun k _ => ?_⟩
    dsimp only
    rw [spec_l06Seen.l0]
    rw [if_neg (by omega)]
theorem implLost_ev (m : Int) (h0 : 0 ≤ m) (h1 : m < 65536) : Ev (fun k => impl_Mark_lost.f k m) (seenOf m 12) := by
  refine Ev.loop (L := fun k s => impl_Mark_lost.l0 k m s.1 s.2) (fun s d => ∃ i : Nat, i + d = 12 ∧ s = (seenOf m i, (i : Int))) ?_ 12 ([m], 0) ⟨0, by omega, rfl⟩
  rintro ⟨acc, ii⟩ d ⟨i, hd, e⟩
  cases e
  have hb := seen_len m i
  by_cases c : i < 12
  · refine .inr ⟨(seenOf m (i + 1), ((i + 1 : Nat) : Int)), d - 1, by omega, ⟨i + 1, by omega, rfl⟩, 0, fun k _ => ?_⟩
    dsimp only
    rw [impl_Mark_lost.l0]
    rw [if_pos (by omega), if_pos (by omega), bit_and m h0 h1 i (by omega), w64 ((i : Int) + 1) (by omega) (by omega)]
    by_cases q : bitAt m i = 1
    · have e : seenOf m (i + 1) = seenOf m i ++ [clr m i] := by rw [seenOf, if_pos q]
      rw [if_pos q, if_pos (by omega), e]
      rfl
    · have e : seenOf m (i + 1) = seenOf m i := by rw [seenOf, if_neg q]
      rw [if_neg q, e]
      rfl
  · obtain rfl : i = 12 := by omega
    refine .inl ⟨0, fun k _ => ?_⟩
    dsimp only
    rw [impl_Mark_lost.l0]
    rw [if_neg (by omega)]
theorem bitAt_high (m : Int) (h0 : 0 ≤ m) (h1 : m < 4096) (i : Nat) (h : 12 ≤ i) : bitAt m i = 0 := by
  unfold bitAt
  have hp : (2 : Int) ^ 12 ≤ 2 ^ i := by
    have h2 : (2 ^ 12 : Nat) ≤ 2 ^ i := Nat.pow_le_pow_right (n := 2) (by decide) h
    have h3 : ((2 ^ 12 : Nat) : Int) ≤ ((2 ^ i : Nat) : Int) := Int.ofNat_le.mpr h2
    rw [Int.natCast_pow, Int.natCast_pow] at h3
    exact h3
  rw [Int.ediv_eq_zero_of_lt h0 (by omega)]
  rfl
theorem seen_12 (m : Int) (h0 : 0 ≤ m) (h1 : m < 4096) : seenOf m 16 = seenOf m 12 := by
  have e (i : Nat) (h : 12 ≤ i) : seenOf m (i + 1) = seenOf m i := by
    rw [seenOf, if_neg (by rw [bitAt_high m h0 h1 i h]; decide)]
  rw [e 15 (by omega), e 14 (by omega), e 13 (by omega), e 12 (by omega)]
end Go.Proofs.Ytcmcdjnjlimeeaa.M
