/- The program's MendStitch answers as the reference's for every number of stitches, class and mark. No condition. -/
import Derived.Test.YtklnpldggclejaaEEvLoop
import Derived.Test.YtklnpldggclejaaEMLem
import Derived.Test.YtklnpldggclejaaEMLem2
import Derived.Test.YtklnpldggclejaaEMLem3
import Derived.Test.YtklnpldggclejaaEMLem5
import Derived.Test.YtklnpldggclejaaEMarkCode
import Derived.Test.YtklnpldggclejaaM0
import Derived.Test.YtklnpldggclejaaM22
import Derived.Test.YtklnpldggclejaaM23
import Derived.Test.YtklnpldggclejaaM4
namespace Go.Proofs.Ytklnpldggclejaa.Pure
open Go.RowKit Go.Proofs.Ytklnpldggclejaa.M Go.Proofs.YtklnpldggclejaaW.PrintWords Go.Proofs.YtklnpldggclejaaW.PrintLast Go.Proofs.YtklnpldggclejaaW.PrintMore
set_option linter.unusedVariables false
set_option linter.unusedSimpArgs false
/-- The number by which the class lacks. -/
def lackOf (n c m : Int) : Int := (c - classOf n m + n + 1) % (n + 1)
/-- What MendStitch answers. -/
def mend (n c m : Int) : Int × Int :=
  if okMark n m = true then (if 0 ≤ c ∧ c ≤ n then (if lackOf n c m = 0 then (m, 0) else (if bitAt m (lackOf n c m - 1).toNat = 1 then (0, 6) else (Go.bits .or .u16 m (shl .u16 1 (lackOf n c m - 1)), 0))) else (0, 2)) else (0, 1)
theorem class_bd (n : Nat) (m : Int) : 0 ≤ classOf n m ∧ classOf n m ≤ n := by
  unfold classOf
  have h : (0 : Int) < n + 1 := by omega
  have a := Int.emod_nonneg (csum m (n : Int).toNat) (show (n : Int) + 1 ≠ 0 by omega)
  have b := Int.emod_lt_of_pos (csum m (n : Int).toNat) h
  omega
theorem lack_bd (n : Nat) (c m : Int) : 0 ≤ lackOf n c m ∧ lackOf n c m ≤ n := by
  unfold lackOf
  have h : (0 : Int) < n + 1 := by omega
  have a := Int.emod_nonneg (c - classOf n m + n + 1) (show (n : Int) + 1 ≠ 0 by omega)
  have b := Int.emod_lt_of_pos (c - classOf n m + n + 1) h
  omega
theorem wraps (n : Nat) (c m : Int) (hn : n ≤ 12) (h0 : 0 ≤ c) (h1 : c ≤ n) : Int.tmod (wrap64 ((wrap64 ((wrap64 (c - classOf n m)) + n)) + 1)) (wrap64 ((n : Int) + 1)) = lackOf n c m ∧ ¬ wrap64 ((n : Int) + 1) = 0 := by
  have b := class_bd n m
  rw [w64 (c - classOf n m) (by omega) (by omega), w64 (c - classOf n m + n) (by omega) (by omega), w64 (c - classOf n m + n + 1) (by omega) (by omega), w64 ((n : Int) + 1) (by omega) (by omega)]
  exact ⟨Int.tmod_eq_emod_of_nonneg (by omega), by omega⟩
theorem spec_ev (n c m : Int) (h0 : 0 ≤ m) (h1 : m < 65536) : Ev (fun k => spec_MendStitch.f k n c m) (mend n c m) := by
  unfold mend
  cases ho : okMark n m with
  | false => exact Ev.fixed (fun k => by unfold spec_MendStitch.f; rw [ok_f, ho]; rfl)
  | true =>
    rw [if_pos rfl]
    have hb := okMark_bd n m h0 ho
    obtain ⟨j, rfl⟩ := Int.eq_ofNat_of_zero_le (show 0 ≤ n by omega)
    by_cases hc : 0 ≤ c ∧ c ≤ (j : Int)
    · rw [if_pos hc]
      obtain ⟨W1, W2⟩ := wraps j c m (by omega) hc.1 hc.2
      have L := lack_bd j c m
      obtain ⟨K, hK⟩ := specClass_ev j m (by omega) h0
      refine ⟨K, fun k hk => ?_⟩
      have g := hK k hk
      dsimp only at g ⊢
      unfold spec_MendStitch.f
      rw [ok_f, ho, Option.bind_some, if_pos rfl, in_f, decide_eq_true hc, Option.bind_some, if_pos rfl, g, Option.bind_some, if_neg W2, W1]
      by_cases hz : lackOf j c m = 0
      · rw [if_pos hz, if_pos hz]
      · rw [if_neg hz, if_neg hz]
        obtain ⟨i, hi⟩ := Int.eq_ofNat_of_zero_le (show 0 ≤ lackOf j c m - 1 by omega)
        rw [hi, w64 _ (by omega) (by omega), u64_nat i (by omega), if_pos (by omega), bit_mod m h0 i (by omega), Int.toNat_natCast]
        by_cases q : bitAt m i = 1
        · rw [if_pos q, if_pos q]
        · rw [if_neg q, if_neg q]
    · rw [if_neg hc]
      exact Ev.fixed (fun k => by unfold spec_MendStitch.f; rw [ok_f, ho, Option.bind_some, if_pos rfl, in_f, decide_eq_false hc]; rfl)
theorem impl_ev (n c m : Int) (h0 : 0 ≤ m) (h1 : m < 65536) : Ev (fun k => impl_MendStitch.f k n c m) (mend n c m) := by
  have e (a b : Int) := firstOf_ev [a, b] (by simp)
  unfold mend
  cases ho : okMark n m with
  | false =>
    obtain ⟨K, hK⟩ := e 1 (if 0 ≤ c ∧ c ≤ n then 0 else 2)
    refine ⟨K, fun k hk => ?_⟩
    have g := hK k hk
    dsimp only at g ⊢
    unfold impl_MendStitch.f
    rw [code_one, ho, within_f, if_neg (by decide), Option.bind_some, Option.bind_some, unless_d, Option.bind_some, g]
    rfl
  | true =>
    rw [if_pos rfl]
    have hb := okMark_bd n m h0 ho
    obtain ⟨j, rfl⟩ := Int.eq_ofNat_of_zero_le (show 0 ≤ n by omega)
    by_cases hc : 0 ≤ c ∧ c ≤ (j : Int)
    · rw [if_pos hc]
      obtain ⟨W1, W2⟩ := wraps j c m (by omega) hc.1 hc.2
      have L := lack_bd j c m
      obtain ⟨K, hK⟩ := implClass_ev j m (by omega) h0 h1
      obtain ⟨K', hK'⟩ := e 0 0
      refine ⟨max K K', fun k hk => ?_⟩
      have g := hK k (by omega)
      have g' := hK' k (by omega)
      dsimp only at g g' ⊢
      unfold impl_MendStitch.f
      rw [code_one, ho, within_f, decide_eq_true hc, if_pos rfl, Option.bind_some, Option.bind_some]
      show ((some (0 : Int)).bind fun t => _) = _
      rw [Option.bind_some, g', Option.bind_some, if_pos (show firstNZ [0, 0] = 0 from rfl), g, Option.bind_some, if_neg W2, W1]
      by_cases hz : lackOf j c m = 0
      · rw [if_pos hz, if_pos hz]
      · rw [if_neg hz, if_neg hz]
        obtain ⟨i, hi⟩ := Int.eq_ofNat_of_zero_le (show 0 ≤ lackOf j c m - 1 by omega)
        rw [hi, w64 _ (by omega) (by omega), if_pos (by omega), bit_and m h0 h1 i (by omega), Int.toNat_natCast]
        by_cases q : bitAt m i = 1
        · rw [if_pos q, if_pos q]
        · rw [if_neg q, if_neg q]
    · rw [if_neg hc]
      obtain ⟨K', hK'⟩ := e 0 2
      refine ⟨K', fun k hk => ?_⟩
      have g' := hK' k hk
      dsimp only at g' ⊢
      unfold impl_MendStitch.f
      rw [code_one, ho, within_f, decide_eq_false hc, if_pos rfl, Option.bind_some, Option.bind_some]
      show ((some (2 : Int)).bind fun t => _) = _
      rw [Option.bind_some, g']
      rfl
theorem FnExactMendStitch : laws_FnExactMendStitch.Pure := by
  intro n c m hn hc hm
  have B := u16_bd hm
  refine Ev.get ?_
  exact Ev.bind (spec_ev n c m B.1 B.2) (Ev.bind (impl_ev n c m B.1 B.2) (Ev.ite_t rfl (Ev.ite_t rfl (Ev.const rfl))))

end Go.Proofs.Ytklnpldggclejaa.Pure
