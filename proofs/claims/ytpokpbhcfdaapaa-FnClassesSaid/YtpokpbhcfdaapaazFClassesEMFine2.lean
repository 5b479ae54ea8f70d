import Derived.Test.YtpokpbhcfdaapaazFClassesEEvLoop
import Derived.Test.YtpokpbhcfdaapaazFClassesEMBits
import Derived.Test.YtpokpbhcfdaapaazFClassesEMFine
import Derived.Test.YtpokpbhcfdaapaazFClassesEMLem
import Derived.Test.YtpokpbhcfdaapaazFClassesEMLem2
import Derived.Test.YtpokpbhcfdaapaazFClassesEMLem3
import Derived.Test.YtpokpbhcfdaapaazFClassesEMLem5
import Derived.Test.YtpokpbhcfdaapaazFClassesEMarkCode
import Derived.Test.YtpokpbhcfdaapaazFClassesM0
import Derived.Test.YtpokpbhcfdaapaazFClassesM15
import Derived.Test.YtpokpbhcfdaapaazFClassesM16
import Derived.Test.YtpokpbhcfdaapaazFClassesM17
import Derived.Test.YtpokpbhcfdaapaazFClassesM18
import Derived.Test.YtpokpbhcfdaapaazFClassesM20
import Derived.Test.YtpokpbhcfdaapaazFClassesM5
namespace Go.Proofs.Ytpokpbhcfdaapaa.M
open Go.RowKit Go.Proofs.YtpokpbhcfdaapaaW.PrintWords Go.Proofs.YtpokpbhcfdaapaaW.PrintLast Go.Proofs.YtpokpbhcfdaapaaW.PrintMore
attribute [local go_sem] max2_int min2_int max_two min_two max_three min_three max_four min_four
set_option linter.unusedVariables false
set_option linter.unusedSimpArgs false
theorem classN_bd (n : Nat) (m : Int) : 0 ≤ classOf n m ∧ classOf n m ≤ n := by
  unfold classOf
  have h : (0 : Int) < n + 1 := by omega
  have a := Int.emod_nonneg (csum m (n : Int).toNat) (show (n : Int) + 1 ≠ 0 by omega)
  have b := Int.emod_lt_of_pos (csum m (n : Int).toNat) h
  omega
theorem lackN_bd (n : Nat) (c m : Int) : 0 ≤ lackN n c m ∧ lackN n c m ≤ n := by
  unfold lackN
  have h : (0 : Int) < n + 1 := by omega
  have a := Int.emod_nonneg (c - classOf n m + n + 1) (show (n : Int) + 1 ≠ 0 by omega)
  have b := Int.emod_lt_of_pos (c - classOf n m + n + 1) h
  omega
theorem wrapsN (n : Nat) (c m : Int) (hn : n ≤ 12) (h0 : 0 ≤ c) (h1 : c ≤ n) : Int.tmod (wrap64 ((wrap64 ((wrap64 (c - classOf n m)) + n)) + 1)) (wrap64 ((n : Int) + 1)) = lackN n c m ∧ ¬ wrap64 ((n : Int) + 1) = 0 := by
  have b := classN_bd n m
  rw [w64 (c - classOf n m) (by omega) (by omega), w64 (c - classOf n m + n) (by omega) (by omega), w64 (c - classOf n m + n + 1) (by omega) (by omega), w64 ((n : Int) + 1) (by omega) (by omega)]
  exact ⟨Int.tmod_eq_emod_of_nonneg (by omega), by omega⟩
theorem specMend_ev (n c m : Int) (h0 : 0 ≤ m) (h1 : m < 65536) : Ev (fun k => spec_MendStitch.f k n c m) (mendN n c m) := by
  unfold mendN
  cases ho : okMark n m with
  | false => exact Ev.fixed (fun k => by unfold spec_MendStitch.f; rw [ok_f, ho]; rfl)
  | true =>
    rw [if_pos rfl]
    have hb := okMark_bd n m h0 ho
    obtain ⟨j, rfl⟩ := Int.eq_ofNat_of_zero_le (show 0 ≤ n by omega)
    by_cases hc : 0 ≤ c ∧ c ≤ (j : Int)
    · rw [if_pos hc]
      obtain ⟨W1, W2⟩ := wrapsN j c m (by omega) hc.1 hc.2
      have L := lackN_bd j c m
      obtain ⟨K, hK⟩ := specClass_ev j m (by omega) h0
      refine ⟨K, fun k hk => ?_⟩
      have g := hK k hk
      dsimp only at g ⊢
      unfold spec_MendStitch.f
      rw [ok_f, ho, Option.bind_some, if_pos rfl, in_f, decide_eq_true hc, Option.bind_some, if_pos rfl, g, Option.bind_some, if_neg W2, W1]
      by_cases hz : lackN j c m = 0
      · rw [if_pos hz, if_pos hz]
      · rw [if_neg hz, if_neg hz]
        obtain ⟨i, hi⟩ := Int.eq_ofNat_of_zero_le (show 0 ≤ lackN j c m - 1 by omega)
        rw [hi, w64 _ (by omega) (by omega), u64_nat i (by omega), if_pos (by omega), bit_mod m h0 i (by omega), Int.toNat_natCast]
        by_cases q : bitAt m i = 1
        · rw [if_pos q, if_pos q]
        · rw [if_neg q, if_neg q]
    · rw [if_neg hc]
      exact Ev.fixed (fun k => by unfold spec_MendStitch.f; rw [ok_f, ho, Option.bind_some, if_pos rfl, in_f, decide_eq_false hc]; rfl)
theorem implMend_ev (n c m : Int) (h0 : 0 ≤ m) (h1 : m < 65536) : Ev (fun k => impl_MendStitch.f k n c m) (mendN n c m) := by
  have e (a b : Int) := firstOf_ev [a, b] (by simp)
  unfold mendN
  cases ho : okMark n m with
  | false =>
    obtain ⟨K, hK⟩ := e 1 (if 0 ≤ c ∧ c ≤ n then 0 else 2)
    refine ⟨K, fun k hk => ?_⟩
    have g := hK k hk
    dsimp only at g ⊢
    unfold impl_MendStitch.f
    rw [code_one, ho, within_f, if_neg (by decide), Option.bind_some, Option.bind_some, unless_d, Option.bind_some, g]
    rfl
  | true =>
    rw [if_pos rfl]
    have hb := okMark_bd n m h0 ho
    obtain ⟨j, rfl⟩ := Int.eq_ofNat_of_zero_le (show 0 ≤ n by omega)
    by_cases hc : 0 ≤ c ∧ c ≤ (j : Int)
    · rw [if_pos hc]
      obtain ⟨W1, W2⟩ := wrapsN j c m (by omega) hc.1 hc.2
      have L := lackN_bd j c m
      obtain ⟨K, hK⟩ := implClass_ev j m (by omega) h0 h1
      obtain ⟨K', hK'⟩ := e 0 0
      refine ⟨max K K', fun k hk => ?_⟩
      have g := hK k (by omega)
      have g' := hK' k (by omega)
      dsimp only at g g' ⊢
      unfold impl_MendStitch.f
      rw [code_one, ho, within_f, decide_eq_true hc, if_pos rfl, Option.bind_some, Option.bind_some]
      show ((some (0 : Int)).bind fun t => _) = _
      rw [Option.bind_some, g', Option.bind_some, if_pos (show firstNZ [0, 0] = 0 from rfl), g, Option.bind_some, if_neg W2, W1]
      by_cases hz : lackN j c m = 0
      · rw [if_pos hz, if_pos hz]
      · rw [if_neg hz, if_neg hz]
        obtain ⟨i, hi⟩ := Int.eq_ofNat_of_zero_le (show 0 ≤ lackN j c m - 1 by omega)
        rw [hi, w64 _ (by omega) (by omega), if_pos (by omega), bit_and m h0 h1 i (by omega), Int.toNat_natCast]
        by_cases q : bitAt m i = 1
        · rw [if_pos q, if_pos q]
        · rw [if_neg q, if_neg q]
    · rw [if_neg hc]
      obtain ⟨K', hK'⟩ := e 0 2
      refine ⟨K', fun k hk => ?_⟩
      have g' := hK' k hk
      dsimp only at g' ⊢
      unfold impl_MendStitch.f
      rw [code_one, ho, within_f, decide_eq_false hc, if_pos rfl, Option.bind_some, Option.bind_some]
      show ((some (2 : Int)).bind fun t => _) = _
      rw [Option.bind_some, g']
      rfl
theorem implClassOf_ev (n : Nat) (m : Int) (h0 : 0 ≤ m) (h : okMark n m = true) : Ev (fun k => impl_ClassOf.f k n m) (classOf n m, 0) := by
  have hb := okMark_bd n m h0 h
  refine Ev.congr (f := fun k => (impl_Mark_class.f k m n).bind fun t => some (t, 0)) (fun k => by unfold impl_ClassOf.f; simp [code_one, h]) ?_
  exact Ev.bind (implClass_ev n m (by omega) h0 (by omega)) (Ev.const rfl)
theorem specClassOf_ev (n : Nat) (m : Int) (h0 : 0 ≤ m) (h : okMark n m = true) : Ev (fun k => spec_ClassOf.f k n m) (classOf n m, 0) := by
  have hb := okMark_bd n m h0 h
  refine Ev.congr (f := fun k => (spec_l06Class.f k n m).bind fun t => some (t, 0)) (fun k => by unfold spec_ClassOf.f; simp [ok_f, h]) ?_
  exact Ev.bind (specClass_ev n m (by omega) h0) (Ev.const rfl)
theorem specLostFrom_ev (n m : Int) (h0 : 0 ≤ m) (h : okMark n m = true) : Ev (fun k => spec_LostFrom.f k n m) (seenOf m 12, 0) := by
  have hb := okMark_bd n m h0 h
  refine Ev.congr (f := fun k => (spec_l06Seen.f k m).bind fun t => some (t, 0)) (fun k => by unfold spec_LostFrom.f; simp [ok_f, h]) ?_
  rw [← seen_12 m h0 hb.2.2]
  exact Ev.bind (specSeen_ev m h0) (Ev.const rfl)
theorem apartBy_f (n a b : Int) (ha : okMark n a = true) (hb : okMark n b = true) : impl_ApartBy.f n a b = some (sumBits (Go.bits .xor .u16 a b) 16, 0) := by
  have B := bits_u16_bd .xor a b
  unfold impl_ApartBy.f
  rw [code_two, if_pos ⟨ha, hb⟩, Option.bind_some, if_pos rfl, stitchesIn_f _ B.1 B.2]
  rfl
theorem sameMarks_ev (l : List Int) (hl : l.length ≤ 1000) : Ev (fun k => spec_A2SameMarks.f k l l) true := by
  have L : ∀ d i : Nat, i + d = l.length → Ev (fun k => spec_A2SameMarks.l0 k l l (i : Int)) true := by
    intro d
    induction d with
    | zero => intro i hi; exact Ev.step (fun k => by rw [spec_A2SameMarks.l0, if_neg (by omega)]) (Ev.const rfl)
    | succ d ih =>
      intro i hi
      refine Ev.step (f := fun k => spec_A2SameMarks.l0 k l l ((i + 1 : Nat) : Int)) (fun k => ?_) (ih (i + 1) (by omega))
      rw [spec_A2SameMarks.l0, if_pos (by omega), if_pos (by omega), if_pos (by omega), if_pos rfl, w64 _ (by omega) (by omega)]
      rfl
  refine Ev.congr (f := fun k => spec_A2SameMarks.l0 k l l ((0 : Nat) : Int)) (fun k => by unfold spec_A2SameMarks.f; rw [if_pos rfl]; rfl) (L l.length 0 (by omega))
theorem classList_mem (n : Nat) (c : Int) : ∀ x (y : Int), y ∈ classList n c x ↔ ∃ j : Nat, j < x ∧ y = (j : Int) ∧ classOf n (j : Int) = c
  | 0, y => by simp [classList]
  | x + 1, y => by
    have ih := classList_mem n c x y
    unfold classList
    split
    next h =>
      rw [List.mem_append, ih, List.mem_singleton]
      constructor
      · rintro (⟨j, h1, h2, h3⟩ | h1)
        · exact ⟨j, by omega, h2, h3⟩
        · exact ⟨x, by omega, h1, h⟩
      · rintro ⟨j, h1, h2, h3⟩
        by_cases e : j = x
        · subst e; exact .inr h2
        · exact .inl ⟨j, by omega, h2, h3⟩
    next h =>
      rw [ih]
      constructor
      · rintro ⟨j, h1, h2, h3⟩; exact ⟨j, by omega, h2, h3⟩
      · rintro ⟨j, h1, h2, h3⟩
        by_cases e : j = x
        · subst e; exact absurd h3 h
        · exact ⟨j, by omega, h2, h3⟩
theorem classList_sorted (n : Nat) (c : Int) : ∀ x, (classList n c x).Pairwise (· < ·)
  | 0 => by simp [classList]
  | x + 1 => by
    have ih := classList_sorted n c x
    unfold classList
    split
    · refine List.pairwise_append.mpr ⟨ih, List.pairwise_singleton _ _, fun a ha b hb => ?_⟩
      obtain ⟨j, hj, rfl, _⟩ := (classList_mem n c x a).mp ha
      rw [List.mem_singleton] at hb
      omega
    · exact ih
theorem and_low (X : Int) (hX : 0 ≤ X ∧ X < 65536) (n : Nat) (hn : n ≤ 12) : 0 ≤ Go.bits .and .u16 X ((2 : Int) ^ n - 1) ∧ Go.bits .and .u16 X ((2 : Int) ^ n - 1) < 2 ^ n := by
  obtain ⟨x, rfl⟩ := Int.eq_ofNat_of_zero_le hX.1
  have hp : ((2 : Int) ^ n - 1) = ((2 ^ n - 1 : Nat) : Int) := by
    have := pow_nat n
    have h1 : 1 ≤ 2 ^ n := Nat.one_le_two_pow
    omega
  rw [hp]
  obtain ⟨b0, b1⟩ := bits_u16_bd .and (x : Int) ((2 ^ n - 1 : Nat) : Int)
  obtain ⟨y, hy⟩ := Int.eq_ofNat_of_zero_le b0
  have hbit : ∀ i, i < 16 → y.testBit i = (x.testBit i && (2 ^ n - 1).testBit i) := by
    intro i hi
    have h := bit_bits_and x (2 ^ n - 1) i hi
    rw [hy, bitAt_nat] at h
    unfold b01 at h
    cases h1 : y.testBit i <;> cases h2 : (x.testBit i && (2 ^ n - 1).testBit i) <;> rw [h1, h2] at h <;> simp at h <;> rfl
  have hlt : y < 2 ^ n := by
    refine Nat.lt_pow_two_of_testBit y (fun i hi => ?_)
    by_cases h16 : i < 16
    · rw [hbit i h16, Nat.testBit_two_pow_sub_one, decide_eq_false (by omega), Bool.and_false]
    · refine Nat.testBit_lt_two_pow ?_
      have : y < 65536 := by omega
      have h2 : 2 ^ 16 ≤ 2 ^ i := Nat.pow_le_pow_right (by decide) (by omega)
      omega
  rw [hy]
  have := pow_nat n
  exact ⟨by omega, by omega⟩
end Go.Proofs.Ytpokpbhcfdaapaa.M
