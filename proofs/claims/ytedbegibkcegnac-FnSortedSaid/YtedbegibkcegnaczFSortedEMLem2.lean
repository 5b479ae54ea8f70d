import Derived.Test.YtedbegibkcegnaczFSortedM0
import Derived.Test.YtedbegibkcegnaczFSortedERead
import Derived.Test.YtedbegibkcegnaczFSortedM1
import Derived.Test.YtedbegibkcegnaczFSortedM3
import Derived.Test.YtedbegibkcegnaczFSortedM8
import Derived.Test.YtedbegibkcegnaczFSortedM15
import Derived.Test.YtedbegibkcegnaczFSortedM2
import Derived.Test.YtedbegibkcegnaczFSortedEPredMark
section
namespace Go.Proofs.Ytedbegibkcegnac.M
open Go.RowKit Go.Proofs.YtedbegibkcegnacW.PrintWords Go.Proofs.YtedbegibkcegnacW.PrintLast Go.Proofs.YtedbegibkcegnacW.PrintMore
attribute [local go_sem] max2_int min2_int max_two min_two max_three min_three max_four min_four
set_option linter.unusedVariables false
set_option linter.unusedSimpArgs false
theorem Ev.loop {S R : Type} {L : Nat → S → Option R} {r : R} (Inv : S → Nat → Prop)
    (h : ∀ s d, Inv s d → (∃ K, ∀ k, K ≤ k → L (k + 1) s = some r) ∨ ∃ s' d', d' < d ∧ Inv s' d' ∧ ∃ K, ∀ k, K ≤ k → L (k + 1) s = L k s') :
    ∀ d s, Inv s d → Ev (fun k => L k s) r := by
  intro d
  induction d using Nat.strongRecOn with
  | ind d ih =>
    intro s hs
    rcases h s d hs with ⟨K, hK⟩ | ⟨s', d', hd, hs', K, hK⟩
    · refine ⟨K + 1, fun k hk => ?_⟩
      obtain ⟨j, rfl⟩ : ∃ j, k = j + 1 := ⟨k - 1, by omega⟩
      exact hK j (by omega)
    · obtain ⟨K', hK'⟩ := ih d' hd s' hs'
      refine ⟨max K K' + 1, fun k hk => ?_⟩
      obtain ⟨j, rfl⟩ : ∃ j, k = j + 1 := ⟨k - 1, by omega⟩
      have h1 := hK j (by omega)
      have h2 := hK' j (by omega)
      exact h1.trans h2
theorem Ev.const {α : Type} {g : Option α} {r : α} (h : g = some r) : Ev (fun _ => g) r := ⟨0, fun _ _ => h⟩
theorem Ev.fixed {α : Type} {g : Nat → Option α} {r : α} (h : ∀ k, g k = some r) : Ev g r := ⟨0, fun k _ => h k⟩
theorem Ev.get {α : Type} {g : Nat → Option α} {r : α} (h : Ev g r) : ∃ k, g k = some r := Ev.rounds h
theorem Ev.ite_t {α : Type} {c : Prop} [Decidable c] {g f : Nat → Option α} {r : α} (hc : c) (h : Ev g r) : Ev (fun k => if c then g k else f k) r := by
  obtain ⟨K, hK⟩ := h
  exact ⟨K, fun k hk => (if_pos hc).trans (hK k hk)⟩
theorem Ev.ite_f {α : Type} {c : Prop} [Decidable c] {g f : Nat → Option α} {r : α} (hc : ¬ c) (h : Ev f r) : Ev (fun k => if c then g k else f k) r := by
  obtain ⟨K, hK⟩ := h
  exact ⟨K, fun k hk => (if_neg hc).trans (hK k hk)⟩
theorem Ev.all {α : Type} {g : Nat → Option α} {r : α} (h : Ev g r) : ∃ K, ∀ k, K ≤ k → g k = some r := h
theorem u64_nat (i : Nat) (h : i < 1000) : IntKind.u64.wrap (i : Int) = i := IntWalk.u64_in _ ⟨by omega, by omega⟩
theorem w64 (x : Int) (h : -9223372036854775808 ≤ x) (h' : x ≤ 9223372036854775807) : wrap64 x = x := IntWalk.wrap64_in x ⟨h, h'⟩
theorem rd_of_lt (l : List Int) (i : Nat) (h : i < l.length) : rd l (i : Int) = l[i] := by
  show l.getD i 0 = l[i]
  rw [List.getD_eq_getElem?_getD, List.getElem?_eq_getElem h]
  rfl
theorem wrap_u16_bd (x : Int) : 0 ≤ IntKind.u16.wrap x ∧ IntKind.u16.wrap x < 65536 := by
  simp [IntKind.wrap, IntKind.bits, IntKind.signed]
  omega
theorem bits_u16_bd (op : BinOp) (a b : Int) : 0 ≤ Go.bits op .u16 a b ∧ Go.bits op .u16 a b < 65536 := wrap_u16_bd _
end Go.Proofs.Ytedbegibkcegnac.M
end
section
namespace Go.Proofs.Ytedbegibkcegnac.M
open Go.RowKit Go.Proofs.YtedbegibkcegnacW.PrintWords Go.Proofs.YtedbegibkcegnacW.PrintLast Go.Proofs.YtedbegibkcegnacW.PrintMore
attribute [local go_sem] max2_int min2_int max_two min_two max_three min_three max_four min_four
set_option linter.unusedVariables false
set_option linter.unusedSimpArgs false
def bitAt (m : Int) (i : Nat) : Int := m / 2 ^ i % 2
theorem bitAt_01 (m : Int) (i : Nat) : bitAt m i = 0 ∨ bitAt m i = 1 := by unfold bitAt; omega
theorem shr_nat (m : Int) (i : Nat) (h : i ≤ 16) : shr .u16 m (i : Int) = m / 2 ^ i := by
  unfold shr
  have e : min (i : Int).toNat IntKind.u16.bits = i := Nat.min_eq_left h
  rw [e]
theorem quo_bd (x : Int) (h0 : 0 ≤ x) (i : Nat) : 0 ≤ x / 2 ^ i ∧ x / 2 ^ i ≤ x :=
  ⟨Int.ediv_nonneg h0 (Int.le_of_lt (Int.pow_pos (by decide))), Int.ediv_le_self _ h0⟩
theorem bit_mod (m : Int) (h0 : 0 ≤ m) (i : Nat) (h : i ≤ 16) : Int.tmod (shr .u16 m (i : Int)) 2 = bitAt m i := by
  rw [shr_nat m i h]
  exact Int.tmod_eq_emod_of_nonneg (quo_bd m h0 i).1
theorem bit_and (m : Int) (h0 : 0 ≤ m) (h1 : m < 65536) (i : Nat) (h : i ≤ 16) : Go.bits .and .u16 (shr .u16 m (i : Int)) 1 = bitAt m i := by
  rw [shr_nat m i h]
  have q := quo_bd m h0 i
  exact bits_mask .u16 16 (by decide) (fun m a b => IntWalk.u16_in m ⟨a, by omega⟩) 1 (by decide) _ q.1 (by simp; omega)
def sumBits (x : Int) : Nat → Int
  | 0 => 0
  | n + 1 => sumBits x n + bitAt x n
theorem sumBits_bd (x : Int) : ∀ n : Nat, 0 ≤ sumBits x n ∧ sumBits x n ≤ n
  | 0 => ⟨Int.le_refl _, Int.le_refl _⟩
  | n + 1 => by
    have := sumBits_bd x n
    have := bitAt_01 x n
    unfold sumBits
    omega
theorem many_f (n : Int) : spec_l06Many.f n = some (decide (1 ≤ n ∧ n ≤ 12)) := by
  unfold spec_l06Many.f spec_l00In.f
  by_cases c1 : 1 ≤ n
  · by_cases c2 : n ≤ 12
    · simp [c1, c2]
    · simp [c1, c2]
  · simp [c1]
theorem ok_f (n m : Int) : spec_l06Ok.f n m = some (okMark n m) := by
  unfold spec_l06Ok.f
  rw [many_f]
  unfold okMark
  by_cases c1 : 1 ≤ n
  · by_cases c2 : n ≤ 12
    · have e : IntKind.u64.wrap n = n := IntWalk.u64_in _ ⟨by omega, by omega⟩
      simp [c1, c2, e, show 0 ≤ n by omega]
    · simp [c1, c2]
  · simp [c1]
theorem okMark_iff (n m : Int) (h0 : 0 ≤ m) : okMark n m = true ↔ 1 ≤ n ∧ n ≤ 12 ∧ m < 2 ^ n.toNat := by
  unfold okMark
  by_cases c1 : 1 ≤ n
  · by_cases c2 : n ≤ 12
    · obtain ⟨j, rfl⟩ := Int.eq_ofNat_of_zero_le (show 0 ≤ n by omega)
      rw [shr_nat m j (by omega)]
      have hp : (0 : Int) < 2 ^ j := Int.pow_pos (by decide)
      have e : (m / 2 ^ j = 0) ↔ m < 2 ^ j := by
        constructor
        · intro h
          have := Int.lt_ediv_add_one_mul_self m hp
          rw [h] at this
          simpa using this
        · intro h
          exact Int.ediv_eq_zero_of_lt h0 h
      simp [c1, c2, e]
    · simp [c1, c2]
  · simp [c1]
theorem pow_le_12 (n : Nat) (h : n ≤ 12) : (2 : Int) ^ n ≤ 4096 := by
  have h2 : (2 ^ n : Nat) ≤ 2 ^ 12 := Nat.pow_le_pow_right (n := 2) (by decide) h
  have h3 : ((2 ^ n : Nat) : Int) ≤ ((2 ^ 12 : Nat) : Int) := Int.ofNat_le.mpr h2
  rw [Int.natCast_pow] at h3
  exact h3
theorem okMark_bd (n m : Int) (h0 : 0 ≤ m) (h : okMark n m = true) : 1 ≤ n ∧ n ≤ 12 ∧ m < 4096 := by
  obtain ⟨a, b, c⟩ := (okMark_iff n m h0).mp h
  have := pow_le_12 n.toNat (by omega)
  exact ⟨a, b, by omega⟩
theorem okMark_out (n a : Int) (c : ¬ (1 ≤ n ∧ n ≤ 12)) : okMark n a = false := by
  unfold okMark
  by_cases c1 : 1 ≤ n
  · have c2 : ¬ n ≤ 12 := fun h => c ⟨c1, h⟩
    simp [c2]
  · simp [c1]
theorem unless_d (p : Prop) [Decidable p] (c : Int) : impl_unless.f (decide p) c = some (if p then 0 else c) := by
  unfold impl_unless.f
  by_cases h : p <;> simp [h]
end Go.Proofs.Ytedbegibkcegnac.M
end
section
namespace Go.Proofs.Ytedbegibkcegnac.M
open Go.RowKit Go.Proofs.YtedbegibkcegnacW.PrintWords Go.Proofs.YtedbegibkcegnacW.PrintLast Go.Proofs.YtedbegibkcegnacW.PrintMore
attribute [local go_sem] max2_int min2_int max_two min_two max_three min_three max_four min_four
set_option linter.unusedVariables false
set_option linter.unusedSimpArgs false
theorem shl_one (n : Nat) (h : n ≤ 12) : shl .i64 1 (n : Int) = 2 ^ n := by
  unfold shl
  have e : min (n : Int).toNat IntKind.i64.bits = n := Nat.min_eq_left (show n ≤ 64 by omega)
  rw [e, Int.one_mul]
  have := pow_le_12 n h
  have hp : (0 : Int) < 2 ^ n := Int.pow_pos (by decide)
  exact IntWalk.i64_in _ ⟨by omega, by omega⟩
theorem wrap_nat (x : Nat) (h : x < 65536) : IntKind.u16.wrap (x : Int) = x := IntWalk.u16_in _ ⟨by omega, by omega⟩
theorem pow_nat (n : Nat) : ((2 ^ n : Nat) : Int) = 2 ^ n := by simp
theorem pow_nat_le (n : Nat) (h : n ≤ 12) : 2 ^ n ≤ 4096 := by
  have h2 : (2 ^ n : Nat) ≤ 2 ^ 12 := Nat.pow_le_pow_right (n := 2) (by decide) h
  exact h2
theorem in_f (a b c : Int) : spec_l00In.f a b c = some (decide (b ≤ a ∧ a ≤ c)) := by
  unfold spec_l00In.f
  by_cases h1 : b ≤ a <;> by_cases h2 : a ≤ c <;> simp [h1, h2]
theorem bitAt_zero (i : Nat) : bitAt 0 i = 0 := by unfold bitAt; simp
end Go.Proofs.Ytedbegibkcegnac.M
end
section
namespace Go.Proofs.Ytedbegibkcegnac.M
open Go.RowKit Go.Proofs.YtedbegibkcegnacW.PrintWords Go.Proofs.YtedbegibkcegnacW.PrintLast Go.Proofs.YtedbegibkcegnacW.PrintMore
attribute [local go_sem] max2_int min2_int max_two min_two max_three min_three max_four min_four
set_option linter.unusedVariables false
set_option linter.unusedSimpArgs false
def b01 (b : Bool) : Int := if b = true then 1 else 0
theorem bitAt_nat (m i : Nat) : bitAt (m : Int) i = b01 (m.testBit i) := by
  unfold bitAt b01
  rw [Nat.testBit_eq_decide_div_mod_eq]
  have e : ((m : Int) / 2 ^ i % 2) = ((m / 2 ^ i % 2 : Nat) : Int) := by simp
  rw [e]
  have h : m / 2 ^ i % 2 < 2 := Nat.mod_lt _ (by decide)
  by_cases c : m / 2 ^ i % 2 = 1
  · simp [c]
  · have : m / 2 ^ i % 2 = 0 := by omega
    simp [this]
theorem bits_eq (op : BinOp) (a b : Nat) : ∃ v : BitVec 16, Go.bits op .u16 (a : Int) (b : Int) = ((v.toNat : Nat) : Int) ∧
    v = (match op with
      | .and => BitVec.ofInt 16 a &&& BitVec.ofInt 16 b
      | .or => BitVec.ofInt 16 a ||| BitVec.ofInt 16 b
      | .xor => BitVec.ofInt 16 a ^^^ BitVec.ofInt 16 b
      | _ => BitVec.ofInt 16 a &&& ~~~BitVec.ofInt 16 b) := by
  refine ⟨_, ?_, rfl⟩
  unfold Go.bits
  have h : ∀ v : BitVec 16, IntKind.u16.wrap ((v.toNat : Nat) : Int) = ((v.toNat : Nat) : Int) := fun v => IntWalk.u16_in _ ⟨by omega, by have := v.isLt; omega⟩
  cases op <;> exact h _
theorem lsb_nat (a i : Nat) (h : i < 16) : (BitVec.ofInt 16 (a : Int)).getLsbD i = a.testBit i := by
  have e : BitVec.ofInt 16 (a : Int) = BitVec.ofNat 16 a := by
    apply BitVec.eq_of_toNat_eq
    simp
  rw [e, BitVec.getLsbD_ofNat]
  simp [h]
theorem bitAt_bv (v : BitVec 16) (i : Nat) : bitAt ((v.toNat : Nat) : Int) i = b01 (v.getLsbD i) := by
  rw [bitAt_nat]
  rfl
theorem bit_bits_and (a b i : Nat) (h : i < 16) : bitAt (Go.bits .and .u16 (a : Int) (b : Int)) i = b01 (a.testBit i && b.testBit i) := by
  obtain ⟨v, e, hv⟩ := bits_eq .and a b
  rw [e, bitAt_bv, hv]
  simp only [BitVec.getLsbD_and, lsb_nat _ _ h]
theorem bit_bits_xor (a b i : Nat) (h : i < 16) : bitAt (Go.bits .xor .u16 (a : Int) (b : Int)) i = b01 (a.testBit i ^^ b.testBit i) := by
  obtain ⟨v, e, hv⟩ := bits_eq .xor a b
  rw [e, bitAt_bv, hv]
  simp only [BitVec.getLsbD_xor, lsb_nat _ _ h]
theorem bit_bits_andNot (a b i : Nat) (h : i < 16) : bitAt (Go.bits .andNot .u16 (a : Int) (b : Int)) i = b01 (a.testBit i && !b.testBit i) := by
  obtain ⟨v, e, hv⟩ := bits_eq .andNot a b
  rw [e, bitAt_bv, hv]
  simp only [BitVec.getLsbD_and, BitVec.getLsbD_not, lsb_nat _ _ h, h, decide_true, Bool.true_and]
theorem andNot_zero (a b : Nat) (h : Go.bits .andNot .u16 (a : Int) (b : Int) = 0) (i : Nat) (hi : i < 16) : a.testBit i = true → b.testBit i = true := by
  intro t
  have e := bit_bits_andNot a b i hi
  rw [h, bitAt_zero, t] at e
  cases c : b.testBit i with
  | true => rfl
  | false => rw [c] at e; simp [b01] at e
theorem sumBits_andNot (a b : Nat) (h : Go.bits .andNot .u16 (b : Int) (a : Int) = 0) : ∀ n : Nat, n ≤ 16 → sumBits (Go.bits .andNot .u16 (a : Int) (b : Int)) n = sumBits (a : Int) n - sumBits (b : Int) n
  | 0, _ => rfl
  | n + 1, hn => by
    have ih := sumBits_andNot a b h n (by omega)
    have z := andNot_zero b a h n (by omega)
    simp only [sumBits]
    rw [ih, bit_bits_andNot a b n (by omega), bitAt_nat, bitAt_nat]
    cases x : a.testBit n <;> cases y : b.testBit n
    · simp [b01]
    · rw [x, y] at z; simp at z
    · simp [b01]; omega
    · simp [b01]; omega
end Go.Proofs.Ytedbegibkcegnac.M
end
section
namespace Go.Proofs.Ytedbegibkcegnac.M
open Go.RowKit Go.Proofs.YtedbegibkcegnacW.PrintWords Go.Proofs.YtedbegibkcegnacW.PrintLast Go.Proofs.YtedbegibkcegnacW.PrintMore
attribute [local go_sem] max2_int min2_int max_two min_two max_three min_three max_four min_four
set_option linter.unusedVariables false
set_option linter.unusedSimpArgs false
theorem and_low (X : Int) (hX : 0 ≤ X ∧ X < 65536) (n : Nat) (hn : n ≤ 12) : 0 ≤ Go.bits .and .u16 X ((2 : Int) ^ n - 1) ∧ Go.bits .and .u16 X ((2 : Int) ^ n - 1) < 2 ^ n := by
  obtain ⟨x, rfl⟩ := Int.eq_ofNat_of_zero_le hX.1
  have hp : ((2 : Int) ^ n - 1) = ((2 ^ n - 1 : Nat) : Int) := by
    have := pow_nat n
    have h1 : 1 ≤ 2 ^ n := Nat.one_le_two_pow
    omega
  rw [hp]
  obtain ⟨b0, b1⟩ := bits_u16_bd .and (x : Int) ((2 ^ n - 1 : Nat) : Int)
  obtain ⟨y, hy⟩ := Int.eq_ofNat_of_zero_le b0
  have hbit : ∀ i, i < 16 → y.testBit i = (x.testBit i && (2 ^ n - 1).testBit i) := by
    intro i hi
    have h := bit_bits_and x (2 ^ n - 1) i hi
    rw [hy, bitAt_nat] at h
    unfold b01 at h
    cases h1 : y.testBit i <;> cases h2 : (x.testBit i && (2 ^ n - 1).testBit i) <;> rw [h1, h2] at h <;> simp at h <;> rfl
  have hlt : y < 2 ^ n := by
    refine Nat.lt_pow_two_of_testBit y (fun i hi => ?_)
    by_cases h16 : i < 16
    · rw [hbit i h16, Nat.testBit_two_pow_sub_one, decide_eq_false (by omega), Bool.and_false]
    · refine Nat.testBit_lt_two_pow ?_
      have : y < 65536 := by omega
      have h2 : 2 ^ 16 ≤ 2 ^ i := Nat.pow_le_pow_right (by decide) (by omega)
      omega
  rw [hy]
  have := pow_nat n
  exact ⟨by omega, by omega⟩
end Go.Proofs.Ytedbegibkcegnac.M
end
section
namespace Go.Proofs.Ytedbegibkcegnac.M
open Go.RowKit Go.Proofs.YtedbegibkcegnacW.PrintWords Go.Proofs.YtedbegibkcegnacW.PrintLast Go.Proofs.YtedbegibkcegnacW.PrintMore
attribute [local go_sem] max2_int min2_int max_two min_two max_three min_three max_four min_four
set_option linter.unusedVariables false
set_option linter.unusedSimpArgs false
theorem u8_bd {x : Int} (h : (Lit.int .u8 x).wf = true) : 0 ≤ x ∧ x < 256 := by
  simp [Lit.wf, IntKind.min, IntKind.max, IntKind.bits, IntKind.signed] at h
  omega
theorem rd_u8 (l : List Int) (i : Nat) (h : i < l.length) (hw : ∀ x ∈ l, (Lit.int .u8 x).wf = true) : 0 ≤ rd l (i : Int) ∧ rd l (i : Int) < 256 := by
  rw [rd_of_lt l i h]
  exact u8_bd (hw _ (List.getElem_mem h))
theorem at_f (l : List Int) (i : Nat) (q : Int) (hq : 1 ≤ q) (hi : i ≤ 1000) (hq2 : q ≤ 1000) (hw : ∀ x ∈ l, (Lit.int .u8 x).wf = true) : ∃ t, laws_a2At.f l i q = some t ∧ 0 ≤ t ∧ t < q := by
  unfold laws_a2At.f
  by_cases c : (i : Int) ≥ (l.length : Int)
  · exact ⟨0, by rw [if_pos c], by omega, by omega⟩
  · have hb := rd_u8 l i (by omega) hw
    refine ⟨Int.tmod (rd l i) q, by rw [if_neg c, if_neg (by omega), if_pos (by omega), if_pos (by omega), if_neg (by omega), w64 _ (by omega) (by omega)], ?_, ?_⟩
    · rw [Int.tmod_eq_emod_of_nonneg hb.1]; exact Int.emod_nonneg _ (by omega)
    · rw [Int.tmod_eq_emod_of_nonneg hb.1]; exact Int.emod_lt_of_pos _ (by omega)
theorem next_f (l : List Int) (i : Nat) (hi : i ≤ 100000) (x : Int) : ∃ r y, spec_l00Src_next.f l (i : Int) x = some (r, ((i + 1 : Nat) : Int), y) := by
  unfold spec_l00Src_next.f
  rw [show wrap64 ((i : Int) + 1) = ((i + 1 : Nat) : Int) by rw [w64 _ (by omega) (by omega)]; rfl]
  by_cases c : (i : Int) < (l.length : Int)
  · rw [if_pos c, if_pos (by omega), if_pos (by omega)]
    exact ⟨_, _, rfl⟩
  · rw [if_neg c, if_neg (by omega)]
    exact ⟨_, _, rfl⟩
theorem a2mark_f (l : List Int) (n : Nat) (hn : n ≤ 12) : ∃ t, spec_A2Mark.f l (n : Int) = some t ∧ 0 ≤ t ∧ t < 2 ^ n := by
  obtain ⟨r1, y1, h1⟩ := next_f l 0 (by omega) 0
  obtain ⟨r2, y2, h2⟩ := next_f l 1 (by omega) y1
  have hp : spec_l00Src_pick.f l 0 0 65536 = some (Int.tmod (wrap64 ((wrap64 (r1 * 256)) + r2)) 65536, ((1 + 1 : Nat) : Int), y2) := by
    unfold spec_l00Src_pick.f
    rw [if_neg (by decide), show spec_l00Src_next.f l 0 0 = _ from h1, Option.bind_some, if_pos (by decide), show spec_l00Src_next.f l ((0 + 1 : Nat) : Int) y1 = _ from h2, Option.bind_some, if_neg (by decide)]
  have hW := wrap_u16_bd (Int.tmod (wrap64 ((wrap64 (r1 * 256)) + r2)) 65536)
  have hA := and_low _ hW n hn
  refine ⟨_, ?_, hA⟩
  unfold spec_A2Mark.f spec_l00From.f
  rw [Option.bind_some, hp, Option.bind_some, u64_nat n (by omega), if_pos (by omega)]
  have hs : IntKind.u16.wrap (shl .u16 1 (n : Int) - 1) = (2 : Int) ^ n - 1 := by
    have : ∀ q : Fin 13, IntKind.u16.wrap (shl .u16 1 ((q.val : Nat) : Int) - 1) = (2 : Int) ^ q.val - 1 := by decide +kernel
    exact this ⟨n, by omega⟩
  rw [hs]
end Go.Proofs.Ytedbegibkcegnac.M
end
section
namespace Go.Proofs.Ytedbegibkcegnac.M
open Go.RowKit Go.Proofs.YtedbegibkcegnacW.PrintWords Go.Proofs.YtedbegibkcegnacW.PrintLast Go.Proofs.YtedbegibkcegnacW.PrintMore
attribute [local go_sem] max2_int min2_int max_two min_two max_three min_three max_four min_four
set_option linter.unusedVariables false
set_option linter.unusedSimpArgs false
def tab : ByteArray := ⟨#[0, 1, 1, 2, 1, 2, 2, 3, 1, 2, 2, 3, 2, 3, 3, 4, 1, 2, 2, 3, 2, 3, 3, 4, 2, 3, 3, 4, 3, 4, 4, 5, 1, 2, 2, 3, 2, 3, 3, 4, 2, 3, 3, 4, 3, 4, 4, 5, 2, 3, 3, 4, 3, 4, 4, 5, 3, 4, 4, 5, 4, 5, 5, 6, 1, 2, 2, 3, 2, 3, 3, 4, 2, 3, 3, 4, 3, 4, 4, 5, 2, 3, 3, 4, 3, 4, 4, 5, 3, 4, 4, 5, 4, 5, 5, 6, 2, 3, 3, 4, 3, 4, 4, 5, 3, 4, 4, 5, 4, 5, 5, 6, 3, 4, 4, 5, 4, 5, 5, 6, 4, 5, 5, 6, 5, 6, 6, 7, 1, 2, 2, 3, 2, 3, 3, 4, 2, 3, 3, 4, 3, 4, 4, 5, 2, 3, 3, 4, 3, 4, 4, 5, 3, 4, 4, 5, 4, 5, 5, 6, 2, 3, 3, 4, 3, 4, 4, 5, 3, 4, 4, 5, 4, 5, 5, 6, 3, 4, 4, 5, 4, 5, 5, 6, 4, 5, 5, 6, 5, 6, 6, 7, 2, 3, 3, 4, 3, 4, 4, 5, 3, 4, 4, 5, 4, 5, 5, 6, 3, 4, 4, 5, 4, 5, 5, 6, 4, 5, 5, 6, 5, 6, 6, 7, 3, 4, 4, 5, 4, 5, 5, 6, 4, 5, 5, 6, 5, 6, 6, 7, 4, 5, 5, 6, 5, 6, 6, 7, 5, 6, 6, 7, 6, 7, 7, 8]⟩
def cnt8 (n : Nat) : Nat := n % 2 + n / 2 % 2 + n / 4 % 2 + n / 8 % 2 + n / 16 % 2 + n / 32 % 2 + n / 64 % 2 + n / 128 % 2
theorem tab_cnt : ∀ n : Fin 256, (tab.data[n.val]?.map (·.toNat)) = some (cnt8 n.val) := by decide +kernel
theorem bt_tab (n : Nat) (h : n < 256) : bt tab n = cnt8 n := by
  have t := tab_cnt ⟨n, h⟩
  have hs : tab.size = 256 := by decide +kernel
  unfold bt
  rw [dif_pos (by rw [hs]; omega)]
  have hz : n < tab.data.size := by have : tab.data.size = 256 := hs; omega
  rw [Array.getElem?_eq_getElem hz] at t
  simp only [Option.map_some, Option.some.injEq] at t
  have : ((tab[(n : Int).toNat]'(by rw [hs]; omega)).toNat) = cnt8 n := t
  rw [this]
theorem low_bit (n k j : Nat) (h : 256 = 2 ^ k * 2 * j) : n % 256 / 2 ^ k % 2 = n / 2 ^ k % 2 := by
  have e : n = 2 ^ k * (2 * j * (n / 256)) + n % 256 := by
    have t := Nat.div_add_mod n 256
    have u : 2 ^ k * (2 * j * (n / 256)) = 256 * (n / 256) := by rw [h]; simp [Nat.mul_assoc]
    omega
  have p : 0 < 2 ^ k := Nat.two_pow_pos k
  have q : n / 2 ^ k = 2 * j * (n / 256) + n % 256 / 2 ^ k := by
    conv => lhs; rw [e]
    rw [Nat.mul_add_div p]
  rw [q, Nat.mul_assoc, Nat.mul_add_mod]
theorem cnt_split (n : Nat) (hn : n < 65536) : ((cnt8 (n / 256) : Int) + (cnt8 (n % 256) : Int)) % 256 = sumBits n 16 := by
  have a (k : Nat) : (n : Int) / 2 ^ k % 2 = ((n / 2 ^ k % 2 : Nat) : Int) := by simp
  simp only [sumBits, bitAt, a]
  unfold cnt8
  have l0 := low_bit n 0 128 (by decide)
  have l1 := low_bit n 1 64 (by decide)
  have l2 := low_bit n 2 32 (by decide)
  have l3 := low_bit n 3 16 (by decide)
  have l4 := low_bit n 4 8 (by decide)
  have l5 := low_bit n 5 4 (by decide)
  have l6 := low_bit n 6 2 (by decide)
  have l7 := low_bit n 7 1 (by decide)
  simp only [Nat.reducePow, Nat.div_div_eq_div_mul, Nat.reduceMul, Nat.div_one] at l0 l1 l2 l3 l4 l5 l6 l7 ⊢
  rw [l0, l1, l2, l3, l4, l5, l6, l7]
  have b (q : Nat) : q % 2 < 2 := Nat.mod_lt _ (by decide)
  have b0 := b n
  have b1 := b (n / 2)
  have b2 := b (n / 4)
  have b3 := b (n / 8)
  have b4 := b (n / 16)
  have b5 := b (n / 32)
  have b6 := b (n / 64)
  have b7 := b (n / 128)
  have b8 := b (n / 256)
  have b9 := b (n / 512)
  have b10 := b (n / 1024)
  have b11 := b (n / 2048)
  have b12 := b (n / 4096)
  have b13 := b (n / 8192)
  have b14 := b (n / 16384)
  have b15 := b (n / 32768)
  generalize n % 2 = x0 at *
  generalize n / 2 % 2 = x1 at *
  generalize n / 4 % 2 = x2 at *
  generalize n / 8 % 2 = x3 at *
  generalize n / 16 % 2 = x4 at *
  generalize n / 32 % 2 = x5 at *
  generalize n / 64 % 2 = x6 at *
  generalize n / 128 % 2 = x7 at *
  generalize n / 256 % 2 = x8 at *
  generalize n / 512 % 2 = x9 at *
  generalize n / 1024 % 2 = x10 at *
  generalize n / 2048 % 2 = x11 at *
  generalize n / 4096 % 2 = x12 at *
  generalize n / 8192 % 2 = x13 at *
  generalize n / 16384 % 2 = x14 at *
  generalize n / 32768 % 2 = x15 at *
  clear l0 l1 l2 l3 l4 l5 l6 l7 a b
  omega
theorem ones_all (x : Int) (h0 : 0 ≤ x) (h1 : x < 65536) : bits_OnesCount16.f x = some (sumBits x 16) := by
  obtain ⟨n, rfl⟩ := Int.eq_ofNat_of_zero_le h0
  have hm : Go.bits .and .u16 (n : Int) 255 = (n : Int) % 256 := bits_mask .u16 16 (by decide) (fun m a b => IntWalk.u16_in m ⟨a, by omega⟩) 8 (by decide) n h0 (by simpa using h1)
  have hd : ((n : Int) / 256) = ((n / 256 : Nat) : Int) := rfl
  have hmm : ((n : Int) % 256) = ((n % 256 : Nat) : Int) := rfl
  have hn : n < 65536 := by omega
  unfold bits_OnesCount16.f
  rw [hm]
  rw [if_pos (by omega), if_pos (by omega), if_pos (by omega), if_pos (by omega)]
  show some ((bt tab _ + bt tab _) % 256) = _
  rw [hd, hmm, bt_tab _ (by omega), bt_tab _ (by omega)]
  congr 1
  exact cnt_split n hn
end Go.Proofs.Ytedbegibkcegnac.M
end
section
namespace Go.Proofs.Ytedbegibkcegnac.M
open Go.RowKit Go.Proofs.YtedbegibkcegnacW.PrintWords Go.Proofs.YtedbegibkcegnacW.PrintLast Go.Proofs.YtedbegibkcegnacW.PrintMore
attribute [local go_sem] max2_int min2_int max_two min_two max_three min_three max_four min_four
set_option linter.unusedVariables false
set_option linter.unusedSimpArgs false
theorem stitchesIn_f (x : Int) (h0 : 0 ≤ x) (h1 : x < 65536) : impl_StitchesIn.f x = some (sumBits x 16) := by
  unfold impl_StitchesIn.f
  rw [ones_all x h0 h1]
  rfl
def clr (m : Int) (i : Nat) : Int := Go.bits .andNot .u16 m (shl .u16 1 (i : Int))
def seenOf (m : Int) : Nat → List Int
  | 0 => [m]
  | n + 1 => if bitAt m n = 1 then seenOf m n ++ [clr m n] else seenOf m n
theorem seen_len (m : Int) : ∀ n, (seenOf m n).length ≤ n + 1
  | 0 => Nat.le_refl _
  | n + 1 => by
    have := seen_len m n
    unfold seenOf
    split
    · rw [List.length_append]
      simp
      omega
    · omega
theorem specSeen_ev (m : Int) (h0 : 0 ≤ m) : Ev (fun k => spec_l06Seen.f k m) (seenOf m 16) := by
  refine Ev.loop (L := fun k s => spec_l06Seen.l0 k m s.1 s.2) (fun s d => ∃ i : Nat, i + d = 16 ∧ s = (seenOf m i, (i : Int))) ?_ 16 ([m], 0) ⟨0, by omega, rfl⟩
  rintro ⟨acc, ii⟩ d ⟨i, hd, e⟩
  cases e
  have hb := seen_len m i
  by_cases c : i < 16
  · refine .inr ⟨(seenOf m (i + 1), ((i + 1 : Nat) : Int)), d - 1, by omega, ⟨i + 1, by omega, rfl⟩, 0, fun k _ => ?_⟩
    dsimp only
    rw [spec_l06Seen.l0]
    rw [if_pos (by omega), u64_nat i (by omega), if_pos (by omega), bit_mod m h0 i (by omega), w64 ((i : Int) + 1) (by omega) (by omega)]
    by_cases q : bitAt m i = 1
    · have e : seenOf m (i + 1) = seenOf m i ++ [clr m i] := by rw [seenOf, if_pos q]
      rw [if_pos q, if_pos (by omega), e]
      rfl
    · have e : seenOf m (i + 1) = seenOf m i := by rw [seenOf, if_neg q]
      rw [if_neg q, e]
      rfl
  · obtain rfl : i = 16 := by omega
    refine .inl ⟨0, fun k _ => ?_⟩
    dsimp only
    rw [spec_l06Seen.l0]
    rw [if_neg (by omega)]
theorem implLost_ev (m : Int) (h0 : 0 ≤ m) (h1 : m < 65536) : Ev (fun k => impl_Mark_lost.f k m) (seenOf m 12) := by
  refine Ev.loop (L := fun k s => impl_Mark_lost.l0 k m s.1 s.2) (fun s d => ∃ i : Nat, i + d = 12 ∧ s = (seenOf m i, (i : Int))) ?_ 12 ([m], 0) ⟨0, by omega, rfl⟩
  rintro ⟨acc, ii⟩ d ⟨i, hd, e⟩
  cases e
  have hb := seen_len m i
  by_cases c : i < 12
  · refine .inr ⟨(seenOf m (i + 1), ((i + 1 : Nat) : Int)), d - 1, by omega, ⟨i + 1, by omega, rfl⟩, 0, fun k _ => ?_⟩
    dsimp only
    rw [impl_Mark_lost.l0]
    rw [if_pos (by omega), if_pos (by omega), bit_and m h0 h1 i (by omega), w64 ((i : Int) + 1) (by omega) (by omega)]
    by_cases q : bitAt m i = 1
    · have e : seenOf m (i + 1) = seenOf m i ++ [clr m i] := by rw [seenOf, if_pos q]
      rw [if_pos q, if_pos (by omega), e]
      rfl
    · have e : seenOf m (i + 1) = seenOf m i := by rw [seenOf, if_neg q]
      rw [if_neg q, e]
      rfl
  · obtain rfl : i = 12 := by omega
    refine .inl ⟨0, fun k _ => ?_⟩
    dsimp only
    rw [impl_Mark_lost.l0]
    rw [if_neg (by omega)]
theorem bitAt_high (m : Int) (h0 : 0 ≤ m) (h1 : m < 4096) (i : Nat) (h : 12 ≤ i) : bitAt m i = 0 := by
  unfold bitAt
  have hp : (2 : Int) ^ 12 ≤ 2 ^ i := by
    have h2 : (2 ^ 12 : Nat) ≤ 2 ^ i := Nat.pow_le_pow_right (n := 2) (by decide) h
    have h3 : ((2 ^ 12 : Nat) : Int) ≤ ((2 ^ i : Nat) : Int) := Int.ofNat_le.mpr h2
    rw [Int.natCast_pow, Int.natCast_pow] at h3
    exact h3
  rw [Int.ediv_eq_zero_of_lt h0 (by omega)]
  rfl
theorem seen_12 (m : Int) (h0 : 0 ≤ m) (h1 : m < 4096) : seenOf m 16 = seenOf m 12 := by
  have e (i : Nat) (h : 12 ≤ i) : seenOf m (i + 1) = seenOf m i := by
    rw [seenOf, if_neg (by rw [bitAt_high m h0 h1 i h]; decide)]
  rw [e 15 (by omega), e 14 (by omega), e 13 (by omega), e 12 (by omega)]
end Go.Proofs.Ytedbegibkcegnac.M
end
