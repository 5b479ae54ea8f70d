/- The program's StitchesIn answers as the reference's for every mark. No condition. -/
import Derived.Test.YtdengckenddcoaaX1
namespace Go.Proofs.Ytdengckenddcoaa.Pure
open Go.RowKit Go.Proofs.Ytdengckenddcoaa.X Go.Proofs.YtdengckenddcoaaW.PrintWords Go.Proofs.YtdengckenddcoaaW.PrintLast
set_option linter.unusedSimpArgs false
set_option linter.unusedVariables false

def sumBits (x : Int) : Nat → Int
  | 0 => 0
  | n + 1 => sumBits x n + x / 2 ^ n % 2
theorem sumBits_bd (x : Int) : ∀ n : Nat, 0 ≤ sumBits x n ∧ sumBits x n ≤ n
  | 0 => ⟨Int.le_refl _, Int.le_refl _⟩
  | n + 1 => by
    have := sumBits_bd x n
    unfold sumBits
    omega
theorem pow16 (i : Nat) (hi : i ≤ 16) : ((i : Int).toNat) = i := by omega
theorem shr_at (x : Int) (h0 : 0 ≤ x) (i : Nat) (h : i < 16) : shr .u16 x (i : Int) = x / 2 ^ i := by
  unfold shr
  have e : min (i : Int).toNat IntKind.u16.bits = i := Nat.min_eq_left (Nat.le_of_lt h)
  rw [e]
theorem quo_bd (x : Int) (h0 : 0 ≤ x) (i : Nat) : 0 ≤ x / 2 ^ i ∧ x / 2 ^ i ≤ x :=
  ⟨Int.ediv_nonneg h0 (Int.le_of_lt (Int.pow_pos (by decide))), Int.ediv_le_self _ h0⟩
theorem step (x : Int) (h0 : 0 ≤ x) (h1 : x < 65536) (k i : Nat) (h : i < 16) : spec_l06Count.l0 (k + 1) x (sumBits x i) i = spec_l06Count.l0 k x (sumBits x (i + 1)) ((i + 1 : Nat) : Int) := by
  have e : IntKind.u64.wrap (i : Int) = i := IntWalk.u64_in _ ⟨by omega, by omega⟩
  have hb := sumBits_bd x i
  have hq := quo_bd x h0 i
  rw [spec_l06Count.l0]
  rw [if_pos (by omega), e, if_pos (by omega), shr_at x h0 i h]
  rw [sumBits]
  generalize x / 2 ^ i = q at *
  generalize sumBits x i = s at *
  rw [IntWalk.wrap64_in q ⟨by omega, by omega⟩, Int.tmod_eq_emod_of_nonneg hq.1, IntWalk.wrap64_in (s + q % 2) ⟨by omega, by omega⟩, IntWalk.wrap64_in ((i : Int) + 1) ⟨by omega, by omega⟩]
  rfl
theorem count_all (x : Int) (h0 : 0 ≤ x) (h1 : x < 65536) (d : Nat) : ∀ (i : Nat), i + d = 16 → spec_l06Count.l0 (d + 1) x (sumBits x i) i = some (sumBits x 16) := by
  induction d with
  | zero =>
    intro i h
    obtain rfl : i = 16 := by omega
    rw [spec_l06Count.l0]
    rw [if_neg (by decide)]
  | succ d ih =>
    intro i h
    rw [step x h0 h1 (d + 1) i (by omega)]
    exact ih (i + 1) (by omega)
def tab : ByteArray := ⟨#[0, 1, 1, 2, 1, 2, 2, 3, 1, 2, 2, 3, 2, 3, 3, 4, 1, 2, 2, 3, 2, 3, 3, 4, 2, 3, 3, 4, 3, 4, 4, 5, 1, 2, 2, 3, 2, 3, 3, 4, 2, 3, 3, 4, 3, 4, 4, 5, 2, 3, 3, 4, 3, 4, 4, 5, 3, 4, 4, 5, 4, 5, 5, 6, 1, 2, 2, 3, 2, 3, 3, 4, 2, 3, 3, 4, 3, 4, 4, 5, 2, 3, 3, 4, 3, 4, 4, 5, 3, 4, 4, 5, 4, 5, 5, 6, 2, 3, 3, 4, 3, 4, 4, 5, 3, 4, 4, 5, 4, 5, 5, 6, 3, 4, 4, 5, 4, 5, 5, 6, 4, 5, 5, 6, 5, 6, 6, 7, 1, 2, 2, 3, 2, 3, 3, 4, 2, 3, 3, 4, 3, 4, 4, 5, 2, 3, 3, 4, 3, 4, 4, 5, 3, 4, 4, 5, 4, 5, 5, 6, 2, 3, 3, 4, 3, 4, 4, 5, 3, 4, 4, 5, 4, 5, 5, 6, 3, 4, 4, 5, 4, 5, 5, 6, 4, 5, 5, 6, 5, 6, 6, 7, 2, 3, 3, 4, 3, 4, 4, 5, 3, 4, 4, 5, 4, 5, 5, 6, 3, 4, 4, 5, 4, 5, 5, 6, 4, 5, 5, 6, 5, 6, 6, 7, 3, 4, 4, 5, 4, 5, 5, 6, 4, 5, 5, 6, 5, 6, 6, 7, 4, 5, 5, 6, 5, 6, 6, 7, 5, 6, 6, 7, 6, 7, 7, 8]⟩
def cnt8 (n : Nat) : Nat := n % 2 + n / 2 % 2 + n / 4 % 2 + n / 8 % 2 + n / 16 % 2 + n / 32 % 2 + n / 64 % 2 + n / 128 % 2
theorem tab_cnt : ∀ n : Fin 256, (tab.data[n.val]?.map (·.toNat)) = some (cnt8 n.val) := by decide +kernel
theorem bt_tab (n : Nat) (h : n < 256) : bt tab n = cnt8 n := by
  have t := tab_cnt ⟨n, h⟩
  have hs : tab.size = 256 := by decide +kernel
  unfold bt
  rw [dif_pos (by rw [hs]; omega)]
  have hz : n < tab.data.size := by have : tab.data.size = 256 := hs; omega
  rw [Array.getElem?_eq_getElem hz] at t
  simp only [Option.map_some, Option.some.injEq] at t
  have : ((tab[(n : Int).toNat]'(by rw [hs]; omega)).toNat) = cnt8 n := t
  rw [this]
theorem low_bit (n k j : Nat) (h : 256 = 2 ^ k * 2 * j) : n % 256 / 2 ^ k % 2 = n / 2 ^ k % 2 := by
  have e : n = 2 ^ k * (2 * j * (n / 256)) + n % 256 := by
    have t := Nat.div_add_mod n 256
    have u : 2 ^ k * (2 * j * (n / 256)) = 256 * (n / 256) := by rw [h]; simp [Nat.mul_assoc]
    omega
  have p : 0 < 2 ^ k := Nat.two_pow_pos k
  have q : n / 2 ^ k = 2 * j * (n / 256) + n % 256 / 2 ^ k := by
    conv => lhs; rw [e]
    rw [Nat.mul_add_div p]
  rw [q, Nat.mul_assoc, Nat.mul_add_mod]
theorem cnt_split (n : Nat) (hn : n < 65536) : ((cnt8 (n / 256) : Int) + (cnt8 (n % 256) : Int)) % 256 = sumBits n 16 := by
  have a (k : Nat) : (n : Int) / 2 ^ k % 2 = ((n / 2 ^ k % 2 : Nat) : Int) := by simp
  simp only [sumBits, a]
  unfold cnt8
  have l0 := low_bit n 0 128 (by decide)
  have l1 := low_bit n 1 64 (by decide)
  have l2 := low_bit n 2 32 (by decide)
  have l3 := low_bit n 3 16 (by decide)
  have l4 := low_bit n 4 8 (by decide)
  have l5 := low_bit n 5 4 (by decide)
  have l6 := low_bit n 6 2 (by decide)
  have l7 := low_bit n 7 1 (by decide)
  simp only [Nat.reducePow, Nat.div_div_eq_div_mul, Nat.reduceMul, Nat.div_one] at l0 l1 l2 l3 l4 l5 l6 l7 ⊢
  rw [l0, l1, l2, l3, l4, l5, l6, l7]
  have b (q : Nat) : q % 2 < 2 := Nat.mod_lt _ (by decide)
  have b0 := b n
  have b1 := b (n / 2)
  have b2 := b (n / 4)
  have b3 := b (n / 8)
  have b4 := b (n / 16)
  have b5 := b (n / 32)
  have b6 := b (n / 64)
  have b7 := b (n / 128)
  have b8 := b (n / 256)
  have b9 := b (n / 512)
  have b10 := b (n / 1024)
  have b11 := b (n / 2048)
  have b12 := b (n / 4096)
  have b13 := b (n / 8192)
  have b14 := b (n / 16384)
  have b15 := b (n / 32768)
  generalize n % 2 = x0 at *
  generalize n / 2 % 2 = x1 at *
  generalize n / 4 % 2 = x2 at *
  generalize n / 8 % 2 = x3 at *
  generalize n / 16 % 2 = x4 at *
  generalize n / 32 % 2 = x5 at *
  generalize n / 64 % 2 = x6 at *
  generalize n / 128 % 2 = x7 at *
  generalize n / 256 % 2 = x8 at *
  generalize n / 512 % 2 = x9 at *
  generalize n / 1024 % 2 = x10 at *
  generalize n / 2048 % 2 = x11 at *
  generalize n / 4096 % 2 = x12 at *
  generalize n / 8192 % 2 = x13 at *
  generalize n / 16384 % 2 = x14 at *
  generalize n / 32768 % 2 = x15 at *
  clear l0 l1 l2 l3 l4 l5 l6 l7 a b
  omega
theorem ones_all (x : Int) (h0 : 0 ≤ x) (h1 : x < 65536) : bits_OnesCount16.f x = some (sumBits x 16) := by
  obtain ⟨n, rfl⟩ := Int.eq_ofNat_of_zero_le h0
  have hm : Go.bits .and .u16 (n : Int) 255 = (n : Int) % 256 := bits_mask .u16 16 (by decide) (fun m a b => IntWalk.u16_in m ⟨a, by omega⟩) 8 (by decide) n h0 (by simpa using h1)
  have hd : ((n : Int) / 256) = ((n / 256 : Nat) : Int) := rfl
  have hmm : ((n : Int) % 256) = ((n % 256 : Nat) : Int) := rfl
  have hn : n < 65536 := by omega
  unfold bits_OnesCount16.f
  rw [hm]
  rw [if_pos (by omega), if_pos (by omega), if_pos (by omega), if_pos (by omega)]
  show some ((bt tab _ + bt tab _) % 256) = _
  rw [hd, hmm, bt_tab _ (by omega), bt_tab _ (by omega)]
  congr 1
  exact cnt_split n hn

theorem FnExactStitchesIn : laws_FnExactStitchesIn.Pure := by
  intro x hx
  have hb : 0 ≤ x ∧ x < 65536 := by
    have h := hx
    simp [Lit.wf, IntKind.min, IntKind.max, IntKind.bits, IntKind.signed] at h
    omega
  obtain ⟨h0, h1⟩ := hb
  refine ⟨17, ?_⟩
  unfold laws_FnExactStitchesIn.f spec_StitchesIn.f impl_StitchesIn.f spec_l06Count.f
  have e := count_all x h0 h1 16 0 rfl
  have e0 : sumBits x 0 = 0 := rfl
  rw [e0] at e
  have e' : spec_l06Count.l0 17 x 0 0 = some (sumBits x 16) := e
  rw [e', ones_all x h0 h1]
  simp

end Go.Proofs.Ytdengckenddcoaa.Pure
