import Derived.Test.YtcmcdjnjlimeeaazFMarksEMLem
import Derived.Test.YtcmcdjnjlimeeaazFMarksM0
import Derived.Test.YtcmcdjnjlimeeaazFMarksM10
namespace Go.Proofs.Ytcmcdjnjlimeeaa.M
open Go.RowKit Go.Proofs.YtcmcdjnjlimeeaaW.PrintWords Go.Proofs.YtcmcdjnjlimeeaaW.PrintLast Go.Proofs.YtcmcdjnjlimeeaaW.PrintMore
attribute [local go_sem] max2_int min2_int max_two min_two max_three min_three max_four min_four
set_option linter.unusedVariables false
set_option linter.unusedSimpArgs false
def tab : ByteArray := ⟨#[0, 1, 1, 2, 1, 2, 2, 3, 1, 2, 2, 3, 2, 3, 3, 4, 1, 2, 2, 3, 2, 3, 3, 4, 2, 3, 3, 4, 3, 4, 4, 5, 1, 2, 2, 3, 2, 3, 3, 4, 2, 3, 3, 4, 3, 4, 4, 5, 2, 3, 3, 4, 3, 4, 4, 5, 3, 4, 4, 5, 4, 5, 5, 6, 1, 2, 2, 3, 2, 3, 3, 4, 2, 3, 3, 4, 3, 4, 4, 5, 2, 3, 3, 4, 3, 4, 4, 5, 3, 4, 4, 5, 4, 5, 5, 6, 2, 3, 3, 4, 3, 4, 4, 5, 3, 4, 4, 5, 4, 5, 5, 6, 3, 4, 4, 5, 4, 5, 5, 6, 4, 5, 5, 6, 5, 6, 6, 7, 1, 2, 2, 3, 2, 3, 3, 4, 2, 3, 3, 4, 3, 4, 4, 5, 2, 3, 3, 4, 3, 4, 4, 5, 3, 4, 4, 5, 4, 5, 5, 6, 2, 3, 3, 4, 3, 4, 4, 5, 3, 4, 4, 5, 4, 5, 5, 6, 3, 4, 4, 5, 4, 5, 5, 6, 4, 5, 5, 6, 5, 6, 6, 7, 2, 3, 3, 4, 3, 4, 4, 5, 3, 4, 4, 5, 4, 5, 5, 6, 3, 4, 4, 5, 4, 5, 5, 6, 4, 5, 5, 6, 5, 6, 6, 7, 3, 4, 4, 5, 4, 5, 5, 6, 4, 5, 5, 6, 5, 6, 6, 7, 4, 5, 5, 6, 5, 6, 6, 7, 5, 6, 6, 7, 6, 7, 7, 8]⟩
def cnt8 (n : Nat) : Nat := n % 2 + n / 2 % 2 + n / 4 % 2 + n / 8 % 2 + n / 16 % 2 + n / 32 % 2 + n / 64 % 2 + n / 128 % 2
theorem tab_cnt : ∀ n : Fin 256, (tab.data[n.val]?.map (·.toNat)) = some (cnt8 n.val) := by decide +kernel
theorem bt_tab (n : Nat) (h : n < 256) : bt tab n = cnt8 n := by
  have t := tab_cnt ⟨n, h⟩
  have hs : tab.size = 256 := by decide +kernel
  unfold bt
  rw [dif_pos (by rw [hs]; omega)]
  have hz : n < tab.data.size := by have : tab.data.size = 256 := hs; omega
  rw [Array.getElem?_eq_getElem hz] at t
  simp only [Option.map_some, Option.some.injEq] at t
  have : ((tab[(n : Int).toNat]'(by rw [hs]; omega)).toNat) = cnt8 n := t
  rw [this]
theorem low_bit (n k j : Nat) (h : 256 = 2 ^ k * 2 * j) : n % 256 / 2 ^ k % 2 = n / 2 ^ k % 2 := by
  have e : n = 2 ^ k * (2 * j * (n / 256)) + n % 256 := by
    have t := Nat.div_add_mod n 256
    have u : 2 ^ k * (2 * j * (n / 256)) = 256 * (n / 256) := by rw [h]; simp [Nat.mul_assoc]
    omega
  have p : 0 < 2 ^ k := Nat.two_pow_pos k
  have q : n / 2 ^ k = 2 * j * (n / 256) + n % 256 / 2 ^ k := by
    conv => lhs; rw [e]
    rw [Nat.mul_add_div p]
  rw [q, Nat.mul_assoc, Nat.mul_add_mod]
theorem cnt_split (n : Nat) (hn : n < 65536) : ((cnt8 (n / 256) : Int) + (cnt8 (n % 256) : Int)) % 256 = sumBits n 16 := by
  have a (k : Nat) : (n : Int) / 2 ^ k % 2 = ((n / 2 ^ k % 2 : Nat) : Int) := by simp
  simp only [sumBits, bitAt, a]
  unfold cnt8
  have l0 := low_bit n 0 128 (by decide)
  have l1 := low_bit n 1 64 (by decide)
  have l2 := low_bit n 2 32 (by decide)
  have l3 := low_bit n 3 16 (by decide)
  have l4 := low_bit n 4 8 (by decide)
  have l5 := low_bit n 5 4 (by decide)
  have l6 := low_bit n 6 2 (by decide)
  have l7 := low_bit n 7 1 (by decide)
  simp only [Nat.reducePow, Nat.div_div_eq_div_mul, Nat.reduceMul, Nat.div_one] at l0 l1 l2 l3 l4 l5 l6 l7 ⊢
  rw [l0, l1, l2, l3, l4, l5, l6, l7]
  have b (q : Nat) : q % 2 < 2 := Nat.mod_lt _ (by decide)
  have b0 := b n
  have b1 := b (n / 2)
  have b2 := b (n / 4)
  have b3 := b (n / 8)
  have b4 := b (n / 16)
  have b5 := b (n / 32)
  have b6 := b (n / 64)
  have b7 := b (n / 128)
  have b8 := b (n / 256)
  have b9 := b (n / 512)
  have b10 := b (n / 1024)
  have b11 := b (n / 2048)
  have b12 := b (n / 4096)
  have b13 := b (n / 8192)
  have b14 := b (n / 16384)
  have b15 := b (n / 32768)
  generalize n % 2 = x0 at *
  generalize n / 2 % 2 = x1 at *
  generalize n / 4 % 2 = x2 at *
  generalize n / 8 % 2 = x3 at *
  generalize n / 16 % 2 = x4 at *
  generalize n / 32 % 2 = x5 at *
  generalize n / 64 % 2 = x6 at *
  generalize n / 128 % 2 = x7 at *
  generalize n / 256 % 2 = x8 at *
  generalize n / 512 % 2 = x9 at *
  generalize n / 1024 % 2 = x10 at *
  generalize n / 2048 % 2 = x11 at *
  generalize n / 4096 % 2 = x12 at *
  generalize n / 8192 % 2 = x13 at *
  generalize n / 16384 % 2 = x14 at *
  generalize n / 32768 % 2 = x15 at *
  clear l0 l1 l2 l3 l4 l5 l6 l7 a b
  omega
theorem ones_all (x : Int) (h0 : 0 ≤ x) (h1 : x < 65536) : bits_OnesCount16.f x = some (sumBits x 16) := by
  obtain ⟨n, rfl⟩ := Int.eq_ofNat_of_zero_le h0
  have hm : Go.bits .and .u16 (n : Int) 255 = (n : Int) % 256 := bits_mask .u16 16 (by decide) (fun m a b => IntWalk.u16_in m ⟨a, by omega⟩) 8 (by decide) n h0 (by simpa using h1)
  have hd : ((n : Int) / 256) = ((n / 256 : Nat) : Int) := rfl
  have hmm : ((n : Int) % 256) = ((n % 256 : Nat) : Int) := rfl
  have hn : n < 65536 := by omega
  unfold bits_OnesCount16.f
  rw [hm]
  rw [if_pos (by omega), if_pos (by omega), if_pos (by omega), if_pos (by omega)]
  show some ((bt tab _ + bt tab _) % 256) = _
  rw [hd, hmm, bt_tab _ (by omega), bt_tab _ (by omega)]
  congr 1
  exact cnt_split n hn
end Go.Proofs.Ytcmcdjnjlimeeaa.M
