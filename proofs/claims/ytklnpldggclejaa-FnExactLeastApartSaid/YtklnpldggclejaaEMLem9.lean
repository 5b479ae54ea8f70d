/- LeastApart: what the program's and the reference's come to. Condition: a mark is a uint16, the list is not longer than memory. -/
import Derived.Test.YtklnpldggclejaaEEvLoop
import Derived.Test.YtklnpldggclejaaEMBits
import Derived.Test.YtklnpldggclejaaEMLem
import Derived.Test.YtklnpldggclejaaEMLem2
import Derived.Test.YtklnpldggclejaaEMLem3
import Derived.Test.YtklnpldggclejaaEMLem4
import Derived.Test.YtklnpldggclejaaEMarkCode
import Derived.Test.YtklnpldggclejaaM0
import Derived.Test.YtklnpldggclejaaM10
import Derived.Test.YtklnpldggclejaaM2
import Derived.Test.YtklnpldggclejaaM26
import Derived.Test.YtklnpldggclejaaM4
namespace Go.Proofs.Ytklnpldggclejaa.M
open Go.RowKit Go.Proofs.YtklnpldggclejaaW.PrintWords Go.Proofs.YtklnpldggclejaaW.PrintLast Go.Proofs.YtklnpldggclejaaW.PrintMore
attribute [local go_sem] max2_int min2_int max_two min_two max_three min_three max_four min_four
set_option linter.unusedVariables false
set_option linter.unusedSimpArgs false
theorem xor_le (a b : Int) (ha : 0 ≤ a ∧ a < 4096) (hb : 0 ≤ b ∧ b < 4096) : 0 ≤ sumBits (Go.bits .xor .u16 a b) 16 ∧ sumBits (Go.bits .xor .u16 a b) 16 ≤ 12 := by
  obtain ⟨m, rfl⟩ := Int.eq_ofNat_of_zero_le ha.1
  obtain ⟨n, rfl⟩ := Int.eq_ofNat_of_zero_le hb.1
  have hm : m < 2 ^ 12 := by omega
  have hn : n < 2 ^ 12 := by omega
  have z : ∀ i, 12 ≤ i → i < 16 → bitAt (Go.bits .xor .u16 (m : Int) (n : Int)) i = 0 := by
    intro i h1 h2
    rw [bit_bits_xor m n i h2, Nat.testBit_lt_two_pow (Nat.lt_of_lt_of_le hm (Nat.pow_le_pow_right (by omega) h1)), Nat.testBit_lt_two_pow (Nat.lt_of_lt_of_le hn (Nat.pow_le_pow_right (by omega) h1))]
    rfl
  have s := sumBits_bd (Go.bits .xor .u16 (m : Int) (n : Int)) 12
  have e : sumBits (Go.bits .xor .u16 (m : Int) (n : Int)) 16 = sumBits (Go.bits .xor .u16 (m : Int) (n : Int)) 12 := by
    rw [sumBits, sumBits, sumBits, sumBits, z 12 (by omega) (by omega), z 13 (by omega) (by omega), z 14 (by omega) (by omega), z 15 (by omega) (by omega)]
    omega
  omega
def updL (c t : Int) : Int := if c < 0 then t else if t < c then t else c
/-- The least number of stitches apart: of the first i marks with one another, from c; of mark i with the first j. -/
def leastRow (l : List Int) (i : Nat) (c : Int) : Nat → Int
  | 0 => c
  | j + 1 => updL (leastRow l i c j) (sumBits (Go.bits .xor .u16 (rd l (i : Nat)) (rd l (j : Nat))) 16)
def leastTo (l : List Int) : Nat → Int
  | 0 => -1
  | i + 1 => leastRow l i (leastTo l i) i
def impL (c : Int) : Int := if c < 0 then 12 else c
theorem mn_imp (c t : Int) (hc : -1 ≤ c ∧ c ≤ 12) (ht : 0 ≤ t ∧ t ≤ 12) : mn (impL c) t = impL (updL c t) ∧ -1 ≤ updL c t ∧ updL c t ≤ 12 ∧ 0 ≤ updL c t := by
  unfold mn impL updL
  repeat' split
  all_goals omega
theorem leastRow_bd (l : List Int) (hv : ∀ m ∈ l, 0 ≤ m ∧ m < 4096) (i : Nat) (hi : i < l.length) (c : Int) (hc : -1 ≤ c ∧ c ≤ 12) : ∀ j, j ≤ i → (-1 ≤ leastRow l i c j ∧ leastRow l i c j ≤ 12) ∧ (0 < j → 0 ≤ leastRow l i c j)
  | 0, _ => ⟨hc, fun h => absurd h (by omega)⟩
  | j + 1, h => by
    have ih := leastRow_bd l hv i hi c hc j (by omega)
    have x := xor_le l[i] (l[j]'(by omega)) (hv _ (List.getElem_mem _)) (hv _ (List.getElem_mem _))
    have m := mn_imp _ _ ih.1 x
    rw [leastRow, rd_of_lt l i hi, rd_of_lt l j (by omega)]
    exact ⟨⟨m.2.1, m.2.2.1⟩, fun _ => m.2.2.2⟩
theorem least_bd (l : List Int) (hv : ∀ m ∈ l, 0 ≤ m ∧ m < 4096) : ∀ i, i ≤ l.length → (-1 ≤ leastTo l i ∧ leastTo l i ≤ 12) ∧ (1 < i → 0 ≤ leastTo l i)
  | 0, _ => ⟨by show (-1 : Int) ≤ -1 ∧ (-1 : Int) ≤ 12; omega, fun h => absurd h (by omega)⟩
  | i + 1, h => by
    have ih := least_bd l hv i (by omega)
    have r := leastRow_bd l hv i (by omega) _ ih.1 i (by omega)
    exact ⟨r.1, fun h => r.2 (by omega)⟩
theorem least_small (l : List Int) (h : l.length ≤ 1) : leastTo l l.length = -1 := by
  rcases l with _ | ⟨a, _ | ⟨b, l⟩⟩
  · rfl
  · rfl
  · simp at h
theorem specRow_ev (l : List Int) (hv : ∀ m ∈ l, 0 ≤ m ∧ m < 4096) (hl : l.length ≤ 1000) (i : Nat) (hi : i < l.length) (c : Int) (R : Int × Int) (next : Ev (fun k => spec_LeastApart.l0 k l (leastRow l i c i) ((i + 1 : Nat) : Int)) R) (d : Nat) : ∀ j : Nat, j + d = i → Ev (fun k => spec_LeastApart.l1 k l (leastRow l i c j) (i : Int) (j : Int)) R := by
  induction d with
  | zero =>
    intro j hd
    obtain rfl : j = i := by omega
    have w1 : wrap64 ((j : Int) + 1) = ((j + 1 : Nat) : Int) := by rw [w64 _ (by omega) (by omega)]; rfl
    refine Ev.step (f := fun k => spec_LeastApart.l0 k l (leastRow l j c j) ((j + 1 : Nat) : Int)) (fun k => ?_) next
    rw [spec_LeastApart.l1]
    rw [if_neg (by omega), w1]
  | succ d ih =>
    intro j hd
    have hj : j < l.length := by omega
    have w1 : wrap64 ((j : Int) + 1) = ((j + 1 : Nat) : Int) := by rw [w64 _ (by omega) (by omega)]; rfl
    have n := ih (j + 1) (by omega)
    have X := bits_u16_bd .xor l[i] l[j]
    rw [leastRow, rd_of_lt l i hi, rd_of_lt l j hj] at n
    unfold updL at n
    generalize leastRow l i c j = p at *
    refine Ev.step (f := fun k => (spec_l06Count.f k (Go.bits .xor .u16 l[i] l[j])).bind fun t300 => (if p < 0 then (spec_LeastApart.l1 k l t300 (i : Int) ((j + 1 : Nat) : Int)) else (if t300 < p then (spec_LeastApart.l1 k l t300 (i : Int) ((j + 1 : Nat) : Int)) else (spec_LeastApart.l1 k l p (i : Int) ((j + 1 : Nat) : Int))))) (fun k => by rw [spec_LeastApart.l1]; rw [if_pos (by omega), if_pos (by omega), if_pos (by omega), if_pos (by omega), if_pos (by omega), rd_of_lt l i hi, rd_of_lt l j hj, w1]) ?_
    refine Ev.bind (count_ev _ X.1 X.2) ?_
    by_cases z : p < 0
    · rw [if_pos z] at n
      exact Ev.ite_t z n
    · rw [if_neg z] at n
      refine Ev.ite_f z ?_
      by_cases z2 : sumBits (Go.bits .xor .u16 l[i] l[j]) 16 < p
      · rw [if_pos z2] at n
        exact Ev.ite_t z2 n
      · rw [if_neg z2] at n
        exact Ev.ite_f z2 n
theorem implRow_ev (l : List Int) (hv : ∀ m ∈ l, 0 ≤ m ∧ m < 4096) (hl : l.length ≤ 1000) (i : Nat) (hi : i < l.length) (c : Int) (hc : -1 ≤ c ∧ c ≤ 12) (R : Int × Int) (next : Ev (fun k => impl_LeastApart.l0 k l (impL (leastRow l i c i)) l (l.length : Int) ((i + 1 : Nat) : Int)) R) (d : Nat) : ∀ j : Nat, j + d = i → Ev (fun k => impl_LeastApart.l1 k l (impL (leastRow l i c j)) l[i] l (l.length : Int) (i : Int) (l.take i) ((l.take i).length : Int) (j : Int)) R := by
  have tl : (l.take i).length = i := by rw [List.length_take]; omega
  induction d with
  | zero =>
    intro j hd
    obtain rfl : j = i := by omega
    have w1 : wrap64 ((j : Int) + 1) = ((j + 1 : Nat) : Int) := by rw [w64 _ (by omega) (by omega)]; rfl
    refine Ev.step (f := fun k => impl_LeastApart.l0 k l (impL (leastRow l j c j)) l (l.length : Int) ((j + 1 : Nat) : Int)) (fun k => ?_) next
    rw [impl_LeastApart.l1]
    rw [if_neg (by omega), w1]
  | succ d ih =>
    intro j hd
    have hj : j < l.length := by omega
    have w1 : wrap64 ((j : Int) + 1) = ((j + 1 : Nat) : Int) := by rw [w64 _ (by omega) (by omega)]; rfl
    have n := ih (j + 1) (by omega)
    have X := bits_u16_bd .xor l[i] l[j]
    have eX := stitchesIn_f _ X.1 X.2
    have bd := leastRow_bd l hv i hi c hc j (by omega)
    have x := xor_le l[i] l[j] (hv _ (List.getElem_mem _)) (hv _ (List.getElem_mem _))
    have m := mn_imp _ _ bd.1 x
    have er : rd (l.take i) (j : Int) = l[j] := by rw [rd_of_lt (l.take i) j (by omega)]; simp
    rw [leastRow, rd_of_lt l i hi, rd_of_lt l j hj, ← m.1] at n
    generalize leastRow l i c j = p at *
    refine Ev.step (f := fun k => impl_LeastApart.l1 k l (mn (impL p) (sumBits (Go.bits .xor .u16 l[i] l[j]) 16)) l[i] l (l.length : Int) (i : Int) (l.take i) ((l.take i).length : Int) ((j + 1 : Nat) : Int)) (fun k => ?_) n
    rw [impl_LeastApart.l1]
    rw [if_pos (by omega), if_pos (by omega), if_pos (by omega), er, eX, Option.bind_some, w1]
theorem specLeast_ev (l : List Int) (hv : ∀ m ∈ l, 0 ≤ m ∧ m < 4096) (hl : l.length ≤ 1000) (d : Nat) : ∀ i : Nat, i + d = l.length → Ev (fun k => spec_LeastApart.l0 k l (leastTo l i) (i : Int)) (if leastTo l l.length < 0 then (0, 6) else (leastTo l l.length, 0)) := by
  induction d with
  | zero =>
    intro i hd
    obtain rfl : i = l.length := by omega
    refine Ev.step (f := fun _ => some (if leastTo l l.length < 0 then (0, 6) else (leastTo l l.length, 0))) (fun k => ?_) (Ev.const rfl)
    rw [spec_LeastApart.l0]
    rw [if_neg (by omega)]
    split <;> rfl
  | succ d ih =>
    intro i hd
    have hi : i < l.length := by omega
    refine Ev.step (f := fun k => spec_LeastApart.l1 k l (leastTo l i) (i : Int) 0) (fun k => by rw [spec_LeastApart.l0]; rw [if_pos (by omega)]) ?_
    exact specRow_ev l hv hl i hi (leastTo l i) _ (ih (i + 1) (by omega)) i 0 (by omega)
theorem implLeast_ev (l : List Int) (hv : ∀ m ∈ l, 0 ≤ m ∧ m < 4096) (hl : l.length ≤ 1000) (d : Nat) : ∀ i : Nat, i + d = l.length → Ev (fun k => impl_LeastApart.l0 k l (impL (leastTo l i)) l (l.length : Int) (i : Int)) (impL (leastTo l l.length), 0) := by
  induction d with
  | zero =>
    intro i hd
    obtain rfl : i = l.length := by omega
    refine Ev.step (f := fun _ => some (impL (leastTo l l.length), 0)) (fun k => ?_) (Ev.const rfl)
    rw [impl_LeastApart.l0]
    rw [if_neg (by omega)]
  | succ d ih =>
    intro i hd
    have hi : i < l.length := by omega
    have bd := least_bd l hv i (by omega)
    have n := implRow_ev l hv hl i hi (leastTo l i) bd.1 _ (ih (i + 1) (by omega)) i 0 (by omega)
    refine Ev.step (f := fun k => impl_LeastApart.l1 k l (impL (leastTo l i)) l[i] l (l.length : Int) (i : Int) (l.take i) ((l.take i).length : Int) 0) (fun k => ?_) n
    rw [impl_LeastApart.l0]
    rw [if_pos (by omega), if_pos (by omega), if_pos (by omega), if_pos (by omega), rd_of_lt l i hi]
    rfl
theorem code3_ev (n : Int) (l : List Int) : Ev (fun k => (impl_markCode.f n l).bind fun a => (impl_fewMarks.f l).bind fun b => impl_firstOf.f k [a, b, if (l.length : Int) > 1 then 0 else 6]) (if listCode n l = 0 then (if (l.length : Int) > 1 then 0 else 6) else listCode n l) := by
  rw [implCode_f, few_f]
  refine Ev.congr (f := fun k => impl_firstOf.f k [if 1 ≤ n ∧ n ≤ 12 then (if l.any (fun m => !okMark n m) = true then 1 else 0) else 1, if l.length ≤ 40 then 0 else 3, if (l.length : Int) > 1 then 0 else 6]) (fun k => rfl) ?_
  have e := firstOf_ev [if 1 ≤ n ∧ n ≤ 12 then (if l.any (fun m => !okMark n m) = true then 1 else 0) else 1, if l.length ≤ 40 then 0 else 3, if (l.length : Int) > 1 then 0 else 6] (by simp)
  have q : ∀ z : Int, firstNZ [if 1 ≤ n ∧ n ≤ 12 then (if l.any (fun m => !okMark n m) = true then (1 : Int) else 0) else 1, if l.length ≤ 40 then 0 else 3, z] = if listCode n l = 0 then z else listCode n l := by
    intro z
    unfold listCode
    by_cases c : 1 ≤ n ∧ n ≤ 12
    · rw [if_pos c, if_pos c]
      by_cases d : l.any (fun m => !okMark n m) = true
      · rw [if_pos d, if_pos d]; rfl
      · rw [if_neg d, if_neg d]
        by_cases f : l.length ≤ 40
        · rw [if_pos f, if_neg (show ¬ l.length > 40 by omega)]
          show (if (0 : Int) = 0 then (if (0 : Int) = 0 then (if z = 0 then 0 else z) else 0) else 0) = if (0 : Int) = 0 then z else 0
          rw [if_pos rfl, if_pos rfl, if_pos rfl]
          split <;> omega
        · rw [if_neg f, if_pos (show l.length > 40 by omega)]; rfl
    · rw [if_neg c, if_neg c]; rfl
  rw [q] at e
  exact e
/-- What LeastApart answers. -/
def leastApart (n : Int) (l : List Int) : Int × Int := if listCode n l = 0 then (if l.length ≤ 1 then (0, 6) else (leastTo l l.length, 0)) else (0, listCode n l)
theorem LeastApart_both (n : Int) (l : List Int) (hm : l.length ≤ 4611686018427387904) (hv : ∀ m ∈ l, 0 ≤ m ∧ m < 65536) :
    Ev (fun k => spec_LeastApart.f k n l) (leastApart n l) ∧ Ev (fun k => impl_LeastApart.f k n l) (leastApart n l) := by
  have hs := specList_ev n l hm
  have hi := code3_ev n l
  have e : ∀ k, impl_LeastApart.f k n l = ((impl_markCode.f n l).bind fun a => (impl_fewMarks.f l).bind fun b => impl_firstOf.f k [a, b, if (l.length : Int) > 1 then 0 else 6]).bind fun t => if t = 0 then impl_LeastApart.l0 k l 12 l (l.length : Int) 0 else some (0, t) := by
    intro k
    unfold impl_LeastApart.f
    rw [implCode_f, few_f, unless_d]
    rfl
  unfold leastApart
  by_cases c : listCode n l = 0
  · obtain ⟨v1, v2⟩ := valid_bd n l hv c
    have bd := least_bd l v2 l.length (by omega)
    rw [c] at hs
    rw [if_pos c] at hi ⊢
    have r1 := specLeast_ev l v2 v1 l.length 0 (by omega)
    by_cases h : l.length ≤ 1
    · rw [show (if (l.length : Int) > 1 then (0 : Int) else 6) = 6 from if_neg (by omega)] at hi e
      rw [if_pos h]
      rw [least_small l h] at r1
      exact ⟨Ev.bind hs (Ev.ite_t rfl r1), Ev.congr e (Ev.bind hi (Ev.ite_f (by omega) (Ev.const rfl)))⟩
    · rw [show (if (l.length : Int) > 1 then (0 : Int) else 6) = 0 from if_pos (by omega)] at hi e
      rw [if_neg h]
      have b0 := bd.2 (by omega)
      have r2 := implLeast_ev l v2 v1 l.length 0 (by omega)
      rw [if_neg (by omega)] at r1
      unfold impL at r2
      rw [if_neg (show ¬ leastTo l l.length < 0 by omega)] at r2
      exact ⟨Ev.bind hs (Ev.ite_t rfl r1), Ev.congr e (Ev.bind hi (Ev.ite_t rfl r2))⟩
  · rw [if_neg c] at hi ⊢
    exact ⟨Ev.bind hs (Ev.ite_f c (Ev.const rfl)), Ev.congr e (Ev.bind hi (Ev.ite_f c (Ev.const rfl)))⟩

end Go.Proofs.Ytklnpldggclejaa.M
