import Derived.Test.YtedbegibkcegnaczFSortedEMLem2
import Derived.Test.YtedbegibkcegnaczFSortedM0
import Derived.Test.YtedbegibkcegnaczFSortedM17
import Derived.Test.YtedbegibkcegnaczFSortedEMLem7i
import Derived.Test.YtedbegibkcegnaczFSortedERead
import Derived.Test.YtedbegibkcegnaczFSortedM16
import Derived.Test.YtedbegibkcegnaczFSortedM3
import Derived.Test.YtedbegibkcegnaczFSortedEPredMark
import Derived.Test.YtedbegibkcegnaczFSortedM8
import Derived.Test.YtedbegibkcegnaczFSortedM18
import Derived.Test.YtedbegibkcegnaczFSortedEShort
section
namespace Go.Proofs.Ytedbegibkcegnac.M
open Go.RowKit Go.Proofs.YtedbegibkcegnacW.PrintWords Go.Proofs.YtedbegibkcegnacW.PrintLast Go.Proofs.YtedbegibkcegnacW.PrintMore
attribute [local go_sem] max2_int min2_int max_two min_two max_three min_three max_four min_four
set_option linter.unusedVariables false
set_option linter.unusedSimpArgs false
theorem count_ev (x : Int) (h0 : 0 ≤ x) (h1 : x < 65536) : Ev (fun k => spec_l06Count.f k x) (sumBits x 16) := by
  refine Ev.loop (L := fun k s => spec_l06Count.l0 k x s.1 s.2) (fun s d => ∃ i : Nat, i + d = 16 ∧ s = (sumBits x i, (i : Int))) ?_ 16 (0, 0) ⟨0, by omega, rfl⟩
  rintro ⟨acc, ii⟩ d ⟨i, hd, e⟩
  obtain ⟨rfl, rfl⟩ := Prod.mk.inj e
  by_cases c : i < 16
  · refine .inr ⟨(sumBits x (i + 1), ((i + 1 : Nat) : Int)), d - 1, by omega, ⟨i + 1, by omega, rfl⟩, 0, fun k _ => ?_⟩
    have hb := sumBits_bd x i
    have hq := quo_bd x h0 i
    have hs := bitAt_01 x i
    show spec_l06Count.l0 (k + 1) x _ _ = spec_l06Count.l0 k x _ _
    rw [spec_l06Count.l0]
    rw [if_pos (by omega), u64_nat i (by omega), if_pos (by omega), w64 (shr .u16 x (i : Int)) (by rw [shr_nat x i (by omega)]; omega) (by rw [shr_nat x i (by omega)]; omega), bit_mod x h0 i (by omega), w64 _ (by omega) (by omega), w64 _ (by omega) (by omega)]
    rfl
  · obtain rfl : i = 16 := by omega
    refine .inl ⟨0, fun k _ => ?_⟩
    show spec_l06Count.l0 (k + 1) x _ _ = _
    rw [spec_l06Count.l0]
    rw [if_neg (by omega)]
end Go.Proofs.Ytedbegibkcegnac.M
end
section
namespace Go.Proofs.Ytedbegibkcegnac.M
open Go.RowKit Go.Proofs.YtedbegibkcegnacW.PrintWords Go.Proofs.YtedbegibkcegnacW.PrintLast Go.Proofs.YtedbegibkcegnacW.PrintMore
attribute [local go_sem] max2_int min2_int max_two min_two max_three min_three max_four min_four
set_option linter.unusedVariables false
set_option linter.unusedSimpArgs false
def lostOf (m s : Int) : Int := sumBits m 16 - sumBits s 16
def likely (l : List Int) (s : Int) : Nat → Int × List Int
  | 0 => (-1, [])
  | i + 1 =>
    let p := likely l s i
    if Go.bits .andNot .u16 s (rd l (i : Nat)) = 0 then
      (if p.1 < 0 ∨ lostOf (rd l (i : Nat)) s < p.1 then (lostOf (rd l (i : Nat)) s, [(i : Int)])
       else if lostOf (rd l (i : Nat)) s = p.1 then (p.1, p.2 ++ [(i : Int)]) else p)
    else p
theorem likely_len (l : List Int) (s : Int) : ∀ i, (likely l s i).2.length ≤ i
  | 0 => Nat.le_refl _
  | i + 1 => by
    have ih := likely_len l s i
    unfold likely
    dsimp only
    split
    · split
      · simp
      · split
        · rw [List.length_append]; simp; omega
        · omega
    · omega
theorem likely_bd (l : List Int) (s : Int) : ∀ i, -16 ≤ (likely l s i).1 ∧ (likely l s i).1 ≤ 16
  | 0 => ⟨by show (-16 : Int) ≤ -1; omega, by show (-1 : Int) ≤ 16; omega⟩
  | i + 1 => by
    have ih := likely_bd l s i
    have a := sumBits_bd (rd l (i : Nat)) 16
    have b := sumBits_bd s 16
    unfold likely
    dsimp only
    split
    · split
      · unfold lostOf; dsimp only; omega
      · split
        · exact ih
        · exact ih
    · exact ih
theorem lost_nonneg (m s : Nat) (h : Go.bits .andNot .u16 (s : Int) (m : Int) = 0) : 0 ≤ lostOf (m : Int) (s : Int) := by
  have e := sumBits_andNot m s h 16 (by omega)
  have := sumBits_bd (Go.bits .andNot .u16 (m : Int) (s : Int)) 16
  unfold lostOf
  omega
theorem likely_in (l : List Int) (s : Int) (i : Nat) (h : i < l.length) : likely l s (i + 1) =
    if Go.bits .andNot .u16 s l[i] = 0 then
      (if (likely l s i).1 < 0 ∨ lostOf l[i] s < (likely l s i).1 then (lostOf l[i] s, [(i : Int)])
       else if lostOf l[i] s = (likely l s i).1 then ((likely l s i).1, (likely l s i).2 ++ [(i : Int)]) else likely l s i)
    else likely l s i := by
  rw [likely, rd_of_lt l i h]
theorem specLikely_ev (l : List Int) (s : Int) (hl : ∀ x ∈ l, 0 ≤ x ∧ x < 65536) (hs : 0 ≤ s ∧ s < 65536) (hm : l.length ≤ 1048576) (d : Nat) : ∀ i : Nat, i + d = l.length → Ev (fun k => spec_LikelyLost.l0 k l s (likely l s i).1 (likely l s i).2 (i : Int)) ((likely l s l.length).2, 0) := by
  induction d with
  | zero =>
    intro i hd
    obtain rfl : i = l.length := by omega
    refine Ev.step (f := fun _ => some ((likely l s l.length).2, 0)) (fun k => ?_) (Ev.const rfl)
    rw [spec_LikelyLost.l0]
    rw [if_neg (by omega)]
  | succ d ih =>
    intro i hd
    have c : i < l.length := by omega
    have hlen := likely_len l s i
    have hbd := likely_bd l s i
    have hx := hl l[i] (List.getElem_mem c)
    have a := sumBits_bd l[i] 16
    have b := sumBits_bd s 16
    have w1 : wrap64 ((i : Int) + 1) = ((i + 1 : Nat) : Int) := by rw [w64 _ (by omega) (by omega)]; rfl
    have w2 : wrap64 (sumBits l[i] 16 - sumBits s 16) = lostOf l[i] s := w64 _ (by omega) (by omega)
    have next := ih (i + 1) (by omega)
    rw [likely_in l s i c] at next
    generalize likely l s i = p at *
    refine Ev.step (f := fun k => if (Go.bits .andNot .u16 s l[i]) = 0 then ((spec_l06Count.f k l[i]).bind fun t486 => ((spec_l06Count.f k s).bind fun t487 => (if p.1 < 0 then (spec_LikelyLost.j1 k l s p.1 p.2 (i : Int) (wrap64 (t486 - t487)) true) else (spec_LikelyLost.j1 k l s p.1 p.2 (i : Int) (wrap64 (t486 - t487)) (decide ((wrap64 (t486 - t487)) < p.1)))))) else (spec_LikelyLost.l0 k l s p.1 p.2 ((i + 1 : Nat) : Int))) (fun k => by rw [spec_LikelyLost.l0]; rw [if_pos (by omega), if_pos (by omega), rd_of_lt l i c, w1]) ?_
    by_cases q : Go.bits .andNot .u16 s l[i] = 0
    · rw [if_pos q] at next
      refine Ev.ite_t q (Ev.bind (count_ev l[i] hx.1 hx.2) (Ev.bind (count_ev s hs.1 hs.2) ?_))
      rw [w2]
      have stepT : p.1 < 0 ∨ lostOf l[i] s < p.1 → Ev (fun k => spec_LikelyLost.j1 k l s p.1 p.2 (i : Int) (lostOf l[i] s) true) ((likely l s l.length).2, 0) := by
        intro z
        rw [if_pos z] at next
        refine Ev.step (f := fun k => spec_LikelyLost.l0 k l s (lostOf l[i] s) [(i : Int)] ((i + 1 : Nat) : Int)) (fun k => ?_) next
        rw [spec_LikelyLost.j1]
        rw [if_pos rfl, Option.bind_some, if_pos (by simp), w1]
        rfl
      by_cases z0 : p.1 < 0
      · exact Ev.ite_t z0 (stepT (.inl z0))
      · refine Ev.ite_f z0 ?_
        by_cases z1 : lostOf l[i] s < p.1
        · rw [decide_eq_true z1]
          exact stepT (.inr z1)
        · rw [decide_eq_false z1]
          rw [if_neg (by omega)] at next
          by_cases z2 : lostOf l[i] s = p.1
          · rw [if_pos z2] at next
            refine Ev.step (f := fun k => spec_LikelyLost.l0 k l s p.1 (p.2 ++ [(i : Int)]) ((i + 1 : Nat) : Int)) (fun k => ?_) next
            rw [spec_LikelyLost.j1]
            rw [if_neg (by decide), if_pos z2, if_pos (by omega), w1]
          · rw [if_neg z2] at next
            refine Ev.step (f := fun k => spec_LikelyLost.l0 k l s p.1 p.2 ((i + 1 : Nat) : Int)) (fun k => ?_) next
            rw [spec_LikelyLost.j1]
            rw [if_neg (by decide), if_neg z2, w1]
    · rw [if_neg q] at next
      exact Ev.ite_f q next
theorem implLikely_ev (l : List Int) (s : Int) (hl : ∀ x ∈ l, 0 ≤ x ∧ x < 65536) (hs : 0 ≤ s ∧ s < 65536) (hm : l.length ≤ 1048576) (d : Nat) : ∀ i : Nat, i + d = l.length → Ev (fun k => impl_LikelyLost.l0 k s (likely l s i).2 (likely l s i).1 l (l.length : Int) (i : Int)) ((likely l s l.length).2, 0) := by
  induction d with
  | zero =>
    intro i hd
    obtain rfl : i = l.length := by omega
    refine Ev.step (f := fun _ => some ((likely l s l.length).2, 0)) (fun k => ?_) (Ev.const rfl)
    rw [impl_LikelyLost.l0]
    rw [if_neg (by omega)]
  | succ d ih =>
    intro i hd
    have c : i < l.length := by omega
    have hlen := likely_len l s i
    have hx := hl l[i] (List.getElem_mem c)
    have w1 : wrap64 ((i : Int) + 1) = ((i + 1 : Nat) : Int) := by rw [w64 _ (by omega) (by omega)]; rfl
    have next := ih (i + 1) (by omega)
    rw [likely_in l s i c] at next
    have hX := bits_u16_bd .andNot l[i] s
    have eX := stitchesIn_f (Go.bits .andNot .u16 l[i] s) hX.1 hX.2
    have sk : ∀ (p : Int × List Int) (v : Int), Ev (fun k => impl_LikelyLost.l0 k s p.2 p.1 l (l.length : Int) ((i + 1 : Nat) : Int)) ((likely l s l.length).2, 0) → Ev (fun k => impl_LikelyLost.j1 k s p.2 p.1 (i : Int) v l (l.length : Int) (i : Int) true) ((likely l s l.length).2, 0) := by
      intro p v h
      refine Ev.step (f := fun k => impl_LikelyLost.l0 k s p.2 p.1 l (l.length : Int) ((i + 1 : Nat) : Int)) (fun k => ?_) h
      rw [impl_LikelyLost.j1]
      rw [if_pos rfl, w1]
    by_cases q : Go.bits .andNot .u16 s l[i] = 0
    · rw [if_pos q] at next
      obtain ⟨m, hm2⟩ := Int.eq_ofNat_of_zero_le hx.1
      obtain ⟨t, ht⟩ := Int.eq_ofNat_of_zero_le hs.1
      have eL : sumBits (Go.bits .andNot .u16 l[i] s) 16 = lostOf l[i] s := by
        have h := q
        rw [hm2, ht] at h ⊢
        exact sumBits_andNot m t h 16 (by omega)
      rw [eL] at eX
      generalize likely l s i = p at *
      refine Ev.step (f := fun k => if p.1 ≥ 0 then (impl_LikelyLost.j1 k s p.2 p.1 (i : Int) (lostOf l[i] s) l (l.length : Int) (i : Int) (decide (lostOf l[i] s > p.1))) else (impl_LikelyLost.j1 k s p.2 p.1 (i : Int) (lostOf l[i] s) l (l.length : Int) (i : Int) false)) (fun k => by rw [impl_LikelyLost.l0]; rw [if_pos (by omega), if_pos (by omega), if_pos (by omega), rd_of_lt l i c, eX, Option.bind_some, if_pos q]) ?_
      by_cases z0 : p.1 ≥ 0
      · refine Ev.ite_t z0 ?_
        by_cases z1 : lostOf l[i] s > p.1
        · rw [decide_eq_true z1]
          rw [if_neg (by omega), if_neg (by omega)] at next
          exact sk p _ next
        · rw [decide_eq_false z1]
          by_cases z2 : lostOf l[i] s < p.1
          · rw [if_pos (.inr z2)] at next
            refine Ev.step (f := fun k => impl_LikelyLost.l0 k s [(i : Int)] (lostOf l[i] s) l (l.length : Int) ((i + 1 : Nat) : Int)) (fun k => ?_) next
            rw [impl_LikelyLost.j1]
            rw [if_neg (by decide), if_neg (by omega), if_pos z2, if_pos (by simp), w1]
            rfl
          · rw [if_neg (by omega), if_pos (by omega)] at next
            refine Ev.step (f := fun k => impl_LikelyLost.l0 k s (p.2 ++ [(i : Int)]) p.1 l (l.length : Int) ((i + 1 : Nat) : Int)) (fun k => ?_) next
            rw [impl_LikelyLost.j1]
            rw [if_neg (by decide), if_neg (by omega), if_neg z2, if_pos (by omega), w1]
      · refine Ev.ite_f z0 ?_
        rw [if_pos (.inl (by omega))] at next
        refine Ev.step (f := fun k => impl_LikelyLost.l0 k s [(i : Int)] (lostOf l[i] s) l (l.length : Int) ((i + 1 : Nat) : Int)) (fun k => ?_) next
        rw [impl_LikelyLost.j1]
        rw [if_neg (by decide), if_pos (by omega), if_pos (by simp), w1]
        rfl
    · rw [if_neg q] at next
      generalize likely l s i = p at *
      refine Ev.step (f := fun k => impl_LikelyLost.j1 k s p.2 p.1 (i : Int) (sumBits (Go.bits .andNot .u16 l[i] s) 16) l (l.length : Int) (i : Int) true) (fun k => by rw [impl_LikelyLost.l0]; rw [if_pos (by omega), if_pos (by omega), if_pos (by omega), rd_of_lt l i c, eX, Option.bind_some, if_neg q]) ?_
      exact sk p _ next
def likelyLost (n : Int) (l : List Int) (s : Int) : List Int × Int := if codeSeen n l s = 0 then ((likely l s l.length).2, 0) else ([], codeSeen n l s)
theorem LikelyLost_both (n : Int) (l : List Int) (s : Int) (hm : l.length ≤ 1048576) (hv : ∀ m ∈ l, 0 ≤ m ∧ m < 65536) (hs : 0 ≤ s ∧ s < 65536) :
    Ev (fun k => spec_LikelyLost.f k n l s) (likelyLost n l s) ∧ Ev (fun k => impl_LikelyLost.f k n l s) (likelyLost n l s) := by
  have hi := codeSeen_ev n l s
  have e : ∀ k, impl_LikelyLost.f k n l s = ((impl_markCode.f n (l ++ [s])).bind fun a => (impl_fewMarks.f l).bind fun b => impl_firstOf.f k [a, b]).bind fun t => if t = 0 then impl_LikelyLost.l0 k s [] (-1) l (l.length : Int) 0 else some ([], t) := by
    intro k
    unfold impl_LikelyLost.f
    rw [clone_f l hm, Option.bind_some, if_pos (by omega), implCode_f, few_f]
    rfl
  unfold likelyLost
  by_cases c : codeSeen n l s = 0
  · obtain ⟨c1, c2⟩ := codeSeen_zero n l s c
    have hl := specList_ev n l (by omega)
    rw [c2] at hl
    rw [c] at hi
    rw [if_pos c]
    refine ⟨?_, Ev.congr e (Ev.bind hi (Ev.ite_t rfl (implLikely_ev l s hv hs hm l.length 0 (by omega))))⟩
    refine Ev.congr (f := fun k => (spec_l06List.f k n l).bind fun t477 => (if t477 = 0 then (spec_LikelyLost.l0 k l s (-1) (([] : List Int)) 0) else (some ((([] : List Int)), t477)))) (fun k => by unfold spec_LikelyLost.f; rw [ok_f, c1]; rfl) ?_
    exact Ev.bind hl (Ev.ite_t rfl (specLikely_ev l s hv hs hm l.length 0 (by omega)))
  · rw [if_neg c]
    refine ⟨?_, Ev.congr e (Ev.bind hi (Ev.ite_f c (Ev.const rfl)))⟩
    cases o : okMark n s with
    | false =>
      have e : codeSeen n l s = 1 := by unfold codeSeen; rw [o]; rfl
      rw [e]
      exact Ev.fixed (fun k => by unfold spec_LikelyLost.f; rw [ok_f, o]; rfl)
    | true =>
      have e : codeSeen n l s = listCode n l := by unfold codeSeen; rw [o]; rfl
      rw [e] at c ⊢
      refine Ev.congr (f := fun k => (spec_l06List.f k n l).bind fun t477 => (if t477 = 0 then (spec_LikelyLost.l0 k l s (-1) (([] : List Int)) 0) else (some ((([] : List Int)), t477)))) (fun k => by unfold spec_LikelyLost.f; rw [ok_f, o]; rfl) ?_
      exact Ev.bind (specList_ev n l (by omega)) (Ev.ite_f c (Ev.const rfl))
end Go.Proofs.Ytedbegibkcegnac.M
end
section
namespace Go.Proofs.Ytedbegibkcegnac.M
open Go.RowKit Go.Proofs.YtedbegibkcegnacW.PrintWords Go.Proofs.YtedbegibkcegnacW.PrintLast Go.Proofs.YtedbegibkcegnacW.PrintMore
attribute [local go_sem] max2_int min2_int max_two min_two max_three min_three max_four min_four
set_option linter.unusedVariables false
set_option linter.unusedSimpArgs false
theorem xor_le (a b : Int) (ha : 0 ≤ a ∧ a < 4096) (hb : 0 ≤ b ∧ b < 4096) : 0 ≤ sumBits (Go.bits .xor .u16 a b) 16 ∧ sumBits (Go.bits .xor .u16 a b) 16 ≤ 12 := by
  obtain ⟨m, rfl⟩ := Int.eq_ofNat_of_zero_le ha.1
  obtain ⟨n, rfl⟩ := Int.eq_ofNat_of_zero_le hb.1
  have hm : m < 2 ^ 12 := by omega
  have hn : n < 2 ^ 12 := by omega
  have z : ∀ i, 12 ≤ i → i < 16 → bitAt (Go.bits .xor .u16 (m : Int) (n : Int)) i = 0 := by
    intro i h1 h2
    rw [bit_bits_xor m n i h2, Nat.testBit_lt_two_pow (Nat.lt_of_lt_of_le hm (Nat.pow_le_pow_right (by omega) h1)), Nat.testBit_lt_two_pow (Nat.lt_of_lt_of_le hn (Nat.pow_le_pow_right (by omega) h1))]
    rfl
  have s := sumBits_bd (Go.bits .xor .u16 (m : Int) (n : Int)) 12
  have e : sumBits (Go.bits .xor .u16 (m : Int) (n : Int)) 16 = sumBits (Go.bits .xor .u16 (m : Int) (n : Int)) 12 := by
    rw [sumBits, sumBits, sumBits, sumBits, z 12 (by omega) (by omega), z 13 (by omega) (by omega), z 14 (by omega) (by omega), z 15 (by omega) (by omega)]
    omega
  omega
def updL (c t : Int) : Int := if c < 0 then t else if t < c then t else c
def leastRow (l : List Int) (i : Nat) (c : Int) : Nat → Int
  | 0 => c
  | j + 1 => updL (leastRow l i c j) (sumBits (Go.bits .xor .u16 (rd l (i : Nat)) (rd l (j : Nat))) 16)
def leastTo (l : List Int) : Nat → Int
  | 0 => -1
  | i + 1 => leastRow l i (leastTo l i) i
def impL (c : Int) : Int := if c < 0 then 12 else c
theorem mn_imp (c t : Int) (hc : -1 ≤ c ∧ c ≤ 12) (ht : 0 ≤ t ∧ t ≤ 12) : mn (impL c) t = impL (updL c t) ∧ -1 ≤ updL c t ∧ updL c t ≤ 12 ∧ 0 ≤ updL c t := by
  unfold mn impL updL
  repeat' split
  all_goals omega
theorem leastRow_bd (l : List Int) (hv : ∀ m ∈ l, 0 ≤ m ∧ m < 4096) (i : Nat) (hi : i < l.length) (c : Int) (hc : -1 ≤ c ∧ c ≤ 12) : ∀ j, j ≤ i → (-1 ≤ leastRow l i c j ∧ leastRow l i c j ≤ 12) ∧ (0 < j → 0 ≤ leastRow l i c j)
  | 0, _ => ⟨hc, fun h => absurd h (by omega)⟩
  | j + 1, h => by
    have ih := leastRow_bd l hv i hi c hc j (by omega)
    have x := xor_le l[i] (l[j]'(by omega)) (hv _ (List.getElem_mem _)) (hv _ (List.getElem_mem _))
    have m := mn_imp _ _ ih.1 x
    rw [leastRow, rd_of_lt l i hi, rd_of_lt l j (by omega)]
    exact ⟨⟨m.2.1, m.2.2.1⟩, fun _ => m.2.2.2⟩
theorem least_bd (l : List Int) (hv : ∀ m ∈ l, 0 ≤ m ∧ m < 4096) : ∀ i, i ≤ l.length → (-1 ≤ leastTo l i ∧ leastTo l i ≤ 12) ∧ (1 < i → 0 ≤ leastTo l i)
  | 0, _ => ⟨by show (-1 : Int) ≤ -1 ∧ (-1 : Int) ≤ 12; omega, fun h => absurd h (by omega)⟩
  | i + 1, h => by
    have ih := least_bd l hv i (by omega)
    have r := leastRow_bd l hv i (by omega) _ ih.1 i (by omega)
    exact ⟨r.1, fun h => r.2 (by omega)⟩
theorem least_small (l : List Int) (h : l.length ≤ 1) : leastTo l l.length = -1 := by
  rcases l with _ | ⟨a, _ | ⟨b, l⟩⟩
  · rfl
  · rfl
  · simp at h
theorem specRow_ev (l : List Int) (hv : ∀ m ∈ l, 0 ≤ m ∧ m < 4096) (hl : l.length ≤ 1000) (i : Nat) (hi : i < l.length) (c : Int) (R : Int × Int) (next : Ev (fun k => spec_LeastApart.l0 k l (leastRow l i c i) ((i + 1 : Nat) : Int)) R) (d : Nat) : ∀ j : Nat, j + d = i → Ev (fun k => spec_LeastApart.l1 k l (leastRow l i c j) (i : Int) (j : Int)) R := by
  induction d with
  | zero =>
    intro j hd
    obtain rfl : j = i := by omega
    have w1 : wrap64 ((j : Int) + 1) = ((j + 1 : Nat) : Int) := by rw [w64 _ (by omega) (by omega)]; rfl
    refine Ev.step (f := fun k => spec_LeastApart.l0 k l (leastRow l j c j) ((j + 1 : Nat) : Int)) (fun k => ?_) next
    rw [spec_LeastApart.l1]
    rw [if_neg (by omega), w1]
  | succ d ih =>
    intro j hd
    have hj : j < l.length := by omega
    have w1 : wrap64 ((j : Int) + 1) = ((j + 1 : Nat) : Int) := by rw [w64 _ (by omega) (by omega)]; rfl
    have n := ih (j + 1) (by omega)
    have X := bits_u16_bd .xor l[i] l[j]
    rw [leastRow, rd_of_lt l i hi, rd_of_lt l j hj] at n
    unfold updL at n
    generalize leastRow l i c j = p at *
    refine Ev.step (f := fun k => (spec_l06Count.f k (Go.bits .xor .u16 l[i] l[j])).bind fun t300 => (if p < 0 then (spec_LeastApart.l1 k l t300 (i : Int) ((j + 1 : Nat) : Int)) else (if t300 < p then (spec_LeastApart.l1 k l t300 (i : Int) ((j + 1 : Nat) : Int)) else (spec_LeastApart.l1 k l p (i : Int) ((j + 1 : Nat) : Int))))) (fun k => by rw [spec_LeastApart.l1]; rw [if_pos (by omega), if_pos (by omega), if_pos (by omega), if_pos (by omega), if_pos (by omega), rd_of_lt l i hi, rd_of_lt l j hj, w1]) ?_
    refine Ev.bind (count_ev _ X.1 X.2) ?_
    by_cases z : p < 0
    · rw [if_pos z] at n
      exact Ev.ite_t z n
    · rw [if_neg z] at n
      refine Ev.ite_f z ?_
      by_cases z2 : sumBits (Go.bits .xor .u16 l[i] l[j]) 16 < p
      · rw [if_pos z2] at n
        exact Ev.ite_t z2 n
      · rw [if_neg z2] at n
        exact Ev.ite_f z2 n
theorem implRow_ev (l : List Int) (hv : ∀ m ∈ l, 0 ≤ m ∧ m < 4096) (hl : l.length ≤ 1000) (i : Nat) (hi : i < l.length) (c : Int) (hc : -1 ≤ c ∧ c ≤ 12) (R : Int × Int) (next : Ev (fun k => impl_LeastApart.l0 k l (impL (leastRow l i c i)) l (l.length : Int) ((i + 1 : Nat) : Int)) R) (d : Nat) : ∀ j : Nat, j + d = i → Ev (fun k => impl_LeastApart.l1 k l (impL (leastRow l i c j)) l[i] l (l.length : Int) (i : Int) (l.take i) ((l.take i).length : Int) (j : Int)) R := by
  have tl : (l.take i).length = i := by rw [List.length_take]; omega
  induction d with
  | zero =>
    intro j hd
    obtain rfl : j = i := by omega
    have w1 : wrap64 ((j : Int) + 1) = ((j + 1 : Nat) : Int) := by rw [w64 _ (by omega) (by omega)]; rfl
    refine Ev.step (f := fun k => impl_LeastApart.l0 k l (impL (leastRow l j c j)) l (l.length : Int) ((j + 1 : Nat) : Int)) (fun k => ?_) next
    rw [impl_LeastApart.l1]
    rw [if_neg (by omega), w1]
  | succ d ih =>
    intro j hd
    have hj : j < l.length := by omega
    have w1 : wrap64 ((j : Int) + 1) = ((j + 1 : Nat) : Int) := by rw [w64 _ (by omega) (by omega)]; rfl
    have n := ih (j + 1) (by omega)
    have X := bits_u16_bd .xor l[i] l[j]
    have eX := stitchesIn_f _ X.1 X.2
    have bd := leastRow_bd l hv i hi c hc j (by omega)
    have x := xor_le l[i] l[j] (hv _ (List.getElem_mem _)) (hv _ (List.getElem_mem _))
    have m := mn_imp _ _ bd.1 x
    have er : rd (l.take i) (j : Int) = l[j] := by rw [rd_of_lt (l.take i) j (by omega)]; simp
    rw [leastRow, rd_of_lt l i hi, rd_of_lt l j hj, ← m.1] at n
    generalize leastRow l i c j = p at *
    refine Ev.step (f := fun k => impl_LeastApart.l1 k l (mn (impL p) (sumBits (Go.bits .xor .u16 l[i] l[j]) 16)) l[i] l (l.length : Int) (i : Int) (l.take i) ((l.take i).length : Int) ((j + 1 : Nat) : Int)) (fun k => ?_) n
    rw [impl_LeastApart.l1]
    rw [if_pos (by omega), if_pos (by omega), if_pos (by omega), er, eX, Option.bind_some, w1]
theorem specLeast_ev (l : List Int) (hv : ∀ m ∈ l, 0 ≤ m ∧ m < 4096) (hl : l.length ≤ 1000) (d : Nat) : ∀ i : Nat, i + d = l.length → Ev (fun k => spec_LeastApart.l0 k l (leastTo l i) (i : Int)) (if leastTo l l.length < 0 then (0, 6) else (leastTo l l.length, 0)) := by
  induction d with
  | zero =>
    intro i hd
    obtain rfl : i = l.length := by omega
    refine Ev.step (f := fun _ => some (if leastTo l l.length < 0 then (0, 6) else (leastTo l l.length, 0))) (fun k => ?_) (Ev.const rfl)
    rw [spec_LeastApart.l0]
    rw [if_neg (by omega)]
    split <;> rfl
  | succ d ih =>
    intro i hd
    have hi : i < l.length := by omega
    refine Ev.step (f := fun k => spec_LeastApart.l1 k l (leastTo l i) (i : Int) 0) (fun k => by rw [spec_LeastApart.l0]; rw [if_pos (by omega)]) ?_
    exact specRow_ev l hv hl i hi (leastTo l i) _ (ih (i + 1) (by omega)) i 0 (by omega)
theorem implLeast_ev (l : List Int) (hv : ∀ m ∈ l, 0 ≤ m ∧ m < 4096) (hl : l.length ≤ 1000) (d : Nat) : ∀ i : Nat, i + d = l.length → Ev (fun k => impl_LeastApart.l0 k l (impL (leastTo l i)) l (l.length : Int) (i : Int)) (impL (leastTo l l.length), 0) := by
  induction d with
  | zero =>
    intro i hd
    obtain rfl : i = l.length := by omega
    refine Ev.step (f := fun _ => some (impL (leastTo l l.length), 0)) (fun k => ?_) (Ev.const rfl)
    rw [impl_LeastApart.l0]
    rw [if_neg (by omega)]
  | succ d ih =>
    intro i hd
    have hi : i < l.length := by omega
    have bd := least_bd l hv i (by omega)
    have n := implRow_ev l hv hl i hi (leastTo l i) bd.1 _ (ih (i + 1) (by omega)) i 0 (by omega)
    refine Ev.step (f := fun k => impl_LeastApart.l1 k l (impL (leastTo l i)) l[i] l (l.length : Int) (i : Int) (l.take i) ((l.take i).length : Int) 0) (fun k => ?_) n
    rw [impl_LeastApart.l0]
    rw [if_pos (by omega), if_pos (by omega), if_pos (by omega), if_pos (by omega), rd_of_lt l i hi]
    rfl
theorem code3_ev (n : Int) (l : List Int) : Ev (fun k => (impl_markCode.f n l).bind fun a => (impl_fewMarks.f l).bind fun b => impl_firstOf.f k [a, b, if (l.length : Int) > 1 then 0 else 6]) (if listCode n l = 0 then (if (l.length : Int) > 1 then 0 else 6) else listCode n l) := by
  rw [implCode_f, few_f]
  refine Ev.congr (f := fun k => impl_firstOf.f k [if 1 ≤ n ∧ n ≤ 12 then (if l.any (fun m => !okMark n m) = true then 1 else 0) else 1, if l.length ≤ 40 then 0 else 3, if (l.length : Int) > 1 then 0 else 6]) (fun k => rfl) ?_
  have e := firstOf_ev [if 1 ≤ n ∧ n ≤ 12 then (if l.any (fun m => !okMark n m) = true then 1 else 0) else 1, if l.length ≤ 40 then 0 else 3, if (l.length : Int) > 1 then 0 else 6] (by simp)
  have q : ∀ z : Int, firstNZ [if 1 ≤ n ∧ n ≤ 12 then (if l.any (fun m => !okMark n m) = true then (1 : Int) else 0) else 1, if l.length ≤ 40 then 0 else 3, z] = if listCode n l = 0 then z else listCode n l := by
    intro z
    unfold listCode
    by_cases c : 1 ≤ n ∧ n ≤ 12
    · rw [if_pos c, if_pos c]
      by_cases d : l.any (fun m => !okMark n m) = true
      · rw [if_pos d, if_pos d]; rfl
      · rw [if_neg d, if_neg d]
        by_cases f : l.length ≤ 40
        · rw [if_pos f, if_neg (show ¬ l.length > 40 by omega)]
          show (if (0 : Int) = 0 then (if (0 : Int) = 0 then (if z = 0 then 0 else z) else 0) else 0) = if (0 : Int) = 0 then z else 0
          rw [if_pos rfl, if_pos rfl, if_pos rfl]
          split <;> omega
        · rw [if_neg f, if_pos (show l.length > 40 by omega)]; rfl
    · rw [if_neg c, if_neg c]; rfl
  rw [q] at e
  exact e
def leastApart (n : Int) (l : List Int) : Int × Int := if listCode n l = 0 then (if l.length ≤ 1 then (0, 6) else (leastTo l l.length, 0)) else (0, listCode n l)
theorem LeastApart_both (n : Int) (l : List Int) (hm : l.length ≤ 4611686018427387904) (hv : ∀ m ∈ l, 0 ≤ m ∧ m < 65536) :
    Ev (fun k => spec_LeastApart.f k n l) (leastApart n l) ∧ Ev (fun k => impl_LeastApart.f k n l) (leastApart n l) := by
  have hs := specList_ev n l hm
  have hi := code3_ev n l
  have e : ∀ k, impl_LeastApart.f k n l = ((impl_markCode.f n l).bind fun a => (impl_fewMarks.f l).bind fun b => impl_firstOf.f k [a, b, if (l.length : Int) > 1 then 0 else 6]).bind fun t => if t = 0 then impl_LeastApart.l0 k l 12 l (l.length : Int) 0 else some (0, t) := by
    intro k
    unfold impl_LeastApart.f
    rw [implCode_f, few_f, unless_d]
    rfl
  unfold leastApart
  by_cases c : listCode n l = 0
  · obtain ⟨v1, v2⟩ := valid_bd n l hv c
    have bd := least_bd l v2 l.length (by omega)
    rw [c] at hs
    rw [if_pos c] at hi ⊢
    have r1 := specLeast_ev l v2 v1 l.length 0 (by omega)
    by_cases h : l.length ≤ 1
    · rw [show (if (l.length : Int) > 1 then (0 : Int) else 6) = 6 from if_neg (by omega)] at hi e
      rw [if_pos h]
      rw [least_small l h] at r1
      exact ⟨Ev.bind hs (Ev.ite_t rfl r1), Ev.congr e (Ev.bind hi (Ev.ite_f (by omega) (Ev.const rfl)))⟩
    · rw [show (if (l.length : Int) > 1 then (0 : Int) else 6) = 0 from if_pos (by omega)] at hi e
      rw [if_neg h]
      have b0 := bd.2 (by omega)
      have r2 := implLeast_ev l v2 v1 l.length 0 (by omega)
      rw [if_neg (by omega)] at r1
      unfold impL at r2
      rw [if_neg (show ¬ leastTo l l.length < 0 by omega)] at r2
      exact ⟨Ev.bind hs (Ev.ite_t rfl r1), Ev.congr e (Ev.bind hi (Ev.ite_t rfl r2))⟩
  · rw [if_neg c] at hi ⊢
    exact ⟨Ev.bind hs (Ev.ite_f c (Ev.const rfl)), Ev.congr e (Ev.bind hi (Ev.ite_f c (Ev.const rfl)))⟩
end Go.Proofs.Ytedbegibkcegnac.M
end
