import Derived.Test.YtklnpldggclejaazELikelyLostEEvLoop
import Derived.Test.YtklnpldggclejaazELikelyLostEMBits
import Derived.Test.YtklnpldggclejaazELikelyLostEMLem
import Derived.Test.YtklnpldggclejaazELikelyLostEMLem2
import Derived.Test.YtklnpldggclejaazELikelyLostEMLem3
import Derived.Test.YtklnpldggclejaazELikelyLostEMLem7
import Derived.Test.YtklnpldggclejaazELikelyLostEMarkCode
import Derived.Test.YtklnpldggclejaazELikelyLostM0
import Derived.Test.YtklnpldggclejaazELikelyLostM10
import Derived.Test.YtklnpldggclejaazELikelyLostM14
import Derived.Test.YtklnpldggclejaazELikelyLostM2
import Derived.Test.YtklnpldggclejaazELikelyLostM34
import Derived.Test.YtklnpldggclejaazELikelyLostM4
import Derived.Test.YtklnpldggclejaazELikelyLostM9
namespace Go.Proofs.Ytklnpldggclejaa.M
open Go.RowKit Go.Proofs.YtklnpldggclejaaW.PrintWords Go.Proofs.YtklnpldggclejaaW.PrintLast Go.Proofs.YtklnpldggclejaaW.PrintMore
attribute [local go_sem] max2_int min2_int max_two min_two max_three min_three max_four min_four
set_option linter.unusedVariables false
set_option linter.unusedSimpArgs false
def lostOf (m s : Int) : Int := sumBits m 16 - sumBits s 16
def likely (l : List Int) (s : Int) : Nat → Int × List Int
  | 0 => (-1, [])
  | i + 1 =>
    let p := likely l s i
    if Go.bits .andNot .u16 s (rd l (i : Nat)) = 0 then
      (if p.1 < 0 ∨ lostOf (rd l (i : Nat)) s < p.1 then (lostOf (rd l (i : Nat)) s, [(i : Int)])
       else if lostOf (rd l (i : Nat)) s = p.1 then (p.1, p.2 ++ [(i : Int)]) else p)
    else p
theorem likely_len (l : List Int) (s : Int) : ∀ i, (likely l s i).2.length ≤ i
  | 0 => Nat.le_refl _
  | i + 1 => by
    have ih := likely_len l s i
    unfold likely
    dsimp only
    split
    · split
      · simp
      · split
        · rw [List.length_append]; simp; omega
        · omega
    · omega
theorem likely_bd (l : List Int) (s : Int) : ∀ i, -16 ≤ (likely l s i).1 ∧ (likely l s i).1 ≤ 16
  | 0 => ⟨by show (-16 : Int) ≤ -1; omega, by show (-1 : Int) ≤ 16; omega⟩
  | i + 1 => by
    have ih := likely_bd l s i
    have a := sumBits_bd (rd l (i : Nat)) 16
    have b := sumBits_bd s 16
    unfold likely
    dsimp only
    split
    · split
      · unfold lostOf; dsimp only; omega
      · split
        · exact ih
        · exact ih
    · exact ih
theorem likely_in (l : List Int) (s : Int) (i : Nat) (h : i < l.length) : likely l s (i + 1) =
    if Go.bits .andNot .u16 s l[i] = 0 then
      (if (likely l s i).1 < 0 ∨ lostOf l[i] s < (likely l s i).1 then (lostOf l[i] s, [(i : Int)])
       else if lostOf l[i] s = (likely l s i).1 then ((likely l s i).1, (likely l s i).2 ++ [(i : Int)]) else likely l s i)
    else likely l s i := by
  rw [likely, rd_of_lt l i h]
theorem specLikely_ev (l : List Int) (s : Int) (hl : ∀ x ∈ l, 0 ≤ x ∧ x < 65536) (hs : 0 ≤ s ∧ s < 65536) (hm : l.length ≤ 1048576) (d : Nat) : ∀ i : Nat, i + d = l.length → Ev (fun k => spec_LikelyLost.l0 k l s (likely l s i).1 (likely l s i).2 (i : Int)) ((likely l s l.length).2, 0) := by
  induction d with
  | zero =>
    intro i hd
    obtain rfl : i = l.length := by omega
    refine Ev.step (f := fun _ => some ((likely l s l.length).2, 0)) (fun k => ?_) (Ev.const rfl)
    rw [spec_LikelyLost.l0]
    rw [if_neg (by omega)]
  | succ d ih =>
    intro i hd
    have c : i < l.length := by omega
    have hlen := likely_len l s i
    have hbd := likely_bd l s i
    have hx := hl l[i] (List.getElem_mem c)
    have a := sumBits_bd l[i] 16
    have b := sumBits_bd s 16
    have w1 : wrap64 ((i : Int) + 1) = ((i + 1 : Nat) : Int) := by rw [w64 _ (by omega) (by omega)]; rfl
    have w2 : wrap64 (sumBits l[i] 16 - sumBits s 16) = lostOf l[i] s := w64 _ (by omega) (by omega)
    have next := ih (i + 1) (by omega)
    rw [likely_in l s i c] at next
    generalize likely l s i = p at *
    refine Ev.step (f := fun k => if (Go.bits .andNot .u16 s l[i]) = 0 then ((spec_l06Count.f k l[i]).bind fun t486 => ((spec_l06Count.f k s).bind fun t487 => (if p.1 < 0 then (spec_LikelyLost.j1 k l s p.1 p.2 (i : Int) (wrap64 (t486 - t487)) true) else (spec_LikelyLost.j1 k l s p.1 p.2 (i : Int) (wrap64 (t486 - t487)) (decide ((wrap64 (t486 - t487)) < p.1)))))) else (spec_LikelyLost.l0 k l s p.1 p.2 ((i + 1 : Nat) : Int))) (fun k => by rw [spec_LikelyLost.l0]; rw [if_pos (by omega), if_pos (by omega), rd_of_lt l i c, w1]) ?_
    by_cases q : Go.bits .andNot .u16 s l[i] = 0
    · rw [if_pos q] at next
      refine Ev.ite_t q (Ev.bind (count_ev l[i] hx.1 hx.2) (Ev.bind (count_ev s hs.1 hs.2) ?_))
      rw [w2]
      have stepT : p.1 < 0 ∨ lostOf l[i] s < p.1 → Ev (fun k => spec_LikelyLost.j1 k l s p.1 p.2 (i : Int) (lostOf l[i] s) true) ((likely l s l.length).2, 0) := by
        intro z
        rw [if_pos z] at next
        refine Ev.step (f := fun k => spec_LikelyLost.l0 k l s (lostOf l[i] s) [(i : Int)] ((i + 1 : Nat) : Int)) (fun k => ?_) next
        rw [spec_LikelyLost.j1]
        rw [if_pos rfl, Option.bind_some, if_pos (by simp), w1]
        rfl
      by_cases z0 : p.1 < 0
      · exact Ev.ite_t z0 (stepT (.inl z0))
      · refine Ev.ite_f z0 ?_
        by_cases z1 : lostOf l[i] s < p.1
        · rw [decide_eq_true z1]
          exact stepT (.inr z1)
        · rw [decide_eq_false z1]
          rw [if_neg (by omega)] at next
          by_cases z2 : lostOf l[i] s = p.1
          · rw [if_pos z2] at next
            refine Ev.step (f := fun k => spec_LikelyLost.l0 k l s p.1 (p.2 ++ [(i : Int)]) ((i + 1 : Nat) : Int)) (fun k => ?_) next
            rw [spec_LikelyLost.j1]
            rw [if_neg (by decide), if_pos z2, if_pos (by omega), w1]
          · rw [if_neg z2] at next
            refine Ev.step (f := fun k => spec_LikelyLost.l0 k l s p.1 p.2 ((i + 1 : Nat) : Int)) (fun k => ?_) next
            rw [spec_LikelyLost.j1]
            rw [if_neg (by decide), if_neg z2, w1]
    · rw [if_neg q] at next
      exact Ev.ite_f q next
theorem implLikely_ev (l : List Int) (s : Int) (hl : ∀ x ∈ l, 0 ≤ x ∧ x < 65536) (hs : 0 ≤ s ∧ s < 65536) (hm : l.length ≤ 1048576) (d : Nat) : ∀ i : Nat, i + d = l.length → Ev (fun k => impl_LikelyLost.l0 k s (likely l s i).2 (likely l s i).1 l (l.length : Int) (i : Int)) ((likely l s l.length).2, 0) := by
  induction d with
  | zero =>
    intro i hd
    obtain rfl : i = l.length := by omega
    refine Ev.step (f := fun _ => some ((likely l s l.length).2, 0)) (fun k => ?_) (Ev.const rfl)
    rw [impl_LikelyLost.l0]
    rw [if_neg (by omega)]
  | succ d ih =>
    intro i hd
    have c : i < l.length := by omega
    have hlen := likely_len l s i
    have hx := hl l[i] (List.getElem_mem c)
    have w1 : wrap64 ((i : Int) + 1) = ((i + 1 : Nat) : Int) := by rw [w64 _ (by omega) (by omega)]; rfl
    have next := ih (i + 1) (by omega)
    rw [likely_in l s i c] at next
    have hX := bits_u16_bd .andNot l[i] s
    have eX := stitchesIn_f (Go.bits .andNot .u16 l[i] s) hX.1 hX.2
    have sk : ∀ (p : Int × List Int) (v : Int), Ev (fun k => impl_LikelyLost.l0 k s p.2 p.1 l (l.length : Int) ((i + 1 : Nat) : Int)) ((likely l s l.length).2, 0) → Ev (fun k => impl_LikelyLost.j1 k s p.2 p.1 (i : Int) v l (l.length : Int) (i : Int) true) ((likely l s l.length).2, 0) := by
      intro p v h
      refine Ev.step (f := fun k => impl_LikelyLost.l0 k s p.2 p.1 l (l.length : Int) ((i + 1 : Nat) : Int)) (fun k => ?_) h
      rw [impl_LikelyLost.j1]
      rw [if_pos rfl, w1]
    by_cases q : Go.bits .andNot .u16 s l[i] = 0
    · rw [if_pos q] at next
      obtain ⟨m, hm2⟩ := Int.eq_ofNat_of_zero_le hx.1
      obtain ⟨t, ht⟩ := Int.eq_ofNat_of_zero_le hs.1
      have eL : sumBits (Go.bits .andNot .u16 l[i] s) 16 = lostOf l[i] s := by
        have h := q
        rw [hm2, ht] at h ⊢
        exact sumBits_andNot m t h 16 (by omega)
      rw [eL] at eX
      generalize likely l s i = p at *
      refine Ev.step (f := fun k => if p.1 ≥ 0 then (impl_LikelyLost.j1 k s p.2 p.1 (i : Int) (lostOf l[i] s) l (l.length : Int) (i : Int) (decide (lostOf l[i] s > p.1))) else (impl_LikelyLost.j1 k s p.2 p.1 (i : Int) (lostOf l[i] s) l (l.length : Int) (i : Int) false)) (fun k => by rw [impl_LikelyLost.l0]; rw [if_pos (by omega), if_pos (by omega), if_pos (by omega), rd_of_lt l i c, eX, Option.bind_some, if_pos q]) ?_
      by_cases z0 : p.1 ≥ 0
      · refine Ev.ite_t z0 ?_
        by_cases z1 : lostOf l[i] s > p.1
        · rw [decide_eq_true z1]
          rw [if_neg (by omega), if_neg (by omega)] at next
          exact sk p _ next
        · rw [decide_eq_false z1]
          by_cases z2 : lostOf l[i] s < p.1
          · rw [if_pos (.inr z2)] at next
            refine Ev.step (f := fun k => impl_LikelyLost.l0 k s [(i : Int)] (lostOf l[i] s) l (l.length : Int) ((i + 1 : Nat) : Int)) (fun k => ?_) next
            rw [impl_LikelyLost.j1]
            rw [if_neg (by decide), if_neg (by omega), if_pos z2, if_pos (by simp), w1]
            rfl
          · rw [if_neg (by omega), if_pos (by omega)] at next
            refine Ev.step (f := fun k => impl_LikelyLost.l0 k s (p.2 ++ [(i : Int)]) p.1 l (l.length : Int) ((i + 1 : Nat) : Int)) (fun k => ?_) next
            rw [impl_LikelyLost.j1]
            rw [if_neg (by decide), if_neg (by omega), if_neg z2, if_pos (by omega), w1]
      · refine Ev.ite_f z0 ?_
        rw [if_pos (.inl (by omega))] at next
        refine Ev.step (f := fun k => impl_LikelyLost.l0 k s [(i : Int)] (lostOf l[i] s) l (l.length : Int) ((i + 1 : Nat) : Int)) (fun k => ?_) next
        rw [impl_LikelyLost.j1]
        rw [if_neg (by decide), if_pos (by omega), if_pos (by simp), w1]
        rfl
    · rw [if_neg q] at next
      generalize likely l s i = p at *
      refine Ev.step (f := fun k => impl_LikelyLost.j1 k s p.2 p.1 (i : Int) (sumBits (Go.bits .andNot .u16 l[i] s) 16) l (l.length : Int) (i : Int) true) (fun k => by rw [impl_LikelyLost.l0]; rw [if_pos (by omega), if_pos (by omega), if_pos (by omega), rd_of_lt l i c, eX, Option.bind_some, if_neg q]) ?_
      exact sk p _ next
def likelyLost (n : Int) (l : List Int) (s : Int) : List Int × Int := if codeSeen n l s = 0 then ((likely l s l.length).2, 0) else ([], codeSeen n l s)
theorem likelyLost_len (n : Int) (l : List Int) (s : Int) : (likelyLost n l s).1.length ≤ l.length := by
  unfold likelyLost
  split
  · exact likely_len l s l.length
  · simp
theorem LikelyLost_both (n : Int) (l : List Int) (s : Int) (hm : l.length ≤ 1048576) (hv : ∀ m ∈ l, 0 ≤ m ∧ m < 65536) (hs : 0 ≤ s ∧ s < 65536) :
    Ev (fun k => spec_LikelyLost.f k n l s) (likelyLost n l s) ∧ Ev (fun k => impl_LikelyLost.f k n l s) (likelyLost n l s) := by
  have hi := codeSeen_ev n l s
  have e : ∀ k, impl_LikelyLost.f k n l s = ((impl_markCode.f n (l ++ [s])).bind fun a => (impl_fewMarks.f l).bind fun b => impl_firstOf.f k [a, b]).bind fun t => if t = 0 then impl_LikelyLost.l0 k s [] (-1) l (l.length : Int) 0 else some ([], t) := by
    intro k
    unfold impl_LikelyLost.f
    rw [clone_f l hm, Option.bind_some, if_pos (by omega), implCode_f, few_f]
    rfl
  unfold likelyLost
  by_cases c : codeSeen n l s = 0
  · obtain ⟨c1, c2⟩ := codeSeen_zero n l s c
    have hl := specList_ev n l (by omega)
    rw [c2] at hl
    rw [c] at hi
    rw [if_pos c]
    refine ⟨?_, Ev.congr e (Ev.bind hi (Ev.ite_t rfl (implLikely_ev l s hv hs hm l.length 0 (by omega))))⟩
    refine Ev.congr (f := fun k => (spec_l06List.f k n l).bind fun t477 => (if t477 = 0 then (spec_LikelyLost.l0 k l s (-1) (([] : List Int)) 0) else (some ((([] : List Int)), t477)))) (fun k => by unfold spec_LikelyLost.f; rw [ok_f, c1]; rfl) ?_
    exact Ev.bind hl (Ev.ite_t rfl (specLikely_ev l s hv hs hm l.length 0 (by omega)))
  · rw [if_neg c]
    refine ⟨?_, Ev.congr e (Ev.bind hi (Ev.ite_f c (Ev.const rfl)))⟩
    cases o : okMark n s with
    | false =>
      have e : codeSeen n l s = 1 := by unfold codeSeen; rw [o]; rfl
      rw [e]
      exact Ev.fixed (fun k => by unfold spec_LikelyLost.f; rw [ok_f, o]; rfl)
    | true =>
      have e : codeSeen n l s = listCode n l := by unfold codeSeen; rw [o]; rfl
      rw [e] at c ⊢
      refine Ev.congr (f := fun k => (spec_l06List.f k n l).bind fun t477 => (if t477 = 0 then (spec_LikelyLost.l0 k l s (-1) (([] : List Int)) 0) else (some ((([] : List Int)), t477)))) (fun k => by unfold spec_LikelyLost.f; rw [ok_f, o]; rfl) ?_
      exact Ev.bind (specList_ev n l (by omega)) (Ev.ite_f c (Ev.const rfl))
end Go.Proofs.Ytklnpldggclejaa.M
