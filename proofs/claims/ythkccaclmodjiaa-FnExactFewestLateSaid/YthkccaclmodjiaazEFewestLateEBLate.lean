import Derived.Test.YthkccaclmodjiaazEFewestLateEBLem1
import Derived.Test.YthkccaclmodjiaazEFewestLateEBNear
import Derived.Test.YthkccaclmodjiaazEFewestLateEBOrd
import Derived.Test.YthkccaclmodjiaazEFewestLateEBTime
import Derived.Test.YthkccaclmodjiaazEFewestLateEEvLoop
import Derived.Test.YthkccaclmodjiaazEFewestLateEIota
import Derived.Test.YthkccaclmodjiaazEFewestLateEIsOrder
import Derived.Test.YthkccaclmodjiaazEFewestLateI0
import Derived.Test.YthkccaclmodjiaazEFewestLateI4
import Derived.Test.YthkccaclmodjiaazEFewestLateI1
import Derived.Test.YthkccaclmodjiaazEFewestLateI7
import Derived.Test.YthkccaclmodjiaazEFewestLateI15
import Derived.Test.YthkccaclmodjiaazEFewestLateI44
import Derived.Test.YthkccaclmodjiaazEFewestLateI5
import Derived.Test.YthkccaclmodjiaazEFewestLateI17
import Derived.Test.YthkccaclmodjiaazEFewestLateI33
namespace Go.Proofs.Ythkccaclmodjiaa.I
open Go.RowKit Go.Proofs.YthkccaclmodjiaaW.PrintWords Go.Proofs.YthkccaclmodjiaaW.PrintLast Go.Proofs.YthkccaclmodjiaaW.PrintMore
attribute [local go_sem] max2_int min2_int max_two min_two max_three min_three max_four min_four
set_option linter.unusedVariables false
set_option linter.unusedSimpArgs false
theorem timesOf_bd (x y : Int) (hx : 0 ≤ x ∧ x ≤ 60) (hy : 0 ≤ y ∧ y ≤ 60) (l : List S57) (h : Fine l) :
    ∀ (r : List Int) (lv now : Int), (∀ z ∈ r, 0 ≤ z ∧ z < l.length) → 0 ≤ lv ∧ lv ≤ 3 → 0 ≤ now → ∀ z ∈ timesOf x y l lv now r, 0 ≤ z ∧ z ≤ now + 240 * (r.length : Int)
  | [], _, _, _, _, _, z, hz => by rw [timesOf] at hz; cases hz
  | o :: r, lv, now, hr, hlv, hnow, z, hz => by
    have ho := hr o (by simp)
    have f := piece_at l h o ho.1 ho.2
    rw [timesOf] at hz
    rcases hP : rd_T57 l o with ⟨p0, p1, p2⟩
    rw [hP] at f hz
    dsimp only at f hz
    have cb := chg_bd x y lv p0 hx hy hlv (lv_bd f.2.2.2.1 f.2.2.2.2.1)
    have ih := timesOf_bd x y hx hy l h r p0 (now + (chg x y lv p0 + p1)) (fun z hz => hr z (by simp [hz])) (lv_bd f.2.2.2.1 f.2.2.2.2.1)
    have b1 := f.2.2.2.2.2.1
    have b2 := f.2.2.2.2.2.2.1
    generalize chg x y lv p0 = C at cb hz ih
    clear f hP
    rw [List.length_cons]
    rcases List.mem_cons.mp hz with e | hz
    · omega
    · have := ih (by omega) z hz
      omega
theorem rd_bd {t : List Int} {b : Int} (h : ∀ z ∈ t, 0 ≤ z ∧ z ≤ b) (i : Nat) (hi : i < t.length) : 0 ≤ rd t (i : Int) ∧ rd t (i : Int) ≤ b := by
  rw [rd_of_lt t i hi]
  exact h _ (List.getElem_mem _)
def lateList (l : List S57) (o t : List Int) : Nat → List Int
  | 0 => []
  | i + 1 => if rd t (i : Int) > (rd_T57 l (rd o (i : Int))).f2 then lateList l o t i ++ [rd o (i : Int)] else lateList l o t i
def lateSum (l : List S57) (o t : List Int) : Nat → Int
  | 0 => 0
  | i + 1 => if rd t (i : Int) > (rd_T57 l (rd o (i : Int))).f2 then lateSum l o t i + (rd t (i : Int) - (rd_T57 l (rd o (i : Int))).f2) else lateSum l o t i
theorem lateList_len (l : List S57) (o t : List Int) : ∀ i, (lateList l o t i).length ≤ i
  | 0 => Nat.le_refl _
  | i + 1 => by
    have ih := lateList_len l o t i
    rw [lateList]
    split
    · rw [List.length_append, List.length_singleton]; omega
    · omega
structure Lates (l : List S57) (o t : List Int) : Prop where
  fine : Fine l
  len : o.length = l.length
  len8 : o.length ≤ 8
  lent : t.length = o.length
  range : ∀ z ∈ o, 0 ≤ z ∧ z < l.length
  nodup : o.Nodup
  bd : ∀ z ∈ t, 0 ≤ z ∧ z ≤ 1920
theorem Lates.at_ {l : List S57} {o t : List Int} (H : Lates l o t) (i : Nat) (hi : i < o.length) :
    (0 ≤ rd o (i : Int) ∧ rd o (i : Int) < l.length) ∧ (0 ≤ rd t (i : Int) ∧ rd t (i : Int) ≤ 1920) ∧ wrap64 (rd_T57 l (rd o (i : Int))).f2 = (rd_T57 l (rd o (i : Int))).f2 ∧ 0 ≤ (rd_T57 l (rd o (i : Int))).f2 ∧ (rd_T57 l (rd o (i : Int))).f2 ≤ 1000 := by
  have h1 : 0 ≤ rd o (i : Int) ∧ rd o (i : Int) < l.length := by
    rw [rd_of_lt o i hi]
    exact H.range _ (List.getElem_mem _)
  have f := piece_at l H.fine (rd o (i : Int)) h1.1 h1.2
  exact ⟨h1, rd_bd H.bd i (by have := H.lent; omega), f.2.2.1, f.2.2.2.2.2.2.2.1, f.2.2.2.2.2.2.2.2⟩
theorem lateSum_bd {l : List S57} {o t : List Int} (H : Lates l o t) : ∀ i, i ≤ o.length → 0 ≤ lateSum l o t i ∧ lateSum l o t i ≤ 1920 * (i : Int)
  | 0, _ => ⟨Int.le_refl _, Int.le_refl _⟩
  | i + 1, hi => by
    have ih := lateSum_bd H i (by omega)
    obtain ⟨_, b, _, d1, d2⟩ := H.at_ i (by omega)
    rw [lateSum]
    generalize (rd_T57 l (rd o (i : Int))).f2 = d at d1 d2 ⊢
    generalize rd t (i : Int) = z at b ⊢
    generalize lateSum l o t i = s at ih ⊢
    split <;> omega
theorem late_add (s z d : Int) (i : Nat) (h8 : i < 8) (hs : 0 ≤ s ∧ s ≤ 1920 * (i : Int)) (hz : 0 ≤ z ∧ z ≤ 1920) (hd : 0 ≤ d ∧ d ≤ 1000) :
    wrap64 (wrap64 (s + z) - d) = s + (z - d) ∧ wrap64 (z - d) = z - d ∧ wrap64 (s + (z - d)) = s + (z - d) ∧ wrap64 (s + 0) = s ∧ wrap64 ((i : Int) + 1) = ((i + 1 : Nat) : Int) := by
  have a : wrap64 (s + z) = s + z := w64 _ (by omega) (by omega)
  refine ⟨?_, w64 _ (by omega) (by omega), w64 _ (by omega) (by omega), w64 _ (by omega) (by omega) |>.trans (by omega), w64 _ (by omega) (by omega)⟩
  rw [a, w64 _ (by omega) (by omega)]
  omega
theorem implLate_ev {l : List S57} {o t : List Int} (H : Lates l o t) : Ev (fun k => impl_Iron_late.l0 k l o [] 0 t (t.length : Int) 0) (srt (lateList l o t o.length), lateSum l o t o.length) := by
  have key : ∀ (d i : Nat), i + d = o.length → Ev (fun k => impl_Iron_late.l0 k l o (lateList l o t i) (lateSum l o t i) t (t.length : Int) (i : Int)) (srt (lateList l o t o.length), lateSum l o t o.length) := by
    intro d
    induction d with
    | zero =>
      intro i hd
      obtain rfl : i = o.length := by omega
      have hl := H.lent
      have h8 := H.len8
      have ll := lateList_len l o t o.length
      have e : sortedList (lateList l o t o.length) = some (srt (lateList l o t o.length)) := by unfold sortedList; rw [if_pos (by omega)]
      refine Ev.step (f := fun _ => (sortedList (lateList l o t o.length)).bind fun t582 => (some (t582, lateSum l o t o.length))) (fun k => ?_) (Ev.bind (Ev.const e) (Ev.const rfl))
      rw [impl_Iron_late.l0]
      rw [if_neg (by omega)]
      rfl
    | succ d ih =>
      intro i hd
      have hl := H.lent
      have h8 := H.len8
      have n := ih (i + 1) (by omega)
      have c1 : (i : Int) < (t.length : Int) := by omega
      have c2 : (0 : Int) ≤ (i : Int) := by omega
      have c3 : (i : Int) < (o.length : Int) := by omega
      have ll := lateList_len l o t i
      have c4 : (lateList l o t i).length < 17592186044416 := by omega
      have sb := lateSum_bd H i (by omega)
      obtain ⟨a1, a2, a3, a4⟩ := H.at_ i (by omega)
      obtain ⟨w1, w2, w3, w4, w5⟩ := late_add _ _ _ i (by omega) sb a2 a4
      rw [lateList, lateSum] at n
      by_cases q : rd t (i : Int) > (rd_T57 l (rd o (i : Int))).f2
      · rw [if_pos q, if_pos q] at n
        refine Ev.step (f := fun k => impl_Iron_late.l0 k l o (lateList l o t i ++ [rd o (i : Int)]) (lateSum l o t i + (rd t (i : Int) - (rd_T57 l (rd o (i : Int))).f2)) t (t.length : Int) ((i + 1 : Nat) : Int)) (fun k => ?_) n
        rw [impl_Iron_late.l0]
        rw [if_pos c1, if_pos c2, if_pos c1, if_pos c3, if_pos a1.1, if_pos a1.2, a3, if_pos q, if_pos c4, w1, w5]
      · rw [if_neg q, if_neg q] at n
        refine Ev.step (f := fun k => impl_Iron_late.l0 k l o (lateList l o t i) (lateSum l o t i) t (t.length : Int) ((i + 1 : Nat) : Int)) (fun k => ?_) n
        rw [impl_Iron_late.l0]
        rw [if_pos c1, if_pos c2, if_pos c1, if_pos c3, if_pos a1.1, if_pos a1.2, a3, if_neg q, w5]
  have := key o.length 0 (by omega)
  rw [lateList, lateSum] at this
  exact this
theorem max0 (z : Int) : spec_l00Max.f 0 z = some (if z > 0 then z else 0) := by
  unfold spec_l00Max.f
  by_cases q : z > 0
  · rw [if_pos q]
    by_cases q2 : 0 > z
    · omega
    · rw [if_neg q2]
  · rw [if_neg q]
    by_cases q2 : 0 > z
    · rw [if_pos q2]
    · rw [if_neg q2, show z = 0 by omega]
end Go.Proofs.Ythkccaclmodjiaa.I
