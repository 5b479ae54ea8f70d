import Derived.Test.YthkccaclmodjiaazEShortestOrderEBLem1
import Derived.Test.YthkccaclmodjiaazEShortestOrderEBNear
import Derived.Test.YthkccaclmodjiaazEShortestOrderEBOrd
import Derived.Test.YthkccaclmodjiaazEShortestOrderEBTime
import Derived.Test.YthkccaclmodjiaazEShortestOrderEEvLoop
import Derived.Test.YthkccaclmodjiaazEShortestOrderEIota
import Derived.Test.YthkccaclmodjiaazEShortestOrderESortedV
import Derived.Test.YthkccaclmodjiaazEShortestOrderI0
import Derived.Test.YthkccaclmodjiaazEShortestOrderI4
import Derived.Test.YthkccaclmodjiaazEShortestOrderI1
import Derived.Test.YthkccaclmodjiaazEShortestOrderI7
import Derived.Test.YthkccaclmodjiaazEShortestOrderI15
import Derived.Test.YthkccaclmodjiaazEShortestOrderI17
import Derived.Test.YthkccaclmodjiaazEShortestOrderI5
import Derived.Test.YthkccaclmodjiaazEShortestOrderI18
import Derived.Test.YthkccaclmodjiaazEShortestOrderI33
import Derived.Test.YthkccaclmodjiaazEShortestOrderESortI
namespace Go.Proofs.Ythkccaclmodjiaa.I
open Go.RowKit Go.Proofs.YthkccaclmodjiaaW.PrintWords Go.Proofs.YthkccaclmodjiaaW.PrintLast Go.Proofs.YthkccaclmodjiaaW.PrintMore
attribute [local go_sem] max2_int min2_int max_two min_two max_three min_three max_four min_four
set_option linter.unusedVariables false
set_option linter.unusedSimpArgs false
theorem rd_bd {t : List Int} {b : Int} (h : ∀ z ∈ t, 0 ≤ z ∧ z ≤ b) (i : Nat) (hi : i < t.length) : 0 ≤ rd t (i : Int) ∧ rd t (i : Int) ≤ b := by
  rw [rd_of_lt t i hi]
  exact h _ (List.getElem_mem _)
def lateList (l : List S57) (o t : List Int) : Nat → List Int
  | 0 => []
  | i + 1 => if rd t (i : Int) > (rd_T57 l (rd o (i : Int))).f2 then lateList l o t i ++ [rd o (i : Int)] else lateList l o t i
def lateSum (l : List S57) (o t : List Int) : Nat → Int
  | 0 => 0
  | i + 1 => if rd t (i : Int) > (rd_T57 l (rd o (i : Int))).f2 then lateSum l o t i + (rd t (i : Int) - (rd_T57 l (rd o (i : Int))).f2) else lateSum l o t i
structure Lates (l : List S57) (o t : List Int) : Prop where
  fine : Fine l
  len : o.length = l.length
  len8 : o.length ≤ 8
  lent : t.length = o.length
  range : ∀ z ∈ o, 0 ≤ z ∧ z < l.length
  nodup : o.Nodup
  bd : ∀ z ∈ t, 0 ≤ z ∧ z ≤ 1920
theorem Lates.at_ {l : List S57} {o t : List Int} (H : Lates l o t) (i : Nat) (hi : i < o.length) :
    (0 ≤ rd o (i : Int) ∧ rd o (i : Int) < l.length) ∧ (0 ≤ rd t (i : Int) ∧ rd t (i : Int) ≤ 1920) ∧ wrap64 (rd_T57 l (rd o (i : Int))).f2 = (rd_T57 l (rd o (i : Int))).f2 ∧ 0 ≤ (rd_T57 l (rd o (i : Int))).f2 ∧ (rd_T57 l (rd o (i : Int))).f2 ≤ 1000 := by
  have h1 : 0 ≤ rd o (i : Int) ∧ rd o (i : Int) < l.length := by
    rw [rd_of_lt o i hi]
    exact H.range _ (List.getElem_mem _)
  have f := piece_at l H.fine (rd o (i : Int)) h1.1 h1.2
  exact ⟨h1, rd_bd H.bd i (by have := H.lent; omega), f.2.2.1, f.2.2.2.2.2.2.2.1, f.2.2.2.2.2.2.2.2⟩
theorem max0 (z : Int) : spec_l00Max.f 0 z = some (if z > 0 then z else 0) := by
  unfold spec_l00Max.f
  by_cases q : z > 0
  · rw [if_pos q]
    by_cases q2 : 0 > z
    · omega
    · rw [if_neg q2]
  · rw [if_neg q]
    by_cases q2 : 0 > z
    · rw [if_pos q2]
    · rw [if_neg q2, show z = 0 by omega]
end Go.Proofs.Ythkccaclmodjiaa.I
