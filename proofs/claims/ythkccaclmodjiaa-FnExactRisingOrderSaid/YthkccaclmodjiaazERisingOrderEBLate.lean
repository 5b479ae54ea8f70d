import Derived.Test.YthkccaclmodjiaazERisingOrderEBLem1
import Derived.Test.YthkccaclmodjiaazERisingOrderEBNear
import Derived.Test.YthkccaclmodjiaazERisingOrderEBOrd
import Derived.Test.YthkccaclmodjiaazERisingOrderEBTime
import Derived.Test.YthkccaclmodjiaazERisingOrderEEvLoop
import Derived.Test.YthkccaclmodjiaazERisingOrderEIota
import Derived.Test.YthkccaclmodjiaazERisingOrderESortedV
import Derived.Test.YthkccaclmodjiaazERisingOrderI0
import Derived.Test.YthkccaclmodjiaazERisingOrderI4
import Derived.Test.YthkccaclmodjiaazERisingOrderI1
import Derived.Test.YthkccaclmodjiaazERisingOrderI7
import Derived.Test.YthkccaclmodjiaazERisingOrderI17
import Derived.Test.YthkccaclmodjiaazERisingOrderI5
import Derived.Test.YthkccaclmodjiaazERisingOrderI2
import Derived.Test.YthkccaclmodjiaazERisingOrderEPieceCode
import Derived.Test.YthkccaclmodjiaazERisingOrderESortI
namespace Go.Proofs.Ythkccaclmodjiaa.I
open Go.RowKit Go.Proofs.YthkccaclmodjiaaW.PrintWords Go.Proofs.YthkccaclmodjiaaW.PrintLast Go.Proofs.YthkccaclmodjiaaW.PrintMore
attribute [local go_sem] max2_int min2_int max_two min_two max_three min_three max_four min_four
set_option linter.unusedVariables false
set_option linter.unusedSimpArgs false
theorem rd_bd {t : List Int} {b : Int} (h : ∀ z ∈ t, 0 ≤ z ∧ z ≤ b) (i : Nat) (hi : i < t.length) : 0 ≤ rd t (i : Int) ∧ rd t (i : Int) ≤ b := by
  rw [rd_of_lt t i hi]
  exact h _ (List.getElem_mem _)
structure Lates (l : List S57) (o t : List Int) : Prop where
  fine : Fine l
  len : o.length = l.length
  len8 : o.length ≤ 8
  lent : t.length = o.length
  range : ∀ z ∈ o, 0 ≤ z ∧ z < l.length
  nodup : o.Nodup
  bd : ∀ z ∈ t, 0 ≤ z ∧ z ≤ 1920
theorem Lates.at_ {l : List S57} {o t : List Int} (H : Lates l o t) (i : Nat) (hi : i < o.length) :
    (0 ≤ rd o (i : Int) ∧ rd o (i : Int) < l.length) ∧ (0 ≤ rd t (i : Int) ∧ rd t (i : Int) ≤ 1920) ∧ wrap64 (rd_T57 l (rd o (i : Int))).f2 = (rd_T57 l (rd o (i : Int))).f2 ∧ 0 ≤ (rd_T57 l (rd o (i : Int))).f2 ∧ (rd_T57 l (rd o (i : Int))).f2 ≤ 1000 := by
  have h1 : 0 ≤ rd o (i : Int) ∧ rd o (i : Int) < l.length := by
    rw [rd_of_lt o i hi]
    exact H.range _ (List.getElem_mem _)
  have f := piece_at l H.fine (rd o (i : Int)) h1.1 h1.2
  exact ⟨h1, rd_bd H.bd i (by have := H.lent; omega), f.2.2.1, f.2.2.2.2.2.2.2.1, f.2.2.2.2.2.2.2.2⟩
theorem succ64 (i : Nat) (h : i ≤ 1000000) : wrap64 ((i : Int) + 1) = ((i + 1 : Nat) : Int) := by
  rw [w64 _ (by omega) (by omega)]
  rfl
end Go.Proofs.Ythkccaclmodjiaa.I
