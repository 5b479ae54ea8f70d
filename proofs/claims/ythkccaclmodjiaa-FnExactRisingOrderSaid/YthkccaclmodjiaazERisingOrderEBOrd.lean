import Derived.Test.YthkccaclmodjiaazERisingOrderEBLem1
import Derived.Test.YthkccaclmodjiaazERisingOrderEBNear
import Derived.Test.YthkccaclmodjiaazERisingOrderEBTime
import Derived.Test.YthkccaclmodjiaazERisingOrderEEvLoop
import Derived.Test.YthkccaclmodjiaazERisingOrderEIota
import Derived.Test.YthkccaclmodjiaazERisingOrderESortedV
import Derived.Test.YthkccaclmodjiaazERisingOrderI0
import Derived.Test.YthkccaclmodjiaazERisingOrderEListsPiece
import Derived.Test.YthkccaclmodjiaazERisingOrderI1
import Derived.Test.YthkccaclmodjiaazERisingOrderI4
import Derived.Test.YthkccaclmodjiaazERisingOrderI7
import Derived.Test.YthkccaclmodjiaazERisingOrderI17
import Derived.Test.YthkccaclmodjiaazERisingOrderI5
import Derived.Test.YthkccaclmodjiaazERisingOrderI2
import Derived.Test.YthkccaclmodjiaazERisingOrderEPieceCode
namespace Go.Proofs.Ythkccaclmodjiaa.I
open Go.RowKit Go.Proofs.YthkccaclmodjiaaW.PrintWords Go.Proofs.YthkccaclmodjiaaW.PrintLast Go.Proofs.YthkccaclmodjiaaW.PrintMore
attribute [local go_sem] max2_int min2_int max_two min_two max_three min_three max_four min_four
set_option linter.unusedVariables false
set_option linter.unusedSimpArgs false
theorem piece_at (l : List S57) (h : Fine l) (o : Int) (h0 : 0 ≤ o) (h1 : o < l.length) : wrap64 (rd_T57 l o).f0 = (rd_T57 l o).f0 ∧ wrap64 (rd_T57 l o).f1 = (rd_T57 l o).f1 ∧ wrap64 (rd_T57 l o).f2 = (rd_T57 l o).f2 ∧ 1 ≤ (rd_T57 l o).f0 ∧ (rd_T57 l o).f0 ≤ 3 ∧ 1 ≤ (rd_T57 l o).f1 ∧ (rd_T57 l o).f1 ≤ 60 ∧ 0 ≤ (rd_T57 l o).f2 ∧ (rd_T57 l o).f2 ≤ 1000 := by
  obtain ⟨i, rfl⟩ : ∃ i : Nat, o = (i : Int) := ⟨o.toNat, by omega⟩
  have c : i < l.length := by omega
  rw [rd57_lt l i c]
  exact h l[i] (List.getElem_mem _)
end Go.Proofs.Ythkccaclmodjiaa.I
