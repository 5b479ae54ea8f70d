import Derived.Test.YthkccaclmodjiaazEDueOrderEBLem1
import Derived.Test.YthkccaclmodjiaazEDueOrderEBNear
import Derived.Test.YthkccaclmodjiaazEDueOrderEBTime
import Derived.Test.YthkccaclmodjiaazEDueOrderEEvLoop
import Derived.Test.YthkccaclmodjiaazEDueOrderEIota
import Derived.Test.YthkccaclmodjiaazEDueOrderESortedV
import Derived.Test.YthkccaclmodjiaazEDueOrderI0
import Derived.Test.YthkccaclmodjiaazEDueOrderEListsPiece
import Derived.Test.YthkccaclmodjiaazEDueOrderI1
import Derived.Test.YthkccaclmodjiaazEDueOrderI4
import Derived.Test.YthkccaclmodjiaazEDueOrderI7
import Derived.Test.YthkccaclmodjiaazEDueOrderI17
import Derived.Test.YthkccaclmodjiaazEDueOrderI5
import Derived.Test.YthkccaclmodjiaazEDueOrderI2
import Derived.Test.YthkccaclmodjiaazEDueOrderEPieceCode
namespace Go.Proofs.Ythkccaclmodjiaa.I
open Go.RowKit Go.Proofs.YthkccaclmodjiaaW.PrintWords Go.Proofs.YthkccaclmodjiaaW.PrintLast Go.Proofs.YthkccaclmodjiaaW.PrintMore
attribute [local go_sem] max2_int min2_int max_two min_two max_three min_three max_four min_four
set_option linter.unusedVariables false
set_option linter.unusedSimpArgs false
theorem piece_at (l : List S57) (h : Fine l) (o : Int) (h0 : 0 ≤ o) (h1 : o < l.length) : wrap64 (rd_T57 l o).f0 = (rd_T57 l o).f0 ∧ wrap64 (rd_T57 l o).f1 = (rd_T57 l o).f1 ∧ wrap64 (rd_T57 l o).f2 = (rd_T57 l o).f2 ∧ 1 ≤ (rd_T57 l o).f0 ∧ (rd_T57 l o).f0 ≤ 3 ∧ 1 ≤ (rd_T57 l o).f1 ∧ (rd_T57 l o).f1 ≤ 60 ∧ 0 ≤ (rd_T57 l o).f2 ∧ (rd_T57 l o).f2 ≤ 1000 := by
  obtain ⟨i, rfl⟩ : ∃ i : Nat, o = (i : Int) := ⟨o.toNat, by omega⟩
  have c : i < l.length := by omega
  rw [rd57_lt l i c]
  exact h l[i] (List.getElem_mem _)
end Go.Proofs.Ythkccaclmodjiaa.I
