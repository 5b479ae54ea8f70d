import Derived.Test.YthkccaclmodjiaazEFewestLateEEvLoop
import Derived.Test.YthkccaclmodjiaazEFewestLateEIota
import Derived.Test.YthkccaclmodjiaazEFewestLateI0
import Derived.Test.YthkccaclmodjiaazEFewestLateELayS
import Derived.RangeFuncBox
import Derived.RangeFuncLeaves
import Derived.Shelf.Abstract
import Derived.Shelf.AbstractIn
import Derived.Maps.AppendAt
import Derived.WalkKit
import Derived.OwnWalkIn
import Derived.TacticsInMore
import Derived.LoopNIn
import Derived.LoopIn
import Derived.Sort.OwnSorted
import Derived.Lib.SlKeysI
namespace Go.Proofs.Ythkccaclmodjiaa.I
open Go.RowKit Go.Proofs.YthkccaclmodjiaaW.PrintWords Go.Proofs.YthkccaclmodjiaaW.PrintLast Go.Proofs.YthkccaclmodjiaaW.PrintMore
attribute [local go_sem] max2_int min2_int max_two min_two max_three min_three max_four min_four
set_option linter.unusedVariables false
set_option linter.unusedSimpArgs false
open Go.Sort Go.Shelf Go.Maps
attribute [local go_sem] Oper.semAt_some
theorem intKd_reps (l : List Int) : Reps (fun (x : Int) (cs : List Value) => cs = [Value.int .i64 x]) 1 l (l.map (Value.int .i64)) := by
  refine ⟨by simp, fun j p hj => ?_⟩
  obtain ⟨h, rfl⟩ := List.getElem?_eq_some_iff.mp hj
  have h' : j < (l.map (Value.int .i64)).length := by simpa using h
  show List.take 1 (List.drop (j * 1) _) = _
  rw [Nat.mul_one, List.drop_eq_getElem_cons h', List.take_succ_cons, List.take_zero, List.getElem_map]
end Go.Proofs.Ythkccaclmodjiaa.I
