import Derived.Test.YthkccaclmodjiaazEShortestOrderEIota
import Derived.Test.YthkccaclmodjiaazEShortestOrderESortedV
import Derived.Test.YthkccaclmodjiaazEShortestOrderI0
import Derived.Lib.SlKeysI
namespace Go.Proofs.Ythkccaclmodjiaa.I
open Go.RowKit Go.Proofs.YthkccaclmodjiaaW.PrintWords Go.Proofs.YthkccaclmodjiaaW.PrintLast Go.Proofs.YthkccaclmodjiaaW.PrintMore
attribute [local go_sem] max2_int min2_int max_two min_two max_three min_three max_four min_four
set_option linter.unusedVariables false
set_option linter.unusedSimpArgs false
open Go.Sort Go.Shelf Go.Maps
theorem intKd_inner {l : List Int} {inner : List Value} (h : Reps (fun (x : Int) (cs : List Value) => cs = [Value.int .i64 x]) 1 l inner) : inner = l.map (Value.int .i64) := by
  refine List.ext_getElem? fun j => ?_
  by_cases c : j < l.length
  · have hj := h.2 j l[j] (List.getElem?_eq_getElem c)
    have hi : j < inner.length := by rw [h.1]; omega
    rw [Nat.mul_one, List.drop_eq_getElem_cons hi, List.take_succ_cons, List.take_zero] at hj
    rw [List.getElem?_eq_getElem hi, List.getElem?_map, List.getElem?_eq_getElem c]
    injection hj with e _
    rw [e]
    rfl
  · rw [List.getElem?_eq_none (by rw [h.1]; omega), List.getElem?_eq_none (by simp; omega)]
end Go.Proofs.Ythkccaclmodjiaa.I
