import Derived.Test.YtggjdcijplgpdaazEAllDryAtD0
import Derived.Test.YtggjdcijplgpdaazEAllDryAtEIota
import Derived.Test.YtggjdcijplgpdaazEAllDryAtESortedV
namespace Go.Proofs.Ytggjdcijplgpdaa.D
open Go.RowKit Go.Proofs.YtggjdcijplgpdaaW.PrintWords Go.Proofs.YtggjdcijplgpdaaW.PrintLast Go.Proofs.YtggjdcijplgpdaaW.PrintMore
attribute [local go_sem] max2_int min2_int max_two min_two max_three min_three max_four min_four
set_option linter.unusedVariables false
set_option linter.unusedSimpArgs false
def sortedList (l : List Int) : Option (List Int) := if l.length ≤ 1048576 then some (srt l) else none
theorem sortedList_some {l r : List Int} (h : sortedList l = some r) : l.length ≤ 1048576 ∧ srt l = r := by
  unfold sortedList at h
  by_cases c : l.length ≤ 1048576
  · rw [if_pos c] at h
    exact ⟨c, Option.some.inj h⟩
  · rw [if_neg c] at h
    cases h
end Go.Proofs.Ytggjdcijplgpdaa.D
