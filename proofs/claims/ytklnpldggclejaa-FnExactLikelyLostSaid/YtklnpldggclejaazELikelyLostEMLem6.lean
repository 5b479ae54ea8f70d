import Derived.Test.YtklnpldggclejaazELikelyLostEPredMark
import Derived.Test.YtklnpldggclejaazELikelyLostM0
import Derived.Test.YtklnpldggclejaazELikelyLostM5
import Derived.Test.YtklnpldggclejaazELikelyLostEEvLoop
import Derived.Test.YtklnpldggclejaazELikelyLostEMLem3
import Derived.Test.YtklnpldggclejaazELikelyLostEMarkCode
import Derived.Test.YtklnpldggclejaazELikelyLostM1
import Derived.Test.YtklnpldggclejaazELikelyLostM3
import Derived.Test.YtklnpldggclejaazELikelyLostM4
import Derived.Test.YtklnpldggclejaazELikelyLostM6
import Derived.Test.YtklnpldggclejaazELikelyLostEMLem
import Derived.Test.YtklnpldggclejaazELikelyLostEMLem5
import Derived.Shelf.Abstract
namespace Go.Proofs.Ytklnpldggclejaa.M
open Go.RowKit Go.Proofs.YtklnpldggclejaaW.PrintWords Go.Proofs.YtklnpldggclejaaW.PrintLast Go.Proofs.YtklnpldggclejaaW.PrintMore
attribute [local go_sem] max2_int min2_int max_two min_two max_three min_three max_four min_four
set_option linter.unusedVariables false
set_option linter.unusedSimpArgs false
def Small (l : List Int) : Prop := ∀ x ∈ l, 0 ≤ x ∧ x < 4096
theorem Small.snoc {l : List Int} (h : Small l) (n : Nat) (hn : n < 4096) : Small (l ++ [(n : Int)]) := by
  intro x hx
  rcases List.mem_append.mp hx with h1 | h1
  · exact h x h1
  · rw [List.mem_singleton] at h1
    subst h1
    omega
end Go.Proofs.Ytklnpldggclejaa.M
