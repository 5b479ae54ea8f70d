import Derived.Test.YtklnpldggclejaazELikelyLostEEvLoop
import Derived.Test.YtklnpldggclejaazELikelyLostEMLem
import Derived.Test.YtklnpldggclejaazELikelyLostEMLem2
import Derived.Test.YtklnpldggclejaazELikelyLostEMLem3
import Derived.Test.YtklnpldggclejaazELikelyLostM0
import Derived.Test.YtklnpldggclejaazELikelyLostM1
import Derived.Test.YtklnpldggclejaazELikelyLostM5
import Derived.Test.YtklnpldggclejaazELikelyLostM6
import Derived.Test.YtklnpldggclejaazELikelyLostM4
import Derived.Test.YtklnpldggclejaazELikelyLostEMarkCode
import Derived.Test.YtklnpldggclejaazELikelyLostM3
import Derived.Test.YtklnpldggclejaazELikelyLostM10
namespace Go.Proofs.Ytklnpldggclejaa.M
open Go.RowKit Go.Proofs.YtklnpldggclejaaW.PrintWords Go.Proofs.YtklnpldggclejaaW.PrintLast Go.Proofs.YtklnpldggclejaaW.PrintMore
attribute [local go_sem] max2_int min2_int max_two min_two max_three min_three max_four min_four
set_option linter.unusedVariables false
set_option linter.unusedSimpArgs false
theorem bitAt_zero (i : Nat) : bitAt 0 i = 0 := by unfold bitAt; simp
end Go.Proofs.Ytklnpldggclejaa.M
