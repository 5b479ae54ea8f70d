import Derived.Test.YtklnpldggclejaazELikelyLostEEvLoop
import Derived.Test.YtklnpldggclejaazELikelyLostEMLem
import Derived.Test.YtklnpldggclejaazELikelyLostEOnes
import Derived.Test.YtklnpldggclejaazELikelyLostM0
import Derived.Test.YtklnpldggclejaazELikelyLostM3
import Derived.Test.YtklnpldggclejaazELikelyLostM4
import Derived.Test.YtklnpldggclejaazELikelyLostM5
namespace Go.Proofs.Ytklnpldggclejaa.M
open Go.RowKit Go.Proofs.YtklnpldggclejaaW.PrintWords Go.Proofs.YtklnpldggclejaaW.PrintLast Go.Proofs.YtklnpldggclejaaW.PrintMore
attribute [local go_sem] max2_int min2_int max_two min_two max_three min_three max_four min_four
set_option linter.unusedVariables false
set_option linter.unusedSimpArgs false
theorem stitchesIn_f (x : Int) (h0 : 0 ≤ x) (h1 : x < 65536) : impl_StitchesIn.f x = some (sumBits x 16) := by
  unfold impl_StitchesIn.f
  rw [ones_all x h0 h1]
  rfl
end Go.Proofs.Ytklnpldggclejaa.M
