/- The program's BestClass answers as the reference's for every number of stitches. No condition. -/
import Derived.Test.YtklnpldggclejaaEEvLoop
import Derived.Test.YtklnpldggclejaaEMLem5
import Derived.Test.YtklnpldggclejaaM0
import Derived.Test.YtklnpldggclejaaM25
namespace Go.Proofs.Ytklnpldggclejaa.Pure
open Go.RowKit Go.Proofs.Ytklnpldggclejaa.M Go.Proofs.YtklnpldggclejaaW.PrintWords Go.Proofs.YtklnpldggclejaaW.PrintLast Go.Proofs.YtklnpldggclejaaW.PrintMore
set_option linter.unusedVariables false
set_option linter.unusedSimpArgs false
theorem FnExactBestClass : laws_FnExactBestClass.Pure := by
  intro n hn
  refine Ev.get ?_
  obtain ⟨R, _, hs, hi⟩ := BestClass_both n
  exact Ev.bind hs (Ev.bind hi (Ev.ite_t rfl (Ev.ite_t rfl (Ev.ite_t rfl (Ev.const rfl)))))

end Go.Proofs.Ytklnpldggclejaa.Pure
