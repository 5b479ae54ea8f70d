/- The program's ReadMark answers as the reference's for every text. No condition beyond the law's own. -/
import Derived.Test.YtklnpldggclejaaEEvLoop
import Derived.Test.YtklnpldggclejaaEMLemA
import Derived.Test.YtklnpldggclejaaM0
import Derived.Test.YtklnpldggclejaaM2
namespace Go.Proofs.Ytklnpldggclejaa.Pure
open Go.RowKit Go.Proofs.Ytklnpldggclejaa.M Go.Proofs.YtklnpldggclejaaW.PrintWords Go.Proofs.YtklnpldggclejaaW.PrintLast Go.Proofs.YtklnpldggclejaaW.PrintMore
set_option linter.unusedVariables false
set_option linter.unusedSimpArgs false
theorem FnExactReadMark : laws_FnExactReadMark.Pure := by
  intro s hs
  refine Ev.get ?_
  by_cases big : (s.size : Int) > 1048576
  · exact Ev.ite_t big (Ev.const rfl)
  · obtain ⟨R, h1, h2⟩ := ReadMark_both s
    exact Ev.ite_f big (Ev.bind h1 (Ev.bind h2 (Ev.ite_t rfl (Ev.ite_t rfl (Ev.ite_t rfl (Ev.const rfl))))))

end Go.Proofs.Ytklnpldggclejaa.Pure
