/- The program's LeastApart answers as the reference's for every number of stitches and every list of marks, and leaves the list alone. No condition beyond the law's own. -/
import Derived.Test.YtklnpldggclejaaEEvLoop
import Derived.Test.YtklnpldggclejaaEListsMark
import Derived.Test.YtklnpldggclejaaEMLem9
import Derived.Test.YtklnpldggclejaaM0
import Derived.Test.YtklnpldggclejaaM10
import Derived.Test.YtklnpldggclejaaM27
import Derived.Test.YtklnpldggclejaaM5
namespace Go.Proofs.Ytklnpldggclejaa.Pure
open Go.RowKit Go.Proofs.Ytklnpldggclejaa.M Go.Proofs.YtklnpldggclejaaW.PrintWords Go.Proofs.YtklnpldggclejaaW.PrintLast Go.Proofs.YtklnpldggclejaaW.PrintMore
set_option linter.unusedVariables false
set_option linter.unusedSimpArgs false
theorem FnExactLeastApart : laws_FnExactLeastApart.Pure := by
  intro n l hn hml hsz hw
  refine Ev.get ?_
  by_cases big : (l.length : Int) > 1048576
  · exact Ev.ite_t big (Ev.const rfl)
  · refine Ev.ite_f big ?_
    have hv : ∀ m ∈ l, 0 ≤ m ∧ m < 65536 := fun m hm => u16_bd (hw m hm)
    obtain ⟨h1, h2⟩ := LeastApart_both n l (by omega) hv
    have ht := laws_toMarkS.ev l (by omega)
    refine Ev.bind ht (Ev.bind h1 (Ev.bind ht (Ev.bind h2 ?_)))
    refine Ev.ite_t rfl ?_
    refine Ev.step (f := fun k => ((laws_toMarkS.f k l).bind fun t => ((laws_eqMarkS.f k l t).bind fun t2 => (if t2 = true then (some true) else (some false))))) (fun k => by rw [laws_FnExactLeastApart.j0, if_neg (by simp)]) ?_
    exact Ev.bind ht (Ev.bind (laws_eqMarkS.same l (by omega)) (Ev.ite_t rfl (Ev.const rfl)))

end Go.Proofs.Ytklnpldggclejaa.Pure
