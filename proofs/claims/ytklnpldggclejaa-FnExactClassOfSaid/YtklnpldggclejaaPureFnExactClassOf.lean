/- The program's ClassOf answers as the reference's for every number of stitches and every mark. No condition. -/
import Derived.Test.YtklnpldggclejaaEEvLoop
import Derived.Test.YtklnpldggclejaaEMLem
import Derived.Test.YtklnpldggclejaaEMLem2
import Derived.Test.YtklnpldggclejaaEMarkCode
import Derived.Test.YtklnpldggclejaaM0
import Derived.Test.YtklnpldggclejaaM21
import Derived.Test.YtklnpldggclejaaM4
namespace Go.Proofs.Ytklnpldggclejaa.Pure
open Go.RowKit Go.Proofs.Ytklnpldggclejaa.M Go.Proofs.YtklnpldggclejaaW.PrintWords Go.Proofs.YtklnpldggclejaaW.PrintLast Go.Proofs.YtklnpldggclejaaW.PrintMore
set_option linter.unusedVariables false
set_option linter.unusedSimpArgs false
theorem FnExactClassOf : laws_FnExactClassOf.Pure := by
  intro n a hn ha
  have A := u16_bd ha
  cases h1 : okMark n a with
  | false =>
    refine ⟨0, ?_⟩
    unfold laws_FnExactClassOf.f spec_ClassOf.f impl_ClassOf.f
    simp [ok_f, code_one, h1]
  | true =>
    have hb := okMark_bd n a A.1 h1
    obtain ⟨j, rfl⟩ := Int.eq_ofNat_of_zero_le (show 0 ≤ n by omega)
    obtain ⟨K, hK⟩ := specClass_ev j a (by omega) A.1
    obtain ⟨K', hK'⟩ := implClass_ev j a (by omega) A.1 A.2
    have e1 := hK (max K K') (by omega)
    have e2 := hK' (max K K') (by omega)
    refine ⟨max K K', ?_⟩
    unfold laws_FnExactClassOf.f spec_ClassOf.f impl_ClassOf.f
    simp [ok_f, code_one, h1, e1, e2]

end Go.Proofs.Ytklnpldggclejaa.Pure
