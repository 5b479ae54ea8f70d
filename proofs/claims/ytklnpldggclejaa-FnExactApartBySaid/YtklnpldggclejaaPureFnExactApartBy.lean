/- The program's ApartBy answers as the reference's for every number of stitches and every two marks. No condition. -/
import Derived.Test.YtklnpldggclejaaEEvLoop
import Derived.Test.YtklnpldggclejaaEMLem
import Derived.Test.YtklnpldggclejaaEMLem2
import Derived.Test.YtklnpldggclejaaEMarkCode
import Derived.Test.YtklnpldggclejaaM0
import Derived.Test.YtklnpldggclejaaM2
import Derived.Test.YtklnpldggclejaaM21
namespace Go.Proofs.Ytklnpldggclejaa.Pure
open Go.RowKit Go.Proofs.Ytklnpldggclejaa.M Go.Proofs.YtklnpldggclejaaW.PrintWords Go.Proofs.YtklnpldggclejaaW.PrintLast Go.Proofs.YtklnpldggclejaaW.PrintMore
set_option linter.unusedVariables false
set_option linter.unusedSimpArgs false
theorem FnExactApartBy : laws_FnExactApartBy.Pure := by
  intro n a b hn ha hb
  have A := u16_bd ha
  have B := u16_bd hb
  have X := bits_u16_bd .xor a b
  cases h1 : okMark n a with
  | false =>
    refine ⟨0, ?_⟩
    unfold laws_FnExactApartBy.f spec_ApartBy.f impl_ApartBy.f
    simp [ok_f, code_two, h1]
  | true =>
    cases h2 : okMark n b with
    | false =>
      refine ⟨0, ?_⟩
      unfold laws_FnExactApartBy.f spec_ApartBy.f impl_ApartBy.f
      simp [ok_f, code_two, h1, h2]
    | true =>
      obtain ⟨k, hk⟩ := Ev.get (count_ev (Go.bits .xor .u16 a b) X.1 X.2)
      refine ⟨k, ?_⟩
      unfold laws_FnExactApartBy.f spec_ApartBy.f impl_ApartBy.f
      simp [ok_f, code_two, h1, h2, hk, stitchesIn_f _ X.1 X.2]

end Go.Proofs.Ytklnpldggclejaa.Pure
