/- The program's ValidPiece answers as the reference's for every argument. No condition. -/
import Derived.Test.YtdengckenddcoaaS0
import Derived.Test.YtdengckenddcoaaS1
import Derived.Test.YtdengckenddcoaaS2
import Derived.Test.YtdengckenddcoaaS3
import Derived.Test.YtdengckenddcoaaSayFnExactValidPiece
namespace Go.Proofs.Ytdengckenddcoaa.Pure
open Go.RowKit Go.Proofs.Ytdengckenddcoaa.S Go.Proofs.YtdengckenddcoaaW.PrintWords Go.Proofs.YtdengckenddcoaaW.PrintLast Go.Proofs.YtdengckenddcoaaW.PrintMore
set_option linter.unusedVariables false
set_option linter.unusedSimpArgs false
theorem same_in (a b c : Int) : impl_within.f a b c = spec_l00In.f a b c := rfl
theorem FnExactValidPiece : laws_FnExactValidPiece.Pure := by
  intro a b c ha hb hc 
  have e : impl_ValidPiece.f a b c = spec_ValidPiece.f a b c := by
    unfold impl_ValidPiece.f spec_ValidPiece.f spec_l07Piece.f
    simp only [same_in]
    unfold spec_l00In.f
    repeat' split
    all_goals simp_all
  have tot : ∀ a b c, ∃ r, spec_l00In.f a b c = some r := by intro a b c; unfold spec_l00In.f; split <;> exact ⟨_, rfl⟩
  obtain ⟨xa, ea⟩ := tot (wrap64 a) 1 3
  obtain ⟨xb, eb⟩ := tot (wrap64 b) 1 60
  obtain ⟨xc, ec⟩ := tot (wrap64 c) 0 1000
  have t : ∃ r, spec_ValidPiece.f a b c = some r := by
    unfold spec_ValidPiece.f spec_l07Piece.f
    rw [ea, eb, ec]
    cases xa <;> cases xb <;> cases xc <;> exact ⟨_, rfl⟩
  obtain ⟨r, hr⟩ := t
  have q : laws_toPiece.f a b c = some (a, b, c) := rfl
  unfold laws_FnExactValidPiece.f
  rw [q]
  simp [hr, e]

end Go.Proofs.Ytdengckenddcoaa.Pure
