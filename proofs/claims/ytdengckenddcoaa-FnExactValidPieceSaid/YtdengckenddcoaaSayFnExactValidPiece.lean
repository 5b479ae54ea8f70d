/- The one pure statement of laws.FnExactValidPiece: what is left to prove, with no program in sight. -/
import Derived.Test.YtdengckenddcoaaS3
namespace Go.Proofs.Ytdengckenddcoaa.S
open Go.RowKit Go.Proofs.YtdengckenddcoaaW.PrintWords Go.Proofs.YtdengckenddcoaaW.PrintLast Go.Proofs.YtdengckenddcoaaW.PrintMore
def laws_FnExactValidPiece.Pure : Prop := ∀ (a0_0 : Int) (a0_1 : Int) (a0_2 : Int), (Lit.int .i8 a0_0).wf = true → (Lit.int .i8 a0_1).wf = true → (Lit.int .i16 a0_2).wf = true → laws_FnExactValidPiece.f a0_0 a0_1 a0_2 = some true
end Go.Proofs.Ytdengckenddcoaa.S
