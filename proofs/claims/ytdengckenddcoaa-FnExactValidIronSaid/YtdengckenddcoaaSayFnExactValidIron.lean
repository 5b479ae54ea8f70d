/- The one pure statement of laws.FnExactValidIron: what is left to prove, with no program in sight. -/
import Derived.Test.YtdengckenddcoaaS1
namespace Go.Proofs.Ytdengckenddcoaa.S
open Go.RowKit Go.Proofs.YtdengckenddcoaaW.PrintWords Go.Proofs.YtdengckenddcoaaW.PrintLast Go.Proofs.YtdengckenddcoaaW.PrintMore
def laws_FnExactValidIron.Pure : Prop := ∀ (a0_0 : Int) (a0_1 : Int), (Lit.int .i8 a0_0).wf = true → (Lit.int .i8 a0_1).wf = true → laws_FnExactValidIron.f a0_0 a0_1 = some true
end Go.Proofs.Ytdengckenddcoaa.S
