/- The one pure statement of laws.FnExactChangeTime: what is left to prove, with no program in sight. -/
import Derived.Test.YthkccaclmodjiaaI3
namespace Go.Proofs.Ythkccaclmodjiaa.I
open Go.RowKit Go.Proofs.YthkccaclmodjiaaW.PrintWords Go.Proofs.YthkccaclmodjiaaW.PrintLast Go.Proofs.YthkccaclmodjiaaW.PrintMore
def laws_FnExactChangeTime.Pure : Prop := ∀ (a0_0 : Int) (a0_1 : Int) (a1 : Int) (a2 : Int), (Lit.int .i8 a0_0).wf = true → (Lit.int .i8 a0_1).wf = true → (Lit.int .i64 a1).wf = true → (Lit.int .i64 a2).wf = true → laws_FnExactChangeTime.f a0_0 a0_1 a1 a2 = some true
end Go.Proofs.Ythkccaclmodjiaa.I
