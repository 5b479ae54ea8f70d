import Derived.Test.YthkccaclmodjiaazEFewestLateI57
namespace Go.Proofs.Ythkccaclmodjiaa.I
open Go.RowKit Go.Proofs.YthkccaclmodjiaaW.PrintWords Go.Proofs.YthkccaclmodjiaaW.PrintLast Go.Proofs.YthkccaclmodjiaaW.PrintMore
def laws_FnExactFewestLate.Pure : Prop := ∀ (a0_0 : Int) (a0_1 : Int) (l1 : List S69), (Lit.int .i8 a0_0).wf = true → (Lit.int .i8 a0_1).wf = true → l1.length * 4 ≤ 140737488351232 → (∀ x ∈ l1, (Lit.int .i8 x.f0).wf = true ∧ (Lit.int .i8 x.f1).wf = true ∧ (Lit.int .i16 x.f2).wf = true) → ∃ k, laws_FnExactFewestLate.f k a0_0 a0_1 l1 = some true
end Go.Proofs.Ythkccaclmodjiaa.I
