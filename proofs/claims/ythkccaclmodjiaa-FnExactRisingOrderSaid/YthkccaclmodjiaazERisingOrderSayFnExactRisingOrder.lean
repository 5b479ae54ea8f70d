import Derived.Test.YthkccaclmodjiaazERisingOrderI49
namespace Go.Proofs.Ythkccaclmodjiaa.I
open Go.RowKit Go.Proofs.YthkccaclmodjiaaW.PrintWords Go.Proofs.YthkccaclmodjiaaW.PrintLast Go.Proofs.YthkccaclmodjiaaW.PrintMore
def laws_FnExactRisingOrder.Pure : Prop := ∀ (l0 : List S69), l0.length * 4 ≤ 140737488351232 → (∀ x ∈ l0, (Lit.int .i8 x.f0).wf = true ∧ (Lit.int .i8 x.f1).wf = true ∧ (Lit.int .i16 x.f2).wf = true) → ∃ k, laws_FnExactRisingOrder.f k l0 = some true
end Go.Proofs.Ythkccaclmodjiaa.I
