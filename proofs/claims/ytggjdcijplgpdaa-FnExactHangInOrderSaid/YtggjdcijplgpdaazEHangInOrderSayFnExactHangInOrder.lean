import Derived.Test.YtggjdcijplgpdaazEHangInOrderELaw6
namespace Go.Proofs.Ytggjdcijplgpdaa.D
open Go.RowKit Go.Proofs.YtggjdcijplgpdaaW.PrintWords Go.Proofs.YtggjdcijplgpdaaW.PrintLast Go.Proofs.YtggjdcijplgpdaaW.PrintMore
def laws_FnExactHangInOrder.Pure : Prop := ∀ (l0 : List S74) (l1 : List S131) (l2 : List Int) (a3 : Int), l0.length = 24 → (∀ x ∈ l0, (Lit.int .i8 x.f0).wf = true ∧ (Lit.int .i8 x.f1).wf = true ∧ (Lit.int .i8 x.f2).wf = true) → l1.length * 4 ≤ 140737488351232 → (∀ x ∈ l1, (Lit.int .i16 x.f0).wf = true ∧ (Lit.int .i8 x.f1).wf = true) → l2.length ≤ maxLen → l2.length * 8 ≤ 140737488351232 → (∀ x ∈ l2, (Lit.int .i64 x).wf = true) → (Lit.int .i64 a3).wf = true → ∃ k, laws_FnExactHangInOrder.f k l0 l1 l2 a3 = some true
end Go.Proofs.Ytggjdcijplgpdaa.D
