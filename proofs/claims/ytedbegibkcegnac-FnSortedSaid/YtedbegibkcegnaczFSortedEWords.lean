import Derived.Test.YtedbegibkcegnaczFSortedM0
namespace Go.Proofs.Ytedbegibkcegnac.M
set_option linter.unusedVariables false
theorem take_len {α : Type} (l : List α) (i : Int) (h : 0 ≤ i) (h1 : i ≤ (l.length : Int)) : ((l.take i.toNat).length : Int) = max i 0 := by
  rw [List.length_take]
  omega
end Go.Proofs.Ytedbegibkcegnac.M
