import Derived.Test.YtggjdcijplgpdaazEAllDryAtD0
namespace Go.Proofs.Ytggjdcijplgpdaa.D
open Go.RowKit Go.Proofs.YtggjdcijplgpdaaW.PrintWords Go.Proofs.YtggjdcijplgpdaaW.PrintLast Go.Proofs.YtggjdcijplgpdaaW.PrintMore
attribute [local go_sem] max2_int min2_int max_two min_two max_three min_three max_four min_four
set_option linter.unusedVariables false
set_option linter.unusedSimpArgs false
def srt (l : List Int) : List Int := l.mergeSort fun x y => decide (x ≤ y)
theorem srt_perm (l : List Int) : (srt l).Perm l := List.mergeSort_perm _ _
theorem srt_len (l : List Int) : (srt l).length = l.length := (srt_perm l).length_eq
theorem srt_up (l : List Int) : (srt l).Pairwise (fun a b => a ≤ b) := by
  refine (List.pairwise_mergeSort (le := fun x y : Int => decide (x ≤ y)) ?_ ?_ l).imp (fun h => of_decide_eq_true h)
  · intro a b c h1 h2
    have := of_decide_eq_true h1
    have := of_decide_eq_true h2
    exact decide_eq_true (by omega)
  · intro a b
    by_cases h : a ≤ b
    · simp [h]
    · simp [show b ≤ a by omega]
end Go.Proofs.Ytggjdcijplgpdaa.D
