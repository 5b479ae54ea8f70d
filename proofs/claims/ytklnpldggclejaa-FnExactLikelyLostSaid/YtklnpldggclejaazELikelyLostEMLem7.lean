import Derived.Test.YtklnpldggclejaazELikelyLostECloneMark
import Derived.Test.YtklnpldggclejaazELikelyLostEEvLoop
import Derived.Test.YtklnpldggclejaazELikelyLostEMLem
import Derived.Test.YtklnpldggclejaazELikelyLostEMLem2
import Derived.Test.YtklnpldggclejaazELikelyLostEMLem3
import Derived.Test.YtklnpldggclejaazELikelyLostEMarkCode
import Derived.Test.YtklnpldggclejaazELikelyLostM0
import Derived.Test.YtklnpldggclejaazELikelyLostM10
import Derived.Test.YtklnpldggclejaazELikelyLostM9
import Derived.Test.YtklnpldggclejaazELikelyLostM1
import Derived.Test.YtklnpldggclejaazELikelyLostM5
import Derived.Test.YtklnpldggclejaazELikelyLostM6
import Derived.Test.YtklnpldggclejaazELikelyLostM4
import Derived.Test.YtklnpldggclejaazELikelyLostEPredMark
import Derived.Test.YtklnpldggclejaazELikelyLostEMLem6
import Derived.Test.YtklnpldggclejaazELikelyLostM2
import Derived.Test.YtklnpldggclejaazELikelyLostM3
import Derived.Shelf.Abstract
import Derived.Deep.RegionHeld3
namespace Go.Proofs.Ytklnpldggclejaa.M
open Go.RowKit Go.Proofs.YtklnpldggclejaaW.PrintWords Go.Proofs.YtklnpldggclejaaW.PrintLast Go.Proofs.YtklnpldggclejaaW.PrintMore
attribute [local go_sem] max2_int min2_int max_two min_two max_three min_three max_four min_four
set_option linter.unusedVariables false
set_option linter.unusedSimpArgs false
def codeSeen (n : Int) (l : List Int) (s : Int) : Int := if okMark n s = true then listCode n l else 1
theorem codeSeen_ev (n : Int) (l : List Int) (s : Int) : Ev (fun k => (impl_markCode.f n (l ++ [s])).bind fun a => (impl_fewMarks.f l).bind fun b => impl_firstOf.f k [a, b]) (codeSeen n l s) := by
  have e (a b : Int) := firstOf_ev [a, b] (by simp)
  rw [implCode_f, few_f]
  refine Ev.congr (f := fun k => impl_firstOf.f k [if 1 ≤ n ∧ n ≤ 12 then (if (l ++ [s]).any (fun m => !okMark n m) = true then 1 else 0) else 1, if l.length ≤ 40 then 0 else 3]) (fun k => rfl) ?_
  have q : firstNZ [if 1 ≤ n ∧ n ≤ 12 then (if (l ++ [s]).any (fun m => !okMark n m) = true then (1 : Int) else 0) else 1, if l.length ≤ 40 then 0 else 3] = codeSeen n l s := by
    unfold codeSeen listCode
    rw [List.any_append]
    by_cases c : 1 ≤ n ∧ n ≤ 12
    · rw [if_pos c, if_pos c]
      cases d : l.any (fun m => !okMark n m) with
      | true => cases f : okMark n s <;> rfl
      | false =>
        cases f : okMark n s with
        | true =>
          rw [List.any_cons, f]
          show firstNZ [if false = true then 1 else 0, if l.length ≤ 40 then 0 else 3] = if true = true then (if false = true then 1 else if l.length > 40 then 3 else 0) else 1
          simp only [Bool.false_eq_true, if_false, if_true]
          by_cases g : l.length ≤ 40
          · rw [if_pos g, if_neg (by omega)]; rfl
          · rw [if_neg g, if_pos (by omega)]; rfl
        | false => rw [List.any_cons, f]; rfl
    · have f := okMark_out n s c
      rw [if_neg c, f]; rfl
  have := e (if 1 ≤ n ∧ n ≤ 12 then (if (l ++ [s]).any (fun m => !okMark n m) = true then 1 else 0) else 1) (if l.length ≤ 40 then 0 else 3)
  rw [q] at this
  exact this
theorem clone_f (l : List Int) (h : l.length ≤ 1048576) : slices_Clone_impl_Mark_impl_Mark.f l = some l := by
  unfold slices_Clone_impl_Mark_impl_Mark.f
  rw [if_pos (by omega)]
theorem codeSeen_zero (n : Int) (l : List Int) (s : Int) (h : codeSeen n l s = 0) : okMark n s = true ∧ listCode n l = 0 := by
  unfold codeSeen at h
  by_cases c : okMark n s = true
  · rw [if_pos c] at h; exact ⟨c, h⟩
  · rw [if_neg c] at h; omega
end Go.Proofs.Ytklnpldggclejaa.M
