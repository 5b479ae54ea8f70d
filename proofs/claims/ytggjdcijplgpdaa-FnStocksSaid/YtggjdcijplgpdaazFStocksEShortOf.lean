import Derived.Test.YtggjdcijplgpdaazFStocksEIdxSS
import Derived.Test.YtggjdcijplgpdaazFStocksEFresh
import Derived.Test.YtggjdcijplgpdaazFStocksELLasts
import Derived.Test.YtggjdcijplgpdaazFStocksH12
import Derived.Test.YtggjdcijplgpdaazFStocksESPure
import Derived.Test.YtggjdcijplgpdaazFStocksECloneSt
import Derived.Shelf.Abstract
namespace Go.Proofs.Ytggjdcijplgpdaa.H
open Go.RowKit Go.Proofs.YtggjdcijplgpdaaW.PrintWords Go.Proofs.YtggjdcijplgpdaaW.PrintLast Go.Proofs.YtggjdcijplgpdaaW.PrintMore
attribute [local go_sem] max2_int min2_int max_two min_two max_three min_three max_four min_four
set_option linter.unusedVariables false
set_option linter.unusedSimpArgs false
theorem fitH_fresh {p a1 a2 : Int} (hp : 0 ≤ p ∧ p ≤ 500) (ht : 0 ≤ a1 ∧ a1 ≤ 1000) (he : 1 ≤ a2 ∧ a2 ≤ 7) : FitH [freshS p] a1 a2 0 := ⟨fit_fresh hp, by simp, by simp, ht, he, by omega⟩
theorem shortOf_calls (w : World) (A0 A1 : Option Addr) (c0 c1 : Nat) (p a1 a2 : Int) (xs : List Int) (days : List (List Int)) (hdays : (xs.map fun x => [x]) = days) (hr0 : Kd.C k55 w A0 [freshS p].length [freshS p]) (hc0 : [freshS p].length ≤ c0) (hr1 : Kd.C (Kd.slice 2 (Kd.int .i64)) w A1 days.length days) (hc1 : days.length ≤ c1) (hp : 0 ≤ p ∧ p ≤ 500) (ht : 0 ≤ a1 ∧ a1 ≤ 1000) (he : 1 ≤ a2 ∧ a2 ≤ 7) (hx : ∀ x ∈ xs, 0 ≤ x ∧ x ≤ 500) (hn : xs.length ≤ 60) :
 Calls Try.prog 26 #[.agg #[.slice A0 [freshS p].length c0, .int .i16 a1, .int .i8 a2, .int .i16 0], .slice A1 days.length c1] w fun e w' => ∃ x y : Int, e = .returned (.tuple #[.int .i64 x, .int .i64 y, .int .i64 (if simS a1 a2 xs [freshS p] 0 = true then 0 else 6)]) ∧ Below w.heap.size w w' := by
 have hF := fitH_fresh hp ht he
 obtain ⟨lr, p3, LL, e, hL, hS⟩ := dayAll_one hF rfl hx hn
 rw [hdays] at e
 have h := firstShort_calls w A0 A1 c0 c1 [freshS p] a1 a2 0 days hr0 hc0 hF.typed hr1 hc1 lr a1 a2 p3 LL e hL
 rw [hS] at h
 exact h
end Go.Proofs.Ytggjdcijplgpdaa.H
