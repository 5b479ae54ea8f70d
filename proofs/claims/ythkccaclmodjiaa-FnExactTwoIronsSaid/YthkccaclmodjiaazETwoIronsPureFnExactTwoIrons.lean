import Derived.Test.YthkccaclmodjiaazETwoIronsEBLem1
import Derived.Test.YthkccaclmodjiaazETwoIronsESortedV
import Derived.Test.YthkccaclmodjiaazETwoIronsEListsPiece
import Derived.Test.YthkccaclmodjiaazETwoIronsETwoLast
import Derived.Test.YthkccaclmodjiaazETwoIronsETwo10
import Derived.Test.YthkccaclmodjiaazETwoIronsETwo9
import Derived.Test.YthkccaclmodjiaazETwoIronsI0
import Derived.Test.YthkccaclmodjiaazETwoIronsI1
import Derived.Test.YthkccaclmodjiaazETwoIronsI5
import Derived.Test.YthkccaclmodjiaazETwoIronsI59
import Derived.Test.YthkccaclmodjiaazETwoIronsI7
import Derived.Test.YthkccaclmodjiaazETwoIronsI9
namespace Go.Proofs.Ythkccaclmodjiaa.Pure
open Go.RowKit Go.Proofs.Ythkccaclmodjiaa.I Go.Proofs.YthkccaclmodjiaaW.PrintWords Go.Proofs.YthkccaclmodjiaaW.PrintLast Go.Proofs.YthkccaclmodjiaaW.PrintMore
set_option linter.unusedVariables false
set_option linter.unusedSimpArgs false
theorem FnExactTwoIrons : laws_FnExactTwoIrons.Pure := by
  intro x y l hx hy hsz hw
  refine Ev.get ?_
  have hs := sz_f l (by omega)
  by_cases small : l.length ≤ 1048576
  · rw [if_pos small] at hs
    have ht := laws_toPieceS.ev l (by omega)
    have lm : (l.map toP).length = l.length := by simp
    have h1 : Ev (fun k => spec_TwoIrons.f k x y (l.map toP)) (twoRes x y (l.map toP)) := twoSpec_ev x y (l.map toP) (by omega) (typed_of l hw) (i8_bd hx) (i8_bd hy)
    have h2 : Ev (fun k => impl_TwoIrons.f k x y (l.map toP)) (twoRes x y (l.map toP)) := twoImpl_ev x y (l.map toP) (typed_of l hw) (i8_bd hx) (i8_bd hy)
    have hR := twoRes_len x y (l.map toP) (typed_of l hw) (i8_bd hx) (i8_bd hy)
    obtain ⟨mk, hmk⟩ := markPiece_ev (l.map toP) (by omega)
    generalize twoRes x y (l.map toP) = R at h1 h2 hR
    have eq := laws_eqInt64S.same R.1 (by omega)
    have e : (R.2.2 != R.2.2) = false := by simp
    have iron : laws_toIron.f x y = some (x, y) := rfl
    refine Ev.bind (Ev.const hs) (Ev.ite_f (by omega) ?_)
    refine Ev.bind (Ev.const iron) (Ev.bind ht (Ev.bind h1 (Ev.bind ht (Ev.bind (Ev.const iron) (Ev.bind h2 (Ev.bind eq (Ev.ite_t rfl (Ev.ite_t rfl ?_))))))))
    rw [e]
    refine Ev.step (f := fun k => ((laws_toPieceS.f k l).bind fun t348 => ((laws_eqPieceS.f k (l.map toP) t348).bind fun t351 => (if t351 = true then ((laws_markPieceS.f k (l.map toP) 1).bind fun bt352 => (if bt352.1 < 0 then (laws_FnExactTwoIrons.j1 k l R.1 R.2.1 R.2.2 R.1 true x y) else ((laws_eqInt64S.f k R.1 R.1).bind fun t354 => (if t354 = true then (if R.2.1 = R.2.1 then (laws_FnExactTwoIrons.j1 k l R.1 R.2.1 R.2.2 R.1 (R.2.2 != R.2.2) x y) else (laws_FnExactTwoIrons.j1 k l R.1 R.2.1 R.2.2 R.1 true x y)) else (laws_FnExactTwoIrons.j1 k l R.1 R.2.1 R.2.2 R.1 true x y))))) else (some false))))) (fun k => by rw [laws_FnExactTwoIrons.j0, if_neg (by decide)]) ?_
    refine Ev.bind ht (Ev.bind (laws_eqPieceS.same _ (by omega)) (Ev.ite_t rfl (Ev.bind hmk (Ev.ite_f (by dsimp only; omega) (Ev.bind eq (Ev.ite_t rfl (Ev.ite_t rfl ?_)))))))
    rw [e]
    refine Ev.step (f := fun k => ((laws_markInt64S.f k R.1 1).bind fun bt355 => ((laws_heldInt64S.f k bt355.2 1).bind fun t357 => (if t357 < 0 then (some false) else (if t357 = bt355.1 then ((laws_toIron.f x y).bind fun bt358 => ((laws_toPieceS.f k l).bind fun t360 => ((impl_TwoIrons.f k bt358.1 bt358.2 t360).bind fun bt363 => ((laws_eqInt64S.f k bt363.1 R.1).bind fun t368 => (if t368 = true then (if bt363.2.1 = R.2.1 then (laws_FnExactTwoIrons.j2 k bt355.2 bt355.1 (bt363.2.2 != R.2.2)) else (laws_FnExactTwoIrons.j2 k bt355.2 bt355.1 true)) else (laws_FnExactTwoIrons.j2 k bt355.2 bt355.1 true)))))) else (some false)))))) (fun k => by rw [laws_FnExactTwoIrons.j1, if_neg (by decide)]) ?_
    refine Ev.bind (laws_markInt64S.ev R.1 1 (by omega) (by omega) (by omega)) (Ev.bind (laws_heldInt64S.ev 1 R.1.length (by omega) (by omega) (by omega)) (Ev.ite_f (by omega) (Ev.ite_t rfl (Ev.bind (Ev.const iron) (Ev.bind ht (Ev.bind h2 (Ev.bind eq (Ev.ite_t rfl (Ev.ite_t rfl ?_)))))))))
    rw [e]
    refine Ev.step (f := fun k => ((laws_heldInt64S.f k (marksInt64 1 R.1.length) 1).bind fun t369 => (if t369 < 0 then (some false) else (if t369 = 1 + (R.1.length : Int) then (some true) else (some false))))) (fun k => by rw [laws_FnExactTwoIrons.j2, if_neg (by decide)]) ?_
    exact Ev.bind (laws_heldInt64S.ev 1 R.1.length (by omega) (by omega) (by omega)) (Ev.ite_f (by omega) (Ev.ite_t rfl (Ev.const rfl)))
  · rw [if_neg small] at hs
    exact Ev.bind (Ev.const hs) (Ev.ite_t (by omega) (Ev.const rfl))
end Go.Proofs.Ythkccaclmodjiaa.Pure
