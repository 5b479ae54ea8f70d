import Derived.Test.YthkccaclmodjiaazENearestOrderEBLem1
import Derived.Test.YthkccaclmodjiaazENearestOrderEBNear
import Derived.Test.YthkccaclmodjiaazENearestOrderEBNear2
import Derived.Test.YthkccaclmodjiaazENearestOrderEBTime
import Derived.Test.YthkccaclmodjiaazENearestOrderEEvLoop
import Derived.Test.YthkccaclmodjiaazENearestOrderEListsInt64
import Derived.Test.YthkccaclmodjiaazENearestOrderEListsPiece
import Derived.Test.YthkccaclmodjiaazENearestOrderI0
import Derived.Test.YthkccaclmodjiaazENearestOrderI1
import Derived.Test.YthkccaclmodjiaazENearestOrderI10
import Derived.Test.YthkccaclmodjiaazENearestOrderI35
import Derived.Test.YthkccaclmodjiaazENearestOrderI36
import Derived.Test.YthkccaclmodjiaazENearestOrderI5
import Derived.Test.YthkccaclmodjiaazENearestOrderI7
import Derived.Test.YthkccaclmodjiaazENearestOrderI9
import Derived.Test.YthkccaclmodjiaazENearestOrderSayFnExactNearestOrder
namespace Go.Proofs.Ythkccaclmodjiaa.Pure
open Go.RowKit Go.Proofs.Ythkccaclmodjiaa.I Go.Proofs.YthkccaclmodjiaaW.PrintWords Go.Proofs.YthkccaclmodjiaaW.PrintLast Go.Proofs.YthkccaclmodjiaaW.PrintMore
set_option linter.unusedVariables false
set_option linter.unusedSimpArgs false
theorem FnExactNearestOrder : laws_FnExactNearestOrder.Pure := by
  intro x y l hx hy hsz hw
  refine Ev.get ?_
  have hs := sz_f l (by omega)
  by_cases small : l.length ≤ 1048576
  · rw [if_pos small] at hs
    have ht := laws_toPieceS.ev l (by omega)
    have lm : (l.map toP).length = l.length := by simp
    obtain ⟨R, hR, h1, h2⟩ := NearestOrder_both x y (l.map toP) (by omega) (typed_of l hw) (i8_bd hx) (i8_bd hy)
    obtain ⟨mk, hmk⟩ := markPiece_ev (l.map toP) (by omega)
    have eq := laws_eqInt64S.same R.1 (by omega)
    have e : (R.2 != R.2) = false := by simp
    have iron : laws_toIron.f x y = some (x, y) := rfl
    refine Ev.bind (Ev.const hs) (Ev.ite_f (by omega) ?_)
    refine Ev.bind (Ev.const iron) (Ev.bind ht (Ev.bind h1 (Ev.bind ht (Ev.bind (Ev.const iron) (Ev.bind h2 (Ev.bind eq (Ev.ite_t rfl ?_)))))))
    rw [e]
    refine Ev.step (f := fun k => ((laws_toPieceS.f k l).bind fun t257 => ((laws_eqPieceS.f k (l.map toP) t257).bind fun t260 => (if t260 = true then ((laws_markPieceS.f k (l.map toP) 1).bind fun bt261 => (if bt261.1 < 0 then (laws_FnExactNearestOrder.j1 k l R.1 R.2 R.1 true x y) else ((laws_eqInt64S.f k R.1 R.1).bind fun t263 => (if t263 = true then (laws_FnExactNearestOrder.j1 k l R.1 R.2 R.1 (R.2 != R.2) x y) else (laws_FnExactNearestOrder.j1 k l R.1 R.2 R.1 true x y))))) else (some false))))) (fun k => by rw [laws_FnExactNearestOrder.j0, if_neg (by decide)]) ?_
    refine Ev.bind ht (Ev.bind (laws_eqPieceS.same _ (by omega)) (Ev.ite_t rfl (Ev.bind hmk (Ev.ite_f (by dsimp only; omega) (Ev.bind eq (Ev.ite_t rfl ?_))))))
    rw [e]
    refine Ev.step (f := fun k => ((laws_markInt64S.f k R.1 1).bind fun bt264 => ((laws_heldInt64S.f k bt264.2 1).bind fun t266 => (if t266 < 0 then (some false) else (if t266 = bt264.1 then ((laws_toIron.f x y).bind fun bt267 => ((laws_toPieceS.f k l).bind fun t269 => ((impl_NearestOrder.f k bt267.1 bt267.2 t269).bind fun bt272 => ((laws_eqInt64S.f k bt272.1 R.1).bind fun t276 => (if t276 = true then (laws_FnExactNearestOrder.j2 k bt264.2 bt264.1 (bt272.2 != R.2)) else (laws_FnExactNearestOrder.j2 k bt264.2 bt264.1 true)))))) else (some false)))))) (fun k => by rw [laws_FnExactNearestOrder.j1, if_neg (by decide)]) ?_
    refine Ev.bind (laws_markInt64S.ev R.1 1 (by omega) (by omega) (by omega)) (Ev.bind (laws_heldInt64S.ev 1 R.1.length (by omega) (by omega) (by omega)) (Ev.ite_f (by omega) (Ev.ite_t rfl (Ev.bind (Ev.const iron) (Ev.bind ht (Ev.bind h2 (Ev.bind eq (Ev.ite_t rfl ?_))))))))
    rw [e]
    refine Ev.step (f := fun k => ((laws_heldInt64S.f k (marksInt64 1 R.1.length) 1).bind fun t277 => (if t277 < 0 then (some false) else (if t277 = 1 + (R.1.length : Int) then (some true) else (some false))))) (fun k => by rw [laws_FnExactNearestOrder.j2, if_neg (by decide)]) ?_
    exact Ev.bind (laws_heldInt64S.ev 1 R.1.length (by omega) (by omega) (by omega)) (Ev.ite_f (by omega) (Ev.ite_t rfl (Ev.const rfl)))
  · rw [if_neg small] at hs
    exact Ev.bind (Ev.const hs) (Ev.ite_t (by omega) (Ev.const rfl))
end Go.Proofs.Ythkccaclmodjiaa.Pure
