import Derived.Test.YthkccaclmodjiaazERisingOrderEBNear
import Derived.Test.YthkccaclmodjiaazERisingOrderEBSort
import Derived.Test.YthkccaclmodjiaazERisingOrderEBTime
import Derived.Test.YthkccaclmodjiaazERisingOrderEEvLoop
import Derived.Test.YthkccaclmodjiaazERisingOrderEListsInt64
import Derived.Test.YthkccaclmodjiaazERisingOrderEListsPiece
import Derived.Test.YthkccaclmodjiaazERisingOrderEOrders2
import Derived.Test.YthkccaclmodjiaazERisingOrderI0
import Derived.Test.YthkccaclmodjiaazERisingOrderI10
import Derived.Test.YthkccaclmodjiaazERisingOrderI49
import Derived.Test.YthkccaclmodjiaazERisingOrderI5
import Derived.Test.YthkccaclmodjiaazERisingOrderI7
import Derived.Test.YthkccaclmodjiaazERisingOrderI9
import Derived.Test.YthkccaclmodjiaazERisingOrderSayFnExactRisingOrder
namespace Go.Proofs.Ythkccaclmodjiaa.Pure
open Go.RowKit Go.Proofs.Ythkccaclmodjiaa.I Go.Proofs.YthkccaclmodjiaaW.PrintWords Go.Proofs.YthkccaclmodjiaaW.PrintLast Go.Proofs.YthkccaclmodjiaaW.PrintMore
set_option linter.unusedVariables false
set_option linter.unusedSimpArgs false
theorem FnExactRisingOrder : laws_FnExactRisingOrder.Pure := by
  intro l hsz hw
  refine Ev.get ?_
  have hs := sz_f l (by omega)
  by_cases small : l.length ≤ 1048576
  · rw [if_pos small] at hs
    have ht := laws_toPieceS.ev l (by omega)
    have lm : (l.map toP).length = l.length := by simp
    obtain ⟨h1, h2⟩ := RisingOrder_both (l.map toP) (by omega) (typed_of l hw)
    have hR := orderRes_len (fun x => wrap64 x.f0) (l.map toP) (by omega)
    obtain ⟨mk, hmk⟩ := markPiece_ev (l.map toP) (by omega)
    generalize orderRes (fun x => wrap64 x.f0) (l.map toP) = R at h1 h2 hR
    have eq := laws_eqInt64S.same R.1 (by omega)
    have e : (R.2 != R.2) = false := by simp
    refine Ev.bind (Ev.const hs) (Ev.ite_f (by omega) ?_)
    refine Ev.bind ht (Ev.bind h1 (Ev.bind ht (Ev.bind h2 (Ev.bind eq (Ev.ite_t rfl ?_)))))
    rw [e]
    refine Ev.step (f := fun k => ((laws_toPieceS.f k l).bind fun t387 => ((laws_eqPieceS.f k (l.map toP) t387).bind fun t390 => (if t390 = true then ((laws_markPieceS.f k (l.map toP) 1).bind fun bt391 => (if bt391.1 < 0 then (laws_FnExactRisingOrder.j1 k l R.1 R.2 R.1 true) else ((laws_eqInt64S.f k R.1 R.1).bind fun t393 => (if t393 = true then (laws_FnExactRisingOrder.j1 k l R.1 R.2 R.1 (R.2 != R.2)) else (laws_FnExactRisingOrder.j1 k l R.1 R.2 R.1 true))))) else (some false))))) (fun k => by rw [laws_FnExactRisingOrder.j0, if_neg (by decide)]) ?_
    refine Ev.bind ht (Ev.bind (laws_eqPieceS.same _ (by omega)) (Ev.ite_t rfl (Ev.bind hmk (Ev.ite_f (by dsimp only; omega) (Ev.bind eq (Ev.ite_t rfl ?_))))))
    rw [e]
    refine Ev.step (f := fun k => ((laws_markInt64S.f k R.1 1).bind fun bt394 => ((laws_heldInt64S.f k bt394.2 1).bind fun t396 => (if t396 < 0 then (some false) else (if t396 = bt394.1 then ((laws_toPieceS.f k l).bind fun t397 => ((impl_RisingOrder.f k t397).bind fun bt400 => ((laws_eqInt64S.f k bt400.1 R.1).bind fun t404 => (if t404 = true then (laws_FnExactRisingOrder.j2 k bt394.2 bt394.1 (bt400.2 != R.2)) else (laws_FnExactRisingOrder.j2 k bt394.2 bt394.1 true))))) else (some false)))))) (fun k => by rw [laws_FnExactRisingOrder.j1, if_neg (by decide)]) ?_
    refine Ev.bind (laws_markInt64S.ev R.1 1 (by omega) (by omega) (by omega)) (Ev.bind (laws_heldInt64S.ev 1 R.1.length (by omega) (by omega) (by omega)) (Ev.ite_f (by omega) (Ev.ite_t rfl (Ev.bind ht (Ev.bind h2 (Ev.bind eq (Ev.ite_t rfl ?_)))))))
    rw [e]
    refine Ev.step (f := fun k => ((laws_heldInt64S.f k (marksInt64 1 R.1.length) 1).bind fun t277 => (if t277 < 0 then (some false) else (if t277 = 1 + (R.1.length : Int) then (some true) else (some false))))) (fun k => by rw [laws_FnExactRisingOrder.j2, if_neg (by decide)]) ?_
    exact Ev.bind (laws_heldInt64S.ev 1 R.1.length (by omega) (by omega) (by omega)) (Ev.ite_f (by omega) (Ev.ite_t rfl (Ev.const rfl)))
  · rw [if_neg small] at hs
    exact Ev.bind (Ev.const hs) (Ev.ite_t (by omega) (Ev.const rfl))
end Go.Proofs.Ythkccaclmodjiaa.Pure
