import Derived.Test.YthkccaclmodjiaazELateInEBLate
import Derived.Test.YthkccaclmodjiaazELateInEBLem1
import Derived.Test.YthkccaclmodjiaazELateInEBNear
import Derived.Test.YthkccaclmodjiaazELateInEBTime
import Derived.Test.YthkccaclmodjiaazELateInEEvLoop
import Derived.Test.YthkccaclmodjiaazELateInEListsInt64
import Derived.Test.YthkccaclmodjiaazELateInEListsPiece
import Derived.Test.YthkccaclmodjiaazELateInI0
import Derived.Test.YthkccaclmodjiaazELateInI1
import Derived.Test.YthkccaclmodjiaazELateInI10
import Derived.Test.YthkccaclmodjiaazELateInI37
import Derived.Test.YthkccaclmodjiaazELateInI46
import Derived.Test.YthkccaclmodjiaazELateInI47
import Derived.Test.YthkccaclmodjiaazELateInI5
import Derived.Test.YthkccaclmodjiaazELateInI7
import Derived.Test.YthkccaclmodjiaazELateInI9
import Derived.Test.YthkccaclmodjiaazELateInSayFnExactLateIn
namespace Go.Proofs.Ythkccaclmodjiaa.Pure
open Go.RowKit Go.Proofs.Ythkccaclmodjiaa.I Go.Proofs.YthkccaclmodjiaaW.PrintWords Go.Proofs.YthkccaclmodjiaaW.PrintLast Go.Proofs.YthkccaclmodjiaaW.PrintMore
set_option linter.unusedVariables false
set_option linter.unusedSimpArgs false
theorem FnExactLateIn : laws_FnExactLateIn.Pure := by
  intro x y l o hx hy hsz hw ho1 ho2 hwo
  refine Ev.get ?_
  by_cases big : (o.length : Int) > 1048576
  · exact Ev.ite_t big (Ev.const rfl)
  refine Ev.ite_f big ?_
  have hs := sz_f l (by omega)
  by_cases small : l.length ≤ 1048576
  · rw [if_pos small] at hs
    have ht := laws_toPieceS.ev l (by omega)
    have hi := laws_toInt64S.ev o (by omega)
    have lm : (l.map toP).length = l.length := by simp
    obtain ⟨h1, h2⟩ := LateIn_both x y (l.map toP) o (by omega) (by omega) (typed_of l hw) (i8_bd hx) (i8_bd hy)
    have hR := lateIn_len x y (l.map toP) o (by omega)
    obtain ⟨mk, hmk⟩ := markPiece_ev (l.map toP) (by omega)
    have hmo := laws_markInt64S.ev o (1 + 3 * ((l.map toP).length : Int)) (by omega) (by omega) (by omega)
    have iron : laws_toIron.f x y = some (x, y) := rfl
    generalize lateIn x y (l.map toP) o = R at h1 h2 hR
    have eq := laws_eqInt64S.same R.1 (by omega)
    have e : (R.2 != R.2) = false := by simp
    refine Ev.bind (Ev.const hs) (Ev.ite_f (by omega) ?_)
    refine Ev.bind (Ev.const iron) (Ev.bind ht (Ev.bind hi (Ev.bind h1 (Ev.bind ht (Ev.bind hi (Ev.bind (Ev.const iron) (Ev.bind h2 (Ev.bind eq (Ev.ite_t rfl ?_)))))))))
    rw [e]
    refine Ev.step (f := fun k => ((laws_toPieceS.f k l).bind fun t764 => ((laws_eqPieceS.f k (l.map toP) t764).bind fun t767 => (if t767 = true then ((laws_toInt64S.f k o).bind fun t768 => ((laws_eqInt64S.f k o t768).bind fun t771 => (if t771 = true then ((laws_markPieceS.f k (l.map toP) 1).bind fun bt772 => ((laws_markInt64S.f k o bt772.1).bind fun bt774 => (if bt774.1 < 0 then (laws_FnExactLateIn.j1 k l o R.1 R.2 R.1 true x y) else ((laws_eqInt64S.f k R.1 R.1).bind fun t776 => (if t776 = true then (laws_FnExactLateIn.j1 k l o R.1 R.2 R.1 (R.2 != R.2) x y) else (laws_FnExactLateIn.j1 k l o R.1 R.2 R.1 true x y)))))) else (some false)))) else (some false))))) (fun k => by rw [laws_FnExactLateIn.j0, if_neg (by decide)]) ?_
    refine Ev.bind ht (Ev.bind (laws_eqPieceS.same _ (by omega)) (Ev.ite_t rfl (Ev.bind hi (Ev.bind (laws_eqInt64S.same _ (by omega)) (Ev.ite_t rfl (Ev.bind hmk (Ev.bind hmo (Ev.ite_f (by dsimp only; omega) (Ev.bind eq (Ev.ite_t rfl ?_))))))))))
    rw [e]
    refine Ev.step (f := fun k => ((laws_markInt64S.f k R.1 1).bind fun bt777 => ((laws_heldInt64S.f k bt777.2 1).bind fun t779 => (if t779 < 0 then (some false) else (if t779 = bt777.1 then ((laws_toIron.f x y).bind fun bt780 => ((laws_toPieceS.f k l).bind fun t782 => ((laws_toInt64S.f k o).bind fun t785 => ((impl_LateIn.f k bt780.1 bt780.2 t782 t785).bind fun bt788 => ((laws_eqInt64S.f k bt788.1 R.1).bind fun t792 => (if t792 = true then (laws_FnExactLateIn.j2 k bt777.2 bt777.1 (bt788.2 != R.2)) else (laws_FnExactLateIn.j2 k bt777.2 bt777.1 true))))))) else (some false)))))) (fun k => by rw [laws_FnExactLateIn.j1, if_neg (by decide)]) ?_
    refine Ev.bind (laws_markInt64S.ev R.1 1 (by omega) (by omega) (by omega)) (Ev.bind (laws_heldInt64S.ev 1 R.1.length (by omega) (by omega) (by omega)) (Ev.ite_f (by omega) (Ev.ite_t rfl (Ev.bind (Ev.const iron) (Ev.bind ht (Ev.bind hi (Ev.bind h2 (Ev.bind eq (Ev.ite_t rfl ?_)))))))))
    rw [e]
    refine Ev.step (f := fun k => ((laws_heldInt64S.f k (marksInt64 1 R.1.length) 1).bind fun t793 => (if t793 < 0 then (some false) else (if t793 = 1 + (R.1.length : Int) then (some true) else (some false))))) (fun k => by rw [laws_FnExactLateIn.j2, if_neg (by decide)]) ?_
    exact Ev.bind (laws_heldInt64S.ev 1 R.1.length (by omega) (by omega) (by omega)) (Ev.ite_f (by omega) (Ev.ite_t rfl (Ev.const rfl)))
  · rw [if_neg small] at hs
    exact Ev.bind (Ev.const hs) (Ev.ite_t (by omega) (Ev.const rfl))
end Go.Proofs.Ythkccaclmodjiaa.Pure
