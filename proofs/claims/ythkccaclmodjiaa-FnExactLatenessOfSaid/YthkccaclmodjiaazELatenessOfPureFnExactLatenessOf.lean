import Derived.Test.YthkccaclmodjiaazELatenessOfEBLate
import Derived.Test.YthkccaclmodjiaazELatenessOfEBLem1
import Derived.Test.YthkccaclmodjiaazELatenessOfEBTime
import Derived.Test.YthkccaclmodjiaazELatenessOfEEvLoop
import Derived.Test.YthkccaclmodjiaazELatenessOfEListsInt64
import Derived.Test.YthkccaclmodjiaazELatenessOfEListsPiece
import Derived.Test.YthkccaclmodjiaazELatenessOfI0
import Derived.Test.YthkccaclmodjiaazELatenessOfI1
import Derived.Test.YthkccaclmodjiaazELatenessOfI37
import Derived.Test.YthkccaclmodjiaazELatenessOfI45
import Derived.Test.YthkccaclmodjiaazELatenessOfI5
import Derived.Test.YthkccaclmodjiaazELatenessOfI7
import Derived.Test.YthkccaclmodjiaazELatenessOfI9
import Derived.Test.YthkccaclmodjiaazELatenessOfSayFnExactLatenessOf
namespace Go.Proofs.Ythkccaclmodjiaa.Pure
open Go.RowKit Go.Proofs.Ythkccaclmodjiaa.I Go.Proofs.YthkccaclmodjiaaW.PrintWords Go.Proofs.YthkccaclmodjiaaW.PrintLast Go.Proofs.YthkccaclmodjiaaW.PrintMore
set_option linter.unusedVariables false
set_option linter.unusedSimpArgs false
theorem FnExactLatenessOf : laws_FnExactLatenessOf.Pure := by
  intro x y l o hx hy hsz hw ho1 ho2 hwo
  refine Ev.get ?_
  by_cases big : (o.length : Int) > 1048576
  · exact Ev.ite_t big (Ev.const rfl)
  refine Ev.ite_f big ?_
  have hs := sz_f l (by omega)
  by_cases small : l.length ≤ 1048576
  · rw [if_pos small] at hs
    have ht := laws_toPieceS.ev l (by omega)
    have hi := laws_toInt64S.ev o (by omega)
    have lm : (l.map toP).length = l.length := by simp
    obtain ⟨h1, h2⟩ := LatenessOf_both x y (l.map toP) o (by omega) (by omega) (typed_of l hw) (i8_bd hx) (i8_bd hy)
    have iron : laws_toIron.f x y = some (x, y) := rfl
    generalize latenessOf x y (l.map toP) o = R at h1 h2
    have e : (R.2 != R.2) = false := by simp
    refine Ev.bind (Ev.const hs) (Ev.ite_f (by omega) ?_)
    refine Ev.bind (Ev.const iron) (Ev.bind ht (Ev.bind hi (Ev.bind h1 (Ev.bind ht (Ev.bind hi (Ev.bind (Ev.const iron) (Ev.bind h2 (Ev.ite_t rfl ?_))))))))
    rw [e]
    refine Ev.step (f := fun k => ((laws_toPieceS.f k l).bind fun t628 => ((laws_eqPieceS.f k (l.map toP) t628).bind fun t631 => (if t631 = true then ((laws_toInt64S.f k o).bind fun t632 => ((laws_eqInt64S.f k o t632).bind fun t635 => (if t635 = true then (some true) else (some false)))) else (some false))))) (fun k => by rw [laws_FnExactLatenessOf.j0, if_neg (by decide)]) ?_
    exact Ev.bind ht (Ev.bind (laws_eqPieceS.same _ (by omega)) (Ev.ite_t rfl (Ev.bind hi (Ev.bind (laws_eqInt64S.same _ (by omega)) (Ev.ite_t rfl (Ev.const rfl))))))
  · rw [if_neg small] at hs
    exact Ev.bind (Ev.const hs) (Ev.ite_t (by omega) (Ev.const rfl))
end Go.Proofs.Ythkccaclmodjiaa.Pure
