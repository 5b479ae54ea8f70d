import Derived.Test.YthkccaclmodjiaazETimeBoundEBLem1
import Derived.Test.YthkccaclmodjiaazETimeBoundEBTime
import Derived.Test.YthkccaclmodjiaazETimeBoundEEvLoop
import Derived.Test.YthkccaclmodjiaazETimeBoundEListsPiece
import Derived.Test.YthkccaclmodjiaazETimeBoundI0
import Derived.Test.YthkccaclmodjiaazETimeBoundI34
import Derived.Test.YthkccaclmodjiaazETimeBoundI5
import Derived.Test.YthkccaclmodjiaazETimeBoundI7
import Derived.Test.YthkccaclmodjiaazETimeBoundSayFnExactTimeBound
namespace Go.Proofs.Ythkccaclmodjiaa.Pure
open Go.RowKit Go.Proofs.Ythkccaclmodjiaa.I Go.Proofs.YthkccaclmodjiaaW.PrintWords Go.Proofs.YthkccaclmodjiaaW.PrintLast Go.Proofs.YthkccaclmodjiaaW.PrintMore
set_option linter.unusedVariables false
set_option linter.unusedSimpArgs false
theorem FnExactTimeBound : laws_FnExactTimeBound.Pure := by
  intro x y l hx hy hsz hw
  refine Ev.get ?_
  have hs := sz_f l (by omega)
  by_cases small : l.length ≤ 1048576
  · rw [if_pos small] at hs
    have ht := laws_toPieceS.ev l (by omega)
    have lm : (l.map toP).length = l.length := by simp
    obtain ⟨h1, h2⟩ := TimeBound_both x y (l.map toP) (by omega) (typed_of l hw) (i8_bd hx) (i8_bd hy)
    refine Ev.bind (Ev.const hs) (Ev.ite_f (by omega) ?_)
    refine Ev.bind (a := (x, y)) (Ev.const rfl) (Ev.bind ht (Ev.bind h1 (Ev.bind ht (Ev.bind (a := (x, y)) (Ev.const rfl) (Ev.bind h2 (Ev.ite_t rfl ?_))))))
    refine Ev.step (f := fun k => ((laws_toPieceS.f k l).bind fun t => ((laws_eqPieceS.f k (l.map toP) t).bind fun t2 => (if t2 = true then (some true) else (some false))))) (fun k => by rw [laws_FnExactTimeBound.j0, if_neg (by simp)]) ?_
    exact Ev.bind ht (Ev.bind (laws_eqPieceS.same _ (by omega)) (Ev.ite_t rfl (Ev.const rfl)))
  · rw [if_neg small] at hs
    exact Ev.bind (Ev.const hs) (Ev.ite_t (by omega) (Ev.const rfl))
end Go.Proofs.Ythkccaclmodjiaa.Pure
