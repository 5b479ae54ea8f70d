/- The program's GreedyMarks answers as the reference's for every number of stitches and of marks, in memory of its own. No condition. -/
import Derived.Test.YtklnpldggclejaaEEvLoop
import Derived.Test.YtklnpldggclejaaEGreedyMarks
import Derived.Test.YtklnpldggclejaaEListsMark
import Derived.Test.YtklnpldggclejaaEMLem6
import Derived.Test.YtklnpldggclejaaM0
import Derived.Test.YtklnpldggclejaaM12
import Derived.Test.YtklnpldggclejaaM37
import Derived.Test.YtklnpldggclejaaM5
import Derived.Test.YtklnpldggclejaaM6
namespace Go.Proofs.Ytklnpldggclejaa.Pure
open Go.RowKit Go.Proofs.Ytklnpldggclejaa.M Go.Proofs.YtklnpldggclejaaW.PrintWords Go.Proofs.YtklnpldggclejaaW.PrintLast Go.Proofs.YtklnpldggclejaaW.PrintMore
set_option linter.unusedVariables false
set_option linter.unusedSimpArgs false
theorem tail (n a : Int) (l : List Int) (c : Int) (hm : l.length ≤ 1000) (hI : Ev (fun k => impl_GreedyMarks.f k n a) (l, c)) (hS : Ev (fun k => spec_GreedyMarks.f k n a) (l, c)) : Ev (fun k => laws_FnExactGreedyMarks.f k n a) true := by
  refine Ev.bind hS (Ev.bind hI (Ev.bind (laws_eqMarkS.same l (by omega)) ?_))
  refine Ev.ite_t rfl ?_
  have e : (c != c) = false := by simp
  simp only [e]
  refine Ev.step (f := fun k => ((laws_markMarkS.f k l 1).bind fun bt => ((laws_heldMarkS.f k bt.2 1).bind fun t => (if t < 0 then (some false) else (if t = bt.1 then ((impl_GreedyMarks.f k n a).bind fun bt2 => ((laws_eqMarkS.f k bt2.1 l).bind fun t2 => (if t2 = true then (laws_FnExactGreedyMarks.j1 k bt.2 bt.1 (bt2.2 != c)) else (laws_FnExactGreedyMarks.j1 k bt.2 bt.1 true)))) else (some false)))))) (fun k => by rw [laws_FnExactGreedyMarks.j0, if_neg (by decide)]) ?_
  refine Ev.bind (laws_markMarkS.ev l 1 (by omega) (by omega) (by omega)) ?_
  refine Ev.bind (laws_heldMarkS.ev 1 l.length (by omega) (by omega) (by omega)) ?_
  refine Ev.ite_f (by omega) (Ev.ite_t rfl ?_)
  refine Ev.bind hI (Ev.bind (laws_eqMarkS.same l (by omega)) ?_)
  refine Ev.ite_t rfl ?_
  simp only [e]
  refine Ev.step (f := fun k => ((laws_heldMarkS.f k (marksMark 1 l.length) 1).bind fun t => (if t < 0 then (some false) else (if t = 1 + (l.length : Int) then (some true) else (some false))))) (fun k => by rw [laws_FnExactGreedyMarks.j1, if_neg (by decide)]) ?_
  refine Ev.bind (laws_heldMarkS.ev 1 l.length (by omega) (by omega) (by omega)) ?_
  exact Ev.ite_f (by omega) (Ev.ite_t rfl (Ev.const rfl))
theorem FnExactGreedyMarks : laws_FnExactGreedyMarks.Pure := by
  intro n c hn hc
  refine Ev.get ?_
  have hl := greedyMarks_len n c
  exact tail n c (greedyMarks n c).1 (greedyMarks n c).2 (by omega) (implGreedyMarks_ev n c) (specGreedyMarks_ev n c)

end Go.Proofs.Ytklnpldggclejaa.Pure
