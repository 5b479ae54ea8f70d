/- The program's LostFrom answers as the reference's for every number of stitches and every mark, in memory of its own. No condition. -/
import Derived.Test.YtklnpldggclejaaEEvLoop
import Derived.Test.YtklnpldggclejaaEListsMark
import Derived.Test.YtklnpldggclejaaEMLem
import Derived.Test.YtklnpldggclejaaEMLem2
import Derived.Test.YtklnpldggclejaaEMarkCode
import Derived.Test.YtklnpldggclejaaM0
import Derived.Test.YtklnpldggclejaaM23
import Derived.Test.YtklnpldggclejaaM24
import Derived.Test.YtklnpldggclejaaM5
import Derived.Test.YtklnpldggclejaaM6
namespace Go.Proofs.Ytklnpldggclejaa.Pure
open Go.RowKit Go.Proofs.Ytklnpldggclejaa.M Go.Proofs.YtklnpldggclejaaW.PrintWords Go.Proofs.YtklnpldggclejaaW.PrintLast Go.Proofs.YtklnpldggclejaaW.PrintMore
set_option linter.unusedVariables false
set_option linter.unusedSimpArgs false
theorem tail (n a : Int) (l : List Int) (c : Int) (hm : l.length ≤ 1000) (hI : Ev (fun k => impl_LostFrom.f k n a) (l, c)) (hS : Ev (fun k => spec_LostFrom.f k n a) (l, c)) : Ev (fun k => laws_FnExactLostFrom.f k n a) true := by
  refine Ev.bind hS (Ev.bind hI (Ev.bind (laws_eqMarkS.same l (by omega)) ?_))
  refine Ev.ite_t rfl ?_
  have e : (c != c) = false := by simp
  simp only [e]
  refine Ev.step (f := fun k => ((laws_markMarkS.f k l 1).bind fun bt => ((laws_heldMarkS.f k bt.2 1).bind fun t => (if t < 0 then (some false) else (if t = bt.1 then ((impl_LostFrom.f k n a).bind fun bt2 => ((laws_eqMarkS.f k bt2.1 l).bind fun t2 => (if t2 = true then (laws_FnExactLostFrom.j1 k bt.2 bt.1 (bt2.2 != c)) else (laws_FnExactLostFrom.j1 k bt.2 bt.1 true)))) else (some false)))))) (fun k => by rw [laws_FnExactLostFrom.j0, if_neg (by decide)]) ?_
  refine Ev.bind (laws_markMarkS.ev l 1 (by omega) (by omega) (by omega)) ?_
  refine Ev.bind (laws_heldMarkS.ev 1 l.length (by omega) (by omega) (by omega)) ?_
  refine Ev.ite_f (by omega) (Ev.ite_t rfl ?_)
  refine Ev.bind hI (Ev.bind (laws_eqMarkS.same l (by omega)) ?_)
  refine Ev.ite_t rfl ?_
  simp only [e]
  refine Ev.step (f := fun k => ((laws_heldMarkS.f k (marksMark 1 l.length) 1).bind fun t => (if t < 0 then (some false) else (if t = 1 + (l.length : Int) then (some true) else (some false))))) (fun k => by rw [laws_FnExactLostFrom.j1, if_neg (by decide)]) ?_
  refine Ev.bind (laws_heldMarkS.ev 1 l.length (by omega) (by omega) (by omega)) ?_
  exact Ev.ite_f (by omega) (Ev.ite_t rfl (Ev.const rfl))
theorem FnExactLostFrom : laws_FnExactLostFrom.Pure := by
  intro n a hn ha
  have A := u16_bd ha
  refine Ev.get ?_
  cases h1 : okMark n a with
  | false =>
    refine tail n a [] 1 (by simp) ?_ ?_
    · exact Ev.fixed (fun k => by unfold impl_LostFrom.f; simp [code_one, h1])
    · exact Ev.fixed (fun k => by unfold spec_LostFrom.f; simp [ok_f, h1])
  | true =>
    have hb := okMark_bd n a A.1 h1
    have hl := seen_len a 12
    refine tail n a (seenOf a 12) 0 (by omega) ?_ ?_
    · refine Ev.congr (f := fun k => (impl_Mark_lost.f k a).bind fun t => some (t, 0)) (fun k => by unfold impl_LostFrom.f; simp [code_one, h1]) ?_
      exact Ev.bind (implLost_ev a A.1 A.2) (Ev.const rfl)
    · refine Ev.congr (f := fun k => (spec_l06Seen.f k a).bind fun t => some (t, 0)) (fun k => by unfold spec_LostFrom.f; simp [ok_f, h1]) ?_
      rw [← seen_12 a A.1 hb.2.2]
      exact Ev.bind (specSeen_ev a A.1) (Ev.const rfl)

end Go.Proofs.Ytklnpldggclejaa.Pure
