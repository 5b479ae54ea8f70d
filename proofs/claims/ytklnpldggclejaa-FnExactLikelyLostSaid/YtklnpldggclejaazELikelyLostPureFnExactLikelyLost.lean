import Derived.Test.YtklnpldggclejaazELikelyLostEEvLoop
import Derived.Test.YtklnpldggclejaazELikelyLostEListsInt64
import Derived.Test.YtklnpldggclejaazELikelyLostEListsMark
import Derived.Test.YtklnpldggclejaazELikelyLostEMLem8
import Derived.Test.YtklnpldggclejaazELikelyLostM0
import Derived.Test.YtklnpldggclejaazELikelyLostM10
import Derived.Test.YtklnpldggclejaazELikelyLostM34
import Derived.Test.YtklnpldggclejaazELikelyLostM35
import Derived.Test.YtklnpldggclejaazELikelyLostM5
import Derived.Test.YtklnpldggclejaazELikelyLostM6
import Derived.Test.YtklnpldggclejaazELikelyLostM9
namespace Go.Proofs.Ytklnpldggclejaa.Pure
open Go.RowKit Go.Proofs.Ytklnpldggclejaa.M Go.Proofs.YtklnpldggclejaaW.PrintWords Go.Proofs.YtklnpldggclejaaW.PrintLast Go.Proofs.YtklnpldggclejaaW.PrintMore
set_option linter.unusedVariables false
set_option linter.unusedSimpArgs false
theorem FnExactLikelyLost : laws_FnExactLikelyLost.Pure := by
  intro n l s hn hml hsz hw hs
  refine Ev.get ?_
  by_cases big : (l.length : Int) > 1048576
  · exact Ev.ite_t big (Ev.const rfl)
  · refine Ev.ite_f big ?_
    have hv : ∀ m ∈ l, 0 ≤ m ∧ m < 65536 := fun m hm => u16_bd (hw m hm)
    obtain ⟨h1, h2⟩ := LikelyLost_both n l s (by omega) hv (u16_bd hs)
    have hlen := likelyLost_len n l s
    generalize likelyLost n l s = R at *
    have ht := laws_toMarkS.ev l (by omega)
    have eq := laws_eqInt64S.same R.1 (by omega)
    have e : (R.2 != R.2) = false := by simp
    refine Ev.bind ht (Ev.bind h1 (Ev.bind ht (Ev.bind h2 (Ev.bind eq (Ev.ite_t rfl ?_)))))
    rw [e]
    refine Ev.step (f := fun k => ((laws_toMarkS.f k l).bind fun t538 => ((laws_eqMarkS.f k l t538).bind fun t541 => (if t541 = true then ((laws_markMarkS.f k l 1).bind fun bt542 => (if bt542.1 < 0 then (laws_FnExactLikelyLost.j1 k n l s R.1 R.2 R.1 true) else ((laws_eqInt64S.f k R.1 R.1).bind fun t544 => (if t544 = true then (laws_FnExactLikelyLost.j1 k n l s R.1 R.2 R.1 (R.2 != R.2)) else (laws_FnExactLikelyLost.j1 k n l s R.1 R.2 R.1 true))))) else (some false))))) (fun k => by rw [laws_FnExactLikelyLost.j0, if_neg (by decide)]) ?_
    refine Ev.bind ht (Ev.bind (laws_eqMarkS.same l (by omega)) (Ev.ite_t rfl (Ev.bind (laws_markMarkS.ev l 1 (by omega) (by omega) (by omega)) (Ev.ite_f (by dsimp only; omega) (Ev.bind eq (Ev.ite_t rfl ?_))))))
    rw [e]
    refine Ev.step (f := fun k => ((laws_markInt64S.f k R.1 1).bind fun bt545 => ((laws_heldInt64S.f k bt545.2 1).bind fun t547 => (if t547 < 0 then (some false) else (if t547 = bt545.1 then ((laws_toMarkS.f k l).bind fun t548 => ((impl_LikelyLost.f k n t548 s).bind fun bt551 => ((laws_eqInt64S.f k bt551.1 R.1).bind fun t555 => (if t555 = true then (laws_FnExactLikelyLost.j2 k bt545.2 bt545.1 (bt551.2 != R.2)) else (laws_FnExactLikelyLost.j2 k bt545.2 bt545.1 true))))) else (some false)))))) (fun k => by rw [laws_FnExactLikelyLost.j1, if_neg (by decide)]) ?_
    refine Ev.bind (laws_markInt64S.ev R.1 1 (by omega) (by omega) (by omega)) (Ev.bind (laws_heldInt64S.ev 1 R.1.length (by omega) (by omega) (by omega)) (Ev.ite_f (by omega) (Ev.ite_t rfl (Ev.bind ht (Ev.bind h2 (Ev.bind eq (Ev.ite_t rfl ?_)))))))
    rw [e]
    refine Ev.step (f := fun k => ((laws_heldInt64S.f k (marksInt64 1 R.1.length) 1).bind fun t556 => (if t556 < 0 then (some false) else (if t556 = 1 + (R.1.length : Int) then (some true) else (some false))))) (fun k => by rw [laws_FnExactLikelyLost.j2, if_neg (by decide)]) ?_
    exact Ev.bind (laws_heldInt64S.ev 1 R.1.length (by omega) (by omega) (by omega)) (Ev.ite_f (by omega) (Ev.ite_t rfl (Ev.const rfl)))
end Go.Proofs.Ytklnpldggclejaa.Pure
