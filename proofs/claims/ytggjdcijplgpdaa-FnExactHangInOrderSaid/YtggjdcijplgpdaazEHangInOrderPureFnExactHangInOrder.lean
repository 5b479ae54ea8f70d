import Derived.Test.YtggjdcijplgpdaazEHangInOrderD0
import Derived.Test.YtggjdcijplgpdaazEHangInOrderECHang
import Derived.Test.YtggjdcijplgpdaazEHangInOrderECLem
import Derived.Test.YtggjdcijplgpdaazEHangInOrderEEvLoop
import Derived.Test.YtggjdcijplgpdaazEHangInOrderELaw6
import Derived.Test.YtggjdcijplgpdaazEHangInOrderEListsInt64
import Derived.Test.YtggjdcijplgpdaazEHangInOrderEListsWash
import Derived.Test.YtggjdcijplgpdaazEHangInOrderEToDay
import Derived.Test.YtggjdcijplgpdaazEHangInOrderSayFnExactHangInOrder
namespace Go.Proofs.Ytggjdcijplgpdaa.Pure
open Go.RowKit Go.Proofs.Ytggjdcijplgpdaa.D Go.Proofs.YtggjdcijplgpdaaW.PrintWords Go.Proofs.YtggjdcijplgpdaaW.PrintLast Go.Proofs.YtggjdcijplgpdaaW.PrintMore
set_option linter.unusedVariables false
set_option linter.unusedSimpArgs false
theorem typedD_of (l : List S74) (h : ∀ x ∈ l, (Lit.int .i8 x.f0).wf = true ∧ (Lit.int .i8 x.f1).wf = true ∧ (Lit.int .i8 x.f2).wf = true) : TypedD l := fun t ht => ⟨i8_bd (h t ht).1, i8_bd (h t ht).2.1, i8_bd (h t ht).2.2⟩
theorem typedW_of (l : List S131) (h : ∀ x ∈ l, (Lit.int .i16 x.f0).wf = true ∧ (Lit.int .i8 x.f1).wf = true) : TypedW (l.map toW) := by
  intro x hx
  obtain ⟨y, hy, rfl⟩ := List.mem_map.mp hx
  exact ⟨i16_bd (h y hy).1, i8_bd (h y hy).2⟩
theorem FnExactHangInOrder : laws_FnExactHangInOrder.Pure := by
  intro D l o f hl hwD hsz hwL _ hso _ _
  refine Ev.get ?_
  have hs := sz_f l (by omega)
  by_cases big : (o.length : Int) > 1048576
  · exact Ev.ite_t big (Ev.const rfl)
  · refine Ev.ite_f big ?_
    by_cases small : l.length ≤ 1048576
    · rw [if_pos small] at hs
      have ht := laws_toWashS.ev l (by omega)
      have hto := laws_toInt64S.ev o (by omega)
      have lm : (l.map toW).length = l.length := by simp
      obtain ⟨h1, h2⟩ := HangInOrder_both D hl (typedD_of D hwD) (l.map toW) (by omega) (typedW_of l hwL) o (by omega) f
      have hR := hangRes_len D (l.map toW) o f (by omega)
      obtain ⟨mk, hmk⟩ := markWash_ev (l.map toW) (by omega)
      generalize hangRes D (l.map toW) o f = R at h1 h2 hR
      have eq := laws_eqInt64S.same R.1 (by omega)
      have eo := laws_eqInt64S.same o (by omega)
      have e : (R.2 != R.2) = false := by simp
      have day : laws_toDay.f f = some true := rfl
      refine Ev.bind (Ev.const hs) (Ev.ite_f (by omega) ?_)
      refine Ev.bind (Ev.const day) (Ev.bind ht (Ev.bind hto (Ev.bind h1 (Ev.bind ht (Ev.bind hto (Ev.bind (Ev.const day) (Ev.bind h2 (Ev.bind eq (Ev.ite_t rfl ?_)))))))))
      rw [e]
      refine Ev.step (fun k => by rw [laws_FnExactHangInOrder.j0]) (Ev.ite_f (by decide) ?_)
      refine Ev.bind ht (Ev.bind (laws_eqWashS.same _ (by omega)) (Ev.ite_t rfl (Ev.bind hto (Ev.bind eo (Ev.ite_t rfl (Ev.bind hmk (Ev.bind (laws_markInt64S.ev o (1 + 2 * ((l.map toW).length : Int)) (by omega) (by omega) (by omega)) (Ev.ite_f (by dsimp only; omega) (Ev.bind eq (Ev.ite_t rfl ?_))))))))))
      rw [e]
      refine Ev.step (fun k => by rw [laws_FnExactHangInOrder.j1]) (Ev.ite_f (by decide) ?_)
      refine Ev.bind (laws_markInt64S.ev R.1 1 (by omega) (by omega) (by omega)) (Ev.bind (laws_heldInt64S.ev 1 R.1.length (by omega) (by omega) (by omega)) (Ev.ite_f (by omega) (Ev.ite_t rfl (Ev.bind (Ev.const day) (Ev.bind ht (Ev.bind hto (Ev.bind h2 (Ev.bind eq (Ev.ite_t rfl ?_)))))))))
      rw [e]
      refine Ev.step (fun k => by rw [laws_FnExactHangInOrder.j2]) (Ev.ite_f (by decide) ?_)
      exact Ev.bind (laws_heldInt64S.ev 1 R.1.length (by omega) (by omega) (by omega)) (Ev.ite_f (by omega) (Ev.ite_t rfl (Ev.const rfl)))
    · rw [if_neg small] at hs
      exact Ev.bind (Ev.const hs) (Ev.ite_t (by omega) (Ev.const rfl))
end Go.Proofs.Ytggjdcijplgpdaa.Pure
