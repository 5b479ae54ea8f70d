import Derived.Test.YtggjdcijplgpdaazEAllDryAtD0
import Derived.Test.YtggjdcijplgpdaazEAllDryAtECDry
import Derived.Test.YtggjdcijplgpdaazEAllDryAtECHang
import Derived.Test.YtggjdcijplgpdaazEAllDryAtECLem
import Derived.Test.YtggjdcijplgpdaazEAllDryAtEEvLoop
import Derived.Test.YtggjdcijplgpdaazEAllDryAtELaw5
import Derived.Test.YtggjdcijplgpdaazEAllDryAtEListsInt64
import Derived.Test.YtggjdcijplgpdaazEAllDryAtEListsWash
import Derived.Test.YtggjdcijplgpdaazEAllDryAtEToDay
import Derived.Test.YtggjdcijplgpdaazEAllDryAtSayFnExactAllDryAt
namespace Go.Proofs.Ytggjdcijplgpdaa.Pure
open Go.RowKit Go.Proofs.Ytggjdcijplgpdaa.D Go.Proofs.YtggjdcijplgpdaaW.PrintWords Go.Proofs.YtggjdcijplgpdaaW.PrintLast Go.Proofs.YtggjdcijplgpdaaW.PrintMore
set_option linter.unusedVariables false
set_option linter.unusedSimpArgs false
theorem typedD_of (l : List S74) (h : ∀ x ∈ l, (Lit.int .i8 x.f0).wf = true ∧ (Lit.int .i8 x.f1).wf = true ∧ (Lit.int .i8 x.f2).wf = true) : TypedD l := fun t ht => ⟨i8_bd (h t ht).1, i8_bd (h t ht).2.1, i8_bd (h t ht).2.2⟩
theorem typedW_of (l : List S131) (h : ∀ x ∈ l, (Lit.int .i16 x.f0).wf = true ∧ (Lit.int .i8 x.f1).wf = true) : TypedW (l.map toW) := by
  intro x hx
  obtain ⟨y, hy, rfl⟩ := List.mem_map.mp hx
  exact ⟨i16_bd (h y hy).1, i8_bd (h y hy).2⟩
theorem FnExactAllDryAt : laws_FnExactAllDryAt.Pure := by
  intro D l f o hl hwD hsz hwL _ _ hso _
  refine Ev.get ?_
  have hs := sz_f l (by omega)
  by_cases big : (o.length : Int) > 1048576
  · exact Ev.ite_t big (Ev.const rfl)
  · refine Ev.ite_f big ?_
    by_cases small : l.length ≤ 1048576
    · rw [if_pos small] at hs
      have ht := laws_toWashS.ev l (by omega)
      have hto := laws_toInt64S.ev o (by omega)
      have lm : (l.map toW).length = l.length := by simp
      obtain ⟨h1, h2⟩ := AllDryAt_both D hl (typedD_of D hwD) (l.map toW) (by omega) (typedW_of l hwL) o (by omega) f
      generalize dryAll D (l.map toW) o f = R at h1 h2
      have eo := laws_eqInt64S.same o (by omega)
      have e : (R.2 != R.2) = false := by simp
      have day : laws_toDay.f f = some true := rfl
      refine Ev.bind (Ev.const hs) (Ev.ite_f (by omega) ?_)
      refine Ev.bind (Ev.const day) (Ev.bind ht (Ev.bind hto (Ev.bind h1 (Ev.bind ht (Ev.bind hto (Ev.bind (Ev.const day) (Ev.bind h2 (Ev.ite_t rfl ?_))))))))
      rw [e]
      refine Ev.step (fun k => by rw [laws_FnExactAllDryAt.j0]) (Ev.ite_f (by decide) ?_)
      exact Ev.bind ht (Ev.bind (laws_eqWashS.same _ (by omega)) (Ev.ite_t rfl (Ev.bind hto (Ev.bind eo (Ev.ite_t rfl (Ev.const rfl))))))
    · rw [if_neg small] at hs
      exact Ev.bind (Ev.const hs) (Ev.ite_t (by omega) (Ev.const rfl))
end Go.Proofs.Ytggjdcijplgpdaa.Pure
