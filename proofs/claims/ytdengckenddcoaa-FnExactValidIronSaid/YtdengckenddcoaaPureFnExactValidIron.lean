/- The program's ValidIron answers as the reference's for every argument. No condition. -/
import Derived.Test.YtdengckenddcoaaS0
import Derived.Test.YtdengckenddcoaaS1
import Derived.Test.YtdengckenddcoaaSayFnExactValidIron
namespace Go.Proofs.Ytdengckenddcoaa.Pure
open Go.RowKit Go.Proofs.Ytdengckenddcoaa.S Go.Proofs.YtdengckenddcoaaW.PrintWords Go.Proofs.YtdengckenddcoaaW.PrintLast Go.Proofs.YtdengckenddcoaaW.PrintMore
set_option linter.unusedVariables false
set_option linter.unusedSimpArgs false
theorem same_in (a b c : Int) : impl_within.f a b c = spec_l00In.f a b c := rfl
theorem FnExactValidIron : laws_FnExactValidIron.Pure := by
  intro a b ha hb 
  have e : impl_ValidIron.f a b = spec_ValidIron.f a b := by
    unfold impl_ValidIron.f spec_ValidIron.f spec_l07Iron.f
    simp only [same_in]
    unfold spec_l00In.f
    repeat' split
    all_goals simp_all
  have tot : ∀ a b c, ∃ r, spec_l00In.f a b c = some r := by intro a b c; unfold spec_l00In.f; split <;> exact ⟨_, rfl⟩
  obtain ⟨xa, ea⟩ := tot (wrap64 a) 0 60
  obtain ⟨xb, eb⟩ := tot (wrap64 b) 0 60
  have t : ∃ r, spec_ValidIron.f a b = some r := by
    unfold spec_ValidIron.f spec_l07Iron.f
    rw [ea, eb]
    cases xa <;> cases xb <;> exact ⟨_, rfl⟩
  obtain ⟨r, hr⟩ := t
  have q : laws_toIron.f a b = some (a, b) := rfl
  unfold laws_FnExactValidIron.f
  rw [q]
  simp [hr, e]

end Go.Proofs.Ytdengckenddcoaa.Pure
