/- The program's ChangeTime answers as the reference's for every iron and every two levels. No condition. -/
import Derived.Test.YthkccaclmodjiaaI0
import Derived.Test.YthkccaclmodjiaaI1
import Derived.Test.YthkccaclmodjiaaI2
import Derived.Test.YthkccaclmodjiaaI3
import Derived.Test.YthkccaclmodjiaaSayFnExactChangeTime
namespace Go.Proofs.Ythkccaclmodjiaa.Pure
open Go.RowKit Go.Proofs.Ythkccaclmodjiaa.I Go.Proofs.YthkccaclmodjiaaW.PrintWords Go.Proofs.YthkccaclmodjiaaW.PrintLast Go.Proofs.YthkccaclmodjiaaW.PrintMore
set_option linter.unusedVariables false
set_option linter.unusedSimpArgs false
theorem ct_in (a b c : Int) : impl_within.f a b c = spec_l00In.f a b c := rfl
theorem ct_tot (a b c : Int) : ∃ r, spec_l00In.f a b c = some r := by
  unfold spec_l00In.f
  split <;> exact ⟨_, rfl⟩
theorem FnExactChangeTime : laws_FnExactChangeTime.Pure := by
  intro x y a b hx hy ha hb
  have q : laws_toIron.f x y = some (x, y) := rfl
  obtain ⟨x1, e1⟩ := ct_tot (wrap64 x) 0 60
  obtain ⟨x2, e2⟩ := ct_tot (wrap64 y) 0 60
  obtain ⟨x3, e3⟩ := ct_tot a 0 3
  obtain ⟨x4, e4⟩ := ct_tot b 0 3
  have c : ∃ r, spec_l07Change.f x y a b = some r ∧ impl_Iron_change.f x y a b = some r := by
    unfold spec_l07Change.f impl_Iron_change.f
    by_cases h1 : b > a
    · rw [if_pos (by omega), if_pos h1]
      exact ⟨_, rfl, rfl⟩
    · rw [if_neg h1]
      by_cases h2 : b ≥ a
      · rw [if_pos h2]
        have : b = a := by omega
        subst this
        have z : wrap64 (b - b) = 0 := by rw [Int.sub_self]; exact IntWalk.wrap64_in _ ⟨by omega, by omega⟩
        rw [z]
        exact ⟨_, rfl, by rw [Int.mul_zero, Int.mul_zero]⟩
      · rw [if_neg h2]
        exact ⟨_, rfl, rfl⟩
  obtain ⟨r, c1, c2⟩ := c
  unfold laws_FnExactChangeTime.f
  rw [q]
  unfold spec_ChangeTime.f impl_ChangeTime.f impl_ValidIron.f spec_l07Iron.f
  simp only [ct_in, Option.bind_some, e1, e2, e3, e4]
  cases x1 <;> cases x2 <;> cases x3 <;> cases x4 <;> simp [e1, e2, e3, e4, c1, c2]

end Go.Proofs.Ythkccaclmodjiaa.Pure
