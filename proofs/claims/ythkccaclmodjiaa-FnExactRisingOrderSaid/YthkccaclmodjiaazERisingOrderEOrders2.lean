import Derived.Test.YthkccaclmodjiaazERisingOrderEPieceCode
import Derived.Test.YthkccaclmodjiaazERisingOrderESortedBy
import Derived.Test.YthkccaclmodjiaazERisingOrderESortedBy2
import Derived.Test.YthkccaclmodjiaazERisingOrderI0
import Derived.Shelf.Abstract
namespace Go.Proofs.Ythkccaclmodjiaa.I
open Go.RowKit Go.Proofs.YthkccaclmodjiaaW.PrintWords Go.Proofs.YthkccaclmodjiaaW.PrintLast Go.Proofs.YthkccaclmodjiaaW.PrintMore
attribute [local go_sem] max2_int min2_int max_two min_two max_three min_three max_four min_four
set_option linter.unusedVariables false
set_option linter.unusedSimpArgs false
def orderBy (key : S57 → Int) (k : Nat) (l0 : List S57) : Option (List Int × Int) := (impl_pieceCode.f k l0).bind fun c => (if c = 0 then (if l0.length ≤ 8 then some (sortKey key l0, 0) else none) else some ([], c))
theorem orderBy_some {key : S57 → Int} {k : Nat} {l0 : List S57} {r1 : List Int} {r2 : Int} (h : orderBy key k l0 = some (r1, r2)) : impl_pieceCode.f k l0 = some r2 ∧ (r2 = 0 → l0.length ≤ 8) ∧ (if r2 = 0 then sortKey key l0 else []) = r1 := by
  obtain ⟨c, h1, h2⟩ := Option.bind_eq_some_iff.mp h
  by_cases hc : c = 0
  · rw [if_pos hc] at h2
    by_cases h8 : l0.length ≤ 8
    · rw [if_pos h8] at h2
      injection h2 with h2
      injection h2 with e1 e2
      subst e1 e2 hc
      exact ⟨h1, fun _ => h8, if_pos rfl⟩
    · rw [if_neg h8] at h2
      cases h2
  · rw [if_neg hc] at h2
    injection h2 with h2
    injection h2 with e1 e2
    subst e1 e2
    exact ⟨h1, fun e => absurd e hc, if_neg hc⟩
theorem orderBy_mono (key : S57 → Int) (k : Nat) (l0 : List S57) : LeO (orderBy key k l0) (orderBy key (k + 1) l0) := LeO.bind (impl_pieceCode.mono l0 k) (fun _ => LeO.refl _)
def impl_RisingOrder.f (k : Nat) (l0 : List S57) : Option (List Int × Int) := orderBy (fun x => wrap64 x.f0) k l0
theorem impl_RisingOrder.mono : ∀ a0 k, LeO (impl_RisingOrder.f k a0) (impl_RisingOrder.f (k + 1) a0) := fun a0 k => orderBy_mono _ k a0
set_option maxHeartbeats 2000000 in
theorem impl_RisingOrder.calls (k : Nat) (A0 : Option Addr) (c0 : Nat) (l0 : List (S57)) (r1 : List Int) (r2 : Int) (w : World) (hr0 : Kd.C k57 w A0 l0.length l0) (hc0 : l0.length ≤ c0) (h : impl_RisingOrder.f k l0 = some (r1, r2)) :
    Calls Try.prog 40 #[.slice A0 l0.length c0] w fun e w' => ∃ v0_ : Value, e = .returned (.tuple #[v0_, .int .i64 r2]) ∧ Kd.R (Kd.int .i64) 2 w' w.heap.size (fun _ => True) v0_ r1 ∧ Below w.heap.size w w' := by
  obtain ⟨h1, h2, h3⟩ := orderBy_some h
  have eg : ∀ args w, (callFunc 89 args).run Try.prog w = .ok (.enter 89 args) w := enters_of Try.func89 (by kernel_rfl) rfl
  have HP := Aside0.mk (sortedBy_calls k 89 eg (fun x => wrap64 x.f0) levelKey A0 c0 l0 r2 w hr0 hc0 h1 h2)
  rw [h3] at HP
  clear h1 h2 h3 h hr0 hc0 eg
  go_enter Try.func40, Try.ntmps40
  go_wp2_with (go_at_call 87; refine HP.out.mono ?_; rintro e w' ⟨v, rfl, hR, hb⟩)
  go_ret2
  exact ⟨v, rfl, hR, hb⟩
end Go.Proofs.Ythkccaclmodjiaa.I
