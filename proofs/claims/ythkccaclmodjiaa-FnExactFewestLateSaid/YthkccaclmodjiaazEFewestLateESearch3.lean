import Derived.Test.YthkccaclmodjiaazEFewestLateEIron2
import Derived.Test.YthkccaclmodjiaazEFewestLateESearch1
import Derived.Test.YthkccaclmodjiaazEFewestLateESearch2
import Derived.Test.YthkccaclmodjiaazEFewestLateESortedBy
import Derived.Test.YthkccaclmodjiaazEFewestLateESortedBy2
import Derived.Test.YthkccaclmodjiaazEFewestLateI0
import Derived.Shelf.Abstract
import Derived.RangeFuncBox
import Derived.Shelf.SlSortCmp.Insertion1
namespace Go.Proofs.Ythkccaclmodjiaa.I
open Go.RowKit Go.Proofs.YthkccaclmodjiaaW.PrintWords Go.Proofs.YthkccaclmodjiaaW.PrintLast Go.Proofs.YthkccaclmodjiaaW.PrintMore
attribute [local go_sem] max2_int min2_int max_two min_two max_three min_three max_four min_four
set_option linter.unusedVariables false
set_option linter.unusedSimpArgs false
open Go.Sort Go.Shelf Go.Lib
def searched (x y : Int) (l : List S57) (what : Int) : Found := goOn x y l what l.length [] 0 0 0 ⟨[], 0, false⟩
def spec_l07Best.f (k : Nat) (a0_0 : Int) (a0_1 : Int) (l1 : List S57) (a2 : Int) : Option (List Int × Int) := if sureB a0_0 a0_1 l1 = true ∧ (a2 = 0 ∨ a2 = 1 ∨ a2 = 2 ∨ a2 = 3) then some ((searched a0_0 a0_1 l1 a2).best, (searched a0_0 a0_1 l1 a2).low) else none
theorem spec_l07Best.mono : ∀ a0 a1 a2 a3 k, LeO (spec_l07Best.f k a0 a1 a2 a3) (spec_l07Best.f (k + 1) a0 a1 a2 a3) := fun _ _ _ _ _ => LeO.refl _
set_option maxHeartbeats 8000000 in
set_option maxRecDepth 100000 in
theorem spec_l07Best.calls (k : Nat) (x : Int) (y : Int) (A2 : Option Addr) (c2 : Nat) (l : List (S57)) (what : Int) (r1 : List Int) (r2 : Int) (w : World) (hr1 : Kd.C k57 w A2 l.length l) (hc1 : l.length ≤ c2) (h : spec_l07Best.f k x y l what = some (r1, r2)) :
    Calls Try.prog 108 #[.agg #[.int .i8 x, .int .i8 y], .slice A2 l.length c2, .int .i64 what] w fun e w' => ∃ v0_ : Value, e = .returned (.tuple #[v0_, .int .i64 r2]) ∧ Kd.R (Kd.int .i64) 2 w' w.heap.size (fun _ => True) v0_ r1 ∧ Below w.heap.size w w' := by
  unfold spec_l07Best.f at h
  by_cases hc : sureB x y l = true ∧ (what = 0 ∨ what = 1 ∨ what = 2 ∨ what = 3)
  · rw [if_pos hc] at h
    obtain ⟨hs, hw⟩ := hc
    obtain ⟨hx, hy, h8, hf⟩ := sureB_iff.mp hs
    injection h with h
    injection h with e1 e2
    subst e1 e2
    obtain ⟨W0, hW0⟩ : ∃ W0, ((w.alloc (.cells #[.int .i8 x, .int .i8 y] 27)).alloc (.cells #[.int .i8 x, .int .i8 y, .slice A2 l.length c2, .int .i64 what, .slice none 0 0, .int .i64 0, .bool false] 107)).alloc (.cells #[] 2) = W0 := ⟨_, rfl⟩
    have hB0 : Below w.heap.size w W0 := by rw [← hW0]; exact (((Below.refl _ w).alloc (Nat.le_refl _) _).alloc (by simp) _).alloc (by simp; omega) _
    have hB1 : Below (w.heap.size + 1) (w.alloc (.cells #[.int .i8 x, .int .i8 y] 27)) W0 := by
      rw [← hW0]
      exact ((Below.refl _ _).alloc (by simp) _).alloc (by simp) _
    have hE : Srch (w.heap.size + 1) x y A2 c2 l what W0 (.slice none 0 0) ⟨[], 0, false⟩ := by
      refine ⟨?_, Kd.C_below hr1 hB0, hc1, Kd.R_nil _ _ _ _ _⟩
      rw [← hW0]
      have := World.alloc_heap_new (w.alloc (.cells #[.int .i8 x, .int .i8 y] 27)) (.cells #[.int .i8 x, .int .i8 y, .slice A2 l.length c2, .int .i64 what, .slice none 0 0, .int .i64 0, .bool false] 107)
      rw [World.size_alloc] at this
      exact (Below.heap_alloc _ _ _ (by simp)).trans this
    have hR : Kd.R (Kd.int .i64) 2 W0 (w.heap.size + 1 + 1) (fun _ => True) (.slice (some ⟨w.heap.size + 1 + 1, 0, none⟩) 0 0) [] := by
      rw [← hW0]
      have := empty_R ((w.alloc (.cells #[.int .i8 x, .int .i8 y] 27)).alloc (.cells #[.int .i8 x, .int .i8 y, .slice A2 l.length c2, .int .i64 what, .slice none 0 0, .int .i64 0, .bool false] 107)) (base := w.heap.size + 1 + 1) (by simp)
      rw [World.size_alloc, World.size_alloc] at this
      exact this
    have hr2 : Kd.C k57 (w.alloc (.cells #[.int .i8 x, .int .i8 y] 27)) A2 l.length l := Kd.C_below hr1 ((Below.refl _ w).alloc (Nat.le_refl _) _)
    have HC := Aside0.mk (from_calls (w.heap.size + 1) x y A2 c2 l what (w.alloc (.cells #[.int .i8 x, .int .i8 y] 27)) hx hy h8 hf hr2 (by simp) hw l.length (.slice (some ⟨w.heap.size + 1 + 1, 0, none⟩) 0 0) [] 0 0 0 W0 (.slice none 0 0) ⟨[], 0, false⟩ (by simp) ⟨by omega, by omega⟩ hE hR hB1)
    clear hE hR hB1 hr1 hr2 hf hs hx hy hw
    have HB0 := Aside0.mk hB0
    clear hB0
    go_enter Try.func108, Try.ntmps108
    go_wp2_with (go_at_call 121; refine HC.out.mono ?_; rintro e w1 ⟨rfl, bv, hE1, hB2, hM1⟩; have EE := Aside0.mk hE1; have BB := Aside0.mk hB2; clear hE1 hB2 hM1)
    have mixed : Try.prog.follows .mixedOrders = true := by kernel_rfl
    have gb : ∀ n os, (grow (w1.drewN n) os).cell? ⟨w.heap.size + 1, 4, none⟩ = some bv := fun n os => cell_grown EE.out.lt (blk_cell EE.out.blk 4) n os
    have gl : ∀ q os, (grow (w1.drewN q) os).cell? ⟨w.heap.size + 1, 5, none⟩ = some (.int .i64 (searched x y l what).low) := fun q os => cell_grown EE.out.lt (blk_cell EE.out.blk 5) q os
    go_quiet_grown (fail)
    go_wp2
    go_ret2
    have hb := below_grow w1 nq osq
    have hw1 : Below w.heap.size w w1 := ((Below.refl _ w).alloc (Nat.le_refl _) _).trans (BB.out.mono (by omega))
    exact ⟨bv, rfl, Kd.R_below (Kd.R_lower EE.out.rb (by omega)) hb, hw1.trans (hb.mono hw1.size)⟩
  · rw [if_neg hc] at h
    cases h
end Go.Proofs.Ythkccaclmodjiaa.I
