import Derived.Test.YthkccaclmodjiaazFLateEShort
import Derived.Test.YthkccaclmodjiaazFLateEIron2
import Derived.Test.YthkccaclmodjiaazFLateESearch1
import Derived.Test.YthkccaclmodjiaazFLateESearch2
import Derived.Test.YthkccaclmodjiaazFLateELayC
import Derived.Test.YthkccaclmodjiaazFLateI0
import Derived.Shelf.Abstract
import Derived.RangeFuncBox
import Derived.Shelf.SlSortCmp.Insertion1
import Derived.Test.YthkccaclmodjiaazFLateI4
section
namespace Go.Proofs.Ythkccaclmodjiaa.I
open Go.RowKit Go.Proofs.YthkccaclmodjiaaW.PrintWords Go.Proofs.YthkccaclmodjiaaW.PrintLast Go.Proofs.YthkccaclmodjiaaW.PrintMore
attribute [local go_sem] max2_int min2_int max_two min_two max_three min_three max_four min_four
set_option linter.unusedVariables false
set_option linter.unusedSimpArgs false
open Go.Sort Go.Shelf Go.Lib
def searched (x y : Int) (l : List S57) (what : Int) : Found := goOn x y l what l.length [] 0 0 0 ⟨[], 0, false⟩
def spec_l07Best.f (k : Nat) (a0_0 : Int) (a0_1 : Int) (l1 : List S57) (a2 : Int) : Option (List Int × Int) := if sureB a0_0 a0_1 l1 = true ∧ (a2 = 0 ∨ a2 = 1 ∨ a2 = 2 ∨ a2 = 3) then some ((searched a0_0 a0_1 l1 a2).best, (searched a0_0 a0_1 l1 a2).low) else none
theorem spec_l07Best.mono : ∀ a0 a1 a2 a3 k, LeO (spec_l07Best.f k a0 a1 a2 a3) (spec_l07Best.f (k + 1) a0 a1 a2 a3) := fun _ _ _ _ _ => LeO.refl _
set_option maxHeartbeats 8000000 in
set_option maxRecDepth 100000 in
theorem spec_l07Best.calls (k : Nat) (x : Int) (y : Int) (A2 : Option Addr) (c2 : Nat) (l : List (S57)) (what : Int) (r1 : List Int) (r2 : Int) (w : World) (hr1 : Kd.C k57 w A2 l.length l) (hc1 : l.length ≤ c2) (h : spec_l07Best.f k x y l what = some (r1, r2)) :
 Calls Try.prog 108 #[.agg #[.int .i8 x, .int .i8 y], .slice A2 l.length c2, .int .i64 what] w fun e w' => ∃ v0_ : Value, e = .returned (.tuple #[v0_, .int .i64 r2]) ∧ Kd.R (Kd.int .i64) 2 w' w.heap.size (fun _ => True) v0_ r1 ∧ Below w.heap.size w w' := by
 unfold spec_l07Best.f at h
 by_cases hc : sureB x y l = true ∧ (what = 0 ∨ what = 1 ∨ what = 2 ∨ what = 3)
 · rw [if_pos hc] at h
   obtain ⟨hs, hw⟩ := hc
   obtain ⟨hx, hy, h8, hf⟩ := sureB_iff.mp hs
   injection h with h
   injection h with e1 e2
   subst e1 e2
   obtain ⟨W0, hW0⟩ : ∃ W0, ((w.alloc (.cells #[.int .i8 x, .int .i8 y] 27)).alloc (.cells #[.int .i8 x, .int .i8 y, .slice A2 l.length c2, .int .i64 what, .slice none 0 0, .int .i64 0, .bool false] 107)).alloc (.cells #[] 2) = W0 := ⟨_, rfl⟩
   have hB0 : Below w.heap.size w W0 := by rw [← hW0]; exact (((Below.refl _ w).alloc (Nat.le_refl _) _).alloc (by simp) _).alloc (by simp; omega) _
   have hB1 : Below (w.heap.size + 1) (w.alloc (.cells #[.int .i8 x, .int .i8 y] 27)) W0 := by
    rw [← hW0]
    exact ((Below.refl _ _).alloc (by simp) _).alloc (by simp) _
   have hE : Srch (w.heap.size + 1) x y A2 c2 l what W0 (.slice none 0 0) ⟨[], 0, false⟩ := by
    refine ⟨?_, Kd.C_below hr1 hB0, hc1, Kd.R_nil _ _ _ _ _⟩
    rw [← hW0]
    have := World.alloc_heap_new (w.alloc (.cells #[.int .i8 x, .int .i8 y] 27)) (.cells #[.int .i8 x, .int .i8 y, .slice A2 l.length c2, .int .i64 what, .slice none 0 0, .int .i64 0, .bool false] 107)
    rw [World.size_alloc] at this
    exact (Below.heap_alloc _ _ _ (by simp)).trans this
   have hR : Kd.R (Kd.int .i64) 2 W0 (w.heap.size + 1 + 1) (fun _ => True) (.slice (some ⟨w.heap.size + 1 + 1, 0, none⟩) 0 0) [] := by
    rw [← hW0]
    have := empty_R ((w.alloc (.cells #[.int .i8 x, .int .i8 y] 27)).alloc (.cells #[.int .i8 x, .int .i8 y, .slice A2 l.length c2, .int .i64 what, .slice none 0 0, .int .i64 0, .bool false] 107)) (base := w.heap.size + 1 + 1) (by simp)
    rw [World.size_alloc, World.size_alloc] at this
    exact this
   have hr2 : Kd.C k57 (w.alloc (.cells #[.int .i8 x, .int .i8 y] 27)) A2 l.length l := Kd.C_below hr1 ((Below.refl _ w).alloc (Nat.le_refl _) _)
   have HC := Aside0.mk (from_calls (w.heap.size + 1) x y A2 c2 l what (w.alloc (.cells #[.int .i8 x, .int .i8 y] 27)) hx hy h8 hf hr2 (by simp) hw l.length (.slice (some ⟨w.heap.size + 1 + 1, 0, none⟩) 0 0) [] 0 0 0 W0 (.slice none 0 0) ⟨[], 0, false⟩ (by simp) ⟨by omega, by omega⟩ hE hR hB1)
   clear hE hR hB1 hr1 hr2 hf hs hx hy hw
   have HB0 := Aside0.mk hB0
   clear hB0
   go_enter Try.func108, Try.ntmps108
   go_wp2_with (go_at_call 121; refine HC.out.mono ?_; rintro e w1 ⟨rfl, bv, hE1, hB2, hM1⟩; have EE := Aside0.mk hE1; have BB := Aside0.mk hB2; clear hE1 hB2 hM1)
   have mixed : Try.prog.follows .mixedOrders = true := by kernel_rfl
   have gb : ∀ n os, (grow (w1.drewN n) os).cell? ⟨w.heap.size + 1, 4, none⟩ = some bv := fun n os => cell_grown EE.out.lt (blk_cell EE.out.blk 4) n os
   have gl : ∀ q os, (grow (w1.drewN q) os).cell? ⟨w.heap.size + 1, 5, none⟩ = some (.int .i64 (searched x y l what).low) := fun q os => cell_grown EE.out.lt (blk_cell EE.out.blk 5) q os
   go_quiet_grown (fail)
   go_wp2
   go_ret2
   have hb := below_grow w1 nq osq
   have hw1 : Below w.heap.size w w1 := ((Below.refl _ w).alloc (Nat.le_refl _) _).trans (BB.out.mono (by omega))
   exact ⟨bv, rfl, Kd.R_below (Kd.R_lower EE.out.rb (by omega)) hb, hw1.trans (hb.mono hw1.size)⟩
 · rw [if_neg hc] at h
   cases h
end Go.Proofs.Ythkccaclmodjiaa.I
end
section
namespace Go.Proofs.Ythkccaclmodjiaa.I
open Go.RowKit Go.Proofs.YthkccaclmodjiaaW.PrintWords Go.Proofs.YthkccaclmodjiaaW.PrintLast Go.Proofs.YthkccaclmodjiaaW.PrintMore
attribute [local go_sem] max2_int min2_int max_two min_two max_three min_three max_four min_four   -- for this text's walks alone
set_option linter.unusedVariables false
set_option linter.unusedSimpArgs false
def spec_l07Found.f (k : Nat) (a0_0 : Int) (a0_1 : Int) (l1 : List (S57)) (a2 : Int) : Option (List Int × Int × Int) := (spec_l07Asked.f k a0_0 a0_1 l1).bind fun t287 => (if t287 = 0 then ((spec_l07Best.f k a0_0 a0_1 l1 a2).bind fun bt288 => (some (bt288.1, bt288.2, 0))) else (some ((([] : List Int)), 0, t287)))
theorem spec_l07Found.mono : ∀ a0 a1 a2 a3 k, LeO (spec_l07Found.f k a0 a1 a2 a3) (spec_l07Found.f (k + 1) a0 a1 a2 a3) := by
 intro a0 a1 a2 a3 k
 unfold spec_l07Found.f
 repeat' first
  | (with_reducible exact spec_l07Asked.mono _ _ _ _)
  | (with_reducible exact spec_l07Best.mono _ _ _ _ _)
  | (with_reducible exact LeO.refl _)
  | (with_reducible exact LeO.none _)
  | (with_reducible refine LeO.ite ?_ ?_)
  | (with_reducible refine LeO.bind ?_ (fun _ => ?_))
  | exact spec_l07Asked.mono _ _ _ _
  | exact spec_l07Best.mono _ _ _ _ _
  | exact LeO.none _
  | refine LeO.ite ?_ ?_
  | refine LeO.bind ?_ (fun _ => ?_)
set_option maxHeartbeats 8000000 in
set_option maxRecDepth 100000 in
theorem spec_l07Found.calls (k : Nat) (a0_0 : Int) (a0_1 : Int) (A1 : Option Addr) (c1 : Nat) (l1 : List (S57)) (a2 : Int) (r1 : List Int) (r2 : Int) (r3 : Int) (w : World) (hr1 : Kd.C k57 w A1 l1.length l1) (hc1 : l1.length ≤ c1) (h : spec_l07Found.f k a0_0 a0_1 l1 a2 = some (r1, r2, r3)) :
 Calls Try.prog 79 #[.agg #[.int .i8 a0_0, .int .i8 a0_1], .slice A1 l1.length c1, .int .i64 a2] w fun e w' => ∃ v0_ : Value, e = .returned (.tuple #[v0_, .int .i64 r2, .int .i64 r3]) ∧ Kd.R (Kd.int .i64) 2 w' w.heap.size (fun _ => True) v0_ r1 ∧ Below w.heap.size w w' := by
 have hu27 := Try.underlying27
 have HR1 := Aside0.mk hr1
 have HC1 := Aside0.mk hc1
 clear hr1 hc1
 have HB := Aside0.mk (Below.refl w.heap.size w)
 have H : ((spec_l07Asked.f k a0_0 a0_1 l1).bind fun t287 => (if t287 = 0 then ((spec_l07Best.f k a0_0 a0_1 l1 a2).bind fun bt288 => (some (bt288.1, bt288.2, 0))) else (some ((([] : List Int)), 0, t287)))) = some (r1, r2, r3) := h
 clear h
 replace H := Option.bind_eq_some_iff.mp H
 obtain ⟨t287, A40, H⟩ := H
 replace H : (if t287 = 0 then ((spec_l07Best.f k a0_0 a0_1 l1 a2).bind fun bt288 => (some (bt288.1, bt288.2, 0))) else (some ((([] : List Int)), 0, t287))) = some (r1, r2, r3) := H
 have A4 := Aside0.mk A40
 clear A40
 by_cases c5 : t287 = 0
 · rw [if_pos c5] at H
   have c5b0 : (t287 == 0) = true := beq_iff_eq.mpr c5
   have c5b1 : (t287 != 0) = false := bne_eq_false_iff_eq.mpr c5
   clear c5
   replace H := Option.bind_eq_some_iff.mp H
   obtain ⟨⟨t288, t291⟩, A60, H⟩ := H
   replace H : (some (t288, t291, 0)) = some (r1, r2, r3) := H
   have A6 := Aside0.mk A60
   clear A60
   simp only [Option.some.injEq, Prod.mk.injEq] at H
   obtain ⟨rfl, rfl, rfl⟩ := H
   go_enter Try.func79, Try.ntmps79
   go_wp2_with (first | ((with_reducible refine gate_dst (N := 3) rfl ?_); refine box_event ?hg (N := 3) ?hd (cs := #[.int .i8 a0_0, .int .i8 a0_1]) (t := 27) ?hr ?_; (case hd => rfl); (case hg => rfl); (case hr => first | (go_simp; done) | (go_simp; rfl)); intro gb286 hg w7 hbox hb; have n0_ := Aside0.mk (below_step (blB HB) hb); have n1_ := Aside0.mk (hbox); have n2_ := Aside0.mk ((by rw [hg]; exact (below_size (blB HB)) : w.heap.size ≤ gb286)); have n3_ := Aside0.mk ((by rw [hg]; exact (below_size (blB HB)) : w.heap.size ≤ gb286)); clear HB; have HB := n0_; have BK286 := n1_; have GW286 := n2_; have GE286 := n3_; clear n0_ n1_ n2_ n3_; clear hb hbox hg; have hcz8_0 : w7.cell? ⟨gb286, 0, none⟩ = some (.int .i8 a0_0) := (blk_cell BK286.out 0).trans rfl; have hcz8_1 : w7.cell? ⟨gb286, 1, none⟩ = some (.int .i8 a0_1) := (blk_cell BK286.out 1).trans rfl; have hfz8_0 := blk_frozen BK286.out 0; have hfz8_1 := blk_frozen BK286.out 1) | ((with_reducible refine gate_callee (f := 71) rfl ?_); refine goesL_ (some 14) rfl rfl Try.func71 (by kernel_rfl) rfl #[.agg #[.int .i8 a0_0, .int .i8 a0_1], .slice A1 l1.length c1] rfl (by (try simp only [List.map_toArray, List.map_cons, List.map_nil]); first | done | rfl | (simp only [List.length_drop, List.length_take]; rfl)) ?_; (with_reducible refine (spec_l07Asked.calls k a0_0 a0_1 _ _ l1 t287 _ ?side1 ?side2 A4.out).mono ?_); (case side1 => exact cvC ((Kd.C_below HR1.out HB.out))); (case side2 => exact HC1.out); rintro e w9 ⟨rfl, hb⟩; refine ⟨_, rfl, ?_⟩; have n0_ := Aside0.mk (blk_below (g := gb286) (o := .cells #[.int .i8 a0_0, .int .i8 a0_1] 27 (0, 0)) (by (with_reducible repeat (first | refine blk_drewN ?_ _ | refine blk_drew ?_ | refine blk_alloc ?_ _)); exact BK286.out) hb); have n1_ := Aside0.mk (below_step (by repeat (first | (with_reducible first | exact HB.out | apply below_alloc | apply pw_below_drewN | apply below_drew1 | refine below_set ?_ GE286.out) | exact HB.out)) hb); clear BK286; clear HB; have BK286 := n0_; have HB := n1_; clear n0_ n1_; (try clear hb); (try clear hb2); (try clear hk); (try clear hi); have hcz10_0 : w9.cell? ⟨gb286, 0, none⟩ = some (.int .i8 a0_0) := (blk_cell BK286.out 0).trans rfl; have hcz10_1 : w9.cell? ⟨gb286, 1, none⟩ = some (.int .i8 a0_1) := (blk_cell BK286.out 1).trans rfl; have hfz10_0 := blk_frozen BK286.out 0; have hfz10_1 := blk_frozen BK286.out 1) | ((with_reducible refine gate_callee (f := 108) rfl ?_); refine goesL_ (some 23) rfl rfl Try.func108 (by kernel_rfl) rfl #[.agg #[.int .i8 a0_0, .int .i8 a0_1], .slice A1 l1.length c1, .int .i64 a2] rfl (by (try simp only [List.map_toArray, List.map_cons, List.map_nil]); first | done | rfl | (simp only [List.length_drop, List.length_take]; rfl)) ?_; (with_reducible refine (spec_l07Best.calls k a0_0 a0_1 _ _ l1 a2 t288 t291 _ ?side1 ?side2 A6.out).mono ?_); (case side1 => exact cvC ((Kd.C_below HR1.out HB.out))); (case side2 => exact HC1.out); rintro e w11 ⟨v289, rfl, ho0, hb⟩; refine ⟨_, rfl, ?_⟩; have n0_ := Aside0.mk (Kd.R_lower ho0 (below_size (by repeat (first | (with_reducible first | exact HB.out | apply below_alloc | apply pw_below_drewN | apply below_drew1 | refine below_set ?_ GE286.out) | exact HB.out)))); have n1_ := Aside0.mk (blk_below (g := gb286) (o := .cells #[.int .i8 a0_0, .int .i8 a0_1] 27 (0, 0)) (by (with_reducible repeat (first | refine blk_drewN ?_ _ | refine blk_drew ?_ | refine blk_alloc ?_ _)); exact BK286.out) hb); have n2_ := Aside0.mk (below_step (by repeat (first | (with_reducible first | exact HB.out | apply below_alloc | apply pw_below_drewN | apply below_drew1 | refine below_set ?_ GE286.out) | exact HB.out)) hb); clear BK286; clear HB; have HO290 := n0_; have BK286 := n1_; have HB := n2_; clear n0_ n1_ n2_; (try clear hb); (try clear hb2); (try clear hk); (try clear hi); (try clear ho0)))
   go_ret3
   exact ⟨_, by first | rfl | (simp [errW_none, errW_some] <;> rfl) | (simp [*, errW_none, errW_some] <;> rfl), mvR HO290, by repeat (first | (with_reducible first | exact HB.out | apply below_alloc | apply pw_below_drewN | apply below_drew1 | refine below_set ?_ GE286.out) | exact HB.out)⟩
 · rw [if_neg c5] at H
   have c5b0 : (t287 == 0) = false := beq_eq_false_iff_ne.mpr c5
   have c5b1 : (t287 != 0) = true := bne_iff_ne.mpr c5
   obtain ⟨y292, hy292⟩ : ∃ y_ : List Int, y_ = (([] : List Int)) := ⟨_, rfl⟩
   replace H : (some (y292, 0, t287)) = some (r1, r2, r3) := by first | (rw [hy292]; with_reducible exact H) | (have H2_ := (Option.bind_some _ _).symm.trans H; rw [hy292]; with_reducible exact H2_) | (have H2_ := (Option.bind_some _ _).symm.trans H; with_reducible exact H2_) | with_reducible exact H | (rw [hy292]; exact H) | exact H
   have Ny292 := Aside0.mk hy292
   clear hy292
   simp only [Option.some.injEq, Prod.mk.injEq] at H
   obtain ⟨rfl, rfl, rfl⟩ := H
   go_enter Try.func79, Try.ntmps79
   go_wp2_with (first | ((with_reducible refine gate_dst (N := 3) rfl ?_); refine box_event ?hg (N := 3) ?hd (cs := #[.int .i8 a0_0, .int .i8 a0_1]) (t := 27) ?hr ?_; (case hd => rfl); (case hg => rfl); (case hr => first | (go_simp; done) | (go_simp; rfl)); intro gb286 hg w12 hbox hb; have n0_ := Aside0.mk (below_step (blB HB) hb); have n1_ := Aside0.mk (hbox); have n2_ := Aside0.mk ((by rw [hg]; exact (below_size (blB HB)) : w.heap.size ≤ gb286)); have n3_ := Aside0.mk ((by rw [hg]; exact (below_size (blB HB)) : w.heap.size ≤ gb286)); clear HB; have HB := n0_; have BK286 := n1_; have GW286 := n2_; have GE286 := n3_; clear n0_ n1_ n2_ n3_; clear hb hbox hg; have hcz13_0 : w12.cell? ⟨gb286, 0, none⟩ = some (.int .i8 a0_0) := (blk_cell BK286.out 0).trans rfl; have hcz13_1 : w12.cell? ⟨gb286, 1, none⟩ = some (.int .i8 a0_1) := (blk_cell BK286.out 1).trans rfl; have hfz13_0 := blk_frozen BK286.out 0; have hfz13_1 := blk_frozen BK286.out 1) | ((with_reducible refine gate_callee (f := 71) rfl ?_); refine goesL_ (some 14) rfl rfl Try.func71 (by kernel_rfl) rfl #[.agg #[.int .i8 a0_0, .int .i8 a0_1], .slice A1 l1.length c1] rfl (by (try simp only [List.map_toArray, List.map_cons, List.map_nil]); first | done | rfl | (simp only [List.length_drop, List.length_take]; rfl)) ?_; (with_reducible refine (spec_l07Asked.calls k a0_0 a0_1 _ _ l1 t287 _ ?side1 ?side2 A4.out).mono ?_); (case side1 => exact cvC ((Kd.C_below HR1.out HB.out))); (case side2 => exact HC1.out); rintro e w14 ⟨rfl, hb⟩; refine ⟨_, rfl, ?_⟩; have n0_ := Aside0.mk (blk_below (g := gb286) (o := .cells #[.int .i8 a0_0, .int .i8 a0_1] 27 (0, 0)) (by (with_reducible repeat (first | refine blk_drewN ?_ _ | refine blk_drew ?_ | refine blk_alloc ?_ _)); exact BK286.out) hb); have n1_ := Aside0.mk (below_step (by repeat (first | (with_reducible first | exact HB.out | apply below_alloc | apply pw_below_drewN | apply below_drew1 | refine below_set ?_ GE286.out) | exact HB.out)) hb); clear BK286; clear HB; have BK286 := n0_; have HB := n1_; clear n0_ n1_; (try clear hb); (try clear hb2); (try clear hk); (try clear hi)) | ((with_reducible refine gate_dst (N := 17) rfl ?_); refine Kd.R_lit (Kd.int .i64) _ 2 ?hg (N := 17) ?hd (xs := ([] : List Int)) (inner := []) (ok := fun _ => True) (okp := fun _ => True) ?hr ?hp (fun _ hk => hk) trivial (Below.refl _ _) (Nat.le_refl _) (by simp) ?_; (case hd => rfl); (case hg => rfl); (case hr => first | (go_simp; done) | (go_simp; rfl)); (case hp => exact (Reps.none _ _)); intro v293 w15 ho16 hb hg_ hnew_; clear hg_ hnew_; (first | rw [← Ny292.out] at ho16 | (simp only [Int.reduceToNat] at ho16; rw [← Ny292.out] at ho16)); have n0_ := Aside0.mk (Kd.R_lower ho16 (below_size (by repeat (first | (with_reducible first | exact HB.out | apply below_alloc | apply pw_below_drewN | apply below_drew1 | refine below_set ?_ GE286.out) | exact HB.out)))); have n1_ := Aside0.mk (blk_below (g := gb286) (o := .cells #[.int .i8 a0_0, .int .i8 a0_1] 27 (0, 0)) (by (with_reducible repeat (first | refine blk_drewN ?_ _ | refine blk_drew ?_ | refine blk_alloc ?_ _)); exact BK286.out) hb); have n2_ := Aside0.mk (below_step (by repeat (first | (with_reducible first | exact HB.out | apply below_alloc | apply pw_below_drewN | apply below_drew1 | refine below_set ?_ GE286.out) | exact HB.out)) hb); clear BK286; clear HB; have HO294 := n0_; have BK286 := n1_; have HB := n2_; clear n0_ n1_ n2_; clear hb ho16))
   go_ret3
   exact ⟨_, by first | rfl | (simp [errW_none, errW_some] <;> rfl) | (simp [*, errW_none, errW_some] <;> rfl), mvR HO294, by repeat (first | (with_reducible first | exact HB.out | apply below_alloc | apply pw_below_drewN | apply below_drew1 | refine below_set ?_ GE286.out) | exact HB.out)⟩
end Go.Proofs.Ythkccaclmodjiaa.I
end
section
namespace Go.Proofs.Ythkccaclmodjiaa.I
open Go.RowKit Go.Proofs.YthkccaclmodjiaaW.PrintWords Go.Proofs.YthkccaclmodjiaaW.PrintLast Go.Proofs.YthkccaclmodjiaaW.PrintMore
attribute [local go_sem] max2_int min2_int max_two min_two max_three min_three max_four min_four   -- for this text's walks alone
set_option linter.unusedVariables false
set_option linter.unusedSimpArgs false
def spec_LeastLateness.f (k : Nat) (a0_0 : Int) (a0_1 : Int) (l1 : List (S57)) : Option (List Int × Int × Int) := (spec_l07Found.f k a0_0 a0_1 l1 2).bind fun bt296 => (some (bt296.1, bt296.2.1, bt296.2.2))
theorem spec_LeastLateness.mono : ∀ a0 a1 a2 k, LeO (spec_LeastLateness.f k a0 a1 a2) (spec_LeastLateness.f (k + 1) a0 a1 a2) := by
 intro a0 a1 a2 k
 unfold spec_LeastLateness.f
 repeat' first
  | (with_reducible exact spec_l07Found.mono _ _ _ _ _)
  | (with_reducible exact LeO.refl _)
  | (with_reducible exact LeO.none _)
  | (with_reducible refine LeO.ite ?_ ?_)
  | (with_reducible refine LeO.bind ?_ (fun _ => ?_))
  | exact spec_l07Found.mono _ _ _ _ _
  | exact LeO.none _
  | refine LeO.ite ?_ ?_
  | refine LeO.bind ?_ (fun _ => ?_)
set_option maxHeartbeats 8000000 in
set_option maxRecDepth 100000 in
theorem spec_LeastLateness.calls (k : Nat) (a0_0 : Int) (a0_1 : Int) (A1 : Option Addr) (c1 : Nat) (l1 : List (S57)) (r1 : List Int) (r2 : Int) (r3 : Int) (w : World) (hr1 : Kd.C k57 w A1 l1.length l1) (hc1 : l1.length ≤ c1) (h : spec_LeastLateness.f k a0_0 a0_1 l1 = some (r1, r2, r3)) :
 Calls Try.prog 54 #[.agg #[.int .i8 a0_0, .int .i8 a0_1], .slice A1 l1.length c1] w fun e w' => ∃ v0_ : Value, e = .returned (.tuple #[v0_, .int .i64 r2, .int .i64 r3]) ∧ Kd.R (Kd.int .i64) 2 w' w.heap.size (fun _ => True) v0_ r1 ∧ Below w.heap.size w w' := by
 have hu27 := Try.underlying27
 have HR1 := Aside0.mk hr1
 have HC1 := Aside0.mk hc1
 clear hr1 hc1
 have HB := Aside0.mk (Below.refl w.heap.size w)
 have H : ((spec_l07Found.f k a0_0 a0_1 l1 2).bind fun bt296 => (some (bt296.1, bt296.2.1, bt296.2.2))) = some (r1, r2, r3) := h
 clear h
 replace H := Option.bind_eq_some_iff.mp H
 obtain ⟨⟨t296, t299, t300⟩, A30, H⟩ := H
 replace H : (some (t296, t299, t300)) = some (r1, r2, r3) := H
 have A3 := Aside0.mk A30
 clear A30
 simp only [Option.some.injEq, Prod.mk.injEq] at H
 obtain ⟨rfl, rfl, rfl⟩ := H
 go_enter Try.func54, Try.ntmps54
 go_wp2_with (first | ((with_reducible refine gate_dst (N := 2) rfl ?_); refine box_event ?hg (N := 2) ?hd (cs := #[.int .i8 a0_0, .int .i8 a0_1]) (t := 27) ?hr ?_; (case hd => rfl); (case hg => rfl); (case hr => first | (go_simp; done) | (go_simp; rfl)); intro gb295 hg w4 hbox hb; have n0_ := Aside0.mk (below_step (blB HB) hb); have n1_ := Aside0.mk (hbox); have n2_ := Aside0.mk ((by rw [hg]; exact (below_size (blB HB)) : w.heap.size ≤ gb295)); have n3_ := Aside0.mk ((by rw [hg]; exact (below_size (blB HB)) : w.heap.size ≤ gb295)); clear HB; have HB := n0_; have BK295 := n1_; have GW295 := n2_; have GE295 := n3_; clear n0_ n1_ n2_ n3_; clear hb hbox hg; have hcz5_0 : w4.cell? ⟨gb295, 0, none⟩ = some (.int .i8 a0_0) := (blk_cell BK295.out 0).trans rfl; have hcz5_1 : w4.cell? ⟨gb295, 1, none⟩ = some (.int .i8 a0_1) := (blk_cell BK295.out 1).trans rfl; have hfz5_0 := blk_frozen BK295.out 0; have hfz5_1 := blk_frozen BK295.out 1) | ((with_reducible refine gate_callee (f := 79) rfl ?_); refine goesL_ (some 9) rfl rfl Try.func79 (by kernel_rfl) rfl #[.agg #[.int .i8 a0_0, .int .i8 a0_1], .slice A1 l1.length c1, .int .i64 2] rfl (by (try simp only [List.map_toArray, List.map_cons, List.map_nil]); first | done | rfl | (simp only [List.length_drop, List.length_take]; rfl)) ?_; (with_reducible refine (spec_l07Found.calls k a0_0 a0_1 _ _ l1 2 t296 t299 t300 _ ?side1 ?side2 A3.out).mono ?_); (case side1 => exact cvC ((Kd.C_below HR1.out HB.out))); (case side2 => exact HC1.out); rintro e w6 ⟨v297, rfl, ho0, hb⟩; refine ⟨_, rfl, ?_⟩; have n0_ := Aside0.mk (Kd.R_lower ho0 (below_size (by repeat (first | (with_reducible first | exact HB.out | apply below_alloc | apply pw_below_drewN | apply below_drew1 | refine below_set ?_ GE295.out) | exact HB.out)))); have n1_ := Aside0.mk (blk_below (g := gb295) (o := .cells #[.int .i8 a0_0, .int .i8 a0_1] 27 (0, 0)) (by (with_reducible repeat (first | refine blk_drewN ?_ _ | refine blk_drew ?_ | refine blk_alloc ?_ _)); exact BK295.out) hb); have n2_ := Aside0.mk (below_step (by repeat (first | (with_reducible first | exact HB.out | apply below_alloc | apply pw_below_drewN | apply below_drew1 | refine below_set ?_ GE295.out) | exact HB.out)) hb); clear BK295; clear HB; have HO298 := n0_; have BK295 := n1_; have HB := n2_; clear n0_ n1_ n2_; (try clear hb); (try clear hb2); (try clear hk); (try clear hi); (try clear ho0)))
 go_ret3
 exact ⟨_, by first | rfl | (simp [errW_none, errW_some] <;> rfl) | (simp [*, errW_none, errW_some] <;> rfl), mvR HO298, by repeat (first | (with_reducible first | exact HB.out | apply below_alloc | apply pw_below_drewN | apply below_drew1 | refine below_set ?_ GE295.out) | exact HB.out)⟩
end Go.Proofs.Ythkccaclmodjiaa.I
end
