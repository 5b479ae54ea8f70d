import Derived.Test.YthkccaclmodjiaazFLateEShort
import Derived.Test.YthkccaclmodjiaazFLateI0
import Derived.Test.YthkccaclmodjiaazFLateI54
import Derived.Test.YthkccaclmodjiaazFLateEPieceCode
import Derived.Test.YthkccaclmodjiaazFLateELayC
import Derived.Shelf.Abstract
section
namespace Go.Proofs.Ythkccaclmodjiaa.I
open Go.RowKit Go.Proofs.YthkccaclmodjiaaW.PrintWords Go.Proofs.YthkccaclmodjiaaW.PrintLast Go.Proofs.YthkccaclmodjiaaW.PrintMore
attribute [local go_sem] max2_int min2_int max_two min_two max_three min_three max_four min_four   -- for this text's walks alone
set_option linter.unusedVariables false
set_option linter.unusedSimpArgs false
def spec_FewestLate.f (k : Nat) (a0_0 : Int) (a0_1 : Int) (l1 : List (S57)) : Option (List Int × Int × Int) := (spec_l07Found.f k a0_0 a0_1 l1 1).bind fun bt302 => (some (bt302.1, bt302.2.1, bt302.2.2))
theorem spec_FewestLate.mono : ∀ a0 a1 a2 k, LeO (spec_FewestLate.f k a0 a1 a2) (spec_FewestLate.f (k + 1) a0 a1 a2) := by
 intro a0 a1 a2 k
 unfold spec_FewestLate.f
 repeat' first
  | (with_reducible exact spec_l07Found.mono _ _ _ _ _)
  | (with_reducible exact LeO.refl _)
  | (with_reducible exact LeO.none _)
  | (with_reducible refine LeO.ite ?_ ?_)
  | (with_reducible refine LeO.bind ?_ (fun _ => ?_))
  | exact spec_l07Found.mono _ _ _ _ _
  | exact LeO.none _
  | refine LeO.ite ?_ ?_
  | refine LeO.bind ?_ (fun _ => ?_)
set_option maxHeartbeats 8000000 in
set_option maxRecDepth 100000 in
theorem spec_FewestLate.calls (k : Nat) (a0_0 : Int) (a0_1 : Int) (A1 : Option Addr) (c1 : Nat) (l1 : List (S57)) (r1 : List Int) (r2 : Int) (r3 : Int) (w : World) (hr1 : Kd.C k57 w A1 l1.length l1) (hc1 : l1.length ≤ c1) (h : spec_FewestLate.f k a0_0 a0_1 l1 = some (r1, r2, r3)) :
 Calls Try.prog 56 #[.agg #[.int .i8 a0_0, .int .i8 a0_1], .slice A1 l1.length c1] w fun e w' => ∃ v0_ : Value, e = .returned (.tuple #[v0_, .int .i64 r2, .int .i64 r3]) ∧ Kd.R (Kd.int .i64) 2 w' w.heap.size (fun _ => True) v0_ r1 ∧ Below w.heap.size w w' := by
 have hu27 := Try.underlying27
 have HR1 := Aside0.mk hr1
 have HC1 := Aside0.mk hc1
 clear hr1 hc1
 have HB := Aside0.mk (Below.refl w.heap.size w)
 have H : ((spec_l07Found.f k a0_0 a0_1 l1 1).bind fun bt302 => (some (bt302.1, bt302.2.1, bt302.2.2))) = some (r1, r2, r3) := h
 clear h
 replace H := Option.bind_eq_some_iff.mp H
 obtain ⟨⟨t302, t305, t306⟩, A30, H⟩ := H
 replace H : (some (t302, t305, t306)) = some (r1, r2, r3) := H
 have A3 := Aside0.mk A30
 clear A30
 simp only [Option.some.injEq, Prod.mk.injEq] at H
 obtain ⟨rfl, rfl, rfl⟩ := H
 go_enter Try.func56, Try.ntmps56
 go_wp2_with (first | ((with_reducible refine gate_dst (N := 2) rfl ?_); refine box_event ?hg (N := 2) ?hd (cs := #[.int .i8 a0_0, .int .i8 a0_1]) (t := 27) ?hr ?_; (case hd => rfl); (case hg => rfl); (case hr => first | (go_simp; done) | (go_simp; rfl)); intro gb301 hg w4 hbox hb; have n0_ := Aside0.mk (below_step (blB HB) hb); have n1_ := Aside0.mk (hbox); have n2_ := Aside0.mk ((by rw [hg]; exact (below_size (blB HB)) : w.heap.size ≤ gb301)); have n3_ := Aside0.mk ((by rw [hg]; exact (below_size (blB HB)) : w.heap.size ≤ gb301)); clear HB; have HB := n0_; have BK301 := n1_; have GW301 := n2_; have GE301 := n3_; clear n0_ n1_ n2_ n3_; clear hb hbox hg; have hcz5_0 : w4.cell? ⟨gb301, 0, none⟩ = some (.int .i8 a0_0) := (blk_cell BK301.out 0).trans rfl; have hcz5_1 : w4.cell? ⟨gb301, 1, none⟩ = some (.int .i8 a0_1) := (blk_cell BK301.out 1).trans rfl; have hfz5_0 := blk_frozen BK301.out 0; have hfz5_1 := blk_frozen BK301.out 1) | ((with_reducible refine gate_callee (f := 79) rfl ?_); refine goesL_ (some 9) rfl rfl Try.func79 (by kernel_rfl) rfl #[.agg #[.int .i8 a0_0, .int .i8 a0_1], .slice A1 l1.length c1, .int .i64 1] rfl (by (try simp only [List.map_toArray, List.map_cons, List.map_nil]); first | done | rfl | (simp only [List.length_drop, List.length_take]; rfl)) ?_; (with_reducible refine (spec_l07Found.calls k a0_0 a0_1 _ _ l1 1 t302 t305 t306 _ ?side1 ?side2 A3.out).mono ?_); (case side1 => exact cvC ((Kd.C_below HR1.out HB.out))); (case side2 => exact HC1.out); rintro e w6 ⟨v303, rfl, ho0, hb⟩; refine ⟨_, rfl, ?_⟩; have n0_ := Aside0.mk (Kd.R_lower ho0 (below_size (by repeat (first | (with_reducible first | exact HB.out | apply below_alloc | apply pw_below_drewN | apply below_drew1 | refine below_set ?_ GE301.out) | exact HB.out)))); have n1_ := Aside0.mk (blk_below (g := gb301) (o := .cells #[.int .i8 a0_0, .int .i8 a0_1] 27 (0, 0)) (by (with_reducible repeat (first | refine blk_drewN ?_ _ | refine blk_drew ?_ | refine blk_alloc ?_ _)); exact BK301.out) hb); have n2_ := Aside0.mk (below_step (by repeat (first | (with_reducible first | exact HB.out | apply below_alloc | apply pw_below_drewN | apply below_drew1 | refine below_set ?_ GE301.out) | exact HB.out)) hb); clear BK301; clear HB; have HO304 := n0_; have BK301 := n1_; have HB := n2_; clear n0_ n1_ n2_; (try clear hb); (try clear hb2); (try clear hk); (try clear hi); (try clear ho0)))
 go_ret3
 exact ⟨_, by first | rfl | (simp [errW_none, errW_some] <;> rfl) | (simp [*, errW_none, errW_some] <;> rfl), mvR HO304, by repeat (first | (with_reducible first | exact HB.out | apply below_alloc | apply pw_below_drewN | apply below_drew1 | refine below_set ?_ GE301.out) | exact HB.out)⟩
end Go.Proofs.Ythkccaclmodjiaa.I
end
section
namespace Go.Proofs.Ythkccaclmodjiaa.I
open Go.RowKit Go.Proofs.YthkccaclmodjiaaW.PrintWords Go.Proofs.YthkccaclmodjiaaW.PrintLast Go.Proofs.YthkccaclmodjiaaW.PrintMore
attribute [local go_sem] max2_int min2_int max_two min_two max_three min_three max_four min_four
set_option linter.unusedVariables false
set_option linter.unusedSimpArgs false
def orderBy (key : S57 → Int) (k : Nat) (l0 : List S57) : Option (List Int × Int) := (impl_pieceCode.f k l0).bind fun c => (if c = 0 then (if l0.length ≤ 8 then some (sortKey key l0, 0) else none) else some ([], c))
theorem orderBy_some {key : S57 → Int} {k : Nat} {l0 : List S57} {r1 : List Int} {r2 : Int} (h : orderBy key k l0 = some (r1, r2)) : impl_pieceCode.f k l0 = some r2 ∧ (r2 = 0 → l0.length ≤ 8) ∧ (if r2 = 0 then sortKey key l0 else []) = r1 := by
 obtain ⟨c, h1, h2⟩ := Option.bind_eq_some_iff.mp h
 by_cases hc : c = 0
 · rw [if_pos hc] at h2
   by_cases h8 : l0.length ≤ 8
   · rw [if_pos h8] at h2
     injection h2 with h2
     injection h2 with e1 e2
     subst e1 e2 hc
     exact ⟨h1, fun _ => h8, if_pos rfl⟩
   · rw [if_neg h8] at h2
     cases h2
 · rw [if_neg hc] at h2
   injection h2 with h2
   injection h2 with e1 e2
   subst e1 e2
   exact ⟨h1, fun e => absurd e hc, if_neg hc⟩
theorem orderBy_mono (key : S57 → Int) (k : Nat) (l0 : List S57) : LeO (orderBy key k l0) (orderBy key (k + 1) l0) := LeO.bind (impl_pieceCode.mono l0 k) (fun _ => LeO.refl _)
def impl_DueOrder.f (k : Nat) (l0 : List S57) : Option (List Int × Int) := orderBy (fun x => wrap64 x.f2) k l0
theorem impl_DueOrder.mono : ∀ a0 k, LeO (impl_DueOrder.f k a0) (impl_DueOrder.f (k + 1) a0) := fun a0 k => orderBy_mono _ k a0
set_option maxHeartbeats 2000000 in
theorem impl_DueOrder.calls (k : Nat) (A0 : Option Addr) (c0 : Nat) (l0 : List (S57)) (r1 : List Int) (r2 : Int) (w : World) (hr0 : Kd.C k57 w A0 l0.length l0) (hc0 : l0.length ≤ c0) (h : impl_DueOrder.f k l0 = some (r1, r2)) :
 Calls Try.prog 38 #[.slice A0 l0.length c0] w fun e w' => ∃ v0_ : Value, e = .returned (.tuple #[v0_, .int .i64 r2]) ∧ Kd.R (Kd.int .i64) 2 w' w.heap.size (fun _ => True) v0_ r1 ∧ Below w.heap.size w w' := by
 obtain ⟨h1, h2, h3⟩ := orderBy_some h
 have eg : ∀ args w, (callFunc 88 args).run Try.prog w = .ok (.enter 88 args) w := enters_of Try.func88 (by kernel_rfl) rfl
 have HP := Aside0.mk (sortedBy_calls k 88 eg (fun x => wrap64 x.f2) dueKey A0 c0 l0 r2 w hr0 hc0 h1 h2)
 rw [h3] at HP
 clear h1 h2 h3 h hr0 hc0 eg
 go_enter Try.func38, Try.ntmps38
 go_wp2_with (go_at_call 87; refine HP.out.mono ?_; rintro e w' ⟨v, rfl, hR, hb⟩)
 go_ret2
 exact ⟨v, rfl, hR, hb⟩
end Go.Proofs.Ythkccaclmodjiaa.I
end
