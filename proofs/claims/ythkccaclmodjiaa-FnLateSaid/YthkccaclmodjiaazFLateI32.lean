import Derived.Test.YthkccaclmodjiaazFLateEShort
import Derived.Test.YthkccaclmodjiaazFLateI0
import Derived.Test.YthkccaclmodjiaazFLateI1
import Derived.Test.YthkccaclmodjiaazFLateI7
import Derived.Test.YthkccaclmodjiaazFLateI30
namespace Go.Proofs.Ythkccaclmodjiaa.I
open Go.RowKit Go.Proofs.YthkccaclmodjiaaW.PrintWords Go.Proofs.YthkccaclmodjiaaW.PrintLast Go.Proofs.YthkccaclmodjiaaW.PrintMore
attribute [local go_sem] max2_int min2_int max_two min_two max_three min_three max_four min_four   -- for this text's walks alone
set_option linter.unusedVariables false
set_option linter.unusedSimpArgs false
def impl_ValidPiece.f (a0_0 : Int) (a0_1 : Int) (a0_2 : Int) : Option (Bool) := (impl_within.f (wrap64 (a0_0)) 1 3).bind fun t173 => (if t173 = true then ((impl_within.f (wrap64 (a0_1)) 1 60).bind fun t174 => (if t174 = true then ((impl_within.f (wrap64 (a0_2)) 0 1000).bind fun t175 => (some t175)) else (some false))) else (some false))
set_option maxHeartbeats 8000000 in
set_option maxRecDepth 100000 in
theorem impl_ValidPiece.calls (a0_0 : Int) (a0_1 : Int) (a0_2 : Int) (r : Bool) (w : World) (h : impl_ValidPiece.f a0_0 a0_1 a0_2 = some r) :
 Calls Try.prog 64 #[.agg #[.int .i8 a0_0, .int .i8 a0_1, .int .i16 a0_2]] w fun e w' => e = .returned (.bool r) ∧ Below w.heap.size w w' := by
 have hu57 := Try.underlying57
 have HB := Aside0.mk (Below.refl w.heap.size w)
 have H : ((impl_within.f (wrap64 (a0_0)) 1 3).bind fun t173 => (if t173 = true then ((impl_within.f (wrap64 (a0_1)) 1 60).bind fun t174 => (if t174 = true then ((impl_within.f (wrap64 (a0_2)) 0 1000).bind fun t175 => (some t175)) else (some false))) else (some false))) = some r := h
 clear h
 replace H := Option.bind_eq_some_iff.mp H
 obtain ⟨t173, A20, H⟩ := H
 replace H : (if t173 = true then ((impl_within.f (wrap64 (a0_1)) 1 60).bind fun t174 => (if t174 = true then ((impl_within.f (wrap64 (a0_2)) 0 1000).bind fun t175 => (some t175)) else (some false))) else (some false)) = some r := H
 have A2 := Aside0.mk A20
 clear A20
 by_cases c3 : t173 = true
 · subst c3
   have H1 : ((impl_within.f (wrap64 (a0_1)) 1 60).bind fun t174 => (if t174 = true then ((impl_within.f (wrap64 (a0_2)) 0 1000).bind fun t175 => (some t175)) else (some false))) = some r := by rw [if_pos rfl] at H; exact H
   clear H
   have H := H1
   clear H1
   replace H := Option.bind_eq_some_iff.mp H
   obtain ⟨t174, A40, H⟩ := H
   replace H : (if t174 = true then ((impl_within.f (wrap64 (a0_2)) 0 1000).bind fun t175 => (some t175)) else (some false)) = some r := H
   have A4 := Aside0.mk A40
   clear A40
   by_cases c5 : t174 = true
   · subst c5
     have H1 : ((impl_within.f (wrap64 (a0_2)) 0 1000).bind fun t175 => (some t175)) = some r := by rw [if_pos rfl] at H; exact H
     clear H
     have H := H1
     clear H1
     replace H := Option.bind_eq_some_iff.mp H
     obtain ⟨t175, A60, H⟩ := H
     replace H : (some t175) = some r := H
     have A6 := Aside0.mk A60
     clear A60
     obtain rfl := Option.some.inj H
     go_enter Try.func64, Try.ntmps64
     go_wp2_with (first | ((with_reducible refine gate_dst (N := 1) rfl ?_); refine box_event ?hg (N := 1) ?hd (cs := #[.int .i8 a0_0, .int .i8 a0_1, .int .i16 a0_2]) (t := 57) ?hr ?_; (case hd => rfl); (case hg => rfl); (case hr => first | (go_simp; done) | (go_simp; rfl)); intro gb172 hg w7 hbox hb; have n0_ := Aside0.mk (below_step (blB HB) hb); have n1_ := Aside0.mk (hbox); have n2_ := Aside0.mk ((by rw [hg]; exact (below_size (blB HB)) : w.heap.size ≤ gb172)); have n3_ := Aside0.mk ((by rw [hg]; exact (below_size (blB HB)) : w.heap.size ≤ gb172)); clear HB; have HB := n0_; have BK172 := n1_; have GW172 := n2_; have GE172 := n3_; clear n0_ n1_ n2_ n3_; clear hb hbox hg; have hcz8_0 : w7.cell? ⟨gb172, 0, none⟩ = some (.int .i8 a0_0) := (blk_cell BK172.out 0).trans rfl; have hcz8_1 : w7.cell? ⟨gb172, 1, none⟩ = some (.int .i8 a0_1) := (blk_cell BK172.out 1).trans rfl; have hcz8_2 : w7.cell? ⟨gb172, 2, none⟩ = some (.int .i16 a0_2) := (blk_cell BK172.out 2).trans rfl; have hfz8_0 := blk_frozen BK172.out 0; have hfz8_1 := blk_frozen BK172.out 1; have hfz8_2 := blk_frozen BK172.out 2) | ((with_reducible refine gate_callee (f := 69) rfl ?_); refine goesL_ (some 6) rfl rfl Try.func69 (by kernel_rfl) rfl #[.int .i64 (wrap64 (a0_0)), .int .i64 1, .int .i64 3] rfl (by (try simp only [List.map_toArray, List.map_cons, List.map_nil]); first | done | rfl | (simp only [List.length_drop, List.length_take]; rfl)) ?_; (with_reducible refine (impl_within.calls (wrap64 (a0_0)) 1 3 true _ A2.out).mono ?_); rintro e w' ⟨rfl, ⟨nd, rfl⟩⟩; refine ⟨_, rfl, ?_⟩) | (go_at_call 69; (with_reducible refine (impl_within.calls (wrap64 (a0_1)) 1 60 true _ A4.out).mono ?_); rintro e w' ⟨rfl, ⟨nd, rfl⟩⟩) | (go_at_call 69; (with_reducible refine (impl_within.calls (wrap64 (a0_2)) 0 1000 t175 _ A6.out).mono ?_); rintro e w' ⟨rfl, ⟨nd, rfl⟩⟩))
     go_ret
     exact ⟨by first | rfl | (simp [errW_none, errW_some] <;> rfl) | (simp [*, errW_none, errW_some] <;> rfl), by repeat (first | (with_reducible first | exact HB.out | apply below_alloc | apply pw_below_drewN | apply below_drew1 | refine below_set ?_ GE172.out) | exact HB.out)⟩
   · replace c5 := Bool.eq_false_iff.mpr c5
     subst c5
     have H1 : (some false) = some r := by rw [if_neg (show ¬ (false = true) by decide)] at H; exact H
     clear H
     have H := H1
     clear H1
     obtain rfl := Option.some.inj H
     go_enter Try.func64, Try.ntmps64
     go_wp2_with (first | ((with_reducible refine gate_dst (N := 1) rfl ?_); refine box_event ?hg (N := 1) ?hd (cs := #[.int .i8 a0_0, .int .i8 a0_1, .int .i16 a0_2]) (t := 57) ?hr ?_; (case hd => rfl); (case hg => rfl); (case hr => first | (go_simp; done) | (go_simp; rfl)); intro gb172 hg w9 hbox hb; have n0_ := Aside0.mk (below_step (blB HB) hb); have n1_ := Aside0.mk (hbox); have n2_ := Aside0.mk ((by rw [hg]; exact (below_size (blB HB)) : w.heap.size ≤ gb172)); have n3_ := Aside0.mk ((by rw [hg]; exact (below_size (blB HB)) : w.heap.size ≤ gb172)); clear HB; have HB := n0_; have BK172 := n1_; have GW172 := n2_; have GE172 := n3_; clear n0_ n1_ n2_ n3_; clear hb hbox hg; have hcz10_0 : w9.cell? ⟨gb172, 0, none⟩ = some (.int .i8 a0_0) := (blk_cell BK172.out 0).trans rfl; have hcz10_1 : w9.cell? ⟨gb172, 1, none⟩ = some (.int .i8 a0_1) := (blk_cell BK172.out 1).trans rfl; have hcz10_2 : w9.cell? ⟨gb172, 2, none⟩ = some (.int .i16 a0_2) := (blk_cell BK172.out 2).trans rfl; have hfz10_0 := blk_frozen BK172.out 0; have hfz10_1 := blk_frozen BK172.out 1; have hfz10_2 := blk_frozen BK172.out 2) | ((with_reducible refine gate_callee (f := 69) rfl ?_); refine goesL_ (some 6) rfl rfl Try.func69 (by kernel_rfl) rfl #[.int .i64 (wrap64 (a0_0)), .int .i64 1, .int .i64 3] rfl (by (try simp only [List.map_toArray, List.map_cons, List.map_nil]); first | done | rfl | (simp only [List.length_drop, List.length_take]; rfl)) ?_; (with_reducible refine (impl_within.calls (wrap64 (a0_0)) 1 3 true _ A2.out).mono ?_); rintro e w' ⟨rfl, ⟨nd, rfl⟩⟩; refine ⟨_, rfl, ?_⟩) | (go_at_call 69; (with_reducible refine (impl_within.calls (wrap64 (a0_1)) 1 60 false _ A4.out).mono ?_); rintro e w' ⟨rfl, ⟨nd, rfl⟩⟩))
     go_ret
     exact ⟨by first | rfl | (simp [errW_none, errW_some] <;> rfl) | (simp [*, errW_none, errW_some] <;> rfl), by repeat (first | (with_reducible first | exact HB.out | apply below_alloc | apply pw_below_drewN | apply below_drew1 | refine below_set ?_ GE172.out) | exact HB.out)⟩
 · replace c3 := Bool.eq_false_iff.mpr c3
   subst c3
   have H1 : (some false) = some r := by rw [if_neg (show ¬ (false = true) by decide)] at H; exact H
   clear H
   have H := H1
   clear H1
   obtain rfl := Option.some.inj H
   go_enter Try.func64, Try.ntmps64
   go_wp2_with (first | ((with_reducible refine gate_dst (N := 1) rfl ?_); refine box_event ?hg (N := 1) ?hd (cs := #[.int .i8 a0_0, .int .i8 a0_1, .int .i16 a0_2]) (t := 57) ?hr ?_; (case hd => rfl); (case hg => rfl); (case hr => first | (go_simp; done) | (go_simp; rfl)); intro gb172 hg w11 hbox hb; have n0_ := Aside0.mk (below_step (blB HB) hb); have n1_ := Aside0.mk (hbox); have n2_ := Aside0.mk ((by rw [hg]; exact (below_size (blB HB)) : w.heap.size ≤ gb172)); have n3_ := Aside0.mk ((by rw [hg]; exact (below_size (blB HB)) : w.heap.size ≤ gb172)); clear HB; have HB := n0_; have BK172 := n1_; have GW172 := n2_; have GE172 := n3_; clear n0_ n1_ n2_ n3_; clear hb hbox hg; have hcz12_0 : w11.cell? ⟨gb172, 0, none⟩ = some (.int .i8 a0_0) := (blk_cell BK172.out 0).trans rfl; have hcz12_1 : w11.cell? ⟨gb172, 1, none⟩ = some (.int .i8 a0_1) := (blk_cell BK172.out 1).trans rfl; have hcz12_2 : w11.cell? ⟨gb172, 2, none⟩ = some (.int .i16 a0_2) := (blk_cell BK172.out 2).trans rfl; have hfz12_0 := blk_frozen BK172.out 0; have hfz12_1 := blk_frozen BK172.out 1; have hfz12_2 := blk_frozen BK172.out 2) | ((with_reducible refine gate_callee (f := 69) rfl ?_); refine goesL_ (some 6) rfl rfl Try.func69 (by kernel_rfl) rfl #[.int .i64 (wrap64 (a0_0)), .int .i64 1, .int .i64 3] rfl (by (try simp only [List.map_toArray, List.map_cons, List.map_nil]); first | done | rfl | (simp only [List.length_drop, List.length_take]; rfl)) ?_; (with_reducible refine (impl_within.calls (wrap64 (a0_0)) 1 3 false _ A2.out).mono ?_); rintro e w' ⟨rfl, ⟨nd, rfl⟩⟩; refine ⟨_, rfl, ?_⟩))
   go_ret
   exact ⟨by first | rfl | (simp [errW_none, errW_some] <;> rfl) | (simp [*, errW_none, errW_some] <;> rfl), by repeat (first | (with_reducible first | exact HB.out | apply below_alloc | apply pw_below_drewN | apply below_drew1 | refine below_set ?_ GE172.out) | exact HB.out)⟩
def spec_P6Order.l0 : Nat → Int → List Int → Int → List Int → Int → Int → Option (List Int)
 | 0, _, _, _, _, _, _ => none
 | k + 1, x1, x6, x7, x360000, x360001, x360002 => if x7 < x1 then ((spec_l00Src_pick.f x360000 x360001 x360002 (wrap64 ((x6.length : Int) + 1))).bind fun bt363 => ((some (([] : List Int) : List Int)).bind fun y366 => (if 0 ≤ bt363.1 then (if bt363.1 ≤ (x6.length : Int) then ((some (x6.take (bt363.1 : Int).toNat : List Int)).bind fun y369 => (if y366.length + y369.length < 17592186044416 then ((some (y366 ++ y369 : List Int)).bind fun y373 => (if y373.length < 17592186044416 then ((some (y373 ++ [x7] : List Int)).bind fun y376 => ((some (x6.drop (bt363.1 : Int).toNat : List Int)).bind fun y379 => (if y376.length + y379.length < 17592186044416 then (spec_P6Order.l0 k x1 (y376 ++ y379) (wrap64 (x7 + 1)) x360000 bt363.2.1 bt363.2.2) else (none)))) else (none))) else (none))) else (none)) else (none)))) else (some x6)
def spec_P6Order.f (k : Nat) (l0 : List Int) (a1 : Int) : Option (List Int) := (spec_l00From.f l0).bind fun bt356 => (spec_P6Order.l0 k a1 (([] : List Int)) 0 bt356.1 bt356.2.1 bt356.2.2)
theorem spec_P6Order.mono_l : ∀ k, (∀ y0 y1 y2 y3 y4 y5, LeO (spec_P6Order.l0 k y0 y1 y2 y3 y4 y5) (spec_P6Order.l0 (k + 1) y0 y1 y2 y3 y4 y5))
 | 0 => fun _ _ _ _ _ _ r h => by simp [spec_P6Order.l0] at h
 | k + 1 => by
  have ih0 := spec_P6Order.mono_l k
  · intro y0 y1 y2 y3 y4 y5
    unfold spec_P6Order.l0
    repeat' first
    | (with_reducible exact ih0 _ _ _ _ _ _)
    | (with_reducible exact LeO.refl _)
    | (with_reducible exact LeO.none _)
    | (with_reducible refine LeO.ite ?_ ?_)
    | (with_reducible refine LeO.bind ?_ (fun _ => ?_))
    | exact ih0 _ _ _ _ _ _
    | exact LeO.none _
    | refine LeO.ite ?_ ?_
    | refine LeO.bind ?_ (fun _ => ?_)
theorem spec_P6Order.mono : ∀ a0 a1 k, LeO (spec_P6Order.f k a0 a1) (spec_P6Order.f (k + 1) a0 a1) := by
 intro a0 a1 k
 have ih0 := spec_P6Order.mono_l k
 unfold spec_P6Order.f
 repeat' first
  | (with_reducible exact ih0 _ _ _ _ _ _)
  | (with_reducible exact LeO.refl _)
  | (with_reducible exact LeO.none _)
  | (with_reducible refine LeO.ite ?_ ?_)
  | (with_reducible refine LeO.bind ?_ (fun _ => ?_))
  | exact ih0 _ _ _ _ _ _
  | exact LeO.none _
  | refine LeO.ite ?_ ?_
  | refine LeO.bind ?_ (fun _ => ?_)
set_option maxHeartbeats 8000000 in
set_option maxRecDepth 100000 in
theorem spec_P6Order.calls (k : Nat) (A0 : Option Addr) (c0 : Nat) (l0 : List Int) (a1 : Int) (r : List Int) (w : World) (hr0 : Kd.C (Kd.int .u8) w A0 l0.length l0) (hc0 : l0.length ≤ c0) (h : spec_P6Order.f k l0 a1 = some r) :
 Calls Try.prog 62 #[.slice A0 l0.length c0, .int .i64 a1] w fun e w' => ∃ v0_ : Value, e = .returned (v0_) ∧ Kd.R (Kd.int .i64) 2 w' w.heap.size (fun _ => True) v0_ r ∧ Below w.heap.size w w' := by
 have HR0 := Aside0.mk hr0
 have HC0 := Aside0.mk hc0
 clear hr0 hc0
 have HB := Aside0.mk (Below.refl w.heap.size w)
 have H : ((spec_l00From.f l0).bind fun bt356 => (spec_P6Order.l0 k a1 (([] : List Int)) 0 bt356.1 bt356.2.1 bt356.2.2)) = some r := h
 clear h
 replace H := Option.bind_eq_some_iff.mp H
 obtain ⟨⟨t356, t357, t358⟩, A30, H⟩ := H
 replace H : (spec_P6Order.l0 k a1 (([] : List Int)) 0 t356 t357 t358) = some r := H
 have A3 := Aside0.mk A30
 clear A30
 obtain ⟨y360, hy360⟩ : ∃ y_ : List Int, y_ = (([] : List Int)) := ⟨_, rfl⟩
 replace H : (spec_P6Order.l0 k a1 y360 0 t356 t357 t358) = some r := by first | (rw [hy360]; with_reducible exact H) | (have H2_ := (Option.bind_some _ _).symm.trans H; rw [hy360]; with_reducible exact H2_) | (have H2_ := (Option.bind_some _ _).symm.trans H; with_reducible exact H2_) | with_reducible exact H | (rw [hy360]; exact H) | exact H
 have Ny360 := Aside0.mk hy360
 clear hy360
 have H' := Aside0.mk H
 clear H
 go_enter Try.func62, Try.ntmps62
 go_wp2_with (first | ((with_reducible refine gate_callee (f := 99) rfl ?_); refine goesL_ (some 11) rfl rfl Try.func99 (by kernel_rfl) rfl #[.slice A0 l0.length c0] rfl (by (try simp only [List.map_toArray, List.map_cons, List.map_nil]); first | done | rfl | (simp only [List.length_drop, List.length_take]; rfl)) ?_; (with_reducible refine (spec_l00From.calls _ _ l0 t356 t357 t358 w _ ?side1 ?side2 ?side3 A3.out).mono ?_); (case side1 => exact blB HB); (case side2 => exact HR0.out); (case side3 => exact HC0.out); rintro e w4 ⟨g359, rfl, hi, hb, hb2⟩; refine ⟨_, rfl, ?_⟩; have n0_ := Aside0.mk (hb); have n1_ := Aside0.mk (hi); clear HB; have HB := n0_; have HI359 := n1_; clear n0_ n1_; (try clear hb); (try clear hb2); (try clear hk); (try clear hi)) | ((with_reducible refine gate_dst (N := 12) rfl ?_); refine Kd.R_lit (Kd.int .i64) _ 2 ?hg (N := 12) ?hd (xs := ([] : List Int)) (inner := []) (ok := fun _ => True) (okp := fun _ => True) ?hr ?hp (fun _ hk => hk) trivial (Below.refl _ _) (Nat.le_refl _) (by simp) ?_; (case hd => rfl); (case hg => rfl); (case hr => first | (go_simp; done) | (go_simp; rfl)); (case hp => exact (Reps.none _ _)); intro v361 w5 ho6 hb hg_ hnew_; clear hg_ hnew_; (first | rw [← Ny360.out] at ho6 | (simp only [Int.reduceToNat] at ho6; rw [← Ny360.out] at ho6)); have n0_ := Aside0.mk (Kd.R_lower ho6 (below_size (by repeat (first | (with_reducible first | exact HB.out | apply below_alloc | apply pw_below_drewN | apply below_drew1 | refine below_set ?_ (IsS103.ge HI359.out)) | exact HB.out)))); have n1_ := Aside0.mk (IsS103.below (by repeat (first | (with_reducible first | exact HI359.out | apply IsS103.alloc | apply IsS103.drewN | apply IsS103.drew | apply IsS103.set_1 | apply IsS103.set_2) | exact HI359.out)) hb); have n2_ := Aside0.mk (below_step (by repeat (first | (with_reducible first | exact HB.out | apply below_alloc | apply pw_below_drewN | apply below_drew1 | refine below_set ?_ (IsS103.ge HI359.out)) | exact HB.out)) hb); clear HI359; clear HB; have HO362 := n0_; have HI359 := n1_; have HB := n2_; clear n0_ n1_ n2_; clear hb ho6))
 go_loopg [6, 7] k (fun kq v6 v7 w' => ∃ (x6_1 : List Int) (x7_1 : Int) (x360001_1 : Int) (x360002_1 : Int), v7 = .int .i64 x7_1 ∧ Aside0 (spec_P6Order.l0 kq a1 x6_1 x7_1 t356 x360001_1 x360002_1 = some r) ∧ Aside0 (kq ≤ k) ∧ Aside0 (Kd.R (Kd.int .i64) 2 w' w.heap.size (fun _ => True) v6 x6_1) ∧ Aside0 (IsS103 w w' g359 t356 x360001_1 x360002_1) ∧ Aside0 (Below w.heap.size w w'))
 case atStart => exact ⟨(y360), (0), (t357), (t358), (by first | rfl | (simp; done) | (simp [*]; done)), H', ⟨Nat.le_refl _⟩, ⟨mvR HO362⟩, ⟨by repeat (first | (with_reducible first | exact HI359.out | apply IsS103.alloc | apply IsS103.drewN | apply IsS103.drew | apply IsS103.set_1 | apply IsS103.set_2) | exact HI359.out)⟩, ⟨by repeat (first | (with_reducible first | exact HB.out | apply below_alloc | apply pw_below_drewN | apply below_drew1 | refine below_set ?_ (IsS103.ge HI359.out)) | exact HB.out)⟩⟩
 case round =>
  clear H'
  try clear p2
  try clear c6
  obtain ⟨x6_1, x7_1, x360001_1, x360002_1, rfl, HA, HK1, HO_6, HI359, HB⟩ := hrel
  cases gk with
  | zero => exact absurd HA.out (by simp [spec_P6Order.l0])
  | succ k1 =>
   have H := HA.out
   clear HA
   simp only [spec_P6Order.l0] at H
   by_cases c7 : x7_1 < a1
   · rw [if_pos c7] at H
     have c7b0 : decide (x7_1 < a1) = true := decide_eq_true c7
     clear c7
     replace H := Option.bind_eq_some_iff.mp H
     obtain ⟨⟨t363, t364, t365⟩, A80, H⟩ := H
     replace H : ((some (([] : List Int) : List Int)).bind fun y366 => (if 0 ≤ t363 then (if t363 ≤ (x6_1.length : Int) then ((some (x6_1.take (t363 : Int).toNat : List Int)).bind fun y369 => (if y366.length + y369.length < 17592186044416 then ((some (y366 ++ y369 : List Int)).bind fun y373 => (if y373.length < 17592186044416 then ((some (y373 ++ [x7_1] : List Int)).bind fun y376 => ((some (x6_1.drop (t363 : Int).toNat : List Int)).bind fun y379 => (if y376.length + y379.length < 17592186044416 then (spec_P6Order.l0 k1 a1 (y376 ++ y379) (wrap64 (x7_1 + 1)) t356 t364 t365) else (none)))) else (none))) else (none))) else (none)) else (none))) = some r := H
     have A8 := Aside0.mk A80
     clear A80
     obtain ⟨y366, hy366⟩ : ∃ y_ : List Int, y_ = (([] : List Int)) := ⟨_, rfl⟩
     replace H : (if 0 ≤ t363 then (if t363 ≤ (x6_1.length : Int) then ((some (x6_1.take (t363 : Int).toNat : List Int)).bind fun y369 => (if y366.length + y369.length < 17592186044416 then ((some (y366 ++ y369 : List Int)).bind fun y373 => (if y373.length < 17592186044416 then ((some (y373 ++ [x7_1] : List Int)).bind fun y376 => ((some (x6_1.drop (t363 : Int).toNat : List Int)).bind fun y379 => (if y376.length + y379.length < 17592186044416 then (spec_P6Order.l0 k1 a1 (y376 ++ y379) (wrap64 (x7_1 + 1)) t356 t364 t365) else (none)))) else (none))) else (none))) else (none)) else (none)) = some r := by first | (rw [hy366]; with_reducible exact H) | (have H2_ := (Option.bind_some _ _).symm.trans H; rw [hy366]; with_reducible exact H2_) | (have H2_ := (Option.bind_some _ _).symm.trans H; with_reducible exact H2_) | with_reducible exact H | (rw [hy366]; exact H) | exact H
     have Ny366 := Aside0.mk hy366
     clear hy366
     by_cases c9 : 0 ≤ t363
     · rw [if_pos c9] at H
       have c9b0 := eq_true c9
       have c9b1 : decide (0 ≤ t363) = true := decide_eq_true c9
       clear c9
       by_cases c10 : t363 ≤ (x6_1.length : Int)
       · rw [if_pos c10] at H
         have c10b0 := eq_true c10
         have c10b1 : decide (t363 ≤ (x6_1.length : Int)) = true := decide_eq_true c10
         clear c10
         obtain ⟨y369, hy369⟩ : ∃ y_ : List Int, y_ = (x6_1.take (t363 : Int).toNat) := ⟨_, rfl⟩
         replace H : (if y366.length + y369.length < 17592186044416 then ((some (y366 ++ y369 : List Int)).bind fun y373 => (if y373.length < 17592186044416 then ((some (y373 ++ [x7_1] : List Int)).bind fun y376 => ((some (x6_1.drop (t363 : Int).toNat : List Int)).bind fun y379 => (if y376.length + y379.length < 17592186044416 then (spec_P6Order.l0 k1 a1 (y376 ++ y379) (wrap64 (x7_1 + 1)) t356 t364 t365) else (none)))) else (none))) else (none)) = some r := by first | (rw [hy369]; with_reducible exact H) | (have H2_ := (Option.bind_some _ _).symm.trans H; rw [hy369]; with_reducible exact H2_) | (have H2_ := (Option.bind_some _ _).symm.trans H; with_reducible exact H2_) | with_reducible exact H | (rw [hy369]; exact H) | exact H
         have Ny369 := Aside0.mk hy369
         clear hy369
         by_cases c11 : y366.length + y369.length < 17592186044416
         · rw [if_pos c11] at H
           have LMc11 := Aside0.mk c11
           clear c11
           obtain ⟨y373, hy373⟩ : ∃ y_ : List Int, y_ = (y366 ++ y369) := ⟨_, rfl⟩
           replace H : (if y373.length < 17592186044416 then ((some (y373 ++ [x7_1] : List Int)).bind fun y376 => ((some (x6_1.drop (t363 : Int).toNat : List Int)).bind fun y379 => (if y376.length + y379.length < 17592186044416 then (spec_P6Order.l0 k1 a1 (y376 ++ y379) (wrap64 (x7_1 + 1)) t356 t364 t365) else (none)))) else (none)) = some r := by first | (rw [hy373]; with_reducible exact H) | (have H2_ := (Option.bind_some _ _).symm.trans H; rw [hy373]; with_reducible exact H2_) | (have H2_ := (Option.bind_some _ _).symm.trans H; with_reducible exact H2_) | with_reducible exact H | (rw [hy373]; exact H) | exact H
           have Ny373 := Aside0.mk hy373
           clear hy373
           by_cases c12 : y373.length < 17592186044416
           · rw [if_pos c12] at H
             have LMc12 := Aside0.mk c12
             clear c12
             obtain ⟨y376, hy376⟩ : ∃ y_ : List Int, y_ = (y373 ++ [x7_1]) := ⟨_, rfl⟩
             replace H : ((some (x6_1.drop (t363 : Int).toNat : List Int)).bind fun y379 => (if y376.length + y379.length < 17592186044416 then (spec_P6Order.l0 k1 a1 (y376 ++ y379) (wrap64 (x7_1 + 1)) t356 t364 t365) else (none))) = some r := by first | (rw [hy376]; with_reducible exact H) | (have H2_ := (Option.bind_some _ _).symm.trans H; rw [hy376]; with_reducible exact H2_) | (have H2_ := (Option.bind_some _ _).symm.trans H; with_reducible exact H2_) | with_reducible exact H | (rw [hy376]; exact H) | exact H
             have Ny376 := Aside0.mk hy376
             clear hy376
             have c13b0 := eq_true (dtB : 0 ≤ t363)
             have c14b0 := eq_true (dtB : t363 ≤ (x6_1.length : Int))
             obtain ⟨y379, hy379⟩ : ∃ y_ : List Int, y_ = (x6_1.drop (t363 : Int).toNat) := ⟨_, rfl⟩
             replace H : (if y376.length + y379.length < 17592186044416 then (spec_P6Order.l0 k1 a1 (y376 ++ y379) (wrap64 (x7_1 + 1)) t356 t364 t365) else (none)) = some r := by first | (rw [hy379]; with_reducible exact H) | (have H2_ := (Option.bind_some _ _).symm.trans H; rw [hy379]; with_reducible exact H2_) | (have H2_ := (Option.bind_some _ _).symm.trans H; with_reducible exact H2_) | with_reducible exact H | (rw [hy379]; exact H) | exact H
             have Ny379 := Aside0.mk hy379
             clear hy379
             by_cases c15 : y376.length + y379.length < 17592186044416
             · rw [if_pos c15] at H
               have LMc15 := Aside0.mk c15
               clear c15
               obtain ⟨y383, hy383⟩ : ∃ y_ : List Int, y_ = (y376 ++ y379) := ⟨_, rfl⟩
               replace H : (spec_P6Order.l0 k1 a1 y383 (wrap64 (x7_1 + 1)) t356 t364 t365) = some r := by first | (rw [hy383]; with_reducible exact H) | (have H2_ := (Option.bind_some _ _).symm.trans H; rw [hy383]; with_reducible exact H2_) | (have H2_ := (Option.bind_some _ _).symm.trans H; with_reducible exact H2_) | with_reducible exact H | (rw [hy383]; exact H) | exact H
               have Ny383 := Aside0.mk hy383
               clear hy383
               have H' := Aside0.mk H
               clear H
               obtain ⟨Ao16, co16, eo16⟩ := Kd.R_slice HO_6.out
               subst eo16
               go_wp2_with (first | ((with_reducible refine gate_callee (f := 100) rfl ?_); refine goesL_ (some 22) rfl rfl Try.func100 (by kernel_rfl) rfl #[.pointer (some ⟨g359, 0, none⟩), .int .i64 (wrap64 ((x6_1.length : Int) + 1))] rfl (by (try simp only [List.map_toArray, List.map_cons, List.map_nil]); first | done | rfl | (simp only [List.length_drop, List.length_take]; rfl)) ?_; (with_reducible refine (spec_l00Src_pick.calls g359 t356 x360001_1 x360002_1 (wrap64 ((x6_1.length : Int) + 1)) t363 t364 t365 w _ ?side1 ?side2 A8.out).mono ?_); (case side1 => repeat (first | (with_reducible first | exact HI359.out | apply IsS103.alloc | apply IsS103.drewN | apply IsS103.drew | apply IsS103.set_1 | apply IsS103.set_2) | exact HI359.out)); (case side2 => repeat (first | (with_reducible first | exact HB.out | apply below_alloc | apply pw_below_drewN | apply below_drew1 | refine below_set ?_ (IsS103.ge HI359.out)) | exact HB.out)); rintro e w17 ⟨rfl, hi, hb, hk⟩; refine ⟨_, rfl, ?_⟩; have n0_ := Aside0.mk (Kd.R_mono (Kd.R_keep (IsS103.apart (show IsS103 w _ g359 t356 x360001_1 x360002_1 from by repeat (first | (with_reducible first | exact HI359.out | apply IsS103.alloc | apply IsS103.drewN | apply IsS103.drew | apply IsS103.set_1 | apply IsS103.set_2) | exact HI359.out)) (mvR HO_6) (by decide)) hk (fun _ h => h.2)) (fun _ h => h.1)); have n1_ := Aside0.mk (hb); have n2_ := Aside0.mk (hi); clear HO_6; clear HB; clear HI359; have HO_6 := n0_; have HB := n1_; have HI359 := n2_; clear n0_ n1_ n2_; (try clear hb); (try clear hb2); (try clear hk); (try clear hi)) | ((with_reducible refine gate_dst (N := 23) rfl ?_); refine Kd.R_lit (Kd.int .i64) _ 2 ?hg (N := 23) ?hd (xs := ([] : List Int)) (inner := []) (ok := fun _ => True) (okp := fun _ => True) ?hr ?hp (fun _ hk => hk) trivial (Below.refl _ _) (Nat.le_refl _) (by simp) ?_; (case hd => rfl); (case hg => rfl); (case hr => first | (go_simp; done) | (go_simp; rfl)); (case hp => exact (Reps.none _ _)); intro v367 w18 ho19 hb hg_ hnew_; clear hg_ hnew_; (first | rw [← Ny366.out] at ho19 | (simp only [Int.reduceToNat] at ho19; rw [← Ny366.out] at ho19)); have n0_ := Aside0.mk (Kd.R_elder' (mvR HO_6) (Kd.R_base ho19) hb); have n1_ := Aside0.mk (Kd.R_lower (Kd.R_new' ho19 (Kd.R_lt (mvR HO_6))) (below_size (by repeat (first | (with_reducible first | exact HB.out | apply below_alloc | apply pw_below_drewN | apply below_drew1 | refine below_set ?_ (IsS103.ge HI359.out)) | exact HB.out)))); have n2_ := Aside0.mk (IsS103.below (by repeat (first | (with_reducible first | exact HI359.out | apply IsS103.alloc | apply IsS103.drewN | apply IsS103.drew | apply IsS103.set_1 | apply IsS103.set_2) | exact HI359.out)) hb); have n3_ := Aside0.mk (below_step (by repeat (first | (with_reducible first | exact HB.out | apply below_alloc | apply pw_below_drewN | apply below_drew1 | refine below_set ?_ (IsS103.ge HI359.out)) | exact HB.out)) hb); clear HO_6; clear HI359; clear HB; have HO_6 := n0_; have HO368 := n1_; have HI359 := n2_; have HB := n3_; clear n0_ n1_ n2_ n3_; clear hb ho19; have q20 : (t363 : Int) ≤ ((x6_1.length : Int) : Int) := dtB; obtain ⟨i020, hi020, _, hsz20, _⟩ := info_parts info2; have hroom20 : x6_1.length ≤ co16 := (Kd.R_reads' HO_6.out).2.1; have hC20 : Kd.C (Kd.int .i64) _ Ao16 x6_1.length x6_1 := (Kd.R_reads' HO_6.out).2.2; have hcut20 := cut_to (P := Try.prog) 37 2 .i64 Try.underlying37 hi020 Ao16 x6_1.length co16 t363 (dtB) q20 hroom20; have hr20 := Kd.C_take (m := (t363 : Int).toNat) hC20 (by omega); have hy20 : y369.length = (t363 : Int).toNat := (by rw [Ny369.out, List.length_take]; omega); rw [← Ny369.out] at hr20; rw [← hy20] at hcut20; have HR372 := Aside0.mk hr20; have HC372 := Aside0.mk (show y369.length ≤ co16 from by omega); clear hr20 hC20 hroom20 hi020 hsz20; have KY20 := Aside0.mk hy20; clear hy20; have KL20 := Aside0.mk (show (t363 : Int).toNat ≤ x6_1.length from by omega); replace q20 := eq_true q20) | ((with_reducible refine gate_builtin (b := .append) (xs := #[.tmp 23, .tmp 26]) rfl ?_); at_builtin; refine Kd.R_append_rows (Kd.int .i64) (w0 := w) w.heap.size rfl (.tmp 23) (.tmp 26) 37 2 (.int .i64 0) 8 rfl Try.underlying37 info2 rfl (by decide) (by omega) v367 y366 y369 _ _ _ (fun k_ => some k_ ≠ (.slice Ao16 x6_1.length co16 : Value).ownBlock) (fun _ => False) rfl rfl ?aO ?aR (fun _ _ h => h) (fun _ h => h.elim) ?aF ?aB ?aS ?aL ?_; (case aR => repeat (first | exact (by repeat (first | (with_reducible exact HR372.out) | (with_reducible refine Kd.C_alloc ?_ _) | (with_reducible refine Kd.C_drewN ?_ _) | (with_reducible refine Kd.C_drew ?_) | exact HR372.out)) | (with_reducible refine Kd.C_alloc ?_ _) | (with_reducible refine Kd.C_drewN ?_ _) | (with_reducible refine Kd.C_drew ?_))); (case aB => exact (by repeat (first | (with_reducible first | exact HB.out | apply below_alloc | apply pw_below_drewN | apply below_drew1 | refine below_set ?_ (IsS103.ge HI359.out)) | exact HB.out))); (case aF => exact (fun k_ hk => Kd.fresh' (Kd.R_lt (mvR HO_6)) k_ hk)); (case aO => exact (by (with_reducible repeat (first | apply Kd.R_alloc | apply Kd.R_drewN | apply Kd.R_drew)); exact Kd.R_mono HO368.out (fun _ hk => hk.2))); (case aS => exact (below_size (by repeat (first | (with_reducible first | exact HB.out | apply below_alloc | apply pw_below_drewN | apply below_drew1 | refine below_set ?_ (IsS103.ge HI359.out)) | exact HB.out)))); (case aL => have := LMc11.out; omega); intro v374 w21 ho hb hg hat; rw [← Ny373.out] at ho; have n0_ := Aside0.mk (Kd.R_after (ok := (fun _ => True)) (mvR HO_6) hg hat); have n1_ := Aside0.mk (IsS103.grown (by repeat (first | (with_reducible first | exact HI359.out | apply IsS103.alloc | apply IsS103.drewN | apply IsS103.drew | apply IsS103.set_1 | apply IsS103.set_2) | exact HI359.out)) hg (IsS103.own_ne HI359.out HO368.out (by decide))); have n2_ := Aside0.mk (hb); have n3_ := Aside0.mk ((show Kd.C (Kd.int .i64) w21 Ao16 y369.length y369 from by rw [Ny369.out]; exact Kd.C_take (m := (t363 : Int).toNat) ((Kd.R_reads' (Kd.R_after (ok := (fun _ => True)) (mvR HO_6) hg hat)).2.2) KL20.out)); have n4_ := Aside0.mk (ho); clear HO_6; clear HI359; clear HB; clear HR372; clear HO368; have HO_6 := n0_; have HI359 := n1_; have HB := n2_; have HR372 := n3_; have HO375 := n4_; clear n0_ n1_ n2_ n3_ n4_; clear ho hb hg hat) | ((with_reducible refine gate_builtin (b := .append) (xs := #[.tmp 27, .tmp 29]) rfl ?_); at_builtin; refine Kd.R_append (Kd.int .i64) (w0 := w) w.heap.size rfl (.tmp 27) (.tmp 29) 37 2 (.int .i64 0) 8 rfl Try.underlying37 info2 rfl (by decide) (by omega) v374 y373 x7_1 [.int .i64 x7_1] (fun k_ => some k_ ≠ (.slice Ao16 x6_1.length co16 : Value).ownBlock) (fun _ => False) rfl rfl ?aP (fun _ hk => hk.elim) ?aF ?aO ?aB ?aS ?aL ?_; (case aP => exact rfl); (case aB => exact (by repeat (first | (with_reducible first | exact HB.out | apply below_alloc | apply pw_below_drewN | apply below_drew1 | refine below_set ?_ (IsS103.ge HI359.out)) | exact HB.out))); (case aF => exact (fun k_ hk => Kd.fresh' (Kd.R_lt (mvR HO_6)) k_ hk)); (case aO => exact (mvR HO375)); (case aS => exact (below_size (by repeat (first | (with_reducible first | exact HB.out | apply below_alloc | apply pw_below_drewN | apply below_drew1 | refine below_set ?_ (IsS103.ge HI359.out)) | exact HB.out)))); (case aL => have := LMc12.out; omega); intro v377 w22 ho hb hg hat; rw [← Ny376.out] at ho; have n0_ := Aside0.mk (Kd.R_after (ok := (fun _ => True)) (mvR HO_6) hg hat); have n1_ := Aside0.mk (IsS103.grown (by repeat (first | (with_reducible first | exact HI359.out | apply IsS103.alloc | apply IsS103.drewN | apply IsS103.drew | apply IsS103.set_1 | apply IsS103.set_2) | exact HI359.out)) hg (IsS103.own_ne HI359.out HO375.out (by decide))); have n2_ := Aside0.mk (hb); have n3_ := Aside0.mk ((show Kd.C (Kd.int .i64) w22 Ao16 y369.length y369 from by rw [Ny369.out]; exact Kd.C_take (m := (t363 : Int).toNat) ((Kd.R_reads' (Kd.R_after (ok := (fun _ => True)) (mvR HO_6) hg hat)).2.2) KL20.out)); have n4_ := Aside0.mk (ho); clear HO_6; clear HI359; clear HB; clear HR372; clear HO375; have HO_6 := n0_; have HI359 := n1_; have HB := n2_; have HR372 := n3_; have HO378 := n4_; clear n0_ n1_ n2_ n3_ n4_; clear ho hb hg hat; have q23 : (t363 : Int) ≤ ((x6_1.length : Int) : Int) := dtB; obtain ⟨i023, hi023, _, hsz23, _⟩ := info_parts info2; have hroom23 : x6_1.length ≤ co16 := (Kd.R_reads' HO_6.out).2.1; have hC23 : Kd.C (Kd.int .i64) _ Ao16 x6_1.length x6_1 := (Kd.R_reads' HO_6.out).2.2; have q023 : (0 : Int) ≤ (t363 : Int) := dtB; have hcut23 := cut_from (P := Try.prog) 37 2 .i64 Try.underlying37 hi023 1 hsz23 Ao16 x6_1.length co16 t363 q023 q23; have hr23 := Kd.C_drop (m := (t363 : Int).toNat) (c := co16) hC23 (by omega) hroom23; obtain ⟨A23, hA23⟩ : ∃ A1, A1 = (if co16 = (t363 : Int).toNat then Ao16 else (Ao16 : Option Addr).map (·.add ((t363 : Int).toNat * 1))) := ⟨_, rfl⟩; obtain ⟨c23, hc23⟩ : ∃ c1, c1 = co16 - (t363 : Int).toNat := ⟨_, rfl⟩; have hy23 : y379.length = x6_1.length - (t363 : Int).toNat := (by rw [Ny379.out, List.length_drop] <;> omega); rw [show (x6_1).drop (t363 : Int).toNat = y379 from Ny379.out.symm] at hr23; replace hr23 : Kd.C (Kd.int .i64) _ A23 y379.length y379 := (by rw [hA23]; exact hr23); rw [← hy23, ← hA23, ← hc23] at hcut23; have HR382 := Aside0.mk hr23; have HC382 := Aside0.mk (show y379.length ≤ c23 from by rw [hy23, hc23]; exact Nat.sub_le_sub_right hroom23 _); clear hr23 hC23 hroom23 hi023 hsz23 hc23; have KY23 := Aside0.mk hy23; have KA23 := Aside0.mk hA23; clear hy23 hA23; have KL23 := Aside0.mk (show (t363 : Int).toNat ≤ x6_1.length from by omega); replace q23 := eq_true q23) | ((with_reducible refine gate_builtin (b := .append) (xs := #[.tmp 31, .tmp 34]) rfl ?_); at_builtin; refine Kd.R_append_rows (Kd.int .i64) (w0 := w) w.heap.size rfl (.tmp 31) (.tmp 34) 37 2 (.int .i64 0) 8 rfl Try.underlying37 info2 rfl (by decide) (by omega) v377 y376 y379 _ _ _ (fun k_ => some k_ ≠ (.slice Ao16 x6_1.length co16 : Value).ownBlock) (fun _ => False) rfl rfl ?aO ?aR (fun _ _ h => h) (fun _ h => h.elim) ?aF ?aB ?aS ?aL ?_; (case aR => repeat (first | exact (by repeat (first | (with_reducible exact HR382.out) | (with_reducible refine Kd.C_alloc ?_ _) | (with_reducible refine Kd.C_drewN ?_ _) | (with_reducible refine Kd.C_drew ?_) | exact HR382.out)) | (with_reducible refine Kd.C_alloc ?_ _) | (with_reducible refine Kd.C_drewN ?_ _) | (with_reducible refine Kd.C_drew ?_))); (case aB => exact (by repeat (first | (with_reducible first | exact HB.out | apply below_alloc | apply pw_below_drewN | apply below_drew1 | refine below_set ?_ (IsS103.ge HI359.out)) | exact HB.out))); (case aF => exact (fun k_ hk => Kd.fresh' (Kd.R_lt (mvR HO_6)) k_ hk)); (case aO => exact (mvR HO378)); (case aS => exact (below_size (by repeat (first | (with_reducible first | exact HB.out | apply below_alloc | apply pw_below_drewN | apply below_drew1 | refine below_set ?_ (IsS103.ge HI359.out)) | exact HB.out)))); (case aL => have := LMc15.out; omega); intro v384 w24 ho hb hg hat; rw [← Ny383.out] at ho; have n0_ := Aside0.mk (Kd.R_after (ok := (fun _ => True)) (mvR HO_6) hg hat); have n1_ := Aside0.mk (IsS103.grown (by repeat (first | (with_reducible first | exact HI359.out | apply IsS103.alloc | apply IsS103.drewN | apply IsS103.drew | apply IsS103.set_1 | apply IsS103.set_2) | exact HI359.out)) hg (IsS103.own_ne HI359.out HO378.out (by decide))); have n2_ := Aside0.mk (hb); have n3_ := Aside0.mk ((show Kd.C (Kd.int .i64) w24 Ao16 y369.length y369 from by rw [Ny369.out]; exact Kd.C_take (m := (t363 : Int).toNat) ((Kd.R_reads' (Kd.R_after (ok := (fun _ => True)) (mvR HO_6) hg hat)).2.2) KL20.out)); have n4_ := Aside0.mk ((show Kd.C (Kd.int .i64) w24 A23 y379.length y379 from by rw [Ny379.out, KA23.out]; exact Kd.C_drop (m := (t363 : Int).toNat) (c := co16) ((Kd.R_reads' (Kd.R_after (ok := (fun _ => True)) (mvR HO_6) hg hat)).2.2) KL23.out ((Kd.R_reads' (Kd.R_after (ok := (fun _ => True)) (mvR HO_6) hg hat)).2.1))); have n5_ := Aside0.mk (ho); clear HO_6; clear HI359; clear HB; clear HR372; clear HR382; clear HO378; have HO_6 := n0_; have HI359 := n1_; have HB := n2_; have HR372 := n3_; have HR382 := n4_; have HO385 := n5_; clear n0_ n1_ n2_ n3_ n4_ n5_; clear ho hb hg hat))
               go_roundg k1
               case measure => have := HK1.out; omega
               case rel => exact ⟨(y383), (wrap64 (x7_1 + 1)), (t364), (t365), (by first | rfl | (simp; done) | (simp [*]; done)), H', ⟨by have := HK1.out; omega⟩, ⟨by (with_reducible repeat (first | apply Kd.R_alloc | apply Kd.R_drewN | apply Kd.R_drew)); exact Kd.R_mono HO385.out (fun _ hk => trivial)⟩, ⟨by repeat (first | (with_reducible first | exact HI359.out | apply IsS103.alloc | apply IsS103.drewN | apply IsS103.drew | apply IsS103.set_1 | apply IsS103.set_2) | exact HI359.out)⟩, ⟨by repeat (first | (with_reducible first | exact HB.out | apply below_alloc | apply pw_below_drewN | apply below_drew1 | refine below_set ?_ (IsS103.ge HI359.out)) | exact HB.out)⟩⟩
             · rw [if_neg c15] at H
               exact absurd H (by simp)
           · rw [if_neg c12] at H
             exact absurd H (by simp)
         · rw [if_neg c11] at H
           exact absurd H (by simp)
       · rw [if_neg c10] at H
         exact absurd H (by simp)
     · rw [if_neg c9] at H
       exact absurd H (by simp)
   · rw [if_neg c7] at H
     have c7b0 : decide (x7_1 < a1) = false := decide_eq_false c7
     clear c7
     obtain rfl := Option.some.inj H
     go_wp2
     go_ret
     exact ⟨_, by first | rfl | (simp [errW_none, errW_some] <;> rfl) | (simp [*, errW_none, errW_some] <;> rfl), mvR HO_6, by repeat (first | (with_reducible first | exact HB.out | apply below_alloc | apply pw_below_drewN | apply below_drew1 | refine below_set ?_ (IsS103.ge HI359.out)) | exact HB.out)⟩
def spec_HasNumber.f (k : Nat) (l0 : List Int) (a1 : Int) : Option (Bool) := (spec_l00Has.f k l0 a1).bind fun t386 => (some t386)
theorem spec_HasNumber.mono : ∀ a0 a1 k, LeO (spec_HasNumber.f k a0 a1) (spec_HasNumber.f (k + 1) a0 a1) := by
 intro a0 a1 k
 unfold spec_HasNumber.f
 repeat' first
  | (with_reducible exact spec_l00Has.mono _ _ _)
  | (with_reducible exact LeO.refl _)
  | (with_reducible exact LeO.none _)
  | (with_reducible refine LeO.ite ?_ ?_)
  | (with_reducible refine LeO.bind ?_ (fun _ => ?_))
  | exact spec_l00Has.mono _ _ _
  | exact LeO.none _
  | refine LeO.ite ?_ ?_
  | refine LeO.bind ?_ (fun _ => ?_)
set_option maxHeartbeats 8000000 in
set_option maxRecDepth 100000 in
theorem spec_HasNumber.calls (k : Nat) (A0 : Option Addr) (c0 : Nat) (l0 : List Int) (a1 : Int) (r : Bool) (w : World) (hr0 : Kd.C (Kd.int .i64) w A0 l0.length l0) (hc0 : l0.length ≤ c0) (h : spec_HasNumber.f k l0 a1 = some r) :
 Calls Try.prog 63 #[.slice A0 l0.length c0, .int .i64 a1] w fun e w' => e = .returned (.bool r) ∧ Drawn0 w w' := by
 have HR0 := Aside0.mk hr0
 have HC0 := Aside0.mk hc0
 clear hr0 hc0
 have H : ((spec_l00Has.f k l0 a1).bind fun t386 => (some t386)) = some r := h
 clear h
 replace H := Option.bind_eq_some_iff.mp H
 obtain ⟨t386, A30, H⟩ := H
 replace H : (some t386) = some r := H
 have A3 := Aside0.mk A30
 clear A30
 obtain rfl := Option.some.inj H
 go_enter Try.func63, Try.ntmps63
 go_wp2_with (first | ((with_reducible refine gate_callee (f := 77) rfl ?_); refine goesL_ (some 7) rfl rfl Try.func77 (by kernel_rfl) rfl #[.slice A0 l0.length c0, .int .i64 a1] rfl (by (try simp only [List.map_toArray, List.map_cons, List.map_nil]); first | done | rfl | (simp only [List.length_drop, List.length_take]; rfl)) ?_; (with_reducible refine (spec_l00Has.calls k _ _ l0 a1 t386 _ ?side1 ?side2 A3.out).mono ?_); (case side1 => exact cvC (HR0.out)); (case side2 => exact HC0.out); rintro e w' ⟨rfl, ⟨nd, rfl⟩⟩; refine ⟨_, rfl, ?_⟩))
 go_ret
 exact ⟨by first | rfl | (simp; done) | (simp [*]; done), by repeat (first | exact Drawn0.refl _ | apply Drawn0.step)⟩
end Go.Proofs.Ythkccaclmodjiaa.I
