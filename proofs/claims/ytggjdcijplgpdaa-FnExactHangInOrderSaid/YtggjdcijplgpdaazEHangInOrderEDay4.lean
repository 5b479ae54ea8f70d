import Derived.Test.YtggjdcijplgpdaazEHangInOrderD0
import Derived.Test.YtggjdcijplgpdaazEHangInOrderD1
import Derived.Test.YtggjdcijplgpdaazEHangInOrderD15
import Derived.Test.YtggjdcijplgpdaazEHangInOrderEDay1
import Derived.Test.YtggjdcijplgpdaazEHangInOrderEDayBase
import Derived.Shelf.Abstract
namespace Go.Proofs.Ytggjdcijplgpdaa.D
open Go.RowKit Go.Proofs.YtggjdcijplgpdaaW.PrintWords Go.Proofs.YtggjdcijplgpdaaW.PrintLast Go.Proofs.YtggjdcijplgpdaaW.PrintMore
attribute [local go_sem] max2_int min2_int max_two min_two max_three min_three max_four min_four
set_option linter.unusedVariables false
set_option linter.unusedSimpArgs false
mutual
def spec_HangInOrder.j0 : Nat → List (S128) → List Int → Int → List (S74) → List Int → Int → Bool → Option (List Int × Int)
  | 0, _, _, _, _, _, _, _ => none
  | k + 1, x1, x2, x3, x4, x10, x11, x24 => if x24 = true then (spec_HangInOrder.j1 k x1 x2 x3 x4 x10 3) else (spec_HangInOrder.j1 k x1 x2 x3 x4 x10 x11)
def spec_HangInOrder.j1 : Nat → List (S128) → List Int → Int → List (S74) → List Int → Int → Option (List Int × Int)
  | 0, _, _, _, _, _, _ => none
  | k + 1, x1, x2, x3, x4, x10, x11 => if x11 = 0 then ((spec_l03Order.f k x2 (x1.length : Int)).bind fun t258 => (spec_HangInOrder.j2 k x1 x2 x3 x4 x10 x11 (!t258))) else (spec_HangInOrder.j2 k x1 x2 x3 x4 x10 x11 false)
def spec_HangInOrder.j2 : Nat → List (S128) → List Int → Int → List (S74) → List Int → Int → Bool → Option (List Int × Int)
  | 0, _, _, _, _, _, _, _ => none
  | k + 1, x1, x2, x3, x4, x10, x11, x33 => if x33 = true then (spec_HangInOrder.j3 k x1 x2 x3 x4 x10 4) else (spec_HangInOrder.j3 k x1 x2 x3 x4 x10 x11)
def spec_HangInOrder.j3 : Nat → List (S128) → List Int → Int → List (S74) → List Int → Int → Option (List Int × Int)
  | 0, _, _, _, _, _, _ => none
  | k + 1, x1, x2, x3, x4, x10, x11 => if x11 = 0 then (spec_HangInOrder.l0 k x1 x2 x3 x4 x10 0) else (some (x10, x11))
def spec_HangInOrder.l0 : Nat → List (S128) → List Int → Int → List (S74) → List Int → Int → Option (List Int × Int)
  | 0, _, _, _, _, _, _ => none
  | k + 1, x1, x2, x3, x4, x10, x12 => if x12 < (x2.length : Int) then (if 0 ≤ x12 then (if 0 ≤ (rd x2 x12) then (if (rd x2 x12) < (x1.length : Int) then ((spec_l03Left.f k x4 ((rd_T128 x1 (rd x2 x12)).f0) ((rd_T128 x1 (rd x2 x12)).f1) (wrap64 (x3 + x12))).bind fun t261 => (if x10.length < 17592186044416 then (spec_HangInOrder.l0 k x1 x2 x3 x4 (x10 ++ [t261]) (wrap64 (x12 + 1))) else (none))) else (none)) else (none)) else (none)) else (some (x10, 0))
end
def spec_HangInOrder.f (k : Nat) (l0 : List (S74)) (l1 : List (S128)) (l2 : List Int) (a3 : Int) : Option (List Int × Int) := (some (([] : List Int) : List Int)).bind fun y253 => ((spec_l03From.f a3).bind fun t256 => ((spec_l03Asked.f k l0 l1 t256).bind fun t257 => (if t257 = 0 then (spec_HangInOrder.j0 k l1 l2 a3 l0 y253 t257 (decide ((l1.length : Int) > 6))) else (spec_HangInOrder.j0 k l1 l2 a3 l0 y253 t257 false))))
theorem spec_HangInOrder.mono_l : ∀ k, (∀ y0 y1 y2 y3 y4 y5 y6, LeO (spec_HangInOrder.j0 k y0 y1 y2 y3 y4 y5 y6) (spec_HangInOrder.j0 (k + 1) y0 y1 y2 y3 y4 y5 y6)) ∧ (∀ y0 y1 y2 y3 y4 y5, LeO (spec_HangInOrder.j1 k y0 y1 y2 y3 y4 y5) (spec_HangInOrder.j1 (k + 1) y0 y1 y2 y3 y4 y5)) ∧ (∀ y0 y1 y2 y3 y4 y5 y6, LeO (spec_HangInOrder.j2 k y0 y1 y2 y3 y4 y5 y6) (spec_HangInOrder.j2 (k + 1) y0 y1 y2 y3 y4 y5 y6)) ∧ (∀ y0 y1 y2 y3 y4 y5, LeO (spec_HangInOrder.j3 k y0 y1 y2 y3 y4 y5) (spec_HangInOrder.j3 (k + 1) y0 y1 y2 y3 y4 y5)) ∧ (∀ y0 y1 y2 y3 y4 y5, LeO (spec_HangInOrder.l0 k y0 y1 y2 y3 y4 y5) (spec_HangInOrder.l0 (k + 1) y0 y1 y2 y3 y4 y5))
  | 0 => ⟨fun _ _ _ _ _ _ _ r h => by simp [spec_HangInOrder.j0] at h, fun _ _ _ _ _ _ r h => by simp [spec_HangInOrder.j1] at h, fun _ _ _ _ _ _ _ r h => by simp [spec_HangInOrder.j2] at h, fun _ _ _ _ _ _ r h => by simp [spec_HangInOrder.j3] at h, fun _ _ _ _ _ _ r h => by simp [spec_HangInOrder.l0] at h⟩
  | k + 1 => by
    obtain ⟨ih0, ih1, ih2, ih3, ih4⟩ := spec_HangInOrder.mono_l k
    refine ⟨?_, ?_, ?_, ?_, ?_⟩
    · intro y0 y1 y2 y3 y4 y5 y6
      unfold spec_HangInOrder.j0
      repeat' first
      | (with_reducible exact ih0 _ _ _ _ _ _ _)
      | (with_reducible exact ih1 _ _ _ _ _ _)
      | (with_reducible exact ih2 _ _ _ _ _ _ _)
      | (with_reducible exact ih3 _ _ _ _ _ _)
      | (with_reducible exact ih4 _ _ _ _ _ _)
      | (with_reducible exact spec_l03Asked.mono _ _ _ _)
      | (with_reducible exact spec_l03Left.mono _ _ _ _ _)
      | (with_reducible exact spec_l03Order.mono _ _ _)
      | (with_reducible exact LeO.refl _)
      | (with_reducible exact LeO.none _)
      | (with_reducible refine LeO.ite ?_ ?_)
      | (with_reducible refine LeO.bind ?_ (fun _ => ?_))
      | exact ih0 _ _ _ _ _ _ _
      | exact ih1 _ _ _ _ _ _
      | exact ih2 _ _ _ _ _ _ _
      | exact ih3 _ _ _ _ _ _
      | exact ih4 _ _ _ _ _ _
      | exact spec_l03Asked.mono _ _ _ _
      | exact spec_l03Left.mono _ _ _ _ _
      | exact spec_l03Order.mono _ _ _
      | exact LeO.none _
      | refine LeO.ite ?_ ?_
      | refine LeO.bind ?_ (fun _ => ?_)
    · intro y0 y1 y2 y3 y4 y5
      unfold spec_HangInOrder.j1
      repeat' first
      | (with_reducible exact ih0 _ _ _ _ _ _ _)
      | (with_reducible exact ih1 _ _ _ _ _ _)
      | (with_reducible exact ih2 _ _ _ _ _ _ _)
      | (with_reducible exact ih3 _ _ _ _ _ _)
      | (with_reducible exact ih4 _ _ _ _ _ _)
      | (with_reducible exact spec_l03Asked.mono _ _ _ _)
      | (with_reducible exact spec_l03Left.mono _ _ _ _ _)
      | (with_reducible exact spec_l03Order.mono _ _ _)
      | (with_reducible exact LeO.refl _)
      | (with_reducible exact LeO.none _)
      | (with_reducible refine LeO.ite ?_ ?_)
      | (with_reducible refine LeO.bind ?_ (fun _ => ?_))
      | exact ih0 _ _ _ _ _ _ _
      | exact ih1 _ _ _ _ _ _
      | exact ih2 _ _ _ _ _ _ _
      | exact ih3 _ _ _ _ _ _
      | exact ih4 _ _ _ _ _ _
      | exact spec_l03Asked.mono _ _ _ _
      | exact spec_l03Left.mono _ _ _ _ _
      | exact spec_l03Order.mono _ _ _
      | exact LeO.none _
      | refine LeO.ite ?_ ?_
      | refine LeO.bind ?_ (fun _ => ?_)
    · intro y0 y1 y2 y3 y4 y5 y6
      unfold spec_HangInOrder.j2
      repeat' first
      | (with_reducible exact ih0 _ _ _ _ _ _ _)
      | (with_reducible exact ih1 _ _ _ _ _ _)
      | (with_reducible exact ih2 _ _ _ _ _ _ _)
      | (with_reducible exact ih3 _ _ _ _ _ _)
      | (with_reducible exact ih4 _ _ _ _ _ _)
      | (with_reducible exact spec_l03Asked.mono _ _ _ _)
      | (with_reducible exact spec_l03Left.mono _ _ _ _ _)
      | (with_reducible exact spec_l03Order.mono _ _ _)
      | (with_reducible exact LeO.refl _)
      | (with_reducible exact LeO.none _)
      | (with_reducible refine LeO.ite ?_ ?_)
      | (with_reducible refine LeO.bind ?_ (fun _ => ?_))
      | exact ih0 _ _ _ _ _ _ _
      | exact ih1 _ _ _ _ _ _
      | exact ih2 _ _ _ _ _ _ _
      | exact ih3 _ _ _ _ _ _
      | exact ih4 _ _ _ _ _ _
      | exact spec_l03Asked.mono _ _ _ _
      | exact spec_l03Left.mono _ _ _ _ _
      | exact spec_l03Order.mono _ _ _
      | exact LeO.none _
      | refine LeO.ite ?_ ?_
      | refine LeO.bind ?_ (fun _ => ?_)
    · intro y0 y1 y2 y3 y4 y5
      unfold spec_HangInOrder.j3
      repeat' first
      | (with_reducible exact ih0 _ _ _ _ _ _ _)
      | (with_reducible exact ih1 _ _ _ _ _ _)
      | (with_reducible exact ih2 _ _ _ _ _ _ _)
      | (with_reducible exact ih3 _ _ _ _ _ _)
      | (with_reducible exact ih4 _ _ _ _ _ _)
      | (with_reducible exact spec_l03Asked.mono _ _ _ _)
      | (with_reducible exact spec_l03Left.mono _ _ _ _ _)
      | (with_reducible exact spec_l03Order.mono _ _ _)
      | (with_reducible exact LeO.refl _)
      | (with_reducible exact LeO.none _)
      | (with_reducible refine LeO.ite ?_ ?_)
      | (with_reducible refine LeO.bind ?_ (fun _ => ?_))
      | exact ih0 _ _ _ _ _ _ _
      | exact ih1 _ _ _ _ _ _
      | exact ih2 _ _ _ _ _ _ _
      | exact ih3 _ _ _ _ _ _
      | exact ih4 _ _ _ _ _ _
      | exact spec_l03Asked.mono _ _ _ _
      | exact spec_l03Left.mono _ _ _ _ _
      | exact spec_l03Order.mono _ _ _
      | exact LeO.none _
      | refine LeO.ite ?_ ?_
      | refine LeO.bind ?_ (fun _ => ?_)
    · intro y0 y1 y2 y3 y4 y5
      unfold spec_HangInOrder.l0
      repeat' first
      | (with_reducible exact ih0 _ _ _ _ _ _ _)
      | (with_reducible exact ih1 _ _ _ _ _ _)
      | (with_reducible exact ih2 _ _ _ _ _ _ _)
      | (with_reducible exact ih3 _ _ _ _ _ _)
      | (with_reducible exact ih4 _ _ _ _ _ _)
      | (with_reducible exact spec_l03Asked.mono _ _ _ _)
      | (with_reducible exact spec_l03Left.mono _ _ _ _ _)
      | (with_reducible exact spec_l03Order.mono _ _ _)
      | (with_reducible exact LeO.refl _)
      | (with_reducible exact LeO.none _)
      | (with_reducible refine LeO.ite ?_ ?_)
      | (with_reducible refine LeO.bind ?_ (fun _ => ?_))
      | exact ih0 _ _ _ _ _ _ _
      | exact ih1 _ _ _ _ _ _
      | exact ih2 _ _ _ _ _ _ _
      | exact ih3 _ _ _ _ _ _
      | exact ih4 _ _ _ _ _ _
      | exact spec_l03Asked.mono _ _ _ _
      | exact spec_l03Left.mono _ _ _ _ _
      | exact spec_l03Order.mono _ _ _
      | exact LeO.none _
      | refine LeO.ite ?_ ?_
      | refine LeO.bind ?_ (fun _ => ?_)
theorem spec_HangInOrder.mono : ∀ a0 a1 a2 a3 k, LeO (spec_HangInOrder.f k a0 a1 a2 a3) (spec_HangInOrder.f (k + 1) a0 a1 a2 a3) := by
  intro a0 a1 a2 a3 k
  obtain ⟨ih0, ih1, ih2, ih3, ih4⟩ := spec_HangInOrder.mono_l k
  unfold spec_HangInOrder.f
  repeat' first
      | (with_reducible exact ih0 _ _ _ _ _ _ _)
      | (with_reducible exact ih1 _ _ _ _ _ _)
      | (with_reducible exact ih2 _ _ _ _ _ _ _)
      | (with_reducible exact ih3 _ _ _ _ _ _)
      | (with_reducible exact ih4 _ _ _ _ _ _)
      | (with_reducible exact spec_l03Asked.mono _ _ _ _)
      | (with_reducible exact spec_l03Left.mono _ _ _ _ _)
      | (with_reducible exact spec_l03Order.mono _ _ _)
      | (with_reducible exact LeO.refl _)
      | (with_reducible exact LeO.none _)
      | (with_reducible refine LeO.ite ?_ ?_)
      | (with_reducible refine LeO.bind ?_ (fun _ => ?_))
      | exact ih0 _ _ _ _ _ _ _
      | exact ih1 _ _ _ _ _ _
      | exact ih2 _ _ _ _ _ _ _
      | exact ih3 _ _ _ _ _ _
      | exact ih4 _ _ _ _ _ _
      | exact spec_l03Asked.mono _ _ _ _
      | exact spec_l03Left.mono _ _ _ _ _
      | exact spec_l03Order.mono _ _ _
      | exact LeO.none _
      | refine LeO.ite ?_ ?_
      | refine LeO.bind ?_ (fun _ => ?_)
set_option maxHeartbeats 8000000 in
set_option maxRecDepth 100000 in
theorem spec_HangInOrder.calls (k : Nat) (l0 : List (S74)) (A1 : Option Addr) (c1 : Nat) (l1 : List (S128)) (A2 : Option Addr) (c2 : Nat) (l2 : List Int) (a3 : Int) (r1 : List Int) (r2 : Int) (w : World) (hc0 : l0.length = 24) (hr1 : Kd.C k128 w A1 l1.length l1) (hc1 : l1.length ≤ c1) (hr2 : Kd.C (Kd.int .i64) w A2 l2.length l2) (hc2 : l2.length ≤ c2) (h : spec_HangInOrder.f k l0 l1 l2 a3 = some (r1, r2)) :
    Calls Try.prog 50 #[.agg (dayA l0), .slice A1 l1.length c1, .slice A2 l2.length c2, .int .i64 a3] w fun e w' => ∃ v0_ : Value, e = .returned (.tuple #[v0_, .int .i64 r2]) ∧ Kd.R (Kd.int .i64) 2 w' w.heap.size (fun _ => True) v0_ r1 ∧ Below w.heap.size w w' := by
  have hu128 := Try.underlying128
  have HC0 := Aside0.mk hc0
  clear hc0
  have HR1 := Aside0.mk hr1
  have HC1 := Aside0.mk hc1
  clear hr1 hc1
  have HR2 := Aside0.mk hr2
  have HC2 := Aside0.mk hc2
  clear hr2 hc2
  have H : ((some (([] : List Int) : List Int)).bind fun y253 => ((spec_l03From.f a3).bind fun t256 => ((spec_l03Asked.f k l0 l1 t256).bind fun t257 => (if t257 = 0 then (spec_HangInOrder.j0 k l1 l2 a3 l0 y253 t257 (decide ((l1.length : Int) > 6))) else (spec_HangInOrder.j0 k l1 l2 a3 l0 y253 t257 false))))) = some (r1, r2) := h
  clear h
  obtain ⟨y253, hy253⟩ : ∃ y_ : List Int, y_ = (([] : List Int)) := ⟨_, rfl⟩
  replace H : ((spec_l03From.f a3).bind fun t256 => ((spec_l03Asked.f k l0 l1 t256).bind fun t257 => (if t257 = 0 then (spec_HangInOrder.j0 k l1 l2 a3 l0 y253 t257 (decide ((l1.length : Int) > 6))) else (spec_HangInOrder.j0 k l1 l2 a3 l0 y253 t257 false)))) = some (r1, r2) := by first | (rw [hy253]; with_reducible exact H) | (have H2_ := (Option.bind_some _ _).symm.trans H; rw [hy253]; with_reducible exact H2_) | (have H2_ := (Option.bind_some _ _).symm.trans H; with_reducible exact H2_) | with_reducible exact H | (rw [hy253]; exact H) | exact H
  have Ny253 := Aside0.mk hy253
  clear hy253
  replace H := Option.bind_eq_some_iff.mp H
  obtain ⟨t256, A50, H⟩ := H
  replace H : ((spec_l03Asked.f k l0 l1 t256).bind fun t257 => (if t257 = 0 then (spec_HangInOrder.j0 k l1 l2 a3 l0 y253 t257 (decide ((l1.length : Int) > 6))) else (spec_HangInOrder.j0 k l1 l2 a3 l0 y253 t257 false))) = some (r1, r2) := H
  have A5 := Aside0.mk A50
  clear A50
  replace H := Option.bind_eq_some_iff.mp H
  obtain ⟨t257, A60, H⟩ := H
  replace H : (if t257 = 0 then (spec_HangInOrder.j0 k l1 l2 a3 l0 y253 t257 (decide ((l1.length : Int) > 6))) else (spec_HangInOrder.j0 k l1 l2 a3 l0 y253 t257 false)) = some (r1, r2) := H
  have A6 := Aside0.mk A60
  clear A60
  have HC7 := Aside0.mk H
  clear H
  go_enter Try.func50, Try.ntmps50
  go_upto_region 3 with (first | ((with_reducible refine gate_dst (N := 4) rfl ?_); refine box_event ?hg (N := 4) ?hd (cs := dayA l0) (t := 76) ?hr ?_; (case hd => rfl); (case hg => rfl); (case hr => first | (go_simp; done) | (go_simp; rfl)); intro gbD hgD W1 hboxD hbD; clear hgD; obtain ⟨AD, hAD⟩ : ∃ AD : Addr, AD = ⟨gbD, 0, none⟩ := ⟨_, rfl⟩; rw [← hAD]; have HAD := Aside0.mk hAD; clear hAD; have HR0 := Aside0.mk (show Kd.C k74 W1 (some AD) l0.length l0 from (by rw [HAD.out]; exact day_C hboxD HC0.out)); have BKD := Aside0.mk hboxD; have HW := Aside0.mk hbD; have m1_ := Aside0.mk (Kd.C_below HR1.out hbD); clear HR1; have HR1 := m1_; clear m1_; have m1_ := Aside0.mk (Kd.C_below HR2.out hbD); clear HR2; have HR2 := m1_; clear m1_; clear hboxD hbD; have HB := Aside0.mk (Below.refl W1.heap.size W1)) | ((with_reducible refine gate_dst (N := 13) rfl ?_); (try (refine gate_guard (by rfl) ?_; dsimp only)); refine Kd.R_lit (Kd.int .i64) _ 2 ?hg (N := 13) ?hd (xs := ([] : List Int)) (inner := []) (ok := fun _ => True) (okp := fun _ => True) ?hr ?hp (fun _ hk => hk) trivial (Below.refl _ _) (Nat.le_refl _) (by simp) ?_; (case hd => rfl); (case hg => rfl); (case hr => first | (go_simp; done) | (go_simp; rfl)); (case hp => exact (Reps.none _ _)); intro v254 w8 ho9 hb hg_ hnew_; clear hg_ hnew_; (first | rw [← Ny253.out] at ho9 | (simp only [Int.reduceToNat] at ho9; rw [← Ny253.out] at ho9)); have n0_ := Aside0.mk (Kd.R_lower ho9 (below_size (by repeat (first | (with_reducible first | exact HB.out | apply below_alloc | apply pw_below_drewN | apply below_drew1) | exact HB.out)))); have n1_ := Aside0.mk (below_step (by repeat (first | (with_reducible first | exact HB.out | apply below_alloc | apply pw_below_drewN | apply below_drew1) | exact HB.out)) hb); clear HB; have HO255 := n0_; have HB := n1_; clear n0_ n1_; clear hb ho9) | ((with_reducible refine gate_callee (f := 98) rfl ?_); refine goesL_ (some 16) rfl rfl Try.func98 (by kernel_rfl) rfl #[.int .i64 a3] rfl (by (try simp only [List.map_toArray, List.map_cons, List.map_nil]); first | done | rfl | (simp only [List.length_drop, List.length_take]; rfl)) ?_; (with_reducible refine (spec_l03From.calls a3 t256 _ A5.out).mono ?_); rintro e w' ⟨rfl, ⟨nd, rfl⟩⟩; refine ⟨_, rfl, ?_⟩) | ((with_reducible refine gate_callee (f := 100) rfl ?_); refine goesL_ (some 17) rfl rfl Try.func100 (by kernel_rfl) rfl #[.pointer (some AD), .slice A1 l1.length c1, .bool t256] rfl (by (try simp only [List.map_toArray, List.map_cons, List.map_nil]); first | done | rfl | (simp only [List.length_drop, List.length_take]; rfl)) ?_; (with_reducible refine (spec_l03Asked.calls k _ l0 _ _ l1 t256 t257 _ ?side1 ?side2 ?side3 ?side4 A6.out).mono ?_); (case side1 => repeat (first | exact (Kd.C_below HR0.out (by repeat (first | (with_reducible first | exact HB.out | apply below_alloc | apply pw_below_drewN | apply below_drew1) | exact HB.out))) | (with_reducible refine Kd.C_alloc ?_ _) | (with_reducible refine Kd.C_drewN ?_ _) | (with_reducible refine Kd.C_drew ?_))); (case side2 => exact HC0.out); (case side3 => repeat (first | exact (Kd.C_below HR1.out (by repeat (first | (with_reducible first | exact HB.out | apply below_alloc | apply pw_below_drewN | apply below_drew1) | exact HB.out))) | (with_reducible refine Kd.C_alloc ?_ _) | (with_reducible refine Kd.C_drewN ?_ _) | (with_reducible refine Kd.C_drew ?_))); (case side4 => exact HC1.out); rintro e w10 ⟨rfl, hb⟩; refine ⟨_, rfl, ?_⟩; have n0_ := Aside0.mk (Kd.R_below (by (with_reducible repeat (first | apply Kd.R_alloc | apply Kd.R_drewN | apply Kd.R_drew)); exact HO255.out) hb); have n1_ := Aside0.mk (below_step (by repeat (first | (with_reducible first | exact HB.out | apply below_alloc | apply pw_below_drewN | apply below_drew1) | exact HB.out)) hb); clear HO255; clear HB; have HO255 := n0_; have HB := n1_; clear n0_ n1_; (try clear hb); (try clear hb2); (try clear hk); (try clear hi)))
  (try simp only [Act.put, List.setIfInBounds_toArray, List.set_cons_zero, List.set_cons_succ])
  go_cut [24] (fun v24 wc => ∃ (kq : Nat) (x24_6 : Bool), v24 = .bool x24_6 ∧ Aside0 (spec_HangInOrder.j0 kq l1 l2 a3 l0 y253 t257 x24_6 = some (r1, r2)) ∧ Aside0 (kq ≤ k) ∧ Aside0 (Kd.R (Kd.int .i64) 2 wc W1.heap.size (fun _ => True) v254 y253) ∧ Aside0 (Below W1.heap.size W1 wc))
  case first =>
    have H := HC7.out
    clear HC7
    by_cases c11 : t257 = 0
    · rw [if_pos c11] at H
      have c11b0 : (t257 == 0) = true := beq_iff_eq.mpr c11
      have c11b1 : (t257 != 0) = false := bne_eq_false_iff_eq.mpr c11
      clear c11
      (first | rw [c11b0] | (simp only [i64_w, i32_w]; rw [c11b0]) | skip)
      have H' := Aside0.mk H
      clear H
      go_wp2
      go_meet
      case rel => exact ⟨_, (decide ((l1.length : Int) > 6)), (by first | rfl | (simp; done) | (simp [*]; done)), H', ⟨by first | omega | exact Nat.le_refl _⟩, ⟨by (with_reducible repeat (first | apply Kd.R_alloc | apply Kd.R_drewN | apply Kd.R_drew)); exact HO255.out⟩, ⟨by repeat (first | (with_reducible first | exact HB.out | apply below_alloc | apply pw_below_drewN | apply below_drew1) | exact HB.out)⟩⟩
    · rw [if_neg c11] at H
      have c11b0 : (t257 == 0) = false := beq_eq_false_iff_ne.mpr c11
      have c11b1 : (t257 != 0) = true := bne_iff_ne.mpr c11
      (first | rw [c11b0] | (simp only [i64_w, i32_w]; rw [c11b0]) | skip)
      have H' := Aside0.mk H
      clear H
      go_wp2
      go_meet
      case rel => exact ⟨_, (false), (by first | rfl | (simp; done) | (simp [*]; done)), H', ⟨by first | omega | exact Nat.le_refl _⟩, ⟨by (with_reducible repeat (first | apply Kd.R_alloc | apply Kd.R_drewN | apply Kd.R_drew)); exact HO255.out⟩, ⟨by repeat (first | (with_reducible first | exact HB.out | apply below_alloc | apply pw_below_drewN | apply below_drew1) | exact HB.out)⟩⟩
  case rest =>
    clear HC7
    try clear c1
    try clear c2
    try clear p2
    try clear c5
    try clear c9
    try clear c10
    try clear c11
    try clear c11b0
    try clear c11b1
    obtain ⟨kq, x24_6, rfl, HA, HJ6, HO_10, HB⟩ := hcut
    cases kq with
    | zero => exact absurd HA.out (by simp [spec_HangInOrder.j0])
    | succ kj6 =>
      have H := HA.out
      clear HA
      simp only [spec_HangInOrder.j0] at H
      have HC12 := Aside0.mk H
      clear H
      go_upto_if 24 with (fail)
      go_cut [11] (fun v11 wc => ∃ (kq : Nat) (x11_11 : Int), v11 = .int .i64 x11_11 ∧ Aside0 (spec_HangInOrder.j1 kq l1 l2 a3 l0 y253 x11_11 = some (r1, r2)) ∧ Aside0 (kq ≤ kj6) ∧ Aside0 (Kd.R (Kd.int .i64) 2 wc W1.heap.size (fun _ => True) v254 y253) ∧ Aside0 (Below W1.heap.size W1 wc))
      case first =>
        have H := HC12.out
        clear HC12
        by_cases c13 : x24_6 = true
        · subst c13
          have H1 : (spec_HangInOrder.j1 kj6 l1 l2 a3 l0 y253 3) = some (r1, r2) := by rw [if_pos rfl] at H; exact H
          clear H
          have H := H1
          clear H1
          have H' := Aside0.mk H
          clear H
          go_wp2
          go_meet
          case rel => exact ⟨_, (3), (by first | rfl | (simp; done) | (simp [*]; done)), H', ⟨by have := HJ6.out; first | omega | exact Nat.le_refl _⟩, ⟨by (with_reducible repeat (first | apply Kd.R_alloc | apply Kd.R_drewN | apply Kd.R_drew)); exact HO_10.out⟩, ⟨by repeat (first | (with_reducible first | exact HB.out | apply below_alloc | apply pw_below_drewN | apply below_drew1) | exact HB.out)⟩⟩
        · replace c13 := Bool.eq_false_iff.mpr c13
          subst c13
          have H1 : (spec_HangInOrder.j1 kj6 l1 l2 a3 l0 y253 t257) = some (r1, r2) := by rw [if_neg (show ¬ (false = true) by decide)] at H; exact H
          clear H
          have H := H1
          clear H1
          have H' := Aside0.mk H
          clear H
          go_wp2
          go_meet
          case rel => exact ⟨_, (t257), (by first | rfl | (simp; done) | (simp [*]; done)), H', ⟨by have := HJ6.out; first | omega | exact Nat.le_refl _⟩, ⟨by (with_reducible repeat (first | apply Kd.R_alloc | apply Kd.R_drewN | apply Kd.R_drew)); exact HO_10.out⟩, ⟨by repeat (first | (with_reducible first | exact HB.out | apply below_alloc | apply pw_below_drewN | apply below_drew1) | exact HB.out)⟩⟩
      case rest =>
        clear HC12
        try clear c1
        try clear c2
        try clear p2
        try clear c5
        try clear c9
        try clear c10
        try clear c11
        try clear c11b0
        try clear c11b1
        try clear c13
        try clear p2
        obtain ⟨kq, x11_11, rfl, HA, HJ11, HO_10, HB⟩ := hcut
        cases kq with
        | zero => exact absurd HA.out (by simp [spec_HangInOrder.j1])
        | succ kj11 =>
          have H := HA.out
          clear HA
          simp only [spec_HangInOrder.j1] at H
          have HC14 := Aside0.mk H
          clear H
          go_upto_region 5 with (fail)
          go_cut [33] (fun v33 wc => ∃ (kq : Nat) (x33_13 : Bool), v33 = .bool x33_13 ∧ Aside0 (spec_HangInOrder.j2 kq l1 l2 a3 l0 y253 x11_11 x33_13 = some (r1, r2)) ∧ Aside0 (kq ≤ kj11) ∧ Aside0 (Kd.R (Kd.int .i64) 2 wc W1.heap.size (fun _ => True) v254 y253) ∧ Aside0 (Below W1.heap.size W1 wc))
          case first =>
            have H := HC14.out
            clear HC14
            by_cases c15 : x11_11 = 0
            · rw [if_pos c15] at H
              have c15b0 : (x11_11 == 0) = true := beq_iff_eq.mpr c15
              have c15b1 : (x11_11 != 0) = false := bne_eq_false_iff_eq.mpr c15
              clear c15
              (first | rw [c15b0] | (simp only [i64_w, i32_w]; rw [c15b0]) | skip)
              replace H := Option.bind_eq_some_iff.mp H
              obtain ⟨t258, A160, H⟩ := H
              replace H : (spec_HangInOrder.j2 kj11 l1 l2 a3 l0 y253 x11_11 (!t258)) = some (r1, r2) := H
              have A16 := Aside0.mk A160
              clear A160
              have H' := Aside0.mk H
              clear H
              go_wp2_with (first | (go_at_call 114; (with_reducible refine (spec_l03Order.calls kj11 _ _ l2 (l1.length : Int) t258 _ ?side1 ?side2 A16.out).mono ?_); (case side1 => repeat (first | exact (Kd.C_below HR2.out HB.out) | (with_reducible refine Kd.C_alloc ?_ _) | (with_reducible refine Kd.C_drewN ?_ _) | (with_reducible refine Kd.C_drew ?_))); (case side2 => exact HC2.out); rintro e w' ⟨rfl, ⟨nd, rfl⟩⟩))
              go_meet
              case rel => exact ⟨_, (!t258), (by first | rfl | (simp; done) | (simp [*]; done)), H', ⟨by have := HJ6.out; have := HJ11.out; first | omega | exact Nat.le_refl _⟩, ⟨by (with_reducible repeat (first | apply Kd.R_alloc | apply Kd.R_drewN | apply Kd.R_drew)); exact HO_10.out⟩, ⟨by repeat (first | (with_reducible first | exact HB.out | apply below_alloc | apply pw_below_drewN | apply below_drew1) | exact HB.out)⟩⟩
            · rw [if_neg c15] at H
              have c15b0 : (x11_11 == 0) = false := beq_eq_false_iff_ne.mpr c15
              have c15b1 : (x11_11 != 0) = true := bne_iff_ne.mpr c15
              (first | rw [c15b0] | (simp only [i64_w, i32_w]; rw [c15b0]) | skip)
              have H' := Aside0.mk H
              clear H
              go_wp2
              go_meet
              case rel => exact ⟨_, (false), (by first | rfl | (simp; done) | (simp [*]; done)), H', ⟨by have := HJ6.out; have := HJ11.out; first | omega | exact Nat.le_refl _⟩, ⟨by (with_reducible repeat (first | apply Kd.R_alloc | apply Kd.R_drewN | apply Kd.R_drew)); exact HO_10.out⟩, ⟨by repeat (first | (with_reducible first | exact HB.out | apply below_alloc | apply pw_below_drewN | apply below_drew1) | exact HB.out)⟩⟩
          case rest =>
            clear HC14
            try clear c1
            try clear c2
            try clear p2
            try clear c5
            try clear c9
            try clear c10
            try clear c11
            try clear c11b0
            try clear c11b1
            try clear c13
            try clear c15
            try clear c15b0
            try clear c15b1
            try clear p2
            obtain ⟨kq, x33_13, rfl, HA, HJ13, HO_10, HB⟩ := hcut
            cases kq with
            | zero => exact absurd HA.out (by simp [spec_HangInOrder.j2])
            | succ kj13 =>
              have H := HA.out
              clear HA
              simp only [spec_HangInOrder.j2] at H
              have HC17 := Aside0.mk H
              clear H
              go_upto_if 33 with (fail)
              go_cut [11] (fun v11 wc => ∃ (kq : Nat) (x11_16 : Int), v11 = .int .i64 x11_16 ∧ Aside0 (spec_HangInOrder.j3 kq l1 l2 a3 l0 y253 x11_16 = some (r1, r2)) ∧ Aside0 (kq ≤ kj13) ∧ Aside0 (Kd.R (Kd.int .i64) 2 wc W1.heap.size (fun _ => True) v254 y253) ∧ Aside0 (Below W1.heap.size W1 wc))
              case first =>
                have H := HC17.out
                clear HC17
                by_cases c18 : x33_13 = true
                · subst c18
                  have H1 : (spec_HangInOrder.j3 kj13 l1 l2 a3 l0 y253 4) = some (r1, r2) := by rw [if_pos rfl] at H; exact H
                  clear H
                  have H := H1
                  clear H1
                  have H' := Aside0.mk H
                  clear H
                  go_wp2
                  go_meet
                  case rel => exact ⟨_, (4), (by first | rfl | (simp; done) | (simp [*]; done)), H', ⟨by have := HJ6.out; have := HJ11.out; have := HJ13.out; first | omega | exact Nat.le_refl _⟩, ⟨by (with_reducible repeat (first | apply Kd.R_alloc | apply Kd.R_drewN | apply Kd.R_drew)); exact HO_10.out⟩, ⟨by repeat (first | (with_reducible first | exact HB.out | apply below_alloc | apply pw_below_drewN | apply below_drew1) | exact HB.out)⟩⟩
                · replace c18 := Bool.eq_false_iff.mpr c18
                  subst c18
                  have H1 : (spec_HangInOrder.j3 kj13 l1 l2 a3 l0 y253 x11_11) = some (r1, r2) := by rw [if_neg (show ¬ (false = true) by decide)] at H; exact H
                  clear H
                  have H := H1
                  clear H1
                  have H' := Aside0.mk H
                  clear H
                  go_wp2
                  go_meet
                  case rel => exact ⟨_, (x11_11), (by first | rfl | (simp; done) | (simp [*]; done)), H', ⟨by have := HJ6.out; have := HJ11.out; have := HJ13.out; first | omega | exact Nat.le_refl _⟩, ⟨by (with_reducible repeat (first | apply Kd.R_alloc | apply Kd.R_drewN | apply Kd.R_drew)); exact HO_10.out⟩, ⟨by repeat (first | (with_reducible first | exact HB.out | apply below_alloc | apply pw_below_drewN | apply below_drew1) | exact HB.out)⟩⟩
              case rest =>
                clear HC17
                try clear c1
                try clear c2
                try clear p2
                try clear c5
                try clear c9
                try clear c10
                try clear c11
                try clear c11b0
                try clear c11b1
                try clear c13
                try clear c15
                try clear c15b0
                try clear c15b1
                try clear c18
                try clear p2
                obtain ⟨kq, x11_16, rfl, HA, HJ16, HO_10, HB⟩ := hcut
                cases kq with
                | zero => exact absurd HA.out (by simp [spec_HangInOrder.j3])
                | succ kj16 =>
                  have H := HA.out
                  clear HA
                  simp only [spec_HangInOrder.j3] at H
                  by_cases c19 : x11_16 = 0
                  · rw [if_pos c19] at H
                    have c19b0 : (x11_16 == 0) = true := beq_iff_eq.mpr c19
                    have c19b1 : (x11_16 != 0) = false := bne_eq_false_iff_eq.mpr c19
                    clear c19
                    have H' := Aside0.mk H
                    clear H
                    go_wp2
                    go_loopg [10, 12] kj16 (fun kq v10 v12 w' => ∃ (x10_5 : List Int) (x12_5 : Int), v12 = .int .i64 x12_5 ∧ Aside0 (spec_HangInOrder.l0 kq l1 l2 a3 l0 x10_5 x12_5 = some (r1, r2)) ∧ Aside0 (kq ≤ kj16) ∧ Aside0 (Kd.R (Kd.int .i64) 2 w' W1.heap.size (fun _ => True) v10 x10_5) ∧ Aside0 (Below W1.heap.size W1 w'))
                    case atStart => exact ⟨(y253), (0), (by first | rfl | (simp; done) | (simp [*]; done)), H', ⟨Nat.le_refl _⟩, ⟨by (with_reducible repeat (first | apply Kd.R_alloc | apply Kd.R_drewN | apply Kd.R_drew)); exact HO_10.out⟩, ⟨by repeat (first | (with_reducible first | exact HB.out | apply below_alloc | apply pw_below_drewN | apply below_drew1) | exact HB.out)⟩⟩
                    case round =>
                      clear H'
                      try clear c1
                      try clear c2
                      try clear p2
                      try clear c5
                      try clear c9
                      try clear c10
                      try clear c11
                      try clear c11b0
                      try clear c11b1
                      try clear c13
                      try clear c15
                      try clear c15b0
                      try clear c15b1
                      try clear c18
                      try clear c19
                      try clear c19b0
                      try clear c19b1
                      try clear p2
                      obtain ⟨x10_5, x12_5, rfl, HA, HK5, HO_10, HB⟩ := hrel
                      cases gk with
                      | zero => exact absurd HA.out (by simp [spec_HangInOrder.l0])
                      | succ k5 =>
                        have H := HA.out
                        clear HA
                        simp only [spec_HangInOrder.l0] at H
                        by_cases c20 : x12_5 < (l2.length : Int)
                        · rw [if_pos c20] at H
                          have c20b0 : decide (x12_5 < (l2.length : Int)) = true := decide_eq_true c20
                          clear c20
                          by_cases c21 : 0 ≤ x12_5
                          · rw [if_pos c21] at H
                            have c21b0 : decide (0 ≤ x12_5) = true := decide_eq_true c21
                            clear c21
                            by_cases c22 : 0 ≤ (rd l2 x12_5)
                            · rw [if_pos c22] at H
                              have c22b0 : decide (0 ≤ (rd l2 x12_5)) = true := decide_eq_true c22
                              clear c22
                              by_cases c23 : (rd l2 x12_5) < (l1.length : Int)
                              · rw [if_pos c23] at H
                                have c23b0 : decide ((rd l2 x12_5) < (l1.length : Int)) = true := decide_eq_true c23
                                clear c23
                                replace H := Option.bind_eq_some_iff.mp H
                                obtain ⟨t261, A240, H⟩ := H
                                replace H : (if x10_5.length < 17592186044416 then (spec_HangInOrder.l0 k5 l1 l2 a3 l0 (x10_5 ++ [t261]) (wrap64 (x12_5 + 1))) else (none)) = some (r1, r2) := H
                                have A24 := Aside0.mk A240
                                clear A240
                                by_cases c25 : x10_5.length < 17592186044416
                                · rw [if_pos c25] at H
                                  have LMc25 := Aside0.mk c25
                                  clear c25
                                  obtain ⟨y262, hy262⟩ : ∃ y_ : List Int, y_ = (x10_5 ++ [t261]) := ⟨_, rfl⟩
                                  replace H : (spec_HangInOrder.l0 k5 l1 l2 a3 l0 y262 (wrap64 (x12_5 + 1))) = some (r1, r2) := by first | (rw [hy262]; with_reducible exact H) | (have H2_ := (Option.bind_some _ _).symm.trans H; rw [hy262]; with_reducible exact H2_) | (have H2_ := (Option.bind_some _ _).symm.trans H; with_reducible exact H2_) | with_reducible exact H | (rw [hy262]; exact H) | exact H
                                  have Ny262 := Aside0.mk hy262
                                  clear hy262
                                  have H' := Aside0.mk H
                                  clear H
                                  have p259 : 0 ≤ (x12_5 : Int) := of_decide_eq_true (by first | (with_reducible assumption) | assumption)
                                  have q259 : x12_5 < (l2.length : Int) := of_decide_eq_true (by first | (with_reducible assumption) | assumption)
                                  obtain ⟨ad259, e259, hx259_0⟩ := Kd.at_int HR2.out x12_5 p259 q259
                                  cases e259
                                  replace hx259_0 := (HB.out.cell (World.block_lt_of_cell? W1 _ hx259_0)).trans hx259_0
                                  replace p259 := eq_true p259
                                  replace q259 := eq_true q259
                                  have p260 : 0 ≤ ((rd l2 x12_5) : Int) := of_decide_eq_true (by first | (with_reducible assumption) | assumption)
                                  have q260 : (rd l2 x12_5) < (l1.length : Int) := of_decide_eq_true (by first | (with_reducible assumption) | assumption)
                                  obtain ⟨ad260, e260, hx260_0, hx260_1⟩ := at_T128 HR1.out (rd l2 x12_5) p260 q260
                                  cases e260
                                  replace hx260_0 := (HB.out.cell (World.block_lt_of_cell? W1 _ hx260_0)).trans hx260_0
                                  replace hx260_1 := (HB.out.cell (World.block_lt_of_cell? W1 _ hx260_1)).trans hx260_1
                                  replace p260 := eq_true p260
                                  replace q260 := eq_true q260
                                  go_wp2_with (first | ((with_reducible refine gate_callee (f := 115) rfl ?_); refine goesL_ (some 55) rfl rfl Try.func115 (by kernel_rfl) rfl #[.pointer (some AD), .agg #[.int .i16 ((rd_T128 l1 (rd l2 x12_5)).f0), .int .i8 ((rd_T128 l1 (rd l2 x12_5)).f1)], .int .i64 (wrap64 (a3 + x12_5))] rfl (by (try simp only [List.map_toArray, List.map_cons, List.map_nil]); first | done | rfl | (simp only [List.length_drop, List.length_take]; rfl)) ?_; (with_reducible refine (spec_l03Left.calls k5 _ l0 ((rd_T128 l1 (rd l2 x12_5)).f0) ((rd_T128 l1 (rd l2 x12_5)).f1) (wrap64 (a3 + x12_5)) t261 _ ?side1 ?side2 A24.out).mono ?_); (case side1 => repeat (first | exact (Kd.C_below HR0.out HB.out) | (with_reducible refine Kd.C_alloc ?_ _) | (with_reducible refine Kd.C_drewN ?_ _) | (with_reducible refine Kd.C_drew ?_))); (case side2 => exact HC0.out); rintro e w26 ⟨rfl, hb⟩; refine ⟨_, rfl, ?_⟩; have n0_ := Aside0.mk (Kd.R_below (by (with_reducible repeat (first | apply Kd.R_alloc | apply Kd.R_drewN | apply Kd.R_drew)); exact HO_10.out) hb); have n1_ := Aside0.mk (below_step (by repeat (first | (with_reducible first | exact HB.out | apply below_alloc | apply pw_below_drewN | apply below_drew1) | exact HB.out)) hb); clear HO_10; clear HB; have HO_10 := n0_; have HB := n1_; clear n0_ n1_; (try clear hb); (try clear hb2); (try clear hk); (try clear hi)) | ((with_reducible refine gate_builtin (b := .append) (xs := #[.tmp 44, .tmp 56]) rfl ?_); (try (refine gate_guard (by rfl) ?_; dsimp only)); at_builtin; refine Kd.R_append (Kd.int .i64) (w0 := W1) W1.heap.size rfl (.tmp 44) (.tmp 56) 49 2 (.int .i64 0) 8 rfl Try.underlying49 info2 rfl (by decide) (by omega) u10 x10_5 t261 [.int .i64 t261] (fun _ => True) (fun _ => False) rfl rfl ?aP (fun _ hk => hk.elim) ?aF ?aO ?aB ?aS ?aL ?_; (case aP => exact rfl); (case aB => exact (by repeat (first | (with_reducible first | exact HB.out | apply below_alloc | apply pw_below_drewN | apply below_drew1) | exact HB.out))); (case aF => exact (fun _ _ => trivial)); (case aO => exact (by (with_reducible repeat (first | apply Kd.R_alloc | apply Kd.R_drewN | apply Kd.R_drew)); exact HO_10.out)); (case aS => exact (below_size (by repeat (first | (with_reducible first | exact HB.out | apply below_alloc | apply pw_below_drewN | apply below_drew1) | exact HB.out)))); (case aL => have := LMc25.out; omega); intro v263 w27 ho hb hg hat; rw [← Ny262.out] at ho; have n0_ := Aside0.mk (hb); have n1_ := Aside0.mk (ho); clear HB; clear HO_10; have HB := n0_; have HO264 := n1_; clear n0_ n1_; clear ho hb hg hat))
                                  go_roundg k5
                                  case measure => have := HJ6.out; have := HJ11.out; have := HJ13.out; have := HJ16.out; have := HK5.out; omega
                                  case rel => exact ⟨(y262), (wrap64 (x12_5 + 1)), (by first | rfl | (simp; done) | (simp [*]; done)), H', ⟨by have := HJ6.out; have := HJ11.out; have := HJ13.out; have := HJ16.out; have := HK5.out; omega⟩, ⟨by (with_reducible repeat (first | apply Kd.R_alloc | apply Kd.R_drewN | apply Kd.R_drew)); exact HO264.out⟩, ⟨by repeat (first | (with_reducible first | exact HB.out | apply below_alloc | apply pw_below_drewN | apply below_drew1) | exact HB.out)⟩⟩
                                · rw [if_neg c25] at H
                                  exact absurd H (by simp)
                              · rw [if_neg c23] at H
                                exact absurd H (by simp)
                            · rw [if_neg c22] at H
                              exact absurd H (by simp)
                          · rw [if_neg c21] at H
                            exact absurd H (by simp)
                        · rw [if_neg c20] at H
                          have c20b0 : decide (x12_5 < (l2.length : Int)) = false := decide_eq_false c20
                          clear c20
                          simp only [Option.some.injEq, Prod.mk.injEq] at H
                          obtain ⟨rfl, rfl⟩ := H
                          go_wp2
                          go_ret2
                          refine low_r HW.out ?_
                          exact ⟨_, by first | rfl | (simp [errW_none, errW_some] <;> rfl) | (simp [*, errW_none, errW_some] <;> rfl), by (with_reducible repeat (first | apply Kd.R_alloc | apply Kd.R_drewN | apply Kd.R_drew)); exact HO_10.out, by repeat (first | (with_reducible first | exact HB.out | apply below_alloc | apply pw_below_drewN | apply below_drew1) | exact HB.out)⟩
                  · rw [if_neg c19] at H
                    have c19b0 : (x11_16 == 0) = false := beq_eq_false_iff_ne.mpr c19
                    have c19b1 : (x11_16 != 0) = true := bne_iff_ne.mpr c19
                    simp only [Option.some.injEq, Prod.mk.injEq] at H
                    obtain ⟨rfl, rfl⟩ := H
                    go_wp2
                    go_ret2
                    refine low_r HW.out ?_
                    exact ⟨_, by first | rfl | (simp [errW_none, errW_some] <;> rfl) | (simp [*, errW_none, errW_some] <;> rfl), by (with_reducible repeat (first | apply Kd.R_alloc | apply Kd.R_drewN | apply Kd.R_drew)); exact HO_10.out, by repeat (first | (with_reducible first | exact HB.out | apply below_alloc | apply pw_below_drewN | apply below_drew1) | exact HB.out)⟩
end Go.Proofs.Ytggjdcijplgpdaa.D
