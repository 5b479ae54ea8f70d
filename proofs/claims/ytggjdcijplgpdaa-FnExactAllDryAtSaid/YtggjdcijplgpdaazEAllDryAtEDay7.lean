import Derived.Test.YtggjdcijplgpdaazEAllDryAtD0
import Derived.Test.YtggjdcijplgpdaazEAllDryAtD12
import Derived.Test.YtggjdcijplgpdaazEAllDryAtD13
import Derived.Test.YtggjdcijplgpdaazEAllDryAtD3
import Derived.Test.YtggjdcijplgpdaazEAllDryAtEAreWithin
import Derived.Test.YtggjdcijplgpdaazEAllDryAtECompactC
import Derived.Test.YtggjdcijplgpdaazEAllDryAtEDay2
import Derived.Test.YtggjdcijplgpdaazEAllDryAtEDayBase
import Derived.Test.YtggjdcijplgpdaazEAllDryAtEDayCode
import Derived.Test.YtggjdcijplgpdaazEAllDryAtEIsOrder
import Derived.Test.YtggjdcijplgpdaazEAllDryAtESortedV
import Derived.Shelf.Abstract
namespace Go.Proofs.Ytggjdcijplgpdaa.D
open Go.RowKit Go.Proofs.YtggjdcijplgpdaaW.PrintWords Go.Proofs.YtggjdcijplgpdaaW.PrintLast Go.Proofs.YtggjdcijplgpdaaW.PrintMore
attribute [local go_sem] max2_int min2_int max_two min_two max_three min_three max_four min_four
set_option linter.unusedVariables false
set_option linter.unusedSimpArgs false
mutual
def impl_AllDryAt.j0 : Nat → List (S128) → Int → List Int → List (S74) → Bool → Option (Int × Int)
  | 0, _, _, _, _, _ => none
  | k + 1, x1, x2, x3, x4, x11 => (impl_dayCode.f k x4 x1 x2 24).bind fun t194 => ((impl_unless.f x11 2).bind fun t195 => ((impl_fewHung.f x1).bind fun t196 => ((impl_firstOf.f k (([t194, t195, t196] : List Int))).bind fun t200 => (if t200 = 0 then (if 0 ≤ (wrap64 ((wrap64 (24 - x2)) + 1)) then (if (wrap64 ((wrap64 (24 - x2)) + 1) : Int).toNat ≤ 35184372088832 then (impl_AllDryAt.l0 k x2 x3 x4 (List.replicate (wrap64 ((wrap64 (24 - x2)) + 1) : Int).toNat 0) x1 (x1.length : Int) 0) else (none)) else (none)) else (some (0, t200))))))
def impl_AllDryAt.l0 : Nat → Int → List Int → List (S74) → List Int → List (S128) → Int → Int → Option (Int × Int)
  | 0, _, _, _, _, _, _, _ => none
  | k + 1, x2, x3, x4, x13, x52, x53, x54 => if x54 < x53 then (if 0 ≤ x54 then (if x54 < (x52.length : Int) then ((slices_Contains_int64_int64.f k x3 x54).bind fun t207 => ((impl_Day_course.f k x4 ((rd_T128 x52 x54).f0) ((rd_T128 x52 x54).f1) x2 (!t207)).bind fun t208 => (impl_AllDryAt.l1 k x2 x3 x4 x13 x52 x53 x54 t208 (t208.length : Int) 0))) else (none)) else (none)) else ((slices_Index_int64_int64.f k x13 0).bind fun t204 => (if t204 < 0 then (some (0, 6)) else (some (wrap64 (x2 + t204), 0))))
def impl_AllDryAt.l1 : Nat → Int → List Int → List (S74) → List Int → List (S128) → Int → Int → List Int → Int → Int → Option (Int × Int)
  | 0, _, _, _, _, _, _, _, _, _, _ => none
  | k + 1, x2, x3, x4, x13, x52, x53, x54, x66, x67, x68 => if x68 < x67 then (if 0 ≤ x68 then (if x68 < (x66.length : Int) then (if x68 < (x13.length : Int) then (impl_AllDryAt.l1 k x2 x3 x4 (x13.set (x68 : Int).toNat (wrap64 ((rd x13 x68) + (rd x66 x68)))) x52 x53 x54 x66 x67 (wrap64 (x68 + 1))) else (none)) else (none)) else (none)) else (impl_AllDryAt.l0 k x2 x3 x4 x13 x52 x53 (wrap64 (x54 + 1)))
end
def impl_AllDryAt.f (k : Nat) (l0 : List (S74)) (l1 : List (S128)) (a2 : Int) (l3 : List Int) : Option (Int × Int) := (sortedList l3).bind fun t188 => ((impl_size_impl_Wash.f l1).bind fun t191 => ((impl_areWithin.f l3 0 (wrap64 (t191 - 1))).bind fun t192 => (if t192 = true then ((compactLen t188).bind fun t193 => (impl_AllDryAt.j0 k l1 a2 l3 l0 (t193 == (l3.length : Int)))) else (impl_AllDryAt.j0 k l1 a2 l3 l0 false))))
theorem impl_AllDryAt.mono_l : ∀ k, (∀ y0 y1 y2 y3 y4, LeO (impl_AllDryAt.j0 k y0 y1 y2 y3 y4) (impl_AllDryAt.j0 (k + 1) y0 y1 y2 y3 y4)) ∧ (∀ y0 y1 y2 y3 y4 y5 y6, LeO (impl_AllDryAt.l0 k y0 y1 y2 y3 y4 y5 y6) (impl_AllDryAt.l0 (k + 1) y0 y1 y2 y3 y4 y5 y6)) ∧ (∀ y0 y1 y2 y3 y4 y5 y6 y7 y8 y9, LeO (impl_AllDryAt.l1 k y0 y1 y2 y3 y4 y5 y6 y7 y8 y9) (impl_AllDryAt.l1 (k + 1) y0 y1 y2 y3 y4 y5 y6 y7 y8 y9))
  | 0 => ⟨fun _ _ _ _ _ r h => by simp [impl_AllDryAt.j0] at h, fun _ _ _ _ _ _ _ r h => by simp [impl_AllDryAt.l0] at h, fun _ _ _ _ _ _ _ _ _ _ r h => by simp [impl_AllDryAt.l1] at h⟩
  | k + 1 => by
    obtain ⟨ih0, ih1, ih2⟩ := impl_AllDryAt.mono_l k
    refine ⟨?_, ?_, ?_⟩
    · intro y0 y1 y2 y3 y4
      unfold impl_AllDryAt.j0
      repeat' first
      | (with_reducible exact ih0 _ _ _ _ _)
      | (with_reducible exact ih1 _ _ _ _ _ _ _)
      | (with_reducible exact ih2 _ _ _ _ _ _ _ _ _ _)
      | (with_reducible exact impl_Day_course.mono _ _ _ _ _ _)
      | (with_reducible exact impl_dayCode.mono _ _ _ _ _)
      | (with_reducible exact impl_firstOf.mono _ _)
      | (with_reducible exact slices_Contains_int64_int64.mono _ _ _)
      | (with_reducible exact slices_Index_int64_int64.mono _ _ _)
      | (with_reducible exact LeO.refl _)
      | (with_reducible exact LeO.none _)
      | (with_reducible refine LeO.ite ?_ ?_)
      | (with_reducible refine LeO.bind ?_ (fun _ => ?_))
      | exact ih0 _ _ _ _ _
      | exact ih1 _ _ _ _ _ _ _
      | exact ih2 _ _ _ _ _ _ _ _ _ _
      | exact impl_Day_course.mono _ _ _ _ _ _
      | exact impl_dayCode.mono _ _ _ _ _
      | exact impl_firstOf.mono _ _
      | exact slices_Contains_int64_int64.mono _ _ _
      | exact slices_Index_int64_int64.mono _ _ _
      | exact LeO.none _
      | refine LeO.ite ?_ ?_
      | refine LeO.bind ?_ (fun _ => ?_)
    · intro y0 y1 y2 y3 y4 y5 y6
      unfold impl_AllDryAt.l0
      repeat' first
      | (with_reducible exact ih0 _ _ _ _ _)
      | (with_reducible exact ih1 _ _ _ _ _ _ _)
      | (with_reducible exact ih2 _ _ _ _ _ _ _ _ _ _)
      | (with_reducible exact impl_Day_course.mono _ _ _ _ _ _)
      | (with_reducible exact impl_dayCode.mono _ _ _ _ _)
      | (with_reducible exact impl_firstOf.mono _ _)
      | (with_reducible exact slices_Contains_int64_int64.mono _ _ _)
      | (with_reducible exact slices_Index_int64_int64.mono _ _ _)
      | (with_reducible exact LeO.refl _)
      | (with_reducible exact LeO.none _)
      | (with_reducible refine LeO.ite ?_ ?_)
      | (with_reducible refine LeO.bind ?_ (fun _ => ?_))
      | exact ih0 _ _ _ _ _
      | exact ih1 _ _ _ _ _ _ _
      | exact ih2 _ _ _ _ _ _ _ _ _ _
      | exact impl_Day_course.mono _ _ _ _ _ _
      | exact impl_dayCode.mono _ _ _ _ _
      | exact impl_firstOf.mono _ _
      | exact slices_Contains_int64_int64.mono _ _ _
      | exact slices_Index_int64_int64.mono _ _ _
      | exact LeO.none _
      | refine LeO.ite ?_ ?_
      | refine LeO.bind ?_ (fun _ => ?_)
    · intro y0 y1 y2 y3 y4 y5 y6 y7 y8 y9
      unfold impl_AllDryAt.l1
      repeat' first
      | (with_reducible exact ih0 _ _ _ _ _)
      | (with_reducible exact ih1 _ _ _ _ _ _ _)
      | (with_reducible exact ih2 _ _ _ _ _ _ _ _ _ _)
      | (with_reducible exact impl_Day_course.mono _ _ _ _ _ _)
      | (with_reducible exact impl_dayCode.mono _ _ _ _ _)
      | (with_reducible exact impl_firstOf.mono _ _)
      | (with_reducible exact slices_Contains_int64_int64.mono _ _ _)
      | (with_reducible exact slices_Index_int64_int64.mono _ _ _)
      | (with_reducible exact LeO.refl _)
      | (with_reducible exact LeO.none _)
      | (with_reducible refine LeO.ite ?_ ?_)
      | (with_reducible refine LeO.bind ?_ (fun _ => ?_))
      | exact ih0 _ _ _ _ _
      | exact ih1 _ _ _ _ _ _ _
      | exact ih2 _ _ _ _ _ _ _ _ _ _
      | exact impl_Day_course.mono _ _ _ _ _ _
      | exact impl_dayCode.mono _ _ _ _ _
      | exact impl_firstOf.mono _ _
      | exact slices_Contains_int64_int64.mono _ _ _
      | exact slices_Index_int64_int64.mono _ _ _
      | exact LeO.none _
      | refine LeO.ite ?_ ?_
      | refine LeO.bind ?_ (fun _ => ?_)
theorem impl_AllDryAt.mono : ∀ a0 a1 a2 a3 k, LeO (impl_AllDryAt.f k a0 a1 a2 a3) (impl_AllDryAt.f (k + 1) a0 a1 a2 a3) := by
  intro a0 a1 a2 a3 k
  obtain ⟨ih0, ih1, ih2⟩ := impl_AllDryAt.mono_l k
  unfold impl_AllDryAt.f
  repeat' first
      | (with_reducible exact ih0 _ _ _ _ _)
      | (with_reducible exact ih1 _ _ _ _ _ _ _)
      | (with_reducible exact ih2 _ _ _ _ _ _ _ _ _ _)
      | (with_reducible exact impl_Day_course.mono _ _ _ _ _ _)
      | (with_reducible exact impl_dayCode.mono _ _ _ _ _)
      | (with_reducible exact impl_firstOf.mono _ _)
      | (with_reducible exact slices_Contains_int64_int64.mono _ _ _)
      | (with_reducible exact slices_Index_int64_int64.mono _ _ _)
      | (with_reducible exact LeO.refl _)
      | (with_reducible exact LeO.none _)
      | (with_reducible refine LeO.ite ?_ ?_)
      | (with_reducible refine LeO.bind ?_ (fun _ => ?_))
      | exact ih0 _ _ _ _ _
      | exact ih1 _ _ _ _ _ _ _
      | exact ih2 _ _ _ _ _ _ _ _ _ _
      | exact impl_Day_course.mono _ _ _ _ _ _
      | exact impl_dayCode.mono _ _ _ _ _
      | exact impl_firstOf.mono _ _
      | exact slices_Contains_int64_int64.mono _ _ _
      | exact slices_Index_int64_int64.mono _ _ _
      | exact LeO.none _
      | refine LeO.ite ?_ ?_
      | refine LeO.bind ?_ (fun _ => ?_)
def impl_AllDryAt.T10 : Bool × List (List Nat × List Nat) := (true, [([], []), ([], []), ([], []), ([], []), ([], []), ([3, 4], [3, 4]), ([5], [5]), ([0, 1, 2, 6, 5], [0, 1, 2, 6]), ([7], [7]), ([], [])])
def impl_AllDryAt.B10 : List Nat := [0, 0, 0, 0, 0, 24, 56, 127, 255, 0]
theorem impl_AllDryAt.tab10 : rtab .any (opsOf Try.f47 10) = impl_AllDryAt.T10 := by kernel_rfl
theorem impl_AllDryAt.bits10 : waitsOk impl_AllDryAt.T10.2 impl_AllDryAt.B10 = true := by kernel_rfl
set_option maxHeartbeats 8000000 in
set_option maxRecDepth 100000 in
theorem impl_AllDryAt.calls (k : Nat) (l0 : List (S74)) (A1 : Option Addr) (c1 : Nat) (l1 : List (S128)) (a2 : Int) (A3 : Option Addr) (c3 : Nat) (l3 : List Int) (r1 : Int) (r2 : Int) (w : World) (hc0 : l0.length = 24) (hr1 : Kd.C k128 w A1 l1.length l1) (hc1 : l1.length ≤ c1) (hr3 : Kd.C (Kd.int .i64) w A3 l3.length l3) (hc3 : l3.length ≤ c3) (h : impl_AllDryAt.f k l0 l1 a2 l3 = some (r1, r2)) :
    Calls Try.prog 47 #[.agg (dayA l0), .slice A1 l1.length c1, .int .i64 a2, .slice A3 l3.length c3] w fun e w' => e = .returned (.tuple #[.int .i64 r1, .int .i64 r2]) ∧ Below w.heap.size w w' := by
  have hu128 := Try.underlying128
  have HC0 := Aside0.mk hc0
  clear hc0
  have HR1 := Aside0.mk hr1
  have HC1 := Aside0.mk hc1
  clear hr1 hc1
  have HR3 := Aside0.mk hr3
  have HC3 := Aside0.mk hc3
  clear hr3 hc3
  have H : ((sortedList l3).bind fun t188 => ((impl_size_impl_Wash.f l1).bind fun t191 => ((impl_areWithin.f l3 0 (wrap64 (t191 - 1))).bind fun t192 => (if t192 = true then ((compactLen t188).bind fun t193 => (impl_AllDryAt.j0 k l1 a2 l3 l0 (t193 == (l3.length : Int)))) else (impl_AllDryAt.j0 k l1 a2 l3 l0 false))))) = some (r1, r2) := h
  clear h
  replace H := Option.bind_eq_some_iff.mp H
  obtain ⟨t188, A50, H⟩ := H
  replace H : ((impl_size_impl_Wash.f l1).bind fun t191 => ((impl_areWithin.f l3 0 (wrap64 (t191 - 1))).bind fun t192 => (if t192 = true then ((compactLen t188).bind fun t193 => (impl_AllDryAt.j0 k l1 a2 l3 l0 (t193 == (l3.length : Int)))) else (impl_AllDryAt.j0 k l1 a2 l3 l0 false)))) = some (r1, r2) := H
  have A5 := Aside0.mk A50
  clear A50
  have HC6 := Aside0.mk H
  clear H
  go_enter Try.func47, Try.ntmps47
  go_upto_region 2 with (first | ((with_reducible refine gate_dst (N := 4) rfl ?_); refine box_event ?hg (N := 4) ?hd (cs := dayA l0) (t := 76) ?hr ?_; (case hd => rfl); (case hg => rfl); (case hr => first | (go_simp; done) | (go_simp; rfl)); intro gbD hgD W1 hboxD hbD; clear hgD; obtain ⟨AD, hAD⟩ : ∃ AD : Addr, AD = ⟨gbD, 0, none⟩ := ⟨_, rfl⟩; rw [← hAD]; have HAD := Aside0.mk hAD; clear hAD; have HR0 := Aside0.mk (show Kd.C k74 W1 (some AD) l0.length l0 from (by rw [HAD.out]; exact day_C hboxD HC0.out)); have BKD := Aside0.mk hboxD; have HW := Aside0.mk hbD; have m1_ := Aside0.mk (Kd.C_below HR1.out hbD); clear HR1; have HR1 := m1_; clear m1_; have m1_ := Aside0.mk (Kd.C_below HR3.out hbD); clear HR3; have HR3 := m1_; clear m1_; clear hboxD hbD; have HB := Aside0.mk (Below.refl W1.heap.size W1)) | ((with_reducible refine gate_dst (N := 35) rfl ?_); refine wpList_load_row rfl 76 _ rfl gbD ?hx 76 (dayA l0) (0, 0) _ ?hg Try.underlying76 rfl ?hi ?_; (case hx => (show Value.pointer (some AD) = _; rw [HAD.out])); (case hg => exact day_still BKD.out (by repeat (first | (with_reducible first | exact HB.out | apply below_alloc | apply pw_below_drewN | apply below_drew1) | exact HB.out))); (case hi => exact day_info HC0.out)) | ((with_reducible refine gate_dst (N := 59) rfl ?_); refine wpList_load_row rfl 76 _ rfl gbD ?hx 76 (dayA l0) (0, 0) _ ?hg Try.underlying76 rfl ?hi ?_; (case hx => (show Value.pointer (some AD) = _; rw [HAD.out])); (case hg => exact day_still BKD.out (by repeat (first | (with_reducible first | exact HB.out | apply below_alloc | apply pw_below_drewN | apply below_drew1) | exact HB.out))); (case hi => exact day_info HC0.out)) | ((with_reducible refine gate_callee (f := 105) rfl ?_); refine goesL_ (some 20) rfl rfl Try.func105 (by kernel_rfl) rfl #[.slice A3 l3.length c3] rfl (by (try simp only [List.map_toArray, List.map_cons, List.map_nil]); first | done | rfl | (simp only [List.length_drop, List.length_take]; rfl)) ?_; (with_reducible refine (valuesOf A3 l3.length c3 _).mono ?_); rintro e w3 ⟨Bs, rfl, hlt, hcB, hb⟩; refine ⟨_, rfl, ?_⟩; have n1_ := Aside0.mk (below_step (by repeat (first | (with_reducible first | exact HB.out | apply below_alloc | apply pw_below_drewN | apply below_drew1) | exact HB.out)) hb); clear HB; have HB := n1_; have HLT := Aside0.mk hlt; have HCB := Aside0.mk hcB; clear n1_ hb hlt hcB) | ((with_reducible refine gate_callee (f := 104) rfl ?_); refine goesL_ (some 21) rfl rfl Try.func104 (by kernel_rfl) rfl #[.func (.func 138) #[] #[.pointer (some ⟨Bs, 0, none⟩)]] rfl (by (try simp only [List.map_toArray, List.map_cons, List.map_nil]); first | done | rfl | (simp only [List.length_drop, List.length_take]; rfl)) ?_; refine (sortedOf2 Bs A3 c3 l3 t188 _ A5.out (by first | exact HLT.out | simpa [go_sem] using HLT.out) (by first | exact HCB.out | simpa [go_sem] using HCB.out) (Kd.C_below HR3.out (by repeat (first | (with_reducible first | exact HB.out | apply below_alloc | apply pw_below_drewN | apply below_drew1) | exact HB.out)))).mono ?_; rintro e w7 ⟨v189, rfl, ho0, hb⟩; refine ⟨_, rfl, ?_⟩; have n0_ := Aside0.mk (Kd.R_lower ho0 (below_size (by repeat (first | (with_reducible first | exact HB.out | apply below_alloc | apply pw_below_drewN | apply below_drew1) | exact HB.out)))); have n1_ := Aside0.mk (below_step (by repeat (first | (with_reducible first | exact HB.out | apply below_alloc | apply pw_below_drewN | apply below_drew1) | exact HB.out)) hb); clear HB; have HO190 := n0_; have HB := n1_; clear n0_ n1_; (try clear hb); (try clear hb2); (try clear hk); (try clear hi); (try clear ho0)))
  (try simp only [Act.put, List.setIfInBounds_toArray, List.set_cons_zero, List.set_cons_succ])
  go_cut [11] (fun v11 wc => ∃ (kq : Nat) (x11_5 : Bool), v11 = .bool x11_5 ∧ Aside0 (impl_AllDryAt.j0 kq l1 a2 l3 l0 x11_5 = some (r1, r2)) ∧ Aside0 (kq ≤ k) ∧ Aside0 (Below W1.heap.size W1 wc))
  case first =>
    have H := HC6.out
    clear HC6
    replace H := Option.bind_eq_some_iff.mp H
    obtain ⟨t191, A80, H⟩ := H
    replace H : ((impl_areWithin.f l3 0 (wrap64 (t191 - 1))).bind fun t192 => (if t192 = true then ((compactLen t188).bind fun t193 => (impl_AllDryAt.j0 k l1 a2 l3 l0 (t193 == (l3.length : Int)))) else (impl_AllDryAt.j0 k l1 a2 l3 l0 false))) = some (r1, r2) := H
    have A8 := Aside0.mk A80
    clear A80
    replace H := Option.bind_eq_some_iff.mp H
    obtain ⟨t192, A90, H⟩ := H
    replace H : (if t192 = true then ((compactLen t188).bind fun t193 => (impl_AllDryAt.j0 k l1 a2 l3 l0 (t193 == (l3.length : Int)))) else (impl_AllDryAt.j0 k l1 a2 l3 l0 false)) = some (r1, r2) := H
    have A9 := Aside0.mk A90
    clear A90
    by_cases c10 : t192 = true
    · subst c10
      have H1 : ((compactLen t188).bind fun t193 => (impl_AllDryAt.j0 k l1 a2 l3 l0 (t193 == (l3.length : Int)))) = some (r1, r2) := by rw [if_pos rfl] at H; exact H
      clear H
      have H := H1
      clear H1
      replace H := Option.bind_eq_some_iff.mp H
      obtain ⟨t193, A110, H⟩ := H
      replace H : (impl_AllDryAt.j0 k l1 a2 l3 l0 (t193 == (l3.length : Int))) = some (r1, r2) := H
      have A11 := Aside0.mk A110
      clear A110
      have H' := Aside0.mk H
      clear H
      go_wp2_with (first | ((with_reducible refine gate_dst (N := 35) rfl ?_); refine wpList_load_row rfl 76 _ rfl gbD ?hx 76 (dayA l0) (0, 0) _ ?hg Try.underlying76 rfl ?hi ?_; (case hx => (show Value.pointer (some AD) = _; rw [HAD.out])); (case hg => exact day_still BKD.out (by repeat (first | (with_reducible first | exact HB.out | apply below_alloc | apply pw_below_drewN | apply below_drew1) | exact HB.out))); (case hi => exact day_info HC0.out)) | ((with_reducible refine gate_dst (N := 59) rfl ?_); refine wpList_load_row rfl 76 _ rfl gbD ?hx 76 (dayA l0) (0, 0) _ ?hg Try.underlying76 rfl ?hi ?_; (case hx => (show Value.pointer (some AD) = _; rw [HAD.out])); (case hg => exact day_still BKD.out (by repeat (first | (with_reducible first | exact HB.out | apply below_alloc | apply pw_below_drewN | apply below_drew1) | exact HB.out))); (case hi => exact day_info HC0.out)) | ((with_reducible refine gate_callee (f := 106) rfl ?_); refine goesL_ (some 24) rfl rfl Try.func106 (by kernel_rfl) rfl #[.slice A1 l1.length c1] rfl (by (try simp only [List.map_toArray, List.map_cons, List.map_nil]); first | done | rfl | (simp only [List.length_drop, List.length_take]; rfl)) ?_; (with_reducible refine (impl_size_impl_Wash.calls _ _ l1 t191 _ ?side1 ?side2 A8.out).mono ?_); (case side1 => repeat (first | exact (Kd.C_below HR1.out HB.out) | (with_reducible refine Kd.C_alloc ?_ _) | (with_reducible refine Kd.C_drewN ?_ _) | (with_reducible refine Kd.C_drew ?_))); (case side2 => exact HC1.out); rintro e w' ⟨rfl, ⟨nd, rfl⟩⟩; refine ⟨_, rfl, ?_⟩) | ((with_reducible refine gate_callee (f := 83) rfl ?_); refine goesL_ (some 26) rfl rfl Try.func83 (by kernel_rfl) rfl #[.slice A3 l3.length c3, .int .i64 0, .int .i64 (wrap64 (t191 - 1))] rfl (by (try simp only [List.map_toArray, List.map_cons, List.map_nil]); first | done | rfl | (simp only [List.length_drop, List.length_take]; rfl)) ?_; (with_reducible refine (impl_areWithin.calls _ _ l3 0 (wrap64 (t191 - 1)) true _ ?side1 ?side2 A9.out).mono ?_); (case side1 => repeat (first | exact (Kd.C_below HR3.out (by repeat (first | (with_reducible first | exact HB.out | apply below_alloc | apply pw_below_drewN | apply below_drew1) | exact HB.out))) | (with_reducible refine Kd.C_alloc ?_ _) | (with_reducible refine Kd.C_drewN ?_ _) | (with_reducible refine Kd.C_drew ?_))); (case side2 => exact HC3.out); rintro e w12 ⟨rfl, hb⟩; refine ⟨_, rfl, ?_⟩; have n0_ := Aside0.mk (Kd.R_below (by (with_reducible repeat (first | apply Kd.R_alloc | apply Kd.R_drewN | apply Kd.R_drew)); exact HO190.out) hb); have n1_ := Aside0.mk (below_step (by repeat (first | (with_reducible first | exact HB.out | apply below_alloc | apply pw_below_drewN | apply below_drew1) | exact HB.out)) hb); clear HO190; clear HB; have HO190 := n0_; have HB := n1_; clear n0_ n1_; (try clear hb); (try clear hb2); (try clear hk); (try clear hi); obtain ⟨Ao13, co13, eo13⟩ := Kd.R_slice HO190.out; subst eo13) | (go_at_call 107; refine (compactOf _ t188 t193 W1 _ (by (with_reducible repeat (first | apply Kd.R_alloc | apply Kd.R_drewN | apply Kd.R_drew)); exact HO190.out) (by repeat (first | (with_reducible first | exact HB.out | apply below_alloc | apply pw_below_drewN | apply below_drew1) | exact HB.out)) A11.out).mono ?_; rintro e w9 ⟨A9, c9, n9, rfl, rfl, hb⟩; have n1_ := Aside0.mk hb; clear HB HO190; have HB := n1_; clear n1_ hb))
      go_meet
      case rel => exact ⟨_, _, (by first | rfl | (simp; done) | (simp [*]; done)), H', ⟨by first | omega | exact Nat.le_refl _⟩, ⟨by repeat (first | (with_reducible first | exact HB.out | apply below_alloc | apply pw_below_drewN | apply below_drew1) | exact HB.out)⟩⟩
    · replace c10 := Bool.eq_false_iff.mpr c10
      subst c10
      have H1 : (impl_AllDryAt.j0 k l1 a2 l3 l0 false) = some (r1, r2) := by rw [if_neg (show ¬ (false = true) by decide)] at H; exact H
      clear H
      have H := H1
      clear H1
      have H' := Aside0.mk H
      clear H
      go_wp2_with (first | ((with_reducible refine gate_dst (N := 35) rfl ?_); refine wpList_load_row rfl 76 _ rfl gbD ?hx 76 (dayA l0) (0, 0) _ ?hg Try.underlying76 rfl ?hi ?_; (case hx => (show Value.pointer (some AD) = _; rw [HAD.out])); (case hg => exact day_still BKD.out (by repeat (first | (with_reducible first | exact HB.out | apply below_alloc | apply pw_below_drewN | apply below_drew1) | exact HB.out))); (case hi => exact day_info HC0.out)) | ((with_reducible refine gate_dst (N := 59) rfl ?_); refine wpList_load_row rfl 76 _ rfl gbD ?hx 76 (dayA l0) (0, 0) _ ?hg Try.underlying76 rfl ?hi ?_; (case hx => (show Value.pointer (some AD) = _; rw [HAD.out])); (case hg => exact day_still BKD.out (by repeat (first | (with_reducible first | exact HB.out | apply below_alloc | apply pw_below_drewN | apply below_drew1) | exact HB.out))); (case hi => exact day_info HC0.out)) | ((with_reducible refine gate_callee (f := 106) rfl ?_); refine goesL_ (some 24) rfl rfl Try.func106 (by kernel_rfl) rfl #[.slice A1 l1.length c1] rfl (by (try simp only [List.map_toArray, List.map_cons, List.map_nil]); first | done | rfl | (simp only [List.length_drop, List.length_take]; rfl)) ?_; (with_reducible refine (impl_size_impl_Wash.calls _ _ l1 t191 _ ?side1 ?side2 A8.out).mono ?_); (case side1 => repeat (first | exact (Kd.C_below HR1.out HB.out) | (with_reducible refine Kd.C_alloc ?_ _) | (with_reducible refine Kd.C_drewN ?_ _) | (with_reducible refine Kd.C_drew ?_))); (case side2 => exact HC1.out); rintro e w' ⟨rfl, ⟨nd, rfl⟩⟩; refine ⟨_, rfl, ?_⟩) | ((with_reducible refine gate_callee (f := 83) rfl ?_); refine goesL_ (some 26) rfl rfl Try.func83 (by kernel_rfl) rfl #[.slice A3 l3.length c3, .int .i64 0, .int .i64 (wrap64 (t191 - 1))] rfl (by (try simp only [List.map_toArray, List.map_cons, List.map_nil]); first | done | rfl | (simp only [List.length_drop, List.length_take]; rfl)) ?_; (with_reducible refine (impl_areWithin.calls _ _ l3 0 (wrap64 (t191 - 1)) false _ ?side1 ?side2 A9.out).mono ?_); (case side1 => repeat (first | exact (Kd.C_below HR3.out (by repeat (first | (with_reducible first | exact HB.out | apply below_alloc | apply pw_below_drewN | apply below_drew1) | exact HB.out))) | (with_reducible refine Kd.C_alloc ?_ _) | (with_reducible refine Kd.C_drewN ?_ _) | (with_reducible refine Kd.C_drew ?_))); (case side2 => exact HC3.out); rintro e w14 ⟨rfl, hb⟩; refine ⟨_, rfl, ?_⟩; have n0_ := Aside0.mk (Kd.R_below (by (with_reducible repeat (first | apply Kd.R_alloc | apply Kd.R_drewN | apply Kd.R_drew)); exact HO190.out) hb); have n1_ := Aside0.mk (below_step (by repeat (first | (with_reducible first | exact HB.out | apply below_alloc | apply pw_below_drewN | apply below_drew1) | exact HB.out)) hb); clear HO190; clear HB; have HO190 := n0_; have HB := n1_; clear n0_ n1_; (try clear hb); (try clear hb2); (try clear hk); (try clear hi)))
      go_meet
      case rel => exact ⟨_, (false), (by first | rfl | (simp; done) | (simp [*]; done)), H', ⟨by first | omega | exact Nat.le_refl _⟩, ⟨by repeat (first | (with_reducible first | exact HB.out | apply below_alloc | apply pw_below_drewN | apply below_drew1) | exact HB.out)⟩⟩
  case rest =>
    clear HC6
    try clear c1
    try clear p2
    try clear c3
    try clear c4
    try clear p6
    try clear c8
    try clear c10
    obtain ⟨kq, x11_5, rfl, HA, HJ5, HB⟩ := hcut
    cases kq with
    | zero => exact absurd HA.out (by simp [impl_AllDryAt.j0])
    | succ kj5 =>
      have H := HA.out
      clear HA
      simp only [impl_AllDryAt.j0] at H
      replace H := Option.bind_eq_some_iff.mp H
      obtain ⟨t194, A150, H⟩ := H
      replace H : ((impl_unless.f x11_5 2).bind fun t195 => ((impl_fewHung.f l1).bind fun t196 => ((impl_firstOf.f kj5 (([t194, t195, t196] : List Int))).bind fun t200 => (if t200 = 0 then (if 0 ≤ (wrap64 ((wrap64 (24 - a2)) + 1)) then (if (wrap64 ((wrap64 (24 - a2)) + 1) : Int).toNat ≤ 35184372088832 then (impl_AllDryAt.l0 kj5 a2 l3 l0 (List.replicate (wrap64 ((wrap64 (24 - a2)) + 1) : Int).toNat 0) l1 (l1.length : Int) 0) else (none)) else (none)) else (some (0, t200)))))) = some (r1, r2) := H
      have A15 := Aside0.mk A150
      clear A150
      replace H := Option.bind_eq_some_iff.mp H
      obtain ⟨t195, A160, H⟩ := H
      replace H : ((impl_fewHung.f l1).bind fun t196 => ((impl_firstOf.f kj5 (([t194, t195, t196] : List Int))).bind fun t200 => (if t200 = 0 then (if 0 ≤ (wrap64 ((wrap64 (24 - a2)) + 1)) then (if (wrap64 ((wrap64 (24 - a2)) + 1) : Int).toNat ≤ 35184372088832 then (impl_AllDryAt.l0 kj5 a2 l3 l0 (List.replicate (wrap64 ((wrap64 (24 - a2)) + 1) : Int).toNat 0) l1 (l1.length : Int) 0) else (none)) else (none)) else (some (0, t200))))) = some (r1, r2) := H
      have A16 := Aside0.mk A160
      clear A160
      replace H := Option.bind_eq_some_iff.mp H
      obtain ⟨t196, A170, H⟩ := H
      replace H : ((impl_firstOf.f kj5 (([t194, t195, t196] : List Int))).bind fun t200 => (if t200 = 0 then (if 0 ≤ (wrap64 ((wrap64 (24 - a2)) + 1)) then (if (wrap64 ((wrap64 (24 - a2)) + 1) : Int).toNat ≤ 35184372088832 then (impl_AllDryAt.l0 kj5 a2 l3 l0 (List.replicate (wrap64 ((wrap64 (24 - a2)) + 1) : Int).toNat 0) l1 (l1.length : Int) 0) else (none)) else (none)) else (some (0, t200)))) = some (r1, r2) := H
      have A17 := Aside0.mk A170
      clear A170
      obtain ⟨y197, hy197⟩ : ∃ y_ : List Int, y_ = (([t194, t195, t196] : List Int)) := ⟨_, rfl⟩
      replace H : ((impl_firstOf.f kj5 y197).bind fun t200 => (if t200 = 0 then (if 0 ≤ (wrap64 ((wrap64 (24 - a2)) + 1)) then (if (wrap64 ((wrap64 (24 - a2)) + 1) : Int).toNat ≤ 35184372088832 then (impl_AllDryAt.l0 kj5 a2 l3 l0 (List.replicate (wrap64 ((wrap64 (24 - a2)) + 1) : Int).toNat 0) l1 (l1.length : Int) 0) else (none)) else (none)) else (some (0, t200)))) = some (r1, r2) := by first | (rw [hy197]; with_reducible exact H) | (have H2_ := (Option.bind_some _ _).symm.trans H; rw [hy197]; with_reducible exact H2_) | (have H2_ := (Option.bind_some _ _).symm.trans H; with_reducible exact H2_) | with_reducible exact H | (rw [hy197]; exact H) | exact H
      have Ny197 := Aside0.mk hy197
      clear hy197
      replace H := Option.bind_eq_some_iff.mp H
      obtain ⟨t200, A180, H⟩ := H
      replace H : (if t200 = 0 then (if 0 ≤ (wrap64 ((wrap64 (24 - a2)) + 1)) then (if (wrap64 ((wrap64 (24 - a2)) + 1) : Int).toNat ≤ 35184372088832 then (impl_AllDryAt.l0 kj5 a2 l3 l0 (List.replicate (wrap64 ((wrap64 (24 - a2)) + 1) : Int).toNat 0) l1 (l1.length : Int) 0) else (none)) else (none)) else (some (0, t200))) = some (r1, r2) := H
      have A18 := Aside0.mk A180
      clear A180
      by_cases c19 : t200 = 0
      · rw [if_pos c19] at H
        have c19b0 : (t200 == 0) = true := beq_iff_eq.mpr c19
        have c19b1 : (t200 != 0) = false := bne_eq_false_iff_eq.mpr c19
        clear c19
        obtain ⟨ji20, hji20⟩ : ∃ j_ : Int, (wrap64 ((wrap64 (24 - a2)) + 1)) = j_ := ⟨_, rfl⟩
        replace H : (if 0 ≤ (ji20) then (if (ji20 : Int).toNat ≤ 35184372088832 then (impl_AllDryAt.l0 kj5 a2 l3 l0 (List.replicate (ji20 : Int).toNat 0) l1 (l1.length : Int) 0) else (none)) else (none)) = some (r1, r2) := by first | (rw [hji20] at H; exact H) | (simp only [hji20] at H ⊢; exact H)
        (try rw [hji20] at A15)
        (try rw [hji20] at A16)
        (try rw [hji20] at A17)
        (try rw [hji20] at A18)
        have hji20w : (IntKind.i64.wrap ((wrap64 (24 - a2)) + 1)) = ji20 := (i64_w _).trans hji20
        by_cases c21 : 0 ≤ (ji20)
        · rw [if_pos c21] at H
          have c21b0 := eq_true c21
          have c21b1 : decide (0 ≤ (ji20)) = true := decide_eq_true c21
          clear c21
          by_cases c22 : (ji20 : Int).toNat ≤ 35184372088832
          · rw [if_pos c22] at H
            have c22b0 := eq_true c22
            have c22b1 : decide ((ji20 : Int).toNat ≤ 35184372088832) = true := decide_eq_true c22
            clear c22
            obtain ⟨y201, hy201⟩ : ∃ y_ : List Int, y_ = (List.replicate (ji20 : Int).toNat 0) := ⟨_, rfl⟩
            replace H : (impl_AllDryAt.l0 kj5 a2 l3 l0 y201 l1 (l1.length : Int) 0) = some (r1, r2) := by first | (rw [hy201]; with_reducible exact H) | (have H2_ := (Option.bind_some _ _).symm.trans H; rw [hy201]; with_reducible exact H2_) | (have H2_ := (Option.bind_some _ _).symm.trans H; with_reducible exact H2_) | with_reducible exact H | (rw [hy201]; exact H) | exact H
            have Ny201 := Aside0.mk hy201
            clear hy201
            have H' := Aside0.mk H
            clear H
            go_wp2_with (first | ((with_reducible refine gate_dst (N := 35) rfl ?_); refine wpList_load_row rfl 76 _ rfl gbD ?hx 76 (dayA l0) (0, 0) _ ?hg Try.underlying76 rfl ?hi ?_; (case hx => (show Value.pointer (some AD) = _; rw [HAD.out])); (case hg => exact day_still BKD.out (by repeat (first | (with_reducible first | exact HB.out | apply below_alloc | apply pw_below_drewN | apply below_drew1) | exact HB.out))); (case hi => exact day_info HC0.out)) | ((with_reducible refine gate_dst (N := 59) rfl ?_); refine wpList_load_row rfl 76 _ rfl gbD ?hx 76 (dayA l0) (0, 0) _ ?hg Try.underlying76 rfl ?hi ?_; (case hx => (show Value.pointer (some AD) = _; rw [HAD.out])); (case hg => exact day_still BKD.out (by repeat (first | (with_reducible first | exact HB.out | apply below_alloc | apply pw_below_drewN | apply below_drew1) | exact HB.out))); (case hi => exact day_info HC0.out)) | ((with_reducible refine gate_callee (f := 108) rfl ?_); refine goesL_ (some 38) rfl rfl Try.func108 (by kernel_rfl) rfl #[.agg (dayA l0), .slice A1 l1.length c1, .int .i64 a2, .int .i64 24] rfl (by (try simp only [List.map_toArray, List.map_cons, List.map_nil]); first | done | rfl | (simp only [List.length_drop, List.length_take]; rfl)) ?_; (with_reducible refine (impl_dayCode.calls kj5 l0 _ _ l1 a2 24 t194 _ HC0.out ?side3 ?side4 A15.out).mono ?_); (case side3 => repeat (first | exact (Kd.C_below HR1.out HB.out) | (with_reducible refine Kd.C_alloc ?_ _) | (with_reducible refine Kd.C_drewN ?_ _) | (with_reducible refine Kd.C_drew ?_))); (case side4 => exact HC1.out); rintro e w23 ⟨rfl, hb⟩; refine ⟨_, rfl, ?_⟩; have n0_ := Aside0.mk (below_step (by repeat (first | (with_reducible first | exact HB.out | apply below_alloc | apply pw_below_drewN | apply below_drew1) | exact HB.out)) hb); clear HB; have HB := n0_; clear n0_; (try clear hb); (try clear hb2); (try clear hk); (try clear hi)) | ((with_reducible refine gate_callee (f := 62) rfl ?_); refine goesL_ (some 40) rfl rfl Try.func62 (by kernel_rfl) rfl #[.bool x11_5, .int .i64 2] rfl (by (try simp only [List.map_toArray, List.map_cons, List.map_nil]); first | done | rfl | (simp only [List.length_drop, List.length_take]; rfl)) ?_; (with_reducible refine (impl_unless.calls x11_5 2 t195 _ A16.out).mono ?_); rintro e w' ⟨rfl, ⟨nd, rfl⟩⟩; refine ⟨_, rfl, ?_⟩) | ((with_reducible refine gate_callee (f := 109) rfl ?_); refine goesL_ (some 42) rfl rfl Try.func109 (by kernel_rfl) rfl #[.slice A1 l1.length c1] rfl (by (try simp only [List.map_toArray, List.map_cons, List.map_nil]); first | done | rfl | (simp only [List.length_drop, List.length_take]; rfl)) ?_; (with_reducible refine (impl_fewHung.calls _ _ l1 t196 _ ?side1 ?side2 A17.out).mono ?_); (case side1 => repeat (first | exact (Kd.C_below HR1.out (by repeat (first | (with_reducible first | exact HB.out | apply below_alloc | apply pw_below_drewN | apply below_drew1) | exact HB.out))) | (with_reducible refine Kd.C_alloc ?_ _) | (with_reducible refine Kd.C_drewN ?_ _) | (with_reducible refine Kd.C_drew ?_))); (case side2 => exact HC1.out); rintro e w' ⟨rfl, ⟨nd, rfl⟩⟩; refine ⟨_, rfl, ?_⟩) | ((with_reducible refine gate_dst (N := 43) rfl ?_); (try (refine gate_guard (by rfl) ?_; dsimp only)); refine Kd.R_lit (Kd.int .i64) _ 2 ?hg (N := 43) ?hd (xs := ([t194, t195, t196] : List Int)) (inner := [.int .i64 t194, .int .i64 t195, .int .i64 t196]) (ok := fun _ => True) (okp := fun _ => True) ?hr ?hp (fun _ hk => hk) trivial (Below.refl _ _) (Nat.le_refl _) (by simp) ?_; (case hd => rfl); (case hg => rfl); (case hr => first | (go_simp; done) | (go_simp; rfl)); (case hp => exact (Reps.one (show Kd.M (Kd.int .i64) _ _ _ t194 [.int .i64 t194] from rfl) (Reps.one (show Kd.M (Kd.int .i64) _ _ _ t195 [.int .i64 t195] from rfl) (Reps.one (show Kd.M (Kd.int .i64) _ _ _ t196 [.int .i64 t196] from rfl) (Reps.none _ _))))); intro v198 w24 ho25 hb hg_ hnew_; clear hg_ hnew_; (first | rw [← Ny197.out] at ho25 | (simp only [Int.reduceToNat] at ho25; rw [← Ny197.out] at ho25)); have n0_ := Aside0.mk (Kd.R_lower ho25 (below_size (by repeat (first | (with_reducible first | exact HB.out | apply below_alloc | apply pw_below_drewN | apply below_drew1) | exact HB.out)))); have n1_ := Aside0.mk (below_step (by repeat (first | (with_reducible first | exact HB.out | apply below_alloc | apply pw_below_drewN | apply below_drew1) | exact HB.out)) hb); clear HB; have HO199 := n0_; have HB := n1_; clear n0_ n1_; clear hb ho25; obtain ⟨Ao26, co26, eo26⟩ := Kd.R_slice HO199.out; subst eo26) | ((with_reducible refine gate_callee (f := 61) rfl ?_); refine goesL_ (some 44) rfl rfl Try.func61 (by kernel_rfl) rfl #[.slice Ao26 y197.length co26] rfl (by (try simp only [List.map_toArray, List.map_cons, List.map_nil]); first | done | rfl | (simp only [List.length_drop, List.length_take]; rfl)) ?_; (with_reducible refine (impl_firstOf.calls kj5 _ _ y197 t200 _ ?side1 ?side2 A18.out).mono ?_); (case side1 => repeat (first | exact (Kd.R_reads' HO199.out).2.2 | (with_reducible refine Kd.C_alloc ?_ _) | (with_reducible refine Kd.C_drewN ?_ _) | (with_reducible refine Kd.C_drew ?_))); (case side2 => exact (Kd.R_reads' HO199.out).2.1); rintro e w' ⟨rfl, ⟨nd, rfl⟩⟩; refine ⟨_, rfl, ?_⟩) | ((with_reducible refine gate_dst (N := 51) rfl ?_); (try (refine gate_guard (by rfl) ?_; dsimp only)); refine Kd.R_make (Kd.int .i64) _ 2 rfl (N := 51) rfl 49 _ _ rfl ji20 rfl rfl Try.underlying49 (.int .i64 0) 8 info2 rfl (by decide) (by omega) 0 (ok := fun _ => True) (okp := fun _ => True) rfl (fun _ hk => hk) trivial (of_decide_eq_true (by first | (with_reducible assumption) | assumption)) (Nat.le_trans (Nat.mul_le_mul_right _ (of_decide_eq_true (by first | (with_reducible assumption) | assumption) : ji20.toNat ≤ 35184372088832)) (by omega)) (Below.refl _ _) (Nat.le_refl _) ?_; intro v202 w27 ho28 hb hg_ hnew_; clear hg_ hnew_; (first | rw [← Ny201.out] at ho28 | (simp only [Int.reduceToNat] at ho28; rw [← Ny201.out] at ho28)); have n0_ := Aside0.mk (Kd.R_elder' (by (with_reducible repeat (first | apply Kd.R_alloc | apply Kd.R_drewN | apply Kd.R_drew)); exact HO199.out) (Kd.R_base ho28) hb); have n1_ := Aside0.mk (Kd.R_lower (Kd.R_new' ho28 (Kd.R_lt (by (with_reducible repeat (first | apply Kd.R_alloc | apply Kd.R_drewN | apply Kd.R_drew)); exact HO199.out))) (below_size (by repeat (first | (with_reducible first | exact HB.out | apply below_alloc | apply pw_below_drewN | apply below_drew1) | exact HB.out)))); have n2_ := Aside0.mk (below_step (by repeat (first | (with_reducible first | exact HB.out | apply below_alloc | apply pw_below_drewN | apply below_drew1) | exact HB.out)) hb); clear HO199; clear HB; have HO199 := n0_; have HO203 := n1_; have HB := n2_; clear n0_ n1_ n2_; clear hb ho28))
            go_loopg [54] kj5 (fun kq v54 w' => ∃ (x13_2 : List Int) (x54_2 : Int), v54 = .int .i64 x54_2 ∧ Aside0 (impl_AllDryAt.l0 kq a2 l3 l0 x13_2 l1 (l1.length : Int) x54_2 = some (r1, r2)) ∧ Aside0 (kq ≤ kj5) ∧ Aside0 (Kd.R (Kd.int .i64) 2 w' W1.heap.size (fun _ => True) v202 x13_2) ∧ Aside0 (Below W1.heap.size W1 w'))
            case atStart => exact ⟨(y201), (0), (by first | rfl | (simp; done) | (simp [*]; done)), H', ⟨Nat.le_refl _⟩, ⟨by (with_reducible repeat (first | apply Kd.R_alloc | apply Kd.R_drewN | apply Kd.R_drew)); exact Kd.R_mono HO203.out (fun _ hk => trivial)⟩, ⟨by repeat (first | (with_reducible first | exact HB.out | apply below_alloc | apply pw_below_drewN | apply below_drew1) | exact HB.out)⟩⟩
            case round =>
              clear H'
              try clear c1
              try clear c2
              try clear p2
              try clear c3
              try clear c4
              try clear c6
              try clear p6
              try clear c8
              try clear c10
              try clear c19
              try clear c19b0
              try clear c19b1
              try clear c21
              try clear c21b0
              try clear c21b1
              try clear c22
              try clear c22b0
              try clear c22b1
              try clear p2
              try clear p6
              obtain ⟨x13_2, x54_2, rfl, HA, HK2, HO_13, HB⟩ := hrel
              cases gk with
              | zero => exact absurd HA.out (by simp [impl_AllDryAt.l0])
              | succ k2 =>
                have H := HA.out
                clear HA
                simp only [impl_AllDryAt.l0] at H
                by_cases c29 : x54_2 < (l1.length : Int)
                · rw [if_pos c29] at H
                  have c29b0 : decide (x54_2 < (l1.length : Int)) = true := decide_eq_true c29
                  clear c29
                  by_cases c30 : 0 ≤ x54_2
                  · rw [if_pos c30] at H
                    have c30b0 : decide (0 ≤ x54_2) = true := decide_eq_true c30
                    clear c30
                    by_cases c31 : x54_2 < (l1.length : Int)
                    · rw [if_pos c31] at H
                      have c31b0 : decide (x54_2 < (l1.length : Int)) = true := decide_eq_true c31
                      clear c31
                      replace H := Option.bind_eq_some_iff.mp H
                      obtain ⟨t207, A320, H⟩ := H
                      replace H : ((impl_Day_course.f k2 l0 ((rd_T128 l1 x54_2).f0) ((rd_T128 l1 x54_2).f1) a2 (!t207)).bind fun t208 => (impl_AllDryAt.l1 k2 a2 l3 l0 x13_2 l1 (l1.length : Int) x54_2 t208 (t208.length : Int) 0)) = some (r1, r2) := H
                      have A32 := Aside0.mk A320
                      clear A320
                      replace H := Option.bind_eq_some_iff.mp H
                      obtain ⟨t208, A330, H⟩ := H
                      replace H : (impl_AllDryAt.l1 k2 a2 l3 l0 x13_2 l1 (l1.length : Int) x54_2 t208 (t208.length : Int) 0) = some (r1, r2) := H
                      have A33 := Aside0.mk A330
                      clear A330
                      have H' := Aside0.mk H
                      clear H
                      have p205 : 0 ≤ (x54_2 : Int) := of_decide_eq_true (by first | (with_reducible assumption) | assumption)
                      have q205 : x54_2 < (l1.length : Int) := of_decide_eq_true (by first | (with_reducible assumption) | assumption)
                      obtain ⟨ad205, e205, hx205_0, hx205_1⟩ := at_T128 HR1.out x54_2 p205 q205
                      cases e205
                      replace hx205_0 := (HB.out.cell (World.block_lt_of_cell? W1 _ hx205_0)).trans hx205_0
                      replace hx205_1 := (HB.out.cell (World.block_lt_of_cell? W1 _ hx205_1)).trans hx205_1
                      replace p205 := eq_true p205
                      replace q205 := eq_true q205
                      try go_wp2_with (first | ((with_reducible refine gate_dst (N := 15) rfl ?_); (try (refine gate_guard (by rfl) ?_; dsimp only)); refine box_event ?hg (N := 15) ?hd (cs := #[.int .i16 0, .int .i8 0]) (t := 128) ?hr ?_; (case hd => rfl); (case hg => rfl); (case hr => first | (go_simp; done) | (go_simp; rfl)); intro gb206 hg w34 hbox hb; have n0_ := Aside0.mk (Kd.R_below (by (with_reducible repeat (first | apply Kd.R_alloc | apply Kd.R_drewN | apply Kd.R_drew)); exact HO_13.out) hb); have n1_ := Aside0.mk (below_step (by repeat (first | (with_reducible first | exact HB.out | apply below_alloc | apply pw_below_drewN | apply below_drew1) | exact HB.out)) hb); have n2_ := Aside0.mk (hbox); have n3_ := Aside0.mk ((by rw [hg]; exact (below_size (by repeat (first | (with_reducible first | exact HB.out | apply below_alloc | apply pw_below_drewN | apply below_drew1) | exact HB.out))) : W1.heap.size ≤ gb206)); have n4_ := Aside0.mk ((by rw [hg]; exact (below_size (by repeat (first | (with_reducible first | exact HB.out | apply below_alloc | apply pw_below_drewN | apply below_drew1) | exact HB.out))) : W1.heap.size ≤ gb206)); clear HO_13; clear HB; have HO_13 := n0_; have HB := n1_; have BK206 := n2_; have GW206 := n3_; have GE206 := n4_; clear n0_ n1_ n2_ n3_ n4_; clear hb hbox hg; have hcz35_0 : w34.cell? ⟨gb206, 0, none⟩ = some (.int .i16 0) := (blk_cell BK206.out 0).trans rfl; have hcz35_1 : w34.cell? ⟨gb206, 1, none⟩ = some (.int .i8 0) := (blk_cell BK206.out 1).trans rfl; have hfz35_0 := blk_frozen BK206.out 0; have hfz35_1 := blk_frozen BK206.out 1))
                      have n0_ : Aside0 (Kd.R (Kd.int .i64) 2 ((w34.setCell ⟨gb206, 0, none⟩ (.int .i16 ((rd_T128 l1 x54_2).f0))).setCell ⟨gb206, 1, none⟩ (.int .i8 ((rd_T128 l1 x54_2).f1))) W1.heap.size (fun _ => True) v202 x13_2) := ⟨by (with_reducible repeat (first | apply Kd.R_alloc | apply Kd.R_drewN | apply Kd.R_drew)); exact Kd.R_mono (Kd.R_far (p := ⟨gb206, 1, none⟩) (Kd.R_far (p := ⟨gb206, 0, none⟩) (Kd.R_types HO_13.out BK206.out (by decide)) (fun _ hk => hk.2) (.int .i16 ((rd_T128 l1 x54_2).f0))) (fun _ hk => hk.2) (.int .i8 ((rd_T128 l1 x54_2).f1))) (fun _ hk => trivial)⟩
                      have n1_ : Aside0 (((w34.setCell ⟨gb206, 0, none⟩ (.int .i16 ((rd_T128 l1 x54_2).f0))).setCell ⟨gb206, 1, none⟩ (.int .i8 ((rd_T128 l1 x54_2).f1))).heap[gb206]? = some (.cells #[.int .i16 ((rd_T128 l1 x54_2).f0), .int .i8 ((rd_T128 l1 x54_2).f1)] 128 (0, 0))) := ⟨by (with_reducible repeat (first | refine blk_drewN ?_ _ | refine blk_drew ?_ | refine blk_alloc ?_ _)); refine blk_put (cs := #[.int .i16 ((rd_T128 l1 x54_2).f0), .int .i8 0]) ?_ 1 _ rfl; (with_reducible repeat (first | refine blk_drewN ?_ _ | refine blk_drew ?_ | refine blk_alloc ?_ _)); refine blk_put (cs := #[.int .i16 0, .int .i8 0]) ?_ 0 _ rfl; (with_reducible repeat (first | refine blk_drewN ?_ _ | refine blk_drew ?_ | refine blk_alloc ?_ _)); exact BK206.out⟩
                      have n2_ : Aside0 (Below W1.heap.size W1 ((w34.setCell ⟨gb206, 0, none⟩ (.int .i16 ((rd_T128 l1 x54_2).f0))).setCell ⟨gb206, 1, none⟩ (.int .i8 ((rd_T128 l1 x54_2).f1)))) := ⟨by repeat (first | (with_reducible first | exact HB.out | apply below_alloc | apply pw_below_drewN | apply below_drew1 | refine below_set ?_ GE206.out) | exact HB.out)⟩
                      (try clear HO_13)
                      (try clear BK206)
                      (try clear HB)
                      generalize ((w34.setCell ⟨gb206, 0, none⟩ (.int .i16 ((rd_T128 l1 x54_2).f0))).setCell ⟨gb206, 1, none⟩ (.int .i8 ((rd_T128 l1 x54_2).f1))) = w36 at n0_ n1_ n2_ ⊢
                      have HO_13 := n0_
                      have BK206 := n1_
                      have HB := n2_
                      clear n0_ n1_ n2_
                      have n0_ := Aside0.mk (Kd.R_drew HO_13.out)
                      have n1_ := Aside0.mk (blk_drew BK206.out)
                      have n2_ := Aside0.mk (below_drew1 HB.out)
                      clear HO_13
                      clear BK206
                      clear HB
                      have HO_13 := n0_
                      have BK206 := n1_
                      have HB := n2_
                      clear n0_ n1_ n2_
                      refine start_ (n := 10) (S := fun w' => w'.cell? ⟨gb206, 0, none⟩ = some (.int .i16 ((rd_T128 l1 x54_2).f0)) ∧ w'.cell? ⟨gb206, 1, none⟩ = some (.int .i8 ((rd_T128 l1 x54_2).f1)) ∧ w'.heap[gbD]? = some (.cells (dayA l0) 76 (0, 0))) (ds := []) #[false, false, false, false, false, false, false, false, false, false] (by kernel_rfl) rfl rfl ⟨(blk_cell BK206.out 0).trans rfl, (blk_cell BK206.out 1).trans rfl, day_still BKD.out HB.out⟩ (fun hHeld => ?_); refine with_tabW impl_AllDryAt.tab10 impl_AllDryAt.bits10 (fun HT_ HW_ => ?_)
                      generalize w36.drew = w37 at HO_13 BK206 HB hHeld ⊢
                      refine pure_ (i := 2) (N := some 61) (v := ?_) (a' := ?_) #[false, false, true, false, false, false, false, false, false, false] rfl rfl (any_of HT_.out (by kernel_rfl)) (fun _ _ _ h => h) (Or.inl ⟨by rfl, ?_⟩) ?_ ?_
                      rotate_left
                      · intro w'
                        go_simp
                        with_reducible rfl
                      rotate_left
                      · simp only [Act.put, List.setIfInBounds_toArray, List.set_cons_zero, List.set_cons_succ, i64_w, i32_w]
                        rfl
                      refine pure_ (i := 3) (N := some 62) (v := ?_) (a' := ?_) #[false, false, true, true, false, false, false, false, false, false] rfl rfl (any_of HT_.out (by kernel_rfl)) (fun _ _ _ h => h) (Or.inl ⟨by rfl, ?_⟩) ?_ ?_
                      rotate_left
                      · intro w'
                        go_simp
                        with_reducible rfl
                      rotate_left
                      · simp only [Act.put, List.setIfInBounds_toArray, List.set_cons_zero, List.set_cons_succ, i64_w, i32_w]
                        rfl
                      refine pure_ (i := 4) (N := some 63) (v := ?_) (a' := ?_) #[false, false, true, true, true, false, false, false, false, false] rfl rfl (any_of HT_.out (by kernel_rfl)) (fun _ _ _ h => h) (Or.inl ⟨by rfl, ?_⟩) ?_ ?_
                      rotate_left
                      · intro w'
                        go_simp
                        with_reducible rfl
                      rotate_left
                      · simp only [Act.put, List.setIfInBounds_toArray, List.set_cons_zero, List.set_cons_succ, i64_w, i32_w]
                        rfl
                      refine pure_ (i := 9) (N := some 68) (v := ?_) (a' := ?_) #[false, false, true, true, true, false, false, false, false, true] rfl rfl (any_of HT_.out (by kernel_rfl)) (fun _ _ _ h => h) (Or.inl ⟨by rfl, ?_⟩) ?_ ?_
                      rotate_left
                      · intro w'
                        go_simp
                        with_reducible rfl
                      rotate_left
                      · simp only [Act.put, List.setIfInBounds_toArray, List.set_cons_zero, List.set_cons_succ, i64_w, i32_w]
                        rfl
                      refine take_ (i := 0) (N := some 59) (v := ?_) (a' := ?_) #[true, false, true, true, true, false, false, false, false, true] rfl rfl (take_ofW HT_.out HW_.out (by kernel_rfl)) (fun _ _ _ h => h) (Or.inl ⟨by rfl, ?_⟩) hHeld ?_ ?_
                      rotate_left
                      · rintro w' ⟨s0, s1, s2⟩
                        refine day_load (x := .tmp 4) ?_ ?_ s2 Try.underlying76 (day_info HC0.out)
                        · rfl
                        · (show Value.pointer (some AD) = _; rw [HAD.out])
                      rotate_left
                      · simp only [Act.put, List.setIfInBounds_toArray, List.set_cons_zero, List.set_cons_succ, i64_w, i32_w]
                        rfl
                      refine take_ (i := 1) (N := some 60) (v := ?_) (a' := ?_) #[true, true, true, true, true, false, false, false, false, true] rfl rfl (take_ofW HT_.out HW_.out (by kernel_rfl)) (fun _ _ _ h => h) (Or.inl ⟨by rfl, ?_⟩) hHeld ?_ ?_
                      rotate_left
                      · rintro w' ⟨s0, s1, s2⟩
                        go_simp
                        with_reducible rfl
                      rotate_left
                      · simp only [Act.put, List.setIfInBounds_toArray, List.set_cons_zero, List.set_cons_succ, i64_w, i32_w]
                        rfl
                      refine one_ (i := 5) (N := some 64) #[true, true, true, true, true, true, false, false, false, true] rfl rfl (one_of HT_.out (by kernel_rfl)) (by decide) (fun K hK => ?_)
                      refine goes_ Try.func111 (by kernel_rfl) rfl #[.slice A3 l3.length c3, .int .i64 x54_2] (by rfl) rfl rfl (by (try simp only [List.map_toArray, List.map_cons, List.map_nil]); first | done | rfl | (simp only [List.length_drop, List.length_take]; rfl)) ?_
                      with_reducible refine (slices_Contains_int64_int64.calls k2 _ _ l3 x54_2 t207 _ ?side1 ?side2 A32.out).mono ?_
                      (case side1 => repeat (first | exact (Kd.C_below HR3.out HB.out) | (with_reducible refine Kd.C_alloc ?_ _) | (with_reducible refine Kd.C_drewN ?_ _) | (with_reducible refine Kd.C_drew ?_)))
                      (case side2 => exact HC3.out)
                      rintro e w' ⟨rfl, ⟨nd, rfl⟩⟩
                      refine ⟨_, rfl, ?_⟩
                      refine hK.out _ _ ⟨(blk_cell BK206.out 0).trans rfl, (blk_cell BK206.out 1).trans rfl, day_still BKD.out (by repeat (first | (with_reducible first | exact HB.out | apply below_alloc | apply pw_below_drewN | apply below_drew1) | exact HB.out))⟩ (fun hHeld => ?_)
                      clear hK K
                      refine norm_ (a' := ?_) ?_ ?_
                      rotate_left
                      · show Act.put _ (some 64) _ = _
                        simp only [Act.put, List.setIfInBounds_toArray, List.set_cons_zero, List.set_cons_succ, i64_w, i32_w]
                        rfl
                      refine pure_ (i := 6) (N := some 65) (v := ?_) (a' := ?_) #[true, true, true, true, true, true, true, false, false, true] rfl rfl (any_of HT_.out (by kernel_rfl)) (fun _ _ _ h => h) (Or.inl ⟨by rfl, ?_⟩) ?_ ?_
                      rotate_left
                      · intro w'
                        go_simp
                        with_reducible rfl
                      rotate_left
                      · simp only [Act.put, List.setIfInBounds_toArray, List.set_cons_zero, List.set_cons_succ, i64_w, i32_w]
                        rfl
                      refine one_ (i := 7) (N := some 66) #[true, true, true, true, true, true, true, true, false, true] rfl rfl (one_of HT_.out (by kernel_rfl)) (by decide) (fun K hK => ?_)
                      refine goes_ Try.func110 (by kernel_rfl) rfl #[.agg (dayA l0), .agg #[.int .i16 ((rd_T128 l1 x54_2).f0), .int .i8 ((rd_T128 l1 x54_2).f1)], .int .i64 a2, .bool (!t207)] (by rfl) rfl rfl (by (try simp only [List.map_toArray, List.map_cons, List.map_nil]); first | done | rfl | (simp only [List.length_drop, List.length_take]; rfl)) ?_
                      with_reducible refine (impl_Day_course.calls k2 l0 ((rd_T128 l1 x54_2).f0) ((rd_T128 l1 x54_2).f1) a2 (!t207) t208 _ HC0.out A33.out).mono ?_
                      
                      
                      rintro e w38 ⟨v209, rfl, ho0, hb⟩
                      refine ⟨_, rfl, ?_⟩
                      have n0_ := Aside0.mk (Kd.R_elder' (by (with_reducible repeat (first | apply Kd.R_alloc | apply Kd.R_drewN | apply Kd.R_drew)); exact HO_13.out) (Kd.R_base ho0) hb)
                      have n1_ := Aside0.mk (Kd.R_lower (Kd.R_new' ho0 (Kd.R_lt (by (with_reducible repeat (first | apply Kd.R_alloc | apply Kd.R_drewN | apply Kd.R_drew)); exact HO_13.out))) (below_size (by repeat (first | (with_reducible first | exact HB.out | apply below_alloc | apply pw_below_drewN | apply below_drew1 | refine below_set ?_ GE206.out) | exact HB.out))))
                      have n2_ := Aside0.mk (blk_below (g := gb206) (o := .cells #[.int .i16 ((rd_T128 l1 x54_2).f0), .int .i8 ((rd_T128 l1 x54_2).f1)] 128 (0, 0)) (by (with_reducible repeat (first | refine blk_drewN ?_ _ | refine blk_drew ?_ | refine blk_alloc ?_ _)); exact BK206.out) hb)
                      have n3_ := Aside0.mk (below_step (by repeat (first | (with_reducible first | exact HB.out | apply below_alloc | apply pw_below_drewN | apply below_drew1 | refine below_set ?_ GE206.out) | exact HB.out)) hb)
                      clear HO_13
                      clear BK206
                      clear HB
                      have HO_13 := n0_
                      have HO210 := n1_
                      have BK206 := n2_
                      have HB := n3_
                      clear n0_ n1_ n2_ n3_
                      (try clear hb)
                      (try clear hb2)
                      (try clear hk)
                      (try clear hi)
                      (try clear ho0)
                      obtain ⟨Ao39, co39, eo39⟩ := Kd.R_slice HO210.out
                      (first | subst eo39 | (injection eo39 with f1_ f2_ f3_; have f4_ := f1_.symm; have f5_ := f3_.symm; clear f1_ f2_ f3_; subst f4_; subst f5_))
                      refine hK.out _ _ ⟨(blk_cell BK206.out 0).trans rfl, (blk_cell BK206.out 1).trans rfl, day_still BKD.out (by repeat (first | (with_reducible first | exact HB.out | apply below_alloc | apply pw_below_drewN | apply below_drew1) | exact HB.out))⟩ (fun hHeld => ?_)
                      clear hK K
                      refine norm_ (a' := ?_) ?_ ?_
                      rotate_left
                      · show Act.put _ (some 66) _ = _
                        simp only [Act.put, List.setIfInBounds_toArray, List.set_cons_zero, List.set_cons_succ, i64_w, i32_w]
                        rfl
                      refine pure_ (i := 8) (N := some 67) (v := ?_) (a' := ?_) #[true, true, true, true, true, true, true, true, true, true] rfl rfl (any_of HT_.out (by kernel_rfl)) (fun _ _ _ h => h) (Or.inl ⟨by rfl, ?_⟩) ?_ ?_
                      rotate_left
                      · intro w'
                        go_simp
                        with_reducible rfl
                      rotate_left
                      · simp only [Act.put, List.setIfInBounds_toArray, List.set_cons_zero, List.set_cons_succ, i64_w, i32_w]
                        rfl
                      refine done_ (done_of HT_.out (by kernel_rfl)) ?_
                      try go_wp2
                      go_loopg [68] k2 (fun kq v68 w' => ∃ (x13_3 : List Int) (x68_3 : Int), v68 = .int .i64 x68_3 ∧ Aside0 (impl_AllDryAt.l1 kq a2 l3 l0 x13_3 l1 (l1.length : Int) x54_2 t208 (t208.length : Int) x68_3 = some (r1, r2)) ∧ Aside0 (kq ≤ k2) ∧ Aside0 (Kd.R (Kd.int .i64) 2 w' W1.heap.size (fun k_ => some k_ ≠ ((.slice Ao39 t208.length co39) : Value).ownBlock) v202 x13_3) ∧ Aside0 (Kd.R (Kd.int .i64) 2 w' W1.heap.size (fun k_ => some k_ ≠ (v202 : Value).ownBlock) (.slice Ao39 t208.length co39) t208) ∧ Aside0 (w'.heap[gb206]? = some (.cells #[.int .i16 ((rd_T128 l1 x54_2).f0), .int .i8 ((rd_T128 l1 x54_2).f1)] 128 (0, 0))) ∧ Aside0 (Below W1.heap.size W1 w'))
                      case atStart => exact ⟨(x13_2), (0), (by first | rfl | (simp; done) | (simp [*]; done)), H', ⟨Nat.le_refl _⟩, ⟨by (with_reducible repeat (first | apply Kd.R_alloc | apply Kd.R_drewN | apply Kd.R_drew)); exact Kd.R_mono HO_13.out (fun _ hk => hk.2)⟩, ⟨by (with_reducible repeat (first | apply Kd.R_alloc | apply Kd.R_drewN | apply Kd.R_drew)); exact Kd.R_mono HO210.out (fun _ hk => hk.2)⟩, ⟨by (with_reducible repeat (first | refine blk_drewN ?_ _ | refine blk_drew ?_ | refine blk_alloc ?_ _)); exact BK206.out⟩, ⟨by repeat (first | (with_reducible first | exact HB.out | apply below_alloc | apply pw_below_drewN | apply below_drew1 | refine below_set ?_ GE206.out) | exact HB.out)⟩⟩
                      case round =>
                        clear H'
                        try clear c1
                        try clear c2
                        try clear p2
                        try clear q2
                        try clear hx2
                        try clear c3
                        try clear c4
                        try clear c6
                        try clear p6
                        try clear c8
                        try clear c10
                        try clear c11
                        try clear c19
                        try clear c19b0
                        try clear c19b1
                        try clear p20
                        try clear q20
                        try clear hx20
                        try clear c21
                        try clear c21b0
                        try clear c21b1
                        try clear c22
                        try clear c22b0
                        try clear c22b1
                        try clear c29
                        try clear c29b0
                        try clear c30
                        try clear c30b0
                        try clear c31
                        try clear c31b0
                        try clear hcz35_0
                        try clear hcz35_1
                        try clear hfz35_0
                        try clear hfz35_1
                        try clear hx205_0
                        try clear hx205_1
                        try clear p2
                        try clear p205
                        try clear p6
                        try clear q205
                        obtain ⟨x13_3, x68_3, rfl, HA, HK3, HO_13, HO_66, BK206, HB⟩ := hrel
                        cases gk with
                        | zero => exact absurd HA.out (by simp [impl_AllDryAt.l1])
                        | succ k3 =>
                          have H := HA.out
                          clear HA
                          simp only [impl_AllDryAt.l1] at H
                          by_cases c40 : x68_3 < (t208.length : Int)
                          · rw [if_pos c40] at H
                            have c40b0 : decide (x68_3 < (t208.length : Int)) = true := decide_eq_true c40
                            clear c40
                            by_cases c41 : 0 ≤ x68_3
                            · rw [if_pos c41] at H
                              have c41b0 : decide (0 ≤ x68_3) = true := decide_eq_true c41
                              clear c41
                              by_cases c42 : x68_3 < (t208.length : Int)
                              · rw [if_pos c42] at H
                                have c42b0 : decide (x68_3 < (t208.length : Int)) = true := decide_eq_true c42
                                clear c42
                                by_cases c43 : x68_3 < (x13_3.length : Int)
                                · rw [if_pos c43] at H
                                  have c43b0 : decide (x68_3 < (x13_3.length : Int)) = true := decide_eq_true c43
                                  clear c43
                                  obtain ⟨y213, hy213⟩ : ∃ y_ : List Int, y_ = (x13_3.set (x68_3 : Int).toNat (wrap64 ((rd x13_3 x68_3) + (rd t208 x68_3)))) := ⟨_, rfl⟩
                                  replace H : (impl_AllDryAt.l1 k3 a2 l3 l0 y213 l1 (l1.length : Int) x54_2 t208 (t208.length : Int) (wrap64 (x68_3 + 1))) = some (r1, r2) := by first | (rw [hy213]; with_reducible exact H) | (have H2_ := (Option.bind_some _ _).symm.trans H; rw [hy213]; with_reducible exact H2_) | (have H2_ := (Option.bind_some _ _).symm.trans H; with_reducible exact H2_) | with_reducible exact H | (rw [hy213]; exact H) | exact H
                                  have Ny213 := Aside0.mk hy213
                                  clear hy213
                                  have H' := Aside0.mk H
                                  clear H
                                  have p211 : 0 ≤ (x68_3 : Int) := of_decide_eq_true (by first | (with_reducible assumption) | assumption)
                                  have q211 : x68_3 < (t208.length : Int) := of_decide_eq_true (by first | (with_reducible assumption) | assumption)
                                  obtain ⟨ad211, e211, hx211_0⟩ := Kd.at_int (Kd.R_reads' HO_66.out).2.2 x68_3 p211 q211
                                  cases e211
                                  replace p211 := eq_true p211
                                  replace q211 := eq_true q211
                                  obtain ⟨Ao45, co45, eo45⟩ := Kd.R_slice HO_13.out
                                  subst eo45
                                  have p212 : 0 ≤ (x68_3 : Int) := of_decide_eq_true (by first | (with_reducible assumption) | assumption)
                                  have q212 : x68_3 < (x13_3.length : Int) := of_decide_eq_true (by first | (with_reducible assumption) | assumption)
                                  obtain ⟨ad212, e212, hx212_0⟩ := Kd.at_int (Kd.R_reads' HO_13.out).2.2 x68_3 p212 q212
                                  cases e212
                                  replace p212 := eq_true p212
                                  replace q212 := eq_true q212
                                  have p44 : 0 ≤ (x68_3 : Int) := of_decide_eq_true (by first | (with_reducible assumption) | assumption)
                                  have q44 : (x68_3 : Int) < ((x13_3.length : Int) : Int) := of_decide_eq_true (by first | (with_reducible assumption) | assumption)
                                  obtain ⟨go44, co44, eo44, gb44, gl44, cl44, HG44⟩ := Kd.R_form HO_13.out (by omega)
                                  (first | cases eo44 | (injection eo44 with ea_ en_ ec_; (first | subst ea_ | (injection ea_ with ea_; subst ea_)); subst ec_; clear en_))
                                  have GB44 := Aside0.mk gb44
                                  have GG44 := Aside0.mk HG44
                                  clear gb44 gl44 HG44
                                  (first | simp only [add_plain] at hx212_0 | skip)
                                  obtain ⟨hx44_0, hf44_0⟩ := Kd.R_celln 0 HO_13.out (x68_3 : Int) p44 q44
                                  replace p44 := eq_true p44
                                  replace q44 := eq_true q44
                                  have HP46 := Kd.R_putg HO_13.out (x68_3 : Int) (wrap64 ((rd x13_3 x68_3) + (rd t208 x68_3)))
                                  go_wp2_with (first | ((with_reducible refine gate_dst (N := 35) rfl ?_); refine wpList_load_row rfl 76 _ rfl gbD ?hx 76 (dayA l0) (0, 0) _ ?hg Try.underlying76 rfl ?hi ?_; (case hx => (show Value.pointer (some AD) = _; rw [HAD.out])); (case hg => exact day_still BKD.out (by repeat (first | (with_reducible first | exact HB.out | apply below_alloc | apply pw_below_drewN | apply below_drew1) | exact HB.out))); (case hi => exact day_info HC0.out)) | ((with_reducible refine gate_dst (N := 59) rfl ?_); refine wpList_load_row rfl 76 _ rfl gbD ?hx 76 (dayA l0) (0, 0) _ ?hg Try.underlying76 rfl ?hi ?_; (case hx => (show Value.pointer (some AD) = _; rw [HAD.out])); (case hg => exact day_still BKD.out (by repeat (first | (with_reducible first | exact HB.out | apply below_alloc | apply pw_below_drewN | apply below_drew1) | exact HB.out))); (case hi => exact day_info HC0.out)) | ((with_reducible refine gate_store (t := 2) (p := 79) rfl ?_); refine store_event (t := 2) (p := 79) (v := ?vo_w47) (w1 := (wr.setCell ⟨go44, (x68_3 : Int).toNat, none⟩ (.int .i64 (wrap64 ((rd x13_3 x68_3) + (rd t208 x68_3)))))) ?hg ?ho ?hn ?hr ?_; (case ho => rfl); (case hg => rfl); (case hn => rfl); (case hr => first | (go_simp; done) | (go_simp; rfl)); intro w47 hw; have hg : wr.grownBy w47 (some go44) := (by rw [hw]; exact HP46.2); have hp_ : Kd.R (Kd.int .i64) 2 w47 W1.heap.size (fun k_ => some k_ ≠ (.slice (some ad211) t208.length co39 : Value).ownBlock) (.slice (some ⟨go44, 0, none⟩) x13_3.length co45) y213 := (by rw [hw, Ny213.out]; exact HP46.1); clear HP46; have n0_ := Aside0.mk (hp_); have n1_ := Aside0.mk (Kd.R_after (v := (.slice (some ⟨go44, 0, none⟩) x13_3.length co45)) (v1 := (.slice (some ⟨go44, 0, none⟩) x13_3.length co45)) (ok := (fun _ => True)) (by (with_reducible repeat (first | apply Kd.R_alloc | apply Kd.R_drewN | apply Kd.R_drew)); exact Kd.R_mono HO_66.out (fun _ hk => ⟨trivial, hk⟩)) hg (.inl rfl)); have n2_ := Aside0.mk (blk_grown (g := gb206) (o := .cells #[.int .i16 ((rd_T128 l1 x54_2).f0), .int .i8 ((rd_T128 l1 x54_2).f1)] 128 (0, 0)) (by (with_reducible repeat (first | refine blk_drewN ?_ _ | refine blk_drew ?_ | refine blk_alloc ?_ _)); exact BK206.out) hg (Kd.R_ne HO_13.out BK206.out (by decide))); have n3_ := Aside0.mk ((by rw [hw]; exact below_set (HB.out) GB44.out : Below W1.heap.size W1 w47)); clear HO_13; clear HO_66; clear BK206; clear HB; have HO_13 := n0_; have HO_66 := n1_; have BK206 := n2_; have HB := n3_; clear n0_ n1_ n2_ n3_; clear hg hw hp_))
                                  go_roundg k3
                                  case measure => have := HJ5.out; have := HK2.out; have := HK3.out; omega
                                  case rel => exact ⟨(y213), (wrap64 (x68_3 + 1)), (by first | rfl | (simp; done) | (simp [*]; done)), H', ⟨by have := HJ5.out; have := HK2.out; have := HK3.out; omega⟩, ⟨by (with_reducible repeat (first | apply Kd.R_alloc | apply Kd.R_drewN | apply Kd.R_drew)); exact HO_13.out⟩, ⟨by (with_reducible repeat (first | apply Kd.R_alloc | apply Kd.R_drewN | apply Kd.R_drew)); exact Kd.R_mono HO_66.out (fun _ hk => hk.2)⟩, ⟨by (with_reducible repeat (first | refine blk_drewN ?_ _ | refine blk_drew ?_ | refine blk_alloc ?_ _)); exact BK206.out⟩, ⟨by repeat (first | (with_reducible first | exact HB.out | apply below_alloc | apply pw_below_drewN | apply below_drew1 | refine below_set ?_ GE206.out) | exact HB.out)⟩⟩
                                · rw [if_neg c43] at H
                                  exact absurd H (by simp)
                              · rw [if_neg c42] at H
                                exact absurd H (by simp)
                            · rw [if_neg c41] at H
                              exact absurd H (by simp)
                          · rw [if_neg c40] at H
                            have c40b0 : decide (x68_3 < (t208.length : Int)) = false := decide_eq_false c40
                            clear c40
                            have H' := Aside0.mk H
                            clear H
                            go_wp2
                            go_roundg k3
                            case measure => have := HJ5.out; have := HK2.out; have := HK3.out; omega
                            case rel => exact ⟨(x13_3), (wrap64 (x54_2 + 1)), (by first | rfl | (simp; done) | (simp [*]; done)), H', ⟨by have := HJ5.out; have := HK2.out; have := HK3.out; omega⟩, ⟨by (with_reducible repeat (first | apply Kd.R_alloc | apply Kd.R_drewN | apply Kd.R_drew)); exact Kd.R_mono HO_13.out (fun _ hk => trivial)⟩, ⟨by repeat (first | (with_reducible first | exact HB.out | apply below_alloc | apply pw_below_drewN | apply below_drew1 | refine below_set ?_ GE206.out) | exact HB.out)⟩⟩
                    · rw [if_neg c31] at H
                      exact absurd H (by simp)
                  · rw [if_neg c30] at H
                    exact absurd H (by simp)
                · rw [if_neg c29] at H
                  have c29b0 : decide (x54_2 < (l1.length : Int)) = false := decide_eq_false c29
                  clear c29
                  replace H := Option.bind_eq_some_iff.mp H
                  obtain ⟨t204, A480, H⟩ := H
                  replace H : (if t204 < 0 then (some (0, 6)) else (some (wrap64 (a2 + t204), 0))) = some (r1, r2) := H
                  have A48 := Aside0.mk A480
                  clear A480
                  by_cases c49 : t204 < 0
                  · rw [if_pos c49] at H
                    have c49b0 : decide (t204 < 0) = true := decide_eq_true c49
                    clear c49
                    simp only [Option.some.injEq, Prod.mk.injEq] at H
                    obtain ⟨rfl, rfl⟩ := H
                    obtain ⟨Ao50, co50, eo50⟩ := Kd.R_slice HO_13.out
                    subst eo50
                    go_wp2_with (first | ((with_reducible refine gate_dst (N := 35) rfl ?_); refine wpList_load_row rfl 76 _ rfl gbD ?hx 76 (dayA l0) (0, 0) _ ?hg Try.underlying76 rfl ?hi ?_; (case hx => (show Value.pointer (some AD) = _; rw [HAD.out])); (case hg => exact day_still BKD.out (by repeat (first | (with_reducible first | exact HB.out | apply below_alloc | apply pw_below_drewN | apply below_drew1) | exact HB.out))); (case hi => exact day_info HC0.out)) | ((with_reducible refine gate_dst (N := 59) rfl ?_); refine wpList_load_row rfl 76 _ rfl gbD ?hx 76 (dayA l0) (0, 0) _ ?hg Try.underlying76 rfl ?hi ?_; (case hx => (show Value.pointer (some AD) = _; rw [HAD.out])); (case hg => exact day_still BKD.out (by repeat (first | (with_reducible first | exact HB.out | apply below_alloc | apply pw_below_drewN | apply below_drew1) | exact HB.out))); (case hi => exact day_info HC0.out)) | ((with_reducible refine gate_callee (f := 112) rfl ?_); refine goesL_ (some 83) rfl rfl Try.func112 (by kernel_rfl) rfl #[.slice Ao50 x13_2.length co50, .int .i64 0] rfl (by (try simp only [List.map_toArray, List.map_cons, List.map_nil]); first | done | rfl | (simp only [List.length_drop, List.length_take]; rfl)) ?_; (with_reducible refine (slices_Index_int64_int64.calls k2 _ _ x13_2 0 t204 _ ?side1 ?side2 A48.out).mono ?_); (case side1 => repeat (first | exact (Kd.R_reads' HO_13.out).2.2 | (with_reducible refine Kd.C_alloc ?_ _) | (with_reducible refine Kd.C_drewN ?_ _) | (with_reducible refine Kd.C_drew ?_))); (case side2 => exact (Kd.R_reads' HO_13.out).2.1); rintro e w' ⟨rfl, ⟨nd, rfl⟩⟩; refine ⟨_, rfl, ?_⟩))
                    go_ret2
                    refine low_b HW.out ?_
                    exact ⟨by first | rfl | (simp [errW_none, errW_some] <;> rfl) | (simp only [← hji20]; first | rfl | (simp [errW_none, errW_some] <;> rfl)) | (simp [*, errW_none, errW_some] <;> rfl), by repeat (first | (with_reducible first | exact HB.out | apply below_alloc | apply pw_below_drewN | apply below_drew1) | exact HB.out)⟩
                  · rw [if_neg c49] at H
                    have c49b0 : decide (t204 < 0) = false := decide_eq_false c49
                    clear c49
                    simp only [Option.some.injEq, Prod.mk.injEq] at H
                    obtain ⟨rfl, rfl⟩ := H
                    obtain ⟨Ao51, co51, eo51⟩ := Kd.R_slice HO_13.out
                    subst eo51
                    go_wp2_with (first | ((with_reducible refine gate_dst (N := 35) rfl ?_); refine wpList_load_row rfl 76 _ rfl gbD ?hx 76 (dayA l0) (0, 0) _ ?hg Try.underlying76 rfl ?hi ?_; (case hx => (show Value.pointer (some AD) = _; rw [HAD.out])); (case hg => exact day_still BKD.out (by repeat (first | (with_reducible first | exact HB.out | apply below_alloc | apply pw_below_drewN | apply below_drew1) | exact HB.out))); (case hi => exact day_info HC0.out)) | ((with_reducible refine gate_dst (N := 59) rfl ?_); refine wpList_load_row rfl 76 _ rfl gbD ?hx 76 (dayA l0) (0, 0) _ ?hg Try.underlying76 rfl ?hi ?_; (case hx => (show Value.pointer (some AD) = _; rw [HAD.out])); (case hg => exact day_still BKD.out (by repeat (first | (with_reducible first | exact HB.out | apply below_alloc | apply pw_below_drewN | apply below_drew1) | exact HB.out))); (case hi => exact day_info HC0.out)) | ((with_reducible refine gate_callee (f := 112) rfl ?_); refine goesL_ (some 83) rfl rfl Try.func112 (by kernel_rfl) rfl #[.slice Ao51 x13_2.length co51, .int .i64 0] rfl (by (try simp only [List.map_toArray, List.map_cons, List.map_nil]); first | done | rfl | (simp only [List.length_drop, List.length_take]; rfl)) ?_; (with_reducible refine (slices_Index_int64_int64.calls k2 _ _ x13_2 0 t204 _ ?side1 ?side2 A48.out).mono ?_); (case side1 => repeat (first | exact (Kd.R_reads' HO_13.out).2.2 | (with_reducible refine Kd.C_alloc ?_ _) | (with_reducible refine Kd.C_drewN ?_ _) | (with_reducible refine Kd.C_drew ?_))); (case side2 => exact (Kd.R_reads' HO_13.out).2.1); rintro e w' ⟨rfl, ⟨nd, rfl⟩⟩; refine ⟨_, rfl, ?_⟩))
                    go_ret2
                    refine low_b HW.out ?_
                    exact ⟨by first | rfl | (simp [errW_none, errW_some] <;> rfl) | (simp only [← hji20]; first | rfl | (simp [errW_none, errW_some] <;> rfl)) | (simp [*, errW_none, errW_some] <;> rfl), by repeat (first | (with_reducible first | exact HB.out | apply below_alloc | apply pw_below_drewN | apply below_drew1) | exact HB.out)⟩
          · rw [if_neg c22] at H
            exact absurd H (by simp)
        · rw [if_neg c21] at H
          exact absurd H (by simp)
      · rw [if_neg c19] at H
        have c19b0 : (t200 == 0) = false := beq_eq_false_iff_ne.mpr c19
        have c19b1 : (t200 != 0) = true := bne_iff_ne.mpr c19
        simp only [Option.some.injEq, Prod.mk.injEq] at H
        obtain ⟨rfl, rfl⟩ := H
        go_wp2_with (first | ((with_reducible refine gate_dst (N := 35) rfl ?_); refine wpList_load_row rfl 76 _ rfl gbD ?hx 76 (dayA l0) (0, 0) _ ?hg Try.underlying76 rfl ?hi ?_; (case hx => (show Value.pointer (some AD) = _; rw [HAD.out])); (case hg => exact day_still BKD.out (by repeat (first | (with_reducible first | exact HB.out | apply below_alloc | apply pw_below_drewN | apply below_drew1) | exact HB.out))); (case hi => exact day_info HC0.out)) | ((with_reducible refine gate_dst (N := 59) rfl ?_); refine wpList_load_row rfl 76 _ rfl gbD ?hx 76 (dayA l0) (0, 0) _ ?hg Try.underlying76 rfl ?hi ?_; (case hx => (show Value.pointer (some AD) = _; rw [HAD.out])); (case hg => exact day_still BKD.out (by repeat (first | (with_reducible first | exact HB.out | apply below_alloc | apply pw_below_drewN | apply below_drew1) | exact HB.out))); (case hi => exact day_info HC0.out)) | ((with_reducible refine gate_callee (f := 108) rfl ?_); refine goesL_ (some 38) rfl rfl Try.func108 (by kernel_rfl) rfl #[.agg (dayA l0), .slice A1 l1.length c1, .int .i64 a2, .int .i64 24] rfl (by (try simp only [List.map_toArray, List.map_cons, List.map_nil]); first | done | rfl | (simp only [List.length_drop, List.length_take]; rfl)) ?_; (with_reducible refine (impl_dayCode.calls kj5 l0 _ _ l1 a2 24 t194 _ HC0.out ?side3 ?side4 A15.out).mono ?_); (case side3 => repeat (first | exact (Kd.C_below HR1.out HB.out) | (with_reducible refine Kd.C_alloc ?_ _) | (with_reducible refine Kd.C_drewN ?_ _) | (with_reducible refine Kd.C_drew ?_))); (case side4 => exact HC1.out); rintro e w52 ⟨rfl, hb⟩; refine ⟨_, rfl, ?_⟩; have n0_ := Aside0.mk (below_step (by repeat (first | (with_reducible first | exact HB.out | apply below_alloc | apply pw_below_drewN | apply below_drew1) | exact HB.out)) hb); clear HB; have HB := n0_; clear n0_; (try clear hb); (try clear hb2); (try clear hk); (try clear hi)) | ((with_reducible refine gate_callee (f := 62) rfl ?_); refine goesL_ (some 40) rfl rfl Try.func62 (by kernel_rfl) rfl #[.bool x11_5, .int .i64 2] rfl (by (try simp only [List.map_toArray, List.map_cons, List.map_nil]); first | done | rfl | (simp only [List.length_drop, List.length_take]; rfl)) ?_; (with_reducible refine (impl_unless.calls x11_5 2 t195 _ A16.out).mono ?_); rintro e w' ⟨rfl, ⟨nd, rfl⟩⟩; refine ⟨_, rfl, ?_⟩) | ((with_reducible refine gate_callee (f := 109) rfl ?_); refine goesL_ (some 42) rfl rfl Try.func109 (by kernel_rfl) rfl #[.slice A1 l1.length c1] rfl (by (try simp only [List.map_toArray, List.map_cons, List.map_nil]); first | done | rfl | (simp only [List.length_drop, List.length_take]; rfl)) ?_; (with_reducible refine (impl_fewHung.calls _ _ l1 t196 _ ?side1 ?side2 A17.out).mono ?_); (case side1 => repeat (first | exact (Kd.C_below HR1.out (by repeat (first | (with_reducible first | exact HB.out | apply below_alloc | apply pw_below_drewN | apply below_drew1) | exact HB.out))) | (with_reducible refine Kd.C_alloc ?_ _) | (with_reducible refine Kd.C_drewN ?_ _) | (with_reducible refine Kd.C_drew ?_))); (case side2 => exact HC1.out); rintro e w' ⟨rfl, ⟨nd, rfl⟩⟩; refine ⟨_, rfl, ?_⟩) | ((with_reducible refine gate_dst (N := 43) rfl ?_); (try (refine gate_guard (by rfl) ?_; dsimp only)); refine Kd.R_lit (Kd.int .i64) _ 2 ?hg (N := 43) ?hd (xs := ([t194, t195, t196] : List Int)) (inner := [.int .i64 t194, .int .i64 t195, .int .i64 t196]) (ok := fun _ => True) (okp := fun _ => True) ?hr ?hp (fun _ hk => hk) trivial (Below.refl _ _) (Nat.le_refl _) (by simp) ?_; (case hd => rfl); (case hg => rfl); (case hr => first | (go_simp; done) | (go_simp; rfl)); (case hp => exact (Reps.one (show Kd.M (Kd.int .i64) _ _ _ t194 [.int .i64 t194] from rfl) (Reps.one (show Kd.M (Kd.int .i64) _ _ _ t195 [.int .i64 t195] from rfl) (Reps.one (show Kd.M (Kd.int .i64) _ _ _ t196 [.int .i64 t196] from rfl) (Reps.none _ _))))); intro v198 w53 ho54 hb hg_ hnew_; clear hg_ hnew_; (first | rw [← Ny197.out] at ho54 | (simp only [Int.reduceToNat] at ho54; rw [← Ny197.out] at ho54)); have n0_ := Aside0.mk (Kd.R_lower ho54 (below_size (by repeat (first | (with_reducible first | exact HB.out | apply below_alloc | apply pw_below_drewN | apply below_drew1) | exact HB.out)))); have n1_ := Aside0.mk (below_step (by repeat (first | (with_reducible first | exact HB.out | apply below_alloc | apply pw_below_drewN | apply below_drew1) | exact HB.out)) hb); clear HB; have HO199 := n0_; have HB := n1_; clear n0_ n1_; clear hb ho54; obtain ⟨Ao55, co55, eo55⟩ := Kd.R_slice HO199.out; subst eo55) | ((with_reducible refine gate_callee (f := 61) rfl ?_); refine goesL_ (some 44) rfl rfl Try.func61 (by kernel_rfl) rfl #[.slice Ao55 y197.length co55] rfl (by (try simp only [List.map_toArray, List.map_cons, List.map_nil]); first | done | rfl | (simp only [List.length_drop, List.length_take]; rfl)) ?_; (with_reducible refine (impl_firstOf.calls kj5 _ _ y197 t200 _ ?side1 ?side2 A18.out).mono ?_); (case side1 => repeat (first | exact (Kd.R_reads' HO199.out).2.2 | (with_reducible refine Kd.C_alloc ?_ _) | (with_reducible refine Kd.C_drewN ?_ _) | (with_reducible refine Kd.C_drew ?_))); (case side2 => exact (Kd.R_reads' HO199.out).2.1); rintro e w' ⟨rfl, ⟨nd, rfl⟩⟩; refine ⟨_, rfl, ?_⟩))
        go_ret2
        refine low_b HW.out ?_
        exact ⟨by first | rfl | (simp [errW_none, errW_some] <;> rfl) | (simp [*, errW_none, errW_some] <;> rfl), by repeat (first | (with_reducible first | exact HB.out | apply below_alloc | apply pw_below_drewN | apply below_drew1) | exact HB.out)⟩
end Go.Proofs.Ytggjdcijplgpdaa.D
