import Derived.Test.YthkccaclmodjiaazETwoIronsI0
import Derived.Test.YthkccaclmodjiaazETwoIronsI17
import Derived.Test.YthkccaclmodjiaazETwoIronsEBLem1
import Derived.Test.YthkccaclmodjiaazETwoIronsESortedV
import Derived.Test.YthkccaclmodjiaazETwoIronsEListsPiece
import Derived.Test.YthkccaclmodjiaazETwoIronsI1
import Derived.Test.YthkccaclmodjiaazETwoIronsI4
import Derived.Test.YthkccaclmodjiaazETwoIronsI7
import Derived.Test.YthkccaclmodjiaazETwoIronsI5
import Derived.Lib.SlKeysI
import Derived.Test.YthkccaclmodjiaaProg
import Derived.Shelf.Abstract
import Derived.Shelf.SlSortCmp.Insertion1
import Derived.RangeFuncBox
import Derived.Test.YthkccaclmodjiaazETwoIronsI2
import Derived.Shelf.SlicesE.Clone
section
namespace Go.Proofs.Ythkccaclmodjiaa.I
open Go.RowKit Go.Proofs.YthkccaclmodjiaaW.PrintWords Go.Proofs.YthkccaclmodjiaaW.PrintLast Go.Proofs.YthkccaclmodjiaaW.PrintMore
attribute [local go_sem] max2_int min2_int max_two min_two max_three min_three max_four min_four   -- for this text's walks alone
set_option linter.unusedVariables false
set_option linter.unusedSimpArgs false
def impl_Iron_total.f (k : Nat) (a0_0 : Int) (a0_1 : Int) (l1 : List (S57)) (l2 : List Int) : Option (Int) := (impl_Iron_finish.f k a0_0 a0_1 l1 l2).bind fun t172 => (if (t172.length : Int) = 0 then (some 0) else (if 0 ≤ (wrap64 ((t172.length : Int) - 1)) then (if (wrap64 ((t172.length : Int) - 1)) < (t172.length : Int) then (some (rd t172 (wrap64 ((t172.length : Int) - 1)))) else (none)) else (none)))
theorem impl_Iron_total.mono : ∀ a0 a1 a2 a3 k, LeO (impl_Iron_total.f k a0 a1 a2 a3) (impl_Iron_total.f (k + 1) a0 a1 a2 a3) := by
  intro a0 a1 a2 a3 k
  unfold impl_Iron_total.f
  repeat' first
      | (with_reducible exact impl_Iron_finish.mono _ _ _ _ _)
      | (with_reducible exact LeO.refl _)
      | (with_reducible exact LeO.none _)
      | (with_reducible refine LeO.ite ?_ ?_)
      | (with_reducible refine LeO.bind ?_ (fun _ => ?_))
      | exact impl_Iron_finish.mono _ _ _ _ _
      | exact LeO.none _
      | refine LeO.ite ?_ ?_
      | refine LeO.bind ?_ (fun _ => ?_)
set_option maxHeartbeats 8000000 in
set_option maxRecDepth 100000 in
theorem impl_Iron_total.calls (k : Nat) (a0_0 : Int) (a0_1 : Int) (A1 : Option Addr) (c1 : Nat) (l1 : List (S57)) (A2 : Option Addr) (c2 : Nat) (l2 : List Int) (r : Int) (w : World) (hr1 : Kd.C k57 w A1 l1.length l1) (hc1 : l1.length ≤ c1) (hr2 : Kd.C (Kd.int .i64) w A2 l2.length l2) (hc2 : l2.length ≤ c2) (h : impl_Iron_total.f k a0_0 a0_1 l1 l2 = some r) :
    Calls Try.prog 85 #[.agg #[.int .i8 a0_0, .int .i8 a0_1], .slice A1 l1.length c1, .slice A2 l2.length c2] w fun e w' => e = .returned (.int .i64 r) ∧ Below w.heap.size w w' := by
  have hu27 := Try.underlying27
  have HR1 := Aside0.mk hr1
  have HC1 := Aside0.mk hc1
  clear hr1 hc1
  have HR2 := Aside0.mk hr2
  have HC2 := Aside0.mk hc2
  clear hr2 hc2
  have HB := Aside0.mk (Below.refl w.heap.size w)
  have H : ((impl_Iron_finish.f k a0_0 a0_1 l1 l2).bind fun t172 => (if (t172.length : Int) = 0 then (some 0) else (if 0 ≤ (wrap64 ((t172.length : Int) - 1)) then (if (wrap64 ((t172.length : Int) - 1)) < (t172.length : Int) then (some (rd t172 (wrap64 ((t172.length : Int) - 1)))) else (none)) else (none)))) = some r := h
  clear h
  replace H := Option.bind_eq_some_iff.mp H
  obtain ⟨t172, A40, H⟩ := H
  replace H : (if (t172.length : Int) = 0 then (some 0) else (if 0 ≤ (wrap64 ((t172.length : Int) - 1)) then (if (wrap64 ((t172.length : Int) - 1)) < (t172.length : Int) then (some (rd t172 (wrap64 ((t172.length : Int) - 1)))) else (none)) else (none))) = some r := H
  have A4 := Aside0.mk A40
  clear A40
  by_cases c5 : (t172.length : Int) = 0
  · rw [if_pos c5] at H
    have c5b0 : ((t172.length : Int) == 0) = true := beq_iff_eq.mpr c5
    have c5b1 : ((t172.length : Int) != 0) = false := bne_eq_false_iff_eq.mpr c5
    clear c5
    obtain rfl := Option.some.inj H
    go_enter Try.func85, Try.ntmps85
    go_wp2_with (first | ((with_reducible refine gate_dst (N := 3) rfl ?_); refine box_event ?hg (N := 3) ?hd (cs := #[.int .i8 a0_0, .int .i8 a0_1]) (t := 27) ?hr ?_; (case hd => rfl); (case hg => rfl); (case hr => first | (go_simp; done) | (go_simp; rfl)); intro gb171 hg w6 hbox hb; have n0_ := Aside0.mk (below_step (by repeat (first | (with_reducible first | exact HB.out | apply below_alloc | apply pw_below_drewN | apply below_drew1) | exact HB.out)) hb); have n1_ := Aside0.mk (hbox); have n2_ := Aside0.mk ((by rw [hg]; exact (below_size (by repeat (first | (with_reducible first | exact HB.out | apply below_alloc | apply pw_below_drewN | apply below_drew1) | exact HB.out))) : w.heap.size ≤ gb171)); have n3_ := Aside0.mk ((by rw [hg]; exact (below_size (by repeat (first | (with_reducible first | exact HB.out | apply below_alloc | apply pw_below_drewN | apply below_drew1) | exact HB.out))) : w.heap.size ≤ gb171)); clear HB; have HB := n0_; have BK171 := n1_; have GW171 := n2_; have GE171 := n3_; clear n0_ n1_ n2_ n3_; clear hb hbox hg; have hcz7_0 : w6.cell? ⟨gb171, 0, none⟩ = some (.int .i8 a0_0) := (blk_cell BK171.out 0).trans rfl; have hcz7_1 : w6.cell? ⟨gb171, 1, none⟩ = some (.int .i8 a0_1) := (blk_cell BK171.out 1).trans rfl; have hfz7_0 := blk_frozen BK171.out 0; have hfz7_1 := blk_frozen BK171.out 1) | ((with_reducible refine gate_callee (f := 83) rfl ?_); refine goesL_ (some 11) rfl rfl Try.func83 (by kernel_rfl) rfl #[.agg #[.int .i8 a0_0, .int .i8 a0_1], .slice A1 l1.length c1, .slice A2 l2.length c2] rfl (by (try simp only [List.map_toArray, List.map_cons, List.map_nil]); first | done | rfl | (simp only [List.length_drop, List.length_take]; rfl)) ?_; (with_reducible refine (impl_Iron_finish.calls k a0_0 a0_1 _ _ l1 _ _ l2 t172 _ ?side1 ?side2 ?side3 ?side4 A4.out).mono ?_); (case side1 => repeat (first | exact (Kd.C_below HR1.out HB.out) | (with_reducible refine Kd.C_alloc ?_ _) | (with_reducible refine Kd.C_drewN ?_ _) | (with_reducible refine Kd.C_drew ?_))); (case side2 => exact HC1.out); (case side3 => repeat (first | exact (Kd.C_below HR2.out HB.out) | (with_reducible refine Kd.C_alloc ?_ _) | (with_reducible refine Kd.C_drewN ?_ _) | (with_reducible refine Kd.C_drew ?_))); (case side4 => exact HC2.out); rintro e w8 ⟨v173, rfl, ho0, hb⟩; refine ⟨_, rfl, ?_⟩; have n0_ := Aside0.mk (Kd.R_lower ho0 (below_size (by repeat (first | (with_reducible first | exact HB.out | apply below_alloc | apply pw_below_drewN | apply below_drew1 | refine below_set ?_ GE171.out) | exact HB.out)))); have n1_ := Aside0.mk (blk_below (g := gb171) (o := .cells #[.int .i8 a0_0, .int .i8 a0_1] 27 (0, 0)) (by (with_reducible repeat (first | refine blk_drewN ?_ _ | refine blk_drew ?_ | refine blk_alloc ?_ _)); exact BK171.out) hb); have n2_ := Aside0.mk (below_step (by repeat (first | (with_reducible first | exact HB.out | apply below_alloc | apply pw_below_drewN | apply below_drew1 | refine below_set ?_ GE171.out) | exact HB.out)) hb); clear BK171; clear HB; have HO174 := n0_; have BK171 := n1_; have HB := n2_; clear n0_ n1_ n2_; (try clear hb); (try clear hb2); (try clear hk); (try clear hi); (try clear ho0); obtain ⟨Ao9, co9, eo9⟩ := Kd.R_slice HO174.out; subst eo9))
    go_ret
    exact ⟨by first | rfl | (simp [errW_none, errW_some] <;> rfl) | (simp [*, errW_none, errW_some] <;> rfl), by repeat (first | (with_reducible first | exact HB.out | apply below_alloc | apply pw_below_drewN | apply below_drew1 | refine below_set ?_ GE171.out) | exact HB.out)⟩
  · rw [if_neg c5] at H
    have c5b0 : ((t172.length : Int) == 0) = false := beq_eq_false_iff_ne.mpr c5
    have c5b1 : ((t172.length : Int) != 0) = true := bne_iff_ne.mpr c5
    have c5b2 : ¬ (t172 = []) := fun h_ => c5 (by rw [h_]; rfl)
    obtain ⟨ji10, hji10⟩ : ∃ j_ : Int, (wrap64 ((t172.length : Int) - 1)) = j_ := ⟨_, rfl⟩
    replace H : (if 0 ≤ (ji10) then (if (ji10) < (t172.length : Int) then (some (rd t172 (ji10))) else (none)) else (none)) = some r := by first | (rw [hji10] at H; exact H) | (simp only [hji10] at H ⊢; exact H)
    (try rw [hji10] at A4)
    have hji10w : (IntKind.i64.wrap ((t172.length : Int) - 1)) = ji10 := (i64_w _).trans hji10
    by_cases c11 : 0 ≤ (ji10)
    · rw [if_pos c11] at H
      have c11b0 : decide (0 ≤ (ji10)) = true := decide_eq_true c11
      clear c11
      by_cases c12 : (ji10) < (t172.length : Int)
      · rw [if_pos c12] at H
        have c12b0 : decide ((ji10) < (t172.length : Int)) = true := decide_eq_true c12
        clear c12
        obtain rfl := Option.some.inj H
        go_enter Try.func85, Try.ntmps85
        go_wp2_with (first | ((with_reducible refine gate_dst (N := 3) rfl ?_); refine box_event ?hg (N := 3) ?hd (cs := #[.int .i8 a0_0, .int .i8 a0_1]) (t := 27) ?hr ?_; (case hd => rfl); (case hg => rfl); (case hr => first | (go_simp; done) | (go_simp; rfl)); intro gb171 hg w13 hbox hb; have n0_ := Aside0.mk (below_step (by repeat (first | (with_reducible first | exact HB.out | apply below_alloc | apply pw_below_drewN | apply below_drew1) | exact HB.out)) hb); have n1_ := Aside0.mk (hbox); have n2_ := Aside0.mk ((by rw [hg]; exact (below_size (by repeat (first | (with_reducible first | exact HB.out | apply below_alloc | apply pw_below_drewN | apply below_drew1) | exact HB.out))) : w.heap.size ≤ gb171)); have n3_ := Aside0.mk ((by rw [hg]; exact (below_size (by repeat (first | (with_reducible first | exact HB.out | apply below_alloc | apply pw_below_drewN | apply below_drew1) | exact HB.out))) : w.heap.size ≤ gb171)); clear HB; have HB := n0_; have BK171 := n1_; have GW171 := n2_; have GE171 := n3_; clear n0_ n1_ n2_ n3_; clear hb hbox hg; have hcz14_0 : w13.cell? ⟨gb171, 0, none⟩ = some (.int .i8 a0_0) := (blk_cell BK171.out 0).trans rfl; have hcz14_1 : w13.cell? ⟨gb171, 1, none⟩ = some (.int .i8 a0_1) := (blk_cell BK171.out 1).trans rfl; have hfz14_0 := blk_frozen BK171.out 0; have hfz14_1 := blk_frozen BK171.out 1) | ((with_reducible refine gate_callee (f := 83) rfl ?_); refine goesL_ (some 11) rfl rfl Try.func83 (by kernel_rfl) rfl #[.agg #[.int .i8 a0_0, .int .i8 a0_1], .slice A1 l1.length c1, .slice A2 l2.length c2] rfl (by (try simp only [List.map_toArray, List.map_cons, List.map_nil]); first | done | rfl | (simp only [List.length_drop, List.length_take]; rfl)) ?_; (with_reducible refine (impl_Iron_finish.calls k a0_0 a0_1 _ _ l1 _ _ l2 t172 _ ?side1 ?side2 ?side3 ?side4 A4.out).mono ?_); (case side1 => repeat (first | exact (Kd.C_below HR1.out HB.out) | (with_reducible refine Kd.C_alloc ?_ _) | (with_reducible refine Kd.C_drewN ?_ _) | (with_reducible refine Kd.C_drew ?_))); (case side2 => exact HC1.out); (case side3 => repeat (first | exact (Kd.C_below HR2.out HB.out) | (with_reducible refine Kd.C_alloc ?_ _) | (with_reducible refine Kd.C_drewN ?_ _) | (with_reducible refine Kd.C_drew ?_))); (case side4 => exact HC2.out); rintro e w15 ⟨v173, rfl, ho0, hb⟩; refine ⟨_, rfl, ?_⟩; have n0_ := Aside0.mk (Kd.R_lower ho0 (below_size (by repeat (first | (with_reducible first | exact HB.out | apply below_alloc | apply pw_below_drewN | apply below_drew1 | refine below_set ?_ GE171.out) | exact HB.out)))); have n1_ := Aside0.mk (blk_below (g := gb171) (o := .cells #[.int .i8 a0_0, .int .i8 a0_1] 27 (0, 0)) (by (with_reducible repeat (first | refine blk_drewN ?_ _ | refine blk_drew ?_ | refine blk_alloc ?_ _)); exact BK171.out) hb); have n2_ := Aside0.mk (below_step (by repeat (first | (with_reducible first | exact HB.out | apply below_alloc | apply pw_below_drewN | apply below_drew1 | refine below_set ?_ GE171.out) | exact HB.out)) hb); clear BK171; clear HB; have HO174 := n0_; have BK171 := n1_; have HB := n2_; clear n0_ n1_ n2_; (try clear hb); (try clear hb2); (try clear hk); (try clear hi); (try clear ho0); obtain ⟨Ao16, co16, eo16⟩ := Kd.R_slice HO174.out; subst eo16; have p175 : 0 ≤ ((ji10) : Int) := of_decide_eq_true (by first | (with_reducible assumption) | assumption); have q175 : (ji10) < (t172.length : Int) := of_decide_eq_true (by first | (with_reducible assumption) | assumption); obtain ⟨ad175, e175, hx175_0⟩ := Kd.at_int (Kd.R_reads' HO174.out).2.2 (ji10) p175 q175; cases e175; replace p175 := eq_true p175; replace q175 := eq_true q175))
        go_ret
        exact ⟨by first | rfl | (simp [errW_none, errW_some] <;> rfl) | (simp only [← hji10]; first | rfl | (simp [errW_none, errW_some] <;> rfl)) | (simp [*, errW_none, errW_some] <;> rfl), by repeat (first | (with_reducible first | exact HB.out | apply below_alloc | apply pw_below_drewN | apply below_drew1 | refine below_set ?_ GE171.out) | exact HB.out)⟩
      · rw [if_neg c12] at H
        exact absurd H (by simp)
    · rw [if_neg c11] at H
      exact absurd H (by simp)
end Go.Proofs.Ythkccaclmodjiaa.I
end
section
namespace Go.Proofs.Ythkccaclmodjiaa.I
open Go.RowKit Go.Proofs.YthkccaclmodjiaaW.PrintWords Go.Proofs.YthkccaclmodjiaaW.PrintLast Go.Proofs.YthkccaclmodjiaaW.PrintMore
attribute [local go_sem] max2_int min2_int max_two min_two max_three min_three max_four min_four
set_option linter.unusedVariables false
set_option linter.unusedSimpArgs false
def timesOf (x y : Int) (l : List S57) : Int → Int → List Int → List Int
  | _, _, [] => []
  | lv, now, o :: r => (now + (chg x y lv (rd_T57 l o).f0 + (rd_T57 l o).f1)) :: timesOf x y l (rd_T57 l o).f0 (now + (chg x y lv (rd_T57 l o).f0 + (rd_T57 l o).f1)) r
theorem timesOf_len (x y : Int) (l : List S57) : ∀ (r : List Int) (lv now : Int), (timesOf x y l lv now r).length = r.length
  | [], _, _ => rfl
  | _ :: r, _, _ => by rw [timesOf, List.length_cons, timesOf_len, List.length_cons]
theorem piece_at (l : List S57) (h : Fine l) (o : Int) (h0 : 0 ≤ o) (h1 : o < l.length) : wrap64 (rd_T57 l o).f0 = (rd_T57 l o).f0 ∧ wrap64 (rd_T57 l o).f1 = (rd_T57 l o).f1 ∧ wrap64 (rd_T57 l o).f2 = (rd_T57 l o).f2 ∧ 1 ≤ (rd_T57 l o).f0 ∧ (rd_T57 l o).f0 ≤ 3 ∧ 1 ≤ (rd_T57 l o).f1 ∧ (rd_T57 l o).f1 ≤ 60 ∧ 0 ≤ (rd_T57 l o).f2 ∧ (rd_T57 l o).f2 ≤ 1000 := by
  obtain ⟨i, rfl⟩ : ∃ i : Nat, o = (i : Int) := ⟨o.toNat, by omega⟩
  have c : i < l.length := by omega
  rw [rd57_lt l i c]
  exact h l[i] (List.getElem_mem _)
theorem lv_bd {p0 : Int} (h1 : 1 ≤ p0) (h3 : p0 ≤ 3) : 0 ≤ p0 ∧ p0 ≤ 3 := ⟨by omega, h3⟩
def lastOf (t : List Int) : Int := if (t.length : Int) = 0 then 0 else rd t ((t.length : Int) - 1)
def sumOf (t : List Int) : Nat → Int
  | 0 => 0
  | i + 1 => wrap64 (sumOf t i + rd t (i : Int))
end Go.Proofs.Ythkccaclmodjiaa.I
end
section
namespace Go.Proofs.Ythkccaclmodjiaa.I
open Go.RowKit Go.Proofs.YthkccaclmodjiaaW.PrintWords Go.Proofs.YthkccaclmodjiaaW.PrintLast Go.Proofs.YthkccaclmodjiaaW.PrintMore
attribute [local go_sem] max2_int min2_int max_two min_two max_three min_three max_four min_four
set_option linter.unusedVariables false
set_option linter.unusedSimpArgs false
open Go.Sort Go.Shelf Go.Maps
theorem intKd_inner {l : List Int} {inner : List Value} (h : Reps (fun (x : Int) (cs : List Value) => cs = [Value.int .i64 x]) 1 l inner) : inner = l.map (Value.int .i64) := by
  refine List.ext_getElem? fun j => ?_
  by_cases c : j < l.length
  · have hj := h.2 j l[j] (List.getElem?_eq_getElem c)
    have hi : j < inner.length := by rw [h.1]; omega
    rw [Nat.mul_one, List.drop_eq_getElem_cons hi, List.take_succ_cons, List.take_zero] at hj
    rw [List.getElem?_eq_getElem hi, List.getElem?_map, List.getElem?_eq_getElem c]
    injection hj with e _
    rw [e]
    rfl
  · rw [List.getElem?_eq_none (by rw [h.1]; omega), List.getElem?_eq_none (by simp; omega)]
end Go.Proofs.Ythkccaclmodjiaa.I
end
section
namespace Go.Proofs.Ythkccaclmodjiaa.I
open Go.RowKit Go.Proofs.YthkccaclmodjiaaW.PrintWords Go.Proofs.YthkccaclmodjiaaW.PrintLast Go.Proofs.YthkccaclmodjiaaW.PrintMore
attribute [local go_sem] max2_int min2_int max_two min_two max_three min_three max_four min_four
set_option linter.unusedVariables false
set_option linter.unusedSimpArgs false
theorem timesOf_bd (x y : Int) (hx : 0 ≤ x ∧ x ≤ 60) (hy : 0 ≤ y ∧ y ≤ 60) (l : List S57) (h : Fine l) :
    ∀ (r : List Int) (lv now : Int), (∀ z ∈ r, 0 ≤ z ∧ z < l.length) → 0 ≤ lv ∧ lv ≤ 3 → 0 ≤ now → ∀ z ∈ timesOf x y l lv now r, 0 ≤ z ∧ z ≤ now + 240 * (r.length : Int)
  | [], _, _, _, _, _, z, hz => by rw [timesOf] at hz; cases hz
  | o :: r, lv, now, hr, hlv, hnow, z, hz => by
    have ho := hr o (by simp)
    have f := piece_at l h o ho.1 ho.2
    rw [timesOf] at hz
    rcases hP : rd_T57 l o with ⟨p0, p1, p2⟩
    rw [hP] at f hz
    dsimp only at f hz
    have cb := chg_bd x y lv p0 hx hy hlv (lv_bd f.2.2.2.1 f.2.2.2.2.1)
    have ih := timesOf_bd x y hx hy l h r p0 (now + (chg x y lv p0 + p1)) (fun z hz => hr z (by simp [hz])) (lv_bd f.2.2.2.1 f.2.2.2.2.1)
    have b1 := f.2.2.2.2.2.1
    have b2 := f.2.2.2.2.2.2.1
    generalize chg x y lv p0 = C at cb hz ih
    clear f hP
    rw [List.length_cons]
    rcases List.mem_cons.mp hz with e | hz
    · omega
    · have := ih (by omega) z hz
      omega
theorem rd_bd {t : List Int} {b : Int} (h : ∀ z ∈ t, 0 ≤ z ∧ z ≤ b) (i : Nat) (hi : i < t.length) : 0 ≤ rd t (i : Int) ∧ rd t (i : Int) ≤ b := by
  rw [rd_of_lt t i hi]
  exact h _ (List.getElem_mem _)
def lateList (l : List S57) (o t : List Int) : Nat → List Int
  | 0 => []
  | i + 1 => if rd t (i : Int) > (rd_T57 l (rd o (i : Int))).f2 then lateList l o t i ++ [rd o (i : Int)] else lateList l o t i
def lateSum (l : List S57) (o t : List Int) : Nat → Int
  | 0 => 0
  | i + 1 => if rd t (i : Int) > (rd_T57 l (rd o (i : Int))).f2 then lateSum l o t i + (rd t (i : Int) - (rd_T57 l (rd o (i : Int))).f2) else lateSum l o t i
structure Lates (l : List S57) (o t : List Int) : Prop where
  fine : Fine l
  len : o.length = l.length
  len8 : o.length ≤ 8
  lent : t.length = o.length
  range : ∀ z ∈ o, 0 ≤ z ∧ z < l.length
  nodup : o.Nodup
  bd : ∀ z ∈ t, 0 ≤ z ∧ z ≤ 1920
theorem Lates.at_ {l : List S57} {o t : List Int} (H : Lates l o t) (i : Nat) (hi : i < o.length) :
    (0 ≤ rd o (i : Int) ∧ rd o (i : Int) < l.length) ∧ (0 ≤ rd t (i : Int) ∧ rd t (i : Int) ≤ 1920) ∧ wrap64 (rd_T57 l (rd o (i : Int))).f2 = (rd_T57 l (rd o (i : Int))).f2 ∧ 0 ≤ (rd_T57 l (rd o (i : Int))).f2 ∧ (rd_T57 l (rd o (i : Int))).f2 ≤ 1000 := by
  have h1 : 0 ≤ rd o (i : Int) ∧ rd o (i : Int) < l.length := by
    rw [rd_of_lt o i hi]
    exact H.range _ (List.getElem_mem _)
  have f := piece_at l H.fine (rd o (i : Int)) h1.1 h1.2
  exact ⟨h1, rd_bd H.bd i (by have := H.lent; omega), f.2.2.1, f.2.2.2.2.2.2.2.1, f.2.2.2.2.2.2.2.2⟩
theorem max0 (z : Int) : spec_l00Max.f 0 z = some (if z > 0 then z else 0) := by
  unfold spec_l00Max.f
  by_cases q : z > 0
  · rw [if_pos q]
    by_cases q2 : 0 > z
    · omega
    · rw [if_neg q2]
  · rw [if_neg q]
    by_cases q2 : 0 > z
    · rw [if_pos q2]
    · rw [if_neg q2, show z = 0 by omega]
end Go.Proofs.Ythkccaclmodjiaa.I
end
section
namespace Go.Proofs.Ythkccaclmodjiaa.I
open Go.RowKit Go.Proofs.YthkccaclmodjiaaW.PrintWords Go.Proofs.YthkccaclmodjiaaW.PrintLast Go.Proofs.YthkccaclmodjiaaW.PrintMore
attribute [local go_sem] max2_int min2_int max_two min_two max_three min_three max_four min_four
set_option linter.unusedVariables false
set_option linter.unusedSimpArgs false
open Go.Sort Go.Shelf Go.Lib
theorem below_grow (W : World) (n : Nat) (os : Array Obj) : Below W.heap.size W (grow (W.drewN n) os) :=
  ⟨rfl, rfl, rfl, by simp [grow, World.drewN], fun k hk => by rw [Go.Sort.heap_grow_old _ _ (by simpa [World.drewN] using hk)]; rfl⟩
end Go.Proofs.Ythkccaclmodjiaa.I
end
section
namespace Go.Proofs.Ythkccaclmodjiaa.I
open Go.RowKit Go.Proofs.YthkccaclmodjiaaW.PrintWords Go.Proofs.YthkccaclmodjiaaW.PrintLast Go.Proofs.YthkccaclmodjiaaW.PrintMore
attribute [local go_sem] max2_int min2_int max_two min_two max_three min_three max_four min_four
set_option linter.unusedVariables false
set_option linter.unusedSimpArgs false
open Go.Sort Go.Shelf Go.Lib
theorem own_R {w : World} {base n : Nat} {v : Value} {l : List Int} (hl : l.length = n) (h : w.ownsRow base 2 1 v n (l.map (Value.int .i64))) : Kd.R (Kd.int .i64) 2 w base (fun _ => True) v l :=
  ⟨fun _ _ => trivial, _, by rw [hl]; exact h, intKd_reps _⟩
theorem R_own_ints {w : World} {base : Nat} {ok : Nat → Prop} {v : Value} {l : List Int} (h : Kd.R (Kd.int .i64) 2 w base ok v l) : w.ownsRow base 2 1 v l.length (l.map (Value.int .i64)) := by
  obtain ⟨_, inner, hown, hreps⟩ := h
  obtain rfl : inner = l.map (Value.int .i64) := intKd_inner hreps
  exact hown
theorem empty_R (W : World) {base : Nat} (hb : base ≤ W.heap.size) : Kd.R (Kd.int .i64) 2 (W.alloc (.cells #[] 2)) base (fun _ => True) (.slice (some ⟨W.heap.size, 0, none⟩) 0 0) [] :=
  ⟨fun _ _ => trivial, [], ⟨by simp, .inr ⟨W.heap.size, 0, #[], rfl, hb, World.alloc_heap_new _ _, Nat.le_refl _, by decide, rfl, rfl⟩⟩, intKd_reps []⟩
end Go.Proofs.Ythkccaclmodjiaa.I
end
section
namespace Go.Proofs
open Go.Shelf
def Try.cloneA_ren : Go.Shelf.Ren := ⟨fun | 41 => 123 | n => n, fun | 22 => 37 | 23 => 2 | 4 => 4 | n => n, fun | n => n⟩
theorem Try.cloneA : Go.Proofs.SlLaysE0.n41 Try.prog Try.cloneA_ren := {
  mixed := by kernel_rfl
  f41 := ⟨Try.f123.name, by decide, Try.func123.trans (congrArg some (by kernel_rfl))⟩
  t4 := Try.underlying4
  a4 := Try.isAgg4
  z4 := Try.sizeOf4
  v4 := Try.zeroValue4
  t22 := Try.underlying37
  a22 := Try.isAgg37
  z22 := Try.sizeOf37
  v22 := Try.zeroValue37 }
end Go.Proofs
end
