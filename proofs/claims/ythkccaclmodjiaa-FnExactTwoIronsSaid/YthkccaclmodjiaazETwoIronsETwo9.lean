import Derived.Test.YthkccaclmodjiaazETwoIronsEChoose
import Derived.Test.YthkccaclmodjiaazETwoIronsEShortest1
import Derived.Test.YthkccaclmodjiaazETwoIronsEBSearch
import Derived.Test.YthkccaclmodjiaazETwoIronsELayC
import Derived.Test.YthkccaclmodjiaazETwoIronsETwo10b
import Derived.Test.YthkccaclmodjiaazETwoIronsETwo7
import Derived.Test.YthkccaclmodjiaazETwoIronsETwo8
import Derived.Test.YthkccaclmodjiaazETwoIronsI0
import Derived.Test.YthkccaclmodjiaazETwoIronsI4
import Derived.Shelf.Abstract
import Derived.RangeFuncBox
import Derived.Shelf.SlSortCmp.Insertion1
namespace Go.Proofs.Ythkccaclmodjiaa.I
open Go.RowKit Go.Proofs.YthkccaclmodjiaaW.PrintWords Go.Proofs.YthkccaclmodjiaaW.PrintLast Go.Proofs.YthkccaclmodjiaaW.PrintMore
attribute [local go_sem] max2_int min2_int max_two min_two max_three min_three max_four min_four
set_option linter.unusedVariables false
set_option linter.unusedSimpArgs false
open Go.Sort Go.Shelf Go.Lib
theorem two_from (g : Nat) (x y : Int) (A2 : Option Addr) (c2 : Nat) (l : List S57) (w0 : World) (hs : sureB x y l = true) (hrd : Kd.C k57 w0 A2 l.length l) (hgw : w0.heap.size ≤ g) :
    ∀ (d : Nat) (v : Value) (b : List Int) (u0 u1 : Value) (W : World) (bv : Value) (st : Option (List Int × Int)), b.length + d = l.length → TwoSt g x y A2 c2 l W bv st → Kd.R (Kd.int .i64) 2 W (g + 1) (fun _ => True) v b → Kd.R k57 57 W (g + 1) (fun _ => True) u0 (partOf 0 b (l.take b.length)) → Kd.R k57 57 W (g + 1) (fun _ => True) u1 (partOf 1 b (l.take b.length)) → Below g w0 W →
      Calls Try.prog 90 #[.pointer (some ⟨g, 0, none⟩), v, .agg #[u0, u1]] W fun e w' => e = .returned (.tuple #[]) ∧ ∃ bv', TwoSt g x y A2 c2 l w' bv' (twoFrom (fun p => (searched x y p 0).low) l d b st) ∧ Below g w0 w' ∧ Mid (g + 1) W w'
  | 0, v, b, u0, u1, W, bv, st, hbl, hE, hR, h0, h1, hB => by
    have e : l.take b.length = l := by rw [show b.length = l.length by omega]; exact List.take_length
    rw [e] at h0 h1
    rw [twoFrom_zero]
    exact two_zero g x y A2 c2 l w0 hs hrd hgw v b u0 u1 W bv st (by omega) hE hR h0 h1 hB
  | d + 1, v, b, u0, u1, W, bv, st, hbl, hE, hR, h0, h1, hB => two_step g x y A2 c2 l w0 hrd hgw (sureB_iff.mp hs).2.2.1 d (two_from g x y A2 c2 l w0 hs hrd hgw d) v b u0 u1 W bv st hbl hE hR h0 h1 hB
def twoBy (code : Option Int) (f : List S57 → Int) (x y : Int) (l : List S57) : Option (List Int × Int × Int) := code.bind fun c => if c = 0 then (if sureB x y l = true then some (wayOf (twoOf f l), lowOf (twoOf f l), 0) else none) else some ([], 0, c)
theorem twoBy_some {code : Option Int} {f : List S57 → Int} {x y : Int} {l : List S57} {r1 : List Int} {r2 r3 : Int} (h : twoBy code f x y l = some (r1, r2, r3)) : code = some r3 ∧ (r3 ≠ 0 ∧ r1 = [] ∧ r2 = 0 ∨ r3 = 0 ∧ sureB x y l = true ∧ r1 = wayOf (twoOf f l) ∧ r2 = lowOf (twoOf f l)) := by
  obtain ⟨c, hc, h⟩ := Option.bind_eq_some_iff.mp h
  by_cases e : c = 0
  · rw [if_pos e] at h
    by_cases s : sureB x y l = true
    · rw [if_pos s] at h
      cases h
      exact ⟨by rw [hc, e], .inr ⟨rfl, s, rfl, rfl⟩⟩
    · rw [if_neg s] at h
      cases h
  · rw [if_neg e] at h
    cases h
    exact ⟨hc, .inl ⟨e, rfl, rfl⟩⟩
theorem twoBy_mono {g : Nat → Option Int} (hg : ∀ k, LeO (g k) (g (k + 1))) (f : List S57 → Int) (x y : Int) (l : List S57) (k : Nat) : LeO (twoBy (g k) f x y l) (twoBy (g (k + 1)) f x y l) := LeO.bind (hg k) (fun _ => LeO.refl _)
def spec_TwoIrons.f (k : Nat) (x : Int) (y : Int) (l : List S57) : Option (List Int × Int × Int) := twoBy (spec_l07Asked.f k x y l) (fun p => (searched x y p 0).low) x y l
theorem spec_TwoIrons.mono : ∀ a0 a1 a2 k, LeO (spec_TwoIrons.f k a0 a1 a2) (spec_TwoIrons.f (k + 1) a0 a1 a2) := fun a0 a1 a2 k => twoBy_mono (fun k => spec_l07Asked.mono a0 a1 a2 k) _ a0 a1 a2 k
set_option maxHeartbeats 8000000 in
set_option maxRecDepth 100000 in
theorem spec_TwoIrons.calls (k : Nat) (x : Int) (y : Int) (A0 : Option Addr) (c0 : Nat) (l0 : List (S57)) (r1 : List Int) (r2 : Int) (r3 : Int) (w : World) (hr1 : Kd.C k57 w A0 l0.length l0) (hc1 : l0.length ≤ c0) (h : spec_TwoIrons.f k x y l0 = some (r1, r2, r3)) :
    Calls Try.prog 41 #[.agg #[.int .i8 x, .int .i8 y], .slice A0 l0.length c0] w fun e w' => ∃ v0_ : Value, e = .returned (.tuple #[v0_, .int .i64 r2, .int .i64 r3]) ∧ Kd.R (Kd.int .i64) 2 w' w.heap.size (fun _ => True) v0_ r1 ∧ Below w.heap.size w w' := by
  have hu27 := Try.underlying27
  obtain ⟨ha, h2⟩ := twoBy_some h
  have HA := Aside0.mk ha
  have HR0 := Aside0.mk hr1
  have HC0 := Aside0.mk hc1
  clear ha h hr1 hc1
  rcases h2 with ⟨h3, rfl, rfl⟩ | ⟨rfl, hs, rfl, rfl⟩
  · have cb : (r3 == 0) = false := beq_eq_false_iff_ne.mpr h3
    clear h3
    go_enter Try.func41, Try.ntmps41
    go_wp2_with (first | ((with_reducible refine gate_dst (N := 2) rfl ?_); refine box_event ?hg (N := 2) ?hd (cs := #[.int .i8 x, .int .i8 y]) (t := 27) ?hr ?_; (case hd => rfl); (case hg => rfl); (case hr => first | (go_simp; done) | (go_simp; rfl)); intro gx hgx W1 hbx hb1; have BX := Aside0.mk hbx; have HB := Aside0.mk hb1; have k0 : W1.cell? ⟨gx, 0, none⟩ = some (.int .i8 x) := (blk_cell hbx 0).trans rfl; have k1 : W1.cell? ⟨gx, 1, none⟩ = some (.int .i8 y) := (blk_cell hbx 1).trans rfl; clear hbx hb1 hgx) | (go_at_call 71; refine (spec_l07Asked.calls k x y A0 c0 l0 _ _ (Kd.C_below HR0.out HB.out) HC0.out HA.out).mono ?_; rintro e W2 ⟨rfl, hb2⟩; have n0_ := Aside0.mk (blk_below BX.out hb2); have n1_ := Aside0.mk (below_step HB.out hb2); clear BX HB hb2 k0 k1; have BX := n0_; have HB := n1_; clear n0_ n1_; have k0 : W2.cell? ⟨gx, 0, none⟩ = some (.int .i8 x) := (blk_cell BX.out 0).trans rfl; have k1 : W2.cell? ⟨gx, 1, none⟩ = some (.int .i8 y) := (blk_cell BX.out 1).trans rfl) | ((with_reducible refine gate_dst (N := 14) rfl ?_); refine Kd.R_lit (Kd.int .i64) _ 2 ?hg (N := 14) ?hd (xs := ([] : List Int)) (inner := []) (ok := fun _ => True) (okp := fun _ => True) ?hr ?hp (fun _ hk => hk) trivial (Below.refl _ _) (Nat.le_refl _) (by simp) ?_; (case hd => rfl); (case hg => rfl); (case hr => first | (go_simp; done) | (go_simp; rfl)); (case hp => exact (Reps.none _ _)); intro vl wl ho hb hg_ hnew_; clear hg_ hnew_; have n0_ := Aside0.mk (Kd.R_lower ho HB.out.size); have n1_ := Aside0.mk (below_step HB.out hb); clear HB BX ho hb k0 k1; have HO := n0_; have HB := n1_; clear n0_ n1_))
    go_ret3
    exact ⟨_, rfl, HO.out, HB.out⟩
  · have HS := Aside0.mk hs
    clear hs
    go_enter Try.func41, Try.ntmps41
    go_wp2_with (first | ((with_reducible refine gate_dst (N := 2) rfl ?_); refine box_event ?hg (N := 2) ?hd (cs := #[.int .i8 x, .int .i8 y]) (t := 27) ?hr ?_; (case hd => rfl); (case hg => rfl); (case hr => first | (go_simp; done) | (go_simp; rfl)); intro gx hgx W1 hbx hb1; have BX := Aside0.mk hbx; have HB := Aside0.mk hb1; have k0 : W1.cell? ⟨gx, 0, none⟩ = some (.int .i8 x) := (blk_cell hbx 0).trans rfl; have k1 : W1.cell? ⟨gx, 1, none⟩ = some (.int .i8 y) := (blk_cell hbx 1).trans rfl; clear hbx hb1 hgx) | (go_at_call 71; refine (spec_l07Asked.calls k x y A0 c0 l0 _ _ (Kd.C_below HR0.out HB.out) HC0.out HA.out).mono ?_; rintro e W2 ⟨rfl, hb2⟩; have n0_ := Aside0.mk (blk_below BX.out hb2); have n1_ := Aside0.mk (below_step HB.out hb2); clear BX HB hb2 k0 k1; have BX := n0_; have HB := n1_; clear n0_ n1_; have k0 : W2.cell? ⟨gx, 0, none⟩ = some (.int .i8 x) := (blk_cell BX.out 0).trans rfl; have k1 : W2.cell? ⟨gx, 1, none⟩ = some (.int .i8 y) := (blk_cell BX.out 1).trans rfl) | ((with_reducible refine gate_dst (N := 19) rfl ?_); refine box_event ?hg (N := 19) ?hd (cs := #[.int .i8 x, .int .i8 y, .slice A0 l0.length c0, .slice none 0 0, .int .i64 0, .bool false]) (t := 81) ?hr ?_; (case hd => rfl); (case hg => rfl); (case hr => first | (go_simp; done) | (go_simp; rfl)); intro g hg3 W3 hb_ hb3; have HG := Aside0.mk (show W2.heap.size ≤ g from Nat.le_of_eq hg3.symm); have HB2 := HB; have HRD2 := Aside0.mk (Kd.C_below HR0.out HB2.out); have BG := Aside0.mk (show Below g W2 W3 by rw [hg3]; exact hb3); have n1_ := Aside0.mk (below_step HB.out hb3); clear BX HB; have HB := n1_; clear n1_; have HE := Aside0.mk (show TwoSt g x y A0 c0 l0 W3 (.slice none 0 0) none from ⟨hb_, Kd.C_below HR0.out HB.out, HC0.out, Kd.R_nil _ _ _ _ _⟩); have HG2 := Aside0.mk (show w.heap.size ≤ g by have := HB2.out.size; have := HG.out; omega); clear hb_ hb3 hg3 k0 k1) | ((with_reducible refine gate_dst (N := 21) rfl ?_); refine Kd.R_lit (Kd.int .i64) _ 2 ?hg (N := 21) ?hd (xs := ([] : List Int)) (inner := []) (ok := fun _ => True) (okp := fun _ => True) ?hr ?hp (fun _ hk => hk) trivial (Below.refl _ _) (Nat.le_refl _) (by simp) ?_; (case hd => rfl); (case hg => rfl); (case hr => first | (go_simp; done) | (go_simp; rfl)); (case hp => exact (Reps.none _ _)); intro vl wl ho hb hg_ hnew_; clear hg_ hnew_; have HF := Aside0.mk (two_from g x y A0 c0 l0 W2 HS.out HRD2.out HG.out l0.length vl [] (.slice none 0 0) (.slice none 0 0) wl (.slice none 0 0) none (by simp) (HE.out.below hb) (Kd.R_lower ho (by have := HE.out.lt; omega)) (Kd.R_nil _ _ _ _ _) (Kd.R_nil _ _ _ _ _) (BG.out.trans (hb.mono (by have := HE.out.lt; omega))))) | (go_at_call 90; refine HF.out.mono ?_; rintro e w5 ⟨rfl, bv, hE1, hB2, hM1⟩; have EE := Aside0.mk hE1; have BB := Aside0.mk hB2; clear hE1 hB2 hM1))
    have mixed : Try.prog.follows .mixedOrders = true := by kernel_rfl
    have gb : ∀ n os, (grow (w5.drewN n) os).cell? ⟨g, 3, none⟩ = some bv := fun n os => cell_grown EE.out.lt (blk_cell EE.out.blk 3) n os
    have gl : ∀ n os, (grow (w5.drewN n) os).cell? ⟨g, 4, none⟩ = some (.int .i64 (lowOf (twoOf (fun p => (searched x y p 0).low) l0))) := fun q os => (cell_grown EE.out.lt (blk_cell EE.out.blk 4) q os).trans (by rw [twoFrom_all]; rfl)
    go_quiet_grown (fail)
    go_wp2
    go_ret3
    have hb := below_grow w5 nq osq
    have hw := HB2.out.trans (BB.out.mono HG2.out)
    exact ⟨bv, rfl, Kd.R_below (Kd.R_lower (by have := EE.out.rb; rw [twoFrom_all] at this; exact this) (by have := HG2.out; omega)) hb, hw.trans (hb.mono hw.size)⟩
end Go.Proofs.Ythkccaclmodjiaa.I
