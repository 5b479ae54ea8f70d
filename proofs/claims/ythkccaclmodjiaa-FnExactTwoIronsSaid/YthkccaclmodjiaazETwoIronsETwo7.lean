import Derived.Test.YthkccaclmodjiaazETwoIronsEChoose
import Derived.Test.YthkccaclmodjiaazETwoIronsEShortest1
import Derived.Test.YthkccaclmodjiaazETwoIronsEBSearch
import Derived.Test.YthkccaclmodjiaazETwoIronsETwo10b
import Derived.Test.YthkccaclmodjiaazETwoIronsI0
import Derived.Test.YthkccaclmodjiaazETwoIronsI4
import Derived.Shelf.Abstract
import Derived.RangeFuncBox
import Derived.Shelf.SlSortCmp.Insertion1
namespace Go.Proofs.Ythkccaclmodjiaa.I
open Go.RowKit Go.Proofs.YthkccaclmodjiaaW.PrintWords Go.Proofs.YthkccaclmodjiaaW.PrintLast Go.Proofs.YthkccaclmodjiaaW.PrintMore
attribute [local go_sem] max2_int min2_int max_two min_two max_three min_three max_four min_four
set_option linter.unusedVariables false
set_option linter.unusedSimpArgs false
open Go.Sort Go.Shelf Go.Lib
set_option maxHeartbeats 40000000 in
set_option maxRecDepth 100000 in
theorem two_zero (g : Nat) (x y : Int) (A2 : Option Addr) (c2 : Nat) (l : List S57) (w0 : World) (hs : sureB x y l = true) (hrd : Kd.C k57 w0 A2 l.length l) (hgw : w0.heap.size ≤ g)
    (v : Value) (b : List Int) (u0 u1 : Value) (W : World) (bv : Value) (st : Option (List Int × Int)) (hbl : b.length = l.length) (hE : TwoSt g x y A2 c2 l W bv st) (hR : Kd.R (Kd.int .i64) 2 W (g + 1) (fun _ => True) v b)
    (h0 : Kd.R k57 57 W (g + 1) (fun _ => True) u0 (partOf 0 b l)) (h1 : Kd.R k57 57 W (g + 1) (fun _ => True) u1 (partOf 1 b l)) (hB : Below g w0 W) :
    Calls Try.prog 90 #[.pointer (some ⟨g, 0, none⟩), v, .agg #[u0, u1]] W fun e w' => e = .returned (.tuple #[]) ∧ ∃ bv', TwoSt g x y A2 c2 l w' bv' (twoStep (fun p => (searched x y p 0).low) l st b) ∧ Below g w0 w' ∧ Mid (g + 1) W w' := by
  have hu27 := Try.underlying27
  have h8 := (sureB_iff.mp hs).2.2.1
  have C0 := Aside0.mk (fun (w : World) (A : Option Addr) (c : Nat) (hr : Kd.C k57 w A (partOf 0 b l).length (partOf 0 b l)) (hc : (partOf 0 b l).length ≤ c) => spec_l07Best.calls 0 x y A c (partOf 0 b l) 0 _ _ w hr hc (low_f hs 0 b 0))
  have C1 := Aside0.mk (fun (w : World) (A : Option Addr) (c : Nat) (hr : Kd.C k57 w A (partOf 1 b l).length (partOf 1 b l)) (hc : (partOf 1 b l).length ≤ c) => spec_l07Best.calls 0 x y A c (partOf 1 b l) 0 _ _ w hr hc (low_f hs 1 b 0))
  have es : twoStep (fun p => (searched x y p 0).low) l st b = match st with | none => some (b, mx (searched x y (partOf 0 b l) 0).low (searched x y (partOf 1 b l) 0).low) | some q => if mx (searched x y (partOf 0 b l) 0).low (searched x y (partOf 1 b l) 0).low < q.2 then some (b, mx (searched x y (partOf 0 b l) 0).low (searched x y (partOf 1 b l) 0).low) else some q := by cases st <;> rfl
  rw [es]
  have HM := Aside0.mk (fun w => spec_l00Max.calls _ _ _ w (max_f (searched x y (partOf 0 b l) 0).low (searched x y (partOf 1 b l) 0).low))
  clear es hs
  generalize mx (searched x y (partOf 0 b l) 0).low (searched x y (partOf 1 b l) 0).low = m at HM ⊢
  generalize (searched x y (partOf 0 b l) 0).low = t0 at HM C0
  generalize (searched x y (partOf 1 b l) 0).low = t1 at HM C1
  generalize (searched x y (partOf 0 b l) 0).best = q0 at C0
  generalize (searched x y (partOf 1 b l) 0).best = q1 at C1
  generalize partOf 0 b l = p0 at C0 h0
  generalize partOf 1 b l = p1 at C1 h1
  cases st with
  | none =>
    show Calls _ _ _ _ (fun e w' => e = .returned (.tuple #[]) ∧ ∃ bv', TwoSt g x y A2 c2 l w' bv' (some (b, m)) ∧ Below g w0 w' ∧ Mid (g + 1) W w')
    have hlz : ((b.length : Int) == (l.length : Int)) = true := beq_iff_eq.mpr (by omega)
    obtain ⟨A, c, rfl⟩ := Kd.R_slice hR
    obtain ⟨A0, c0, rfl⟩ := Kd.R_slice h0
    obtain ⟨A1, c1, rfl⟩ := Kd.R_slice h1
    have RC0 := Aside0.mk (Kd.R_reads' h0).2.2
    have CP0 := Aside0.mk (Kd.R_reads' h0).2.1
    have RC1 := Aside0.mk (Kd.R_reads' h1).2.2
    have CP1 := Aside0.mk (Kd.R_reads' h1).2.1
    have HL1 := Aside0.mk (show b.length ≤ 1000 by omega)
    have HE := Aside0.mk hE
    have HR := Aside0.mk hR
    have HB0 := Aside0.mk hB
    have HRD := Aside0.mk hrd
    have HG := Aside0.mk hgw
    clear hE hR h0 h1 hB hrd hgw hbl h8
    go_enter Try.func90, Try.ntmps90
    go_wp2_with (first | ((with_reducible refine gate_dst (N := 5) rfl ?_); refine box_event ?hg (N := 5) ?hd (cs := #[.slice A0 p0.length c0, .slice A1 p1.length c1]) (t := 83) ?hr ?_; (case hd => rfl); (case hg => rfl); (case hr => first | (go_simp; done) | (go_simp; rfl)); intro gp hgp W5 hbx hb5; have GP := Aside0.mk (show g + 1 ≤ gp by have := HE.out.lt; omega); have BX := Aside0.mk hbx; have HE5 := Aside0.mk (HE.out.below hb5); have HB5 := Aside0.mk (HB0.out.trans (hb5.mono (Nat.le_of_lt HE.out.lt))); have HM5 := Aside0.mk (Mid.of_below (m := g + 1) hb5); have HRB := Aside0.mk (show ∀ w', Below W5.heap.size W5 w' → Kd.R (Kd.int .i64) 2 w' (g + 1) (fun _ => True) (.slice A b.length c) b from fun w' h => Kd.R_below (Kd.R_below HR.out hb5) h); have n0_ := Aside0.mk (Kd.C_below RC0.out hb5); have n1_ := Aside0.mk (Kd.C_below RC1.out hb5); clear RC0 RC1; have RC0 := n0_; have RC1 := n1_; clear n0_ n1_; have HB := Aside0.mk (Below.refl W5.heap.size W5); have HS0 := Aside0.mk (show ∀ w', Below W5.heap.size W5 w' → w'.cell? ⟨g, 0, none⟩ = some (.int .i8 x) ∧ w'.cell? ⟨g, 1, none⟩ = some (.int .i8 y) ∧ w'.cell? ⟨gp, 0, none⟩ = some (.slice A0 p0.length c0) from fun w' h => ⟨(blk_cell (HE5.out.below h).blk 0).trans rfl, (blk_cell (HE5.out.below h).blk 1).trans rfl, (blk_cell (blk_below BX.out h) 0).trans rfl⟩); have HS1 := Aside0.mk (show ∀ w', Below W5.heap.size W5 w' → w'.cell? ⟨g, 0, none⟩ = some (.int .i8 x) ∧ w'.cell? ⟨g, 1, none⟩ = some (.int .i8 y) ∧ w'.cell? ⟨gp, 1, none⟩ = some (.slice A1 p1.length c1) from fun w' h => ⟨(blk_cell (HE5.out.below h).blk 0).trans rfl, (blk_cell (HE5.out.below h).blk 1).trans rfl, (blk_cell (blk_below BX.out h) 1).trans rfl⟩); clear hbx hb5 hgp; have k2 : W5.cell? ⟨g, 2, none⟩ = some (.slice A2 l.length c2) := blk_cell HE5.out.blk 2; clear HE))
    clear k2
    refine start_ (n := 12) (S := fun w' => w'.cell? ⟨g, 0, none⟩ = some (.int .i8 x) ∧ w'.cell? ⟨g, 1, none⟩ = some (.int .i8 y) ∧ w'.cell? ⟨gp, 0, none⟩ = some (.slice A0 p0.length c0)) (ds := []) #[false, false, false, false, false, false, false, false, false, false, false, false] (by kernel_rfl) rfl rfl ⟨(HS0.out _ (below_drew1 HB.out)).1, (HS0.out _ (below_drew1 HB.out)).2.1, (HS0.out _ (below_drew1 HB.out)).2.2⟩ (fun hHeld => ?_)
    have n1_ := Aside0.mk (below_drew1 HB.out)
    clear HB
    generalize W5.drew = w20 at n1_ hHeld  ⊢
    have HB := n1_
    clear n1_
    refine pure_ (i := 0) (N := some 22) (v := ?_) (a' := ?_) #[true, false, false, false, false, false, false, false, false, false, false, false] rfl rfl (by kernel_rfl) (fun _ _ _ h => h) (Or.inl ⟨by rfl, ?_⟩) ?_ ?_
    rotate_left
    · intro w'
      go_simp
      with_reducible rfl
    rotate_left
    · simp only [Act.put, List.setIfInBounds_toArray, List.set_cons_zero, List.set_cons_succ, i64_w, i32_w]
      rfl
    refine pure_ (i := 1) (N := some 23) (v := ?_) (a' := ?_) #[true, true, false, false, false, false, false, false, false, false, false, false] rfl rfl (by kernel_rfl) (fun _ _ _ h => h) (Or.inl ⟨by rfl, ?_⟩) ?_ ?_
    rotate_left
    · intro w'
      go_simp
      with_reducible rfl
    rotate_left
    · simp only [Act.put, List.setIfInBounds_toArray, List.set_cons_zero, List.set_cons_succ, i64_w, i32_w]
      rfl
    refine pure_ (i := 2) (N := some 24) (v := ?_) (a' := ?_) #[true, true, true, false, false, false, false, false, false, false, false, false] rfl rfl (by kernel_rfl) (fun _ _ _ h => h) (Or.inl ⟨by rfl, ?_⟩) ?_ ?_
    rotate_left
    · intro w'
      go_simp
      with_reducible rfl
    rotate_left
    · simp only [Act.put, List.setIfInBounds_toArray, List.set_cons_zero, List.set_cons_succ, i64_w, i32_w]
      rfl
    refine pure_ (i := 4) (N := some 26) (v := ?_) (a' := ?_) #[true, true, true, false, true, false, false, false, false, false, false, false] rfl rfl (by kernel_rfl) (fun _ _ _ h => h) (Or.inl ⟨by rfl, ?_⟩) ?_ ?_
    rotate_left
    · intro w'
      go_simp
      with_reducible rfl
    rotate_left
    · simp only [Act.put, List.setIfInBounds_toArray, List.set_cons_zero, List.set_cons_succ, i64_w, i32_w]
      rfl
    refine take_ (i := 3) (N := some 25) (v := ?_) (a' := ?_) #[true, true, true, true, true, false, false, false, false, false, false, false] rfl rfl (by kernel_rfl) (fun _ _ _ h => h) (Or.inl ⟨by rfl, ?_⟩) hHeld ?_ ?_
    rotate_left
    · rintro w' ⟨s0, s1, s2⟩
      go_simp
      with_reducible rfl
    rotate_left
    · simp only [Act.put, List.setIfInBounds_toArray, List.set_cons_zero, List.set_cons_succ, i64_w, i32_w]
      rfl
    refine take_ (i := 5) (N := some 27) (v := ?_) (a' := ?_) #[true, true, true, true, true, true, false, false, false, false, false, false] rfl rfl (by kernel_rfl) (fun _ _ _ h => h) (Or.inl ⟨by rfl, ?_⟩) hHeld ?_ ?_
    rotate_left
    · rintro w' ⟨s0, s1, s2⟩
      go_simp
      with_reducible rfl
    rotate_left
    · simp only [Act.put, List.setIfInBounds_toArray, List.set_cons_zero, List.set_cons_succ, i64_w, i32_w]
      rfl
    refine one_ (i := 6) (N := some 28) #[true, true, true, true, true, true, true, false, false, false, false, false] rfl rfl (by kernel_rfl) (by decide) (fun K hK => ?_)
    refine goes_ Try.func108 (by kernel_rfl) rfl #[.agg #[.int .i8 x, .int .i8 y], .slice A0 p0.length c0, .int .i64 0] (by rfl) rfl rfl (by (try simp only [List.map_toArray, List.map_cons, List.map_nil]); first | done | rfl | (simp only [List.length_drop, List.length_take]; rfl)) ?_
    refine (C0.out _ A0 c0 (Kd.C_below RC0.out HB.out) CP0.out).mono ?_
    rintro e w21 ⟨vb0, rfl, hr_, hb_⟩
    refine ⟨_, rfl, ?_⟩
    have n1_ := Aside0.mk (below_step HB.out hb_)
    clear HB hr_ hb_
    have HB := n1_
    clear n1_
    refine hK.out _ _ ⟨(HS0.out _ HB.out).1, (HS0.out _ HB.out).2.1, (HS0.out _ HB.out).2.2⟩ (fun hHeld => ?_)
    clear hK K
    refine norm_ (a' := ?_) ?_ ?_
    rotate_left
    · show Act.put _ (some 28) _ = _
      simp only [Act.put, List.setIfInBounds_toArray, List.set_cons_zero, List.set_cons_succ, i64_w, i32_w]
      rfl
    refine pure_ (i := 7) (N := some 21) (v := ?_) (a' := ?_) #[true, true, true, true, true, true, true, true, false, false, false, false] rfl rfl (by kernel_rfl) (fun _ _ _ h => h) (Or.inl ⟨by rfl, ?_⟩) ?_ ?_
    rotate_left
    · intro w'
      go_simp
      with_reducible rfl
    rotate_left
    · simp only [Act.put, List.setIfInBounds_toArray, List.set_cons_zero, List.set_cons_succ, i64_w, i32_w]
      rfl
    refine pure_ (i := 8) (N := some 29) (v := ?_) (a' := ?_) #[true, true, true, true, true, true, true, true, true, false, false, false] rfl rfl (by kernel_rfl) (fun _ _ _ h => h) (Or.inl ⟨by rfl, ?_⟩) ?_ ?_
    rotate_left
    · intro w'
      go_simp
      with_reducible rfl
    rotate_left
    · simp only [Act.put, List.setIfInBounds_toArray, List.set_cons_zero, List.set_cons_succ, i64_w, i32_w]
      rfl
    refine pure_ (i := 9) (N := some 30) (v := ?_) (a' := ?_) #[true, true, true, true, true, true, true, true, true, true, false, false] rfl rfl (by kernel_rfl) (fun _ _ _ h => h) (Or.inl ⟨by rfl, ?_⟩) ?_ ?_
    rotate_left
    · intro w'
      go_simp
      with_reducible rfl
    rotate_left
    · simp only [Act.put, List.setIfInBounds_toArray, List.set_cons_zero, List.set_cons_succ, i64_w, i32_w]
      rfl
    refine pure_ (i := 10) (N := some 6) (v := ?_) (a' := ?_) #[true, true, true, true, true, true, true, true, true, true, true, false] rfl rfl (by kernel_rfl) (fun _ _ _ h => h) (Or.inl ⟨by rfl, ?_⟩) ?_ ?_
    rotate_left
    · intro w'
      go_simp
      with_reducible rfl
    rotate_left
    · simp only [Act.put, List.setIfInBounds_toArray, List.set_cons_zero, List.set_cons_succ, i64_w, i32_w]
      rfl
    refine pure_ (i := 11) (N := some 7) (v := ?_) (a' := ?_) #[true, true, true, true, true, true, true, true, true, true, true, true] rfl rfl (by kernel_rfl) (fun _ _ _ h => h) (Or.inl ⟨by rfl, ?_⟩) ?_ ?_
    rotate_left
    · intro w'
      go_simp
      with_reducible rfl
    rotate_left
    · simp only [Act.put, List.setIfInBounds_toArray, List.set_cons_zero, List.set_cons_succ, i64_w, i32_w]
      rfl
    refine done_ (by kernel_rfl) ?_
    try go_wp2
    refine start_ (n := 12) (S := fun w' => w'.cell? ⟨g, 0, none⟩ = some (.int .i8 x) ∧ w'.cell? ⟨g, 1, none⟩ = some (.int .i8 y) ∧ w'.cell? ⟨gp, 1, none⟩ = some (.slice A1 p1.length c1)) (ds := []) #[false, false, false, false, false, false, false, false, false, false, false, false] (by kernel_rfl) rfl rfl ⟨(HS1.out _ (below_drew1 HB.out)).1, (HS1.out _ (below_drew1 HB.out)).2.1, (HS1.out _ (below_drew1 HB.out)).2.2⟩ (fun hHeld => ?_)
    have n1_ := Aside0.mk (below_drew1 HB.out)
    clear HB
    generalize w21.drew = w30 at n1_ hHeld  ⊢
    have HB := n1_
    clear n1_
    refine pure_ (i := 0) (N := some 32) (v := ?_) (a' := ?_) #[true, false, false, false, false, false, false, false, false, false, false, false] rfl rfl (by kernel_rfl) (fun _ _ _ h => h) (Or.inl ⟨by rfl, ?_⟩) ?_ ?_
    rotate_left
    · intro w'
      go_simp
      with_reducible rfl
    rotate_left
    · simp only [Act.put, List.setIfInBounds_toArray, List.set_cons_zero, List.set_cons_succ, i64_w, i32_w]
      rfl
    refine pure_ (i := 1) (N := some 33) (v := ?_) (a' := ?_) #[true, true, false, false, false, false, false, false, false, false, false, false] rfl rfl (by kernel_rfl) (fun _ _ _ h => h) (Or.inl ⟨by rfl, ?_⟩) ?_ ?_
    rotate_left
    · intro w'
      go_simp
      with_reducible rfl
    rotate_left
    · simp only [Act.put, List.setIfInBounds_toArray, List.set_cons_zero, List.set_cons_succ, i64_w, i32_w]
      rfl
    refine pure_ (i := 2) (N := some 34) (v := ?_) (a' := ?_) #[true, true, true, false, false, false, false, false, false, false, false, false] rfl rfl (by kernel_rfl) (fun _ _ _ h => h) (Or.inl ⟨by rfl, ?_⟩) ?_ ?_
    rotate_left
    · intro w'
      go_simp
      with_reducible rfl
    rotate_left
    · simp only [Act.put, List.setIfInBounds_toArray, List.set_cons_zero, List.set_cons_succ, i64_w, i32_w]
      rfl
    refine pure_ (i := 4) (N := some 36) (v := ?_) (a' := ?_) #[true, true, true, false, true, false, false, false, false, false, false, false] rfl rfl (by kernel_rfl) (fun _ _ _ h => h) (Or.inl ⟨by rfl, ?_⟩) ?_ ?_
    rotate_left
    · intro w'
      go_simp
      with_reducible rfl
    rotate_left
    · simp only [Act.put, List.setIfInBounds_toArray, List.set_cons_zero, List.set_cons_succ, i64_w, i32_w]
      rfl
    refine take_ (i := 3) (N := some 35) (v := ?_) (a' := ?_) #[true, true, true, true, true, false, false, false, false, false, false, false] rfl rfl (by kernel_rfl) (fun _ _ _ h => h) (Or.inl ⟨by rfl, ?_⟩) hHeld ?_ ?_
    rotate_left
    · rintro w' ⟨s0, s1, s2⟩
      go_simp
      with_reducible rfl
    rotate_left
    · simp only [Act.put, List.setIfInBounds_toArray, List.set_cons_zero, List.set_cons_succ, i64_w, i32_w]
      rfl
    refine take_ (i := 5) (N := some 37) (v := ?_) (a' := ?_) #[true, true, true, true, true, true, false, false, false, false, false, false] rfl rfl (by kernel_rfl) (fun _ _ _ h => h) (Or.inl ⟨by rfl, ?_⟩) hHeld ?_ ?_
    rotate_left
    · rintro w' ⟨s0, s1, s2⟩
      go_simp
      with_reducible rfl
    rotate_left
    · simp only [Act.put, List.setIfInBounds_toArray, List.set_cons_zero, List.set_cons_succ, i64_w, i32_w]
      rfl
    refine one_ (i := 6) (N := some 38) #[true, true, true, true, true, true, true, false, false, false, false, false] rfl rfl (by kernel_rfl) (by decide) (fun K hK => ?_)
    refine goes_ Try.func108 (by kernel_rfl) rfl #[.agg #[.int .i8 x, .int .i8 y], .slice A1 p1.length c1, .int .i64 0] (by rfl) rfl rfl (by (try simp only [List.map_toArray, List.map_cons, List.map_nil]); first | done | rfl | (simp only [List.length_drop, List.length_take]; rfl)) ?_
    refine (C1.out _ A1 c1 (Kd.C_below RC1.out HB.out) CP1.out).mono ?_
    rintro e w31 ⟨vb1, rfl, hr_, hb_⟩
    refine ⟨_, rfl, ?_⟩
    have n1_ := Aside0.mk (below_step HB.out hb_)
    clear HB hr_ hb_
    have HB := n1_
    clear n1_
    refine hK.out _ _ ⟨(HS1.out _ HB.out).1, (HS1.out _ HB.out).2.1, (HS1.out _ HB.out).2.2⟩ (fun hHeld => ?_)
    clear hK K
    refine norm_ (a' := ?_) ?_ ?_
    rotate_left
    · show Act.put _ (some 38) _ = _
      simp only [Act.put, List.setIfInBounds_toArray, List.set_cons_zero, List.set_cons_succ, i64_w, i32_w]
      rfl
    refine pure_ (i := 7) (N := some 31) (v := ?_) (a' := ?_) #[true, true, true, true, true, true, true, true, false, false, false, false] rfl rfl (by kernel_rfl) (fun _ _ _ h => h) (Or.inl ⟨by rfl, ?_⟩) ?_ ?_
    rotate_left
    · intro w'
      go_simp
      with_reducible rfl
    rotate_left
    · simp only [Act.put, List.setIfInBounds_toArray, List.set_cons_zero, List.set_cons_succ, i64_w, i32_w]
      rfl
    refine pure_ (i := 8) (N := some 39) (v := ?_) (a' := ?_) #[true, true, true, true, true, true, true, true, true, false, false, false] rfl rfl (by kernel_rfl) (fun _ _ _ h => h) (Or.inl ⟨by rfl, ?_⟩) ?_ ?_
    rotate_left
    · intro w'
      go_simp
      with_reducible rfl
    rotate_left
    · simp only [Act.put, List.setIfInBounds_toArray, List.set_cons_zero, List.set_cons_succ, i64_w, i32_w]
      rfl
    refine pure_ (i := 9) (N := some 40) (v := ?_) (a' := ?_) #[true, true, true, true, true, true, true, true, true, true, false, false] rfl rfl (by kernel_rfl) (fun _ _ _ h => h) (Or.inl ⟨by rfl, ?_⟩) ?_ ?_
    rotate_left
    · intro w'
      go_simp
      with_reducible rfl
    rotate_left
    · simp only [Act.put, List.setIfInBounds_toArray, List.set_cons_zero, List.set_cons_succ, i64_w, i32_w]
      rfl
    refine pure_ (i := 10) (N := some 8) (v := ?_) (a' := ?_) #[true, true, true, true, true, true, true, true, true, true, true, false] rfl rfl (by kernel_rfl) (fun _ _ _ h => h) (Or.inl ⟨by rfl, ?_⟩) ?_ ?_
    rotate_left
    · intro w'
      go_simp
      with_reducible rfl
    rotate_left
    · simp only [Act.put, List.setIfInBounds_toArray, List.set_cons_zero, List.set_cons_succ, i64_w, i32_w]
      rfl
    refine pure_ (i := 11) (N := some 9) (v := ?_) (a' := ?_) #[true, true, true, true, true, true, true, true, true, true, true, true] rfl rfl (by kernel_rfl) (fun _ _ _ h => h) (Or.inl ⟨by rfl, ?_⟩) ?_ ?_
    rotate_left
    · intro w'
      go_simp
      with_reducible rfl
    rotate_left
    · simp only [Act.put, List.setIfInBounds_toArray, List.set_cons_zero, List.set_cons_succ, i64_w, i32_w]
      rfl
    refine done_ (by kernel_rfl) ?_
    go_wp2_with (first | (go_at_call 72; refine (HM.out _).mono ?_; rintro e w41 ⟨rfl, hd⟩; have n1_ := Aside0.mk (below_step HB.out (by first | exact hd | exact hd.below)); clear hd HB; have HB := n1_; clear n1_; have k5 : w41.cell? ⟨g, 5, none⟩ = some (.bool false) := blk_cell (HE5.out.below HB.out).blk 5; have k4 : w41.cell? ⟨g, 4, none⟩ = some (.int .i64 0) := blk_cell (HE5.out.below HB.out).blk 4) | ((with_reducible refine gate_dst (N := 58) rfl ?_); refine Kd.R_lit (Kd.int .i64) _ 2 ?hg (N := 58) ?hd (xs := ([] : List Int)) (inner := []) (ok := fun _ => True) (okp := fun _ => True) ?hr ?hp (fun _ hk => hk) trivial (Below.refl _ _) (Nat.le_refl _) (by simp) ?_; (case hd => rfl); (case hg => rfl); (case hr => first | (go_simp; done) | (go_simp; rfl)); (case hp => exact (Reps.none _ _)); intro v58 w58 ho hb hg_ hnew_; clear hg_ hnew_; have n0_ := Aside0.mk (Kd.R_lower ho (below_size (by repeat (first | (with_reducible first | exact HB.out | apply below_alloc | apply pw_below_drewN | apply below_drew1) | exact HB.out)))); have n1_ := Aside0.mk (below_step (by repeat (first | (with_reducible first | exact HB.out | apply below_alloc | apply pw_below_drewN | apply below_drew1) | exact HB.out)) hb); clear HB; have HO58 := n0_; have HB := n1_; clear n0_ n1_; clear hb ho) | ((with_reducible refine gate_builtin (b := .append) (xs := #[.tmp 58, .tmp 59]) rfl ?_); at_builtin; refine Kd.R_append_rows (Kd.int .i64) (w0 := W5) W5.heap.size rfl (.tmp 58) (.tmp 59) 37 2 (.int .i64 0) 8 rfl Try.underlying37 info2 rfl (by decide) (by omega) v58 [] b _ _ _ (fun _ => True) (fun _ => False) rfl rfl ?aO ?aR (fun _ _ h => h) (fun _ h => h.elim) ?aF ?aB ?aS ?aL ?_; (case aR => exact (Kd.R_reads' (HRB.out _ (by repeat (first | (with_reducible first | exact HB.out | apply below_alloc | apply pw_below_drewN | apply below_drew1) | exact HB.out)))).2.2); (case aB => exact (by repeat (first | (with_reducible first | exact HB.out | apply below_alloc | apply pw_below_drewN | apply below_drew1) | exact HB.out))); (case aF => exact (fun _ _ => trivial)); (case aO => exact (by (with_reducible repeat (first | apply Kd.R_alloc | apply Kd.R_drewN | apply Kd.R_drew)); exact HO58.out)); (case aS => exact (below_size (by repeat (first | (with_reducible first | exact HB.out | apply below_alloc | apply pw_below_drewN | apply below_drew1) | exact HB.out)))); (case aL => have := HL1.out; simp only [List.length_nil]; omega); intro v60 w60 ho hb hg hat; clear HB HO58; have HB := Aside0.mk hb; have HO60 := Aside0.mk (show Kd.R (Kd.int .i64) 2 w60 W5.heap.size _ v60 b from ho); clear ho hb hg hat; have HE7 := Aside0.mk (HE5.out.below HB.out); have f4 := blk_frozen HE7.out.blk 3; have f5 := blk_frozen HE7.out.blk 4; have f6 := blk_frozen HE7.out.blk 5; have d4 : w60.cell? ⟨g, 3, none⟩ = some bv := blk_cell HE7.out.blk 3; have d5 : w60.cell? ⟨g, 4, none⟩ = some (.int .i64 0) := blk_cell HE7.out.blk 4; have d6 : w60.cell? ⟨g, 5, none⟩ = some (.bool false) := blk_cell HE7.out.blk 5; obtain ⟨Ab, cb, eb⟩ := Kd.R_slice HO60.out; subst eb))
    first | go_end0 | ((try simp only [Exit.inBlock, Exit.then]); refine bodyPost_ret (results_none rfl _ _ _) rfl ?_)
    have hbp := HB5.out.trans (HB.out.mono (by have := HE5.out.lt; omega))
    exact ⟨rfl, _, HE7.out.put (Kd.R_lower (Kd.R_mono HO60.out (fun _ _ => trivial)) (by have := HE5.out.lt; omega)) m (Kd.C_below HRD.out ((below_put3 hbp m).mono HG.out)), below_put3 hbp m, mid_put3 (HM5.out.trans (Mid.of_below HB.out)) m⟩
  | some q =>
    obtain ⟨qo, ql⟩ := q
    by_cases c : m < ql
    · show Calls _ _ _ _ (fun e w' => e = .returned (.tuple #[]) ∧ ∃ bv', TwoSt g x y A2 c2 l w' bv' (if m < ql then some (b, m) else some (qo, ql)) ∧ Below g w0 w' ∧ Mid (g + 1) W w')
      rw [if_pos c]
      have cb : decide (m < ql) = true := decide_eq_true c
      clear c
      have hlz : ((b.length : Int) == (l.length : Int)) = true := beq_iff_eq.mpr (by omega)
      obtain ⟨A, c, rfl⟩ := Kd.R_slice hR
      obtain ⟨A0, c0, rfl⟩ := Kd.R_slice h0
      obtain ⟨A1, c1, rfl⟩ := Kd.R_slice h1
      have RC0 := Aside0.mk (Kd.R_reads' h0).2.2
      have CP0 := Aside0.mk (Kd.R_reads' h0).2.1
      have RC1 := Aside0.mk (Kd.R_reads' h1).2.2
      have CP1 := Aside0.mk (Kd.R_reads' h1).2.1
      have HL1 := Aside0.mk (show b.length ≤ 1000 by omega)
      have HE := Aside0.mk hE
      have HR := Aside0.mk hR
      have HB0 := Aside0.mk hB
      have HRD := Aside0.mk hrd
      have HG := Aside0.mk hgw
      clear hE hR h0 h1 hB hrd hgw hbl h8
      go_enter Try.func90, Try.ntmps90
      go_wp2_with (first | ((with_reducible refine gate_dst (N := 5) rfl ?_); refine box_event ?hg (N := 5) ?hd (cs := #[.slice A0 p0.length c0, .slice A1 p1.length c1]) (t := 83) ?hr ?_; (case hd => rfl); (case hg => rfl); (case hr => first | (go_simp; done) | (go_simp; rfl)); intro gp hgp W5 hbx hb5; have GP := Aside0.mk (show g + 1 ≤ gp by have := HE.out.lt; omega); have BX := Aside0.mk hbx; have HE5 := Aside0.mk (HE.out.below hb5); have HB5 := Aside0.mk (HB0.out.trans (hb5.mono (Nat.le_of_lt HE.out.lt))); have HM5 := Aside0.mk (Mid.of_below (m := g + 1) hb5); have HRB := Aside0.mk (show ∀ w', Below W5.heap.size W5 w' → Kd.R (Kd.int .i64) 2 w' (g + 1) (fun _ => True) (.slice A b.length c) b from fun w' h => Kd.R_below (Kd.R_below HR.out hb5) h); have n0_ := Aside0.mk (Kd.C_below RC0.out hb5); have n1_ := Aside0.mk (Kd.C_below RC1.out hb5); clear RC0 RC1; have RC0 := n0_; have RC1 := n1_; clear n0_ n1_; have HB := Aside0.mk (Below.refl W5.heap.size W5); have HS0 := Aside0.mk (show ∀ w', Below W5.heap.size W5 w' → w'.cell? ⟨g, 0, none⟩ = some (.int .i8 x) ∧ w'.cell? ⟨g, 1, none⟩ = some (.int .i8 y) ∧ w'.cell? ⟨gp, 0, none⟩ = some (.slice A0 p0.length c0) from fun w' h => ⟨(blk_cell (HE5.out.below h).blk 0).trans rfl, (blk_cell (HE5.out.below h).blk 1).trans rfl, (blk_cell (blk_below BX.out h) 0).trans rfl⟩); have HS1 := Aside0.mk (show ∀ w', Below W5.heap.size W5 w' → w'.cell? ⟨g, 0, none⟩ = some (.int .i8 x) ∧ w'.cell? ⟨g, 1, none⟩ = some (.int .i8 y) ∧ w'.cell? ⟨gp, 1, none⟩ = some (.slice A1 p1.length c1) from fun w' h => ⟨(blk_cell (HE5.out.below h).blk 0).trans rfl, (blk_cell (HE5.out.below h).blk 1).trans rfl, (blk_cell (blk_below BX.out h) 1).trans rfl⟩); clear hbx hb5 hgp; have k2 : W5.cell? ⟨g, 2, none⟩ = some (.slice A2 l.length c2) := blk_cell HE5.out.blk 2; clear HE))
      clear k2
      refine start_ (n := 12) (S := fun w' => w'.cell? ⟨g, 0, none⟩ = some (.int .i8 x) ∧ w'.cell? ⟨g, 1, none⟩ = some (.int .i8 y) ∧ w'.cell? ⟨gp, 0, none⟩ = some (.slice A0 p0.length c0)) (ds := []) #[false, false, false, false, false, false, false, false, false, false, false, false] (by kernel_rfl) rfl rfl ⟨(HS0.out _ (below_drew1 HB.out)).1, (HS0.out _ (below_drew1 HB.out)).2.1, (HS0.out _ (below_drew1 HB.out)).2.2⟩ (fun hHeld => ?_)
      have n1_ := Aside0.mk (below_drew1 HB.out)
      clear HB
      generalize W5.drew = w20 at n1_ hHeld  ⊢
      have HB := n1_
      clear n1_
      refine pure_ (i := 0) (N := some 22) (v := ?_) (a' := ?_) #[true, false, false, false, false, false, false, false, false, false, false, false] rfl rfl (by kernel_rfl) (fun _ _ _ h => h) (Or.inl ⟨by rfl, ?_⟩) ?_ ?_
      rotate_left
      · intro w'
        go_simp
        with_reducible rfl
      rotate_left
      · simp only [Act.put, List.setIfInBounds_toArray, List.set_cons_zero, List.set_cons_succ, i64_w, i32_w]
        rfl
      refine pure_ (i := 1) (N := some 23) (v := ?_) (a' := ?_) #[true, true, false, false, false, false, false, false, false, false, false, false] rfl rfl (by kernel_rfl) (fun _ _ _ h => h) (Or.inl ⟨by rfl, ?_⟩) ?_ ?_
      rotate_left
      · intro w'
        go_simp
        with_reducible rfl
      rotate_left
      · simp only [Act.put, List.setIfInBounds_toArray, List.set_cons_zero, List.set_cons_succ, i64_w, i32_w]
        rfl
      refine pure_ (i := 2) (N := some 24) (v := ?_) (a' := ?_) #[true, true, true, false, false, false, false, false, false, false, false, false] rfl rfl (by kernel_rfl) (fun _ _ _ h => h) (Or.inl ⟨by rfl, ?_⟩) ?_ ?_
      rotate_left
      · intro w'
        go_simp
        with_reducible rfl
      rotate_left
      · simp only [Act.put, List.setIfInBounds_toArray, List.set_cons_zero, List.set_cons_succ, i64_w, i32_w]
        rfl
      refine pure_ (i := 4) (N := some 26) (v := ?_) (a' := ?_) #[true, true, true, false, true, false, false, false, false, false, false, false] rfl rfl (by kernel_rfl) (fun _ _ _ h => h) (Or.inl ⟨by rfl, ?_⟩) ?_ ?_
      rotate_left
      · intro w'
        go_simp
        with_reducible rfl
      rotate_left
      · simp only [Act.put, List.setIfInBounds_toArray, List.set_cons_zero, List.set_cons_succ, i64_w, i32_w]
        rfl
      refine take_ (i := 3) (N := some 25) (v := ?_) (a' := ?_) #[true, true, true, true, true, false, false, false, false, false, false, false] rfl rfl (by kernel_rfl) (fun _ _ _ h => h) (Or.inl ⟨by rfl, ?_⟩) hHeld ?_ ?_
      rotate_left
      · rintro w' ⟨s0, s1, s2⟩
        go_simp
        with_reducible rfl
      rotate_left
      · simp only [Act.put, List.setIfInBounds_toArray, List.set_cons_zero, List.set_cons_succ, i64_w, i32_w]
        rfl
      refine take_ (i := 5) (N := some 27) (v := ?_) (a' := ?_) #[true, true, true, true, true, true, false, false, false, false, false, false] rfl rfl (by kernel_rfl) (fun _ _ _ h => h) (Or.inl ⟨by rfl, ?_⟩) hHeld ?_ ?_
      rotate_left
      · rintro w' ⟨s0, s1, s2⟩
        go_simp
        with_reducible rfl
      rotate_left
      · simp only [Act.put, List.setIfInBounds_toArray, List.set_cons_zero, List.set_cons_succ, i64_w, i32_w]
        rfl
      refine one_ (i := 6) (N := some 28) #[true, true, true, true, true, true, true, false, false, false, false, false] rfl rfl (by kernel_rfl) (by decide) (fun K hK => ?_)
      refine goes_ Try.func108 (by kernel_rfl) rfl #[.agg #[.int .i8 x, .int .i8 y], .slice A0 p0.length c0, .int .i64 0] (by rfl) rfl rfl (by (try simp only [List.map_toArray, List.map_cons, List.map_nil]); first | done | rfl | (simp only [List.length_drop, List.length_take]; rfl)) ?_
      refine (C0.out _ A0 c0 (Kd.C_below RC0.out HB.out) CP0.out).mono ?_
      rintro e w21 ⟨vb0, rfl, hr_, hb_⟩
      refine ⟨_, rfl, ?_⟩
      have n1_ := Aside0.mk (below_step HB.out hb_)
      clear HB hr_ hb_
      have HB := n1_
      clear n1_
      refine hK.out _ _ ⟨(HS0.out _ HB.out).1, (HS0.out _ HB.out).2.1, (HS0.out _ HB.out).2.2⟩ (fun hHeld => ?_)
      clear hK K
      refine norm_ (a' := ?_) ?_ ?_
      rotate_left
      · show Act.put _ (some 28) _ = _
        simp only [Act.put, List.setIfInBounds_toArray, List.set_cons_zero, List.set_cons_succ, i64_w, i32_w]
        rfl
      refine pure_ (i := 7) (N := some 21) (v := ?_) (a' := ?_) #[true, true, true, true, true, true, true, true, false, false, false, false] rfl rfl (by kernel_rfl) (fun _ _ _ h => h) (Or.inl ⟨by rfl, ?_⟩) ?_ ?_
      rotate_left
      · intro w'
        go_simp
        with_reducible rfl
      rotate_left
      · simp only [Act.put, List.setIfInBounds_toArray, List.set_cons_zero, List.set_cons_succ, i64_w, i32_w]
        rfl
      refine pure_ (i := 8) (N := some 29) (v := ?_) (a' := ?_) #[true, true, true, true, true, true, true, true, true, false, false, false] rfl rfl (by kernel_rfl) (fun _ _ _ h => h) (Or.inl ⟨by rfl, ?_⟩) ?_ ?_
      rotate_left
      · intro w'
        go_simp
        with_reducible rfl
      rotate_left
      · simp only [Act.put, List.setIfInBounds_toArray, List.set_cons_zero, List.set_cons_succ, i64_w, i32_w]
        rfl
      refine pure_ (i := 9) (N := some 30) (v := ?_) (a' := ?_) #[true, true, true, true, true, true, true, true, true, true, false, false] rfl rfl (by kernel_rfl) (fun _ _ _ h => h) (Or.inl ⟨by rfl, ?_⟩) ?_ ?_
      rotate_left
      · intro w'
        go_simp
        with_reducible rfl
      rotate_left
      · simp only [Act.put, List.setIfInBounds_toArray, List.set_cons_zero, List.set_cons_succ, i64_w, i32_w]
        rfl
      refine pure_ (i := 10) (N := some 6) (v := ?_) (a' := ?_) #[true, true, true, true, true, true, true, true, true, true, true, false] rfl rfl (by kernel_rfl) (fun _ _ _ h => h) (Or.inl ⟨by rfl, ?_⟩) ?_ ?_
      rotate_left
      · intro w'
        go_simp
        with_reducible rfl
      rotate_left
      · simp only [Act.put, List.setIfInBounds_toArray, List.set_cons_zero, List.set_cons_succ, i64_w, i32_w]
        rfl
      refine pure_ (i := 11) (N := some 7) (v := ?_) (a' := ?_) #[true, true, true, true, true, true, true, true, true, true, true, true] rfl rfl (by kernel_rfl) (fun _ _ _ h => h) (Or.inl ⟨by rfl, ?_⟩) ?_ ?_
      rotate_left
      · intro w'
        go_simp
        with_reducible rfl
      rotate_left
      · simp only [Act.put, List.setIfInBounds_toArray, List.set_cons_zero, List.set_cons_succ, i64_w, i32_w]
        rfl
      refine done_ (by kernel_rfl) ?_
      try go_wp2
      refine start_ (n := 12) (S := fun w' => w'.cell? ⟨g, 0, none⟩ = some (.int .i8 x) ∧ w'.cell? ⟨g, 1, none⟩ = some (.int .i8 y) ∧ w'.cell? ⟨gp, 1, none⟩ = some (.slice A1 p1.length c1)) (ds := []) #[false, false, false, false, false, false, false, false, false, false, false, false] (by kernel_rfl) rfl rfl ⟨(HS1.out _ (below_drew1 HB.out)).1, (HS1.out _ (below_drew1 HB.out)).2.1, (HS1.out _ (below_drew1 HB.out)).2.2⟩ (fun hHeld => ?_)
      have n1_ := Aside0.mk (below_drew1 HB.out)
      clear HB
      generalize w21.drew = w30 at n1_ hHeld  ⊢
      have HB := n1_
      clear n1_
      refine pure_ (i := 0) (N := some 32) (v := ?_) (a' := ?_) #[true, false, false, false, false, false, false, false, false, false, false, false] rfl rfl (by kernel_rfl) (fun _ _ _ h => h) (Or.inl ⟨by rfl, ?_⟩) ?_ ?_
      rotate_left
      · intro w'
        go_simp
        with_reducible rfl
      rotate_left
      · simp only [Act.put, List.setIfInBounds_toArray, List.set_cons_zero, List.set_cons_succ, i64_w, i32_w]
        rfl
      refine pure_ (i := 1) (N := some 33) (v := ?_) (a' := ?_) #[true, true, false, false, false, false, false, false, false, false, false, false] rfl rfl (by kernel_rfl) (fun _ _ _ h => h) (Or.inl ⟨by rfl, ?_⟩) ?_ ?_
      rotate_left
      · intro w'
        go_simp
        with_reducible rfl
      rotate_left
      · simp only [Act.put, List.setIfInBounds_toArray, List.set_cons_zero, List.set_cons_succ, i64_w, i32_w]
        rfl
      refine pure_ (i := 2) (N := some 34) (v := ?_) (a' := ?_) #[true, true, true, false, false, false, false, false, false, false, false, false] rfl rfl (by kernel_rfl) (fun _ _ _ h => h) (Or.inl ⟨by rfl, ?_⟩) ?_ ?_
      rotate_left
      · intro w'
        go_simp
        with_reducible rfl
      rotate_left
      · simp only [Act.put, List.setIfInBounds_toArray, List.set_cons_zero, List.set_cons_succ, i64_w, i32_w]
        rfl
      refine pure_ (i := 4) (N := some 36) (v := ?_) (a' := ?_) #[true, true, true, false, true, false, false, false, false, false, false, false] rfl rfl (by kernel_rfl) (fun _ _ _ h => h) (Or.inl ⟨by rfl, ?_⟩) ?_ ?_
      rotate_left
      · intro w'
        go_simp
        with_reducible rfl
      rotate_left
      · simp only [Act.put, List.setIfInBounds_toArray, List.set_cons_zero, List.set_cons_succ, i64_w, i32_w]
        rfl
      refine take_ (i := 3) (N := some 35) (v := ?_) (a' := ?_) #[true, true, true, true, true, false, false, false, false, false, false, false] rfl rfl (by kernel_rfl) (fun _ _ _ h => h) (Or.inl ⟨by rfl, ?_⟩) hHeld ?_ ?_
      rotate_left
      · rintro w' ⟨s0, s1, s2⟩
        go_simp
        with_reducible rfl
      rotate_left
      · simp only [Act.put, List.setIfInBounds_toArray, List.set_cons_zero, List.set_cons_succ, i64_w, i32_w]
        rfl
      refine take_ (i := 5) (N := some 37) (v := ?_) (a' := ?_) #[true, true, true, true, true, true, false, false, false, false, false, false] rfl rfl (by kernel_rfl) (fun _ _ _ h => h) (Or.inl ⟨by rfl, ?_⟩) hHeld ?_ ?_
      rotate_left
      · rintro w' ⟨s0, s1, s2⟩
        go_simp
        with_reducible rfl
      rotate_left
      · simp only [Act.put, List.setIfInBounds_toArray, List.set_cons_zero, List.set_cons_succ, i64_w, i32_w]
        rfl
      refine one_ (i := 6) (N := some 38) #[true, true, true, true, true, true, true, false, false, false, false, false] rfl rfl (by kernel_rfl) (by decide) (fun K hK => ?_)
      refine goes_ Try.func108 (by kernel_rfl) rfl #[.agg #[.int .i8 x, .int .i8 y], .slice A1 p1.length c1, .int .i64 0] (by rfl) rfl rfl (by (try simp only [List.map_toArray, List.map_cons, List.map_nil]); first | done | rfl | (simp only [List.length_drop, List.length_take]; rfl)) ?_
      refine (C1.out _ A1 c1 (Kd.C_below RC1.out HB.out) CP1.out).mono ?_
      rintro e w31 ⟨vb1, rfl, hr_, hb_⟩
      refine ⟨_, rfl, ?_⟩
      have n1_ := Aside0.mk (below_step HB.out hb_)
      clear HB hr_ hb_
      have HB := n1_
      clear n1_
      refine hK.out _ _ ⟨(HS1.out _ HB.out).1, (HS1.out _ HB.out).2.1, (HS1.out _ HB.out).2.2⟩ (fun hHeld => ?_)
      clear hK K
      refine norm_ (a' := ?_) ?_ ?_
      rotate_left
      · show Act.put _ (some 38) _ = _
        simp only [Act.put, List.setIfInBounds_toArray, List.set_cons_zero, List.set_cons_succ, i64_w, i32_w]
        rfl
      refine pure_ (i := 7) (N := some 31) (v := ?_) (a' := ?_) #[true, true, true, true, true, true, true, true, false, false, false, false] rfl rfl (by kernel_rfl) (fun _ _ _ h => h) (Or.inl ⟨by rfl, ?_⟩) ?_ ?_
      rotate_left
      · intro w'
        go_simp
        with_reducible rfl
      rotate_left
      · simp only [Act.put, List.setIfInBounds_toArray, List.set_cons_zero, List.set_cons_succ, i64_w, i32_w]
        rfl
      refine pure_ (i := 8) (N := some 39) (v := ?_) (a' := ?_) #[true, true, true, true, true, true, true, true, true, false, false, false] rfl rfl (by kernel_rfl) (fun _ _ _ h => h) (Or.inl ⟨by rfl, ?_⟩) ?_ ?_
      rotate_left
      · intro w'
        go_simp
        with_reducible rfl
      rotate_left
      · simp only [Act.put, List.setIfInBounds_toArray, List.set_cons_zero, List.set_cons_succ, i64_w, i32_w]
        rfl
      refine pure_ (i := 9) (N := some 40) (v := ?_) (a' := ?_) #[true, true, true, true, true, true, true, true, true, true, false, false] rfl rfl (by kernel_rfl) (fun _ _ _ h => h) (Or.inl ⟨by rfl, ?_⟩) ?_ ?_
      rotate_left
      · intro w'
        go_simp
        with_reducible rfl
      rotate_left
      · simp only [Act.put, List.setIfInBounds_toArray, List.set_cons_zero, List.set_cons_succ, i64_w, i32_w]
        rfl
      refine pure_ (i := 10) (N := some 8) (v := ?_) (a' := ?_) #[true, true, true, true, true, true, true, true, true, true, true, false] rfl rfl (by kernel_rfl) (fun _ _ _ h => h) (Or.inl ⟨by rfl, ?_⟩) ?_ ?_
      rotate_left
      · intro w'
        go_simp
        with_reducible rfl
      rotate_left
      · simp only [Act.put, List.setIfInBounds_toArray, List.set_cons_zero, List.set_cons_succ, i64_w, i32_w]
        rfl
      refine pure_ (i := 11) (N := some 9) (v := ?_) (a' := ?_) #[true, true, true, true, true, true, true, true, true, true, true, true] rfl rfl (by kernel_rfl) (fun _ _ _ h => h) (Or.inl ⟨by rfl, ?_⟩) ?_ ?_
      rotate_left
      · intro w'
        go_simp
        with_reducible rfl
      rotate_left
      · simp only [Act.put, List.setIfInBounds_toArray, List.set_cons_zero, List.set_cons_succ, i64_w, i32_w]
        rfl
      refine done_ (by kernel_rfl) ?_
      go_wp2_with (first | (go_at_call 72; refine (HM.out _).mono ?_; rintro e w41 ⟨rfl, hd⟩; have n1_ := Aside0.mk (below_step HB.out (by first | exact hd | exact hd.below)); clear hd HB; have HB := n1_; clear n1_; have k5 : w41.cell? ⟨g, 5, none⟩ = some (.bool true) := blk_cell (HE5.out.below HB.out).blk 5; have k4 : w41.cell? ⟨g, 4, none⟩ = some (.int .i64 ql) := blk_cell (HE5.out.below HB.out).blk 4) | ((with_reducible refine gate_dst (N := 58) rfl ?_); refine Kd.R_lit (Kd.int .i64) _ 2 ?hg (N := 58) ?hd (xs := ([] : List Int)) (inner := []) (ok := fun _ => True) (okp := fun _ => True) ?hr ?hp (fun _ hk => hk) trivial (Below.refl _ _) (Nat.le_refl _) (by simp) ?_; (case hd => rfl); (case hg => rfl); (case hr => first | (go_simp; done) | (go_simp; rfl)); (case hp => exact (Reps.none _ _)); intro v58 w58 ho hb hg_ hnew_; clear hg_ hnew_; have n0_ := Aside0.mk (Kd.R_lower ho (below_size (by repeat (first | (with_reducible first | exact HB.out | apply below_alloc | apply pw_below_drewN | apply below_drew1) | exact HB.out)))); have n1_ := Aside0.mk (below_step (by repeat (first | (with_reducible first | exact HB.out | apply below_alloc | apply pw_below_drewN | apply below_drew1) | exact HB.out)) hb); clear HB; have HO58 := n0_; have HB := n1_; clear n0_ n1_; clear hb ho) | ((with_reducible refine gate_builtin (b := .append) (xs := #[.tmp 58, .tmp 59]) rfl ?_); at_builtin; refine Kd.R_append_rows (Kd.int .i64) (w0 := W5) W5.heap.size rfl (.tmp 58) (.tmp 59) 37 2 (.int .i64 0) 8 rfl Try.underlying37 info2 rfl (by decide) (by omega) v58 [] b _ _ _ (fun _ => True) (fun _ => False) rfl rfl ?aO ?aR (fun _ _ h => h) (fun _ h => h.elim) ?aF ?aB ?aS ?aL ?_; (case aR => exact (Kd.R_reads' (HRB.out _ (by repeat (first | (with_reducible first | exact HB.out | apply below_alloc | apply pw_below_drewN | apply below_drew1) | exact HB.out)))).2.2); (case aB => exact (by repeat (first | (with_reducible first | exact HB.out | apply below_alloc | apply pw_below_drewN | apply below_drew1) | exact HB.out))); (case aF => exact (fun _ _ => trivial)); (case aO => exact (by (with_reducible repeat (first | apply Kd.R_alloc | apply Kd.R_drewN | apply Kd.R_drew)); exact HO58.out)); (case aS => exact (below_size (by repeat (first | (with_reducible first | exact HB.out | apply below_alloc | apply pw_below_drewN | apply below_drew1) | exact HB.out)))); (case aL => have := HL1.out; simp only [List.length_nil]; omega); intro v60 w60 ho hb hg hat; clear HB HO58; have HB := Aside0.mk hb; have HO60 := Aside0.mk (show Kd.R (Kd.int .i64) 2 w60 W5.heap.size _ v60 b from ho); clear ho hb hg hat; have HE7 := Aside0.mk (HE5.out.below HB.out); have f4 := blk_frozen HE7.out.blk 3; have f5 := blk_frozen HE7.out.blk 4; have f6 := blk_frozen HE7.out.blk 5; have d4 : w60.cell? ⟨g, 3, none⟩ = some bv := blk_cell HE7.out.blk 3; have d5 : w60.cell? ⟨g, 4, none⟩ = some (.int .i64 ql) := blk_cell HE7.out.blk 4; have d6 : w60.cell? ⟨g, 5, none⟩ = some (.bool true) := blk_cell HE7.out.blk 5; obtain ⟨Ab, cb, eb⟩ := Kd.R_slice HO60.out; subst eb))
      first | go_end0 | ((try simp only [Exit.inBlock, Exit.then]); refine bodyPost_ret (results_none rfl _ _ _) rfl ?_)
      have hbp := HB5.out.trans (HB.out.mono (by have := HE5.out.lt; omega))
      exact ⟨rfl, _, HE7.out.put (Kd.R_lower (Kd.R_mono HO60.out (fun _ _ => trivial)) (by have := HE5.out.lt; omega)) m (Kd.C_below HRD.out ((below_put3 hbp m).mono HG.out)), below_put3 hbp m, mid_put3 (HM5.out.trans (Mid.of_below HB.out)) m⟩
    · show Calls _ _ _ _ (fun e w' => e = .returned (.tuple #[]) ∧ ∃ bv', TwoSt g x y A2 c2 l w' bv' (if m < ql then some (b, m) else some (qo, ql)) ∧ Below g w0 w' ∧ Mid (g + 1) W w')
      rw [if_neg c]
      have cb : decide (m < ql) = false := decide_eq_false c
      clear c
      have hlz : ((b.length : Int) == (l.length : Int)) = true := beq_iff_eq.mpr (by omega)
      obtain ⟨A, c, rfl⟩ := Kd.R_slice hR
      obtain ⟨A0, c0, rfl⟩ := Kd.R_slice h0
      obtain ⟨A1, c1, rfl⟩ := Kd.R_slice h1
      have RC0 := Aside0.mk (Kd.R_reads' h0).2.2
      have CP0 := Aside0.mk (Kd.R_reads' h0).2.1
      have RC1 := Aside0.mk (Kd.R_reads' h1).2.2
      have CP1 := Aside0.mk (Kd.R_reads' h1).2.1
      have HL1 := Aside0.mk (show b.length ≤ 1000 by omega)
      have HE := Aside0.mk hE
      have HR := Aside0.mk hR
      have HB0 := Aside0.mk hB
      have HRD := Aside0.mk hrd
      have HG := Aside0.mk hgw
      clear hE hR h0 h1 hB hrd hgw hbl h8
      go_enter Try.func90, Try.ntmps90
      go_wp2_with (first | ((with_reducible refine gate_dst (N := 5) rfl ?_); refine box_event ?hg (N := 5) ?hd (cs := #[.slice A0 p0.length c0, .slice A1 p1.length c1]) (t := 83) ?hr ?_; (case hd => rfl); (case hg => rfl); (case hr => first | (go_simp; done) | (go_simp; rfl)); intro gp hgp W5 hbx hb5; have GP := Aside0.mk (show g + 1 ≤ gp by have := HE.out.lt; omega); have BX := Aside0.mk hbx; have HE5 := Aside0.mk (HE.out.below hb5); have HB5 := Aside0.mk (HB0.out.trans (hb5.mono (Nat.le_of_lt HE.out.lt))); have HM5 := Aside0.mk (Mid.of_below (m := g + 1) hb5); have HRB := Aside0.mk (show ∀ w', Below W5.heap.size W5 w' → Kd.R (Kd.int .i64) 2 w' (g + 1) (fun _ => True) (.slice A b.length c) b from fun w' h => Kd.R_below (Kd.R_below HR.out hb5) h); have n0_ := Aside0.mk (Kd.C_below RC0.out hb5); have n1_ := Aside0.mk (Kd.C_below RC1.out hb5); clear RC0 RC1; have RC0 := n0_; have RC1 := n1_; clear n0_ n1_; have HB := Aside0.mk (Below.refl W5.heap.size W5); have HS0 := Aside0.mk (show ∀ w', Below W5.heap.size W5 w' → w'.cell? ⟨g, 0, none⟩ = some (.int .i8 x) ∧ w'.cell? ⟨g, 1, none⟩ = some (.int .i8 y) ∧ w'.cell? ⟨gp, 0, none⟩ = some (.slice A0 p0.length c0) from fun w' h => ⟨(blk_cell (HE5.out.below h).blk 0).trans rfl, (blk_cell (HE5.out.below h).blk 1).trans rfl, (blk_cell (blk_below BX.out h) 0).trans rfl⟩); have HS1 := Aside0.mk (show ∀ w', Below W5.heap.size W5 w' → w'.cell? ⟨g, 0, none⟩ = some (.int .i8 x) ∧ w'.cell? ⟨g, 1, none⟩ = some (.int .i8 y) ∧ w'.cell? ⟨gp, 1, none⟩ = some (.slice A1 p1.length c1) from fun w' h => ⟨(blk_cell (HE5.out.below h).blk 0).trans rfl, (blk_cell (HE5.out.below h).blk 1).trans rfl, (blk_cell (blk_below BX.out h) 1).trans rfl⟩); clear hbx hb5 hgp; have k2 : W5.cell? ⟨g, 2, none⟩ = some (.slice A2 l.length c2) := blk_cell HE5.out.blk 2; clear HE))
      clear k2
      refine start_ (n := 12) (S := fun w' => w'.cell? ⟨g, 0, none⟩ = some (.int .i8 x) ∧ w'.cell? ⟨g, 1, none⟩ = some (.int .i8 y) ∧ w'.cell? ⟨gp, 0, none⟩ = some (.slice A0 p0.length c0)) (ds := []) #[false, false, false, false, false, false, false, false, false, false, false, false] (by kernel_rfl) rfl rfl ⟨(HS0.out _ (below_drew1 HB.out)).1, (HS0.out _ (below_drew1 HB.out)).2.1, (HS0.out _ (below_drew1 HB.out)).2.2⟩ (fun hHeld => ?_)
      have n1_ := Aside0.mk (below_drew1 HB.out)
      clear HB
      generalize W5.drew = w20 at n1_ hHeld  ⊢
      have HB := n1_
      clear n1_
      refine pure_ (i := 0) (N := some 22) (v := ?_) (a' := ?_) #[true, false, false, false, false, false, false, false, false, false, false, false] rfl rfl (by kernel_rfl) (fun _ _ _ h => h) (Or.inl ⟨by rfl, ?_⟩) ?_ ?_
      rotate_left
      · intro w'
        go_simp
        with_reducible rfl
      rotate_left
      · simp only [Act.put, List.setIfInBounds_toArray, List.set_cons_zero, List.set_cons_succ, i64_w, i32_w]
        rfl
      refine pure_ (i := 1) (N := some 23) (v := ?_) (a' := ?_) #[true, true, false, false, false, false, false, false, false, false, false, false] rfl rfl (by kernel_rfl) (fun _ _ _ h => h) (Or.inl ⟨by rfl, ?_⟩) ?_ ?_
      rotate_left
      · intro w'
        go_simp
        with_reducible rfl
      rotate_left
      · simp only [Act.put, List.setIfInBounds_toArray, List.set_cons_zero, List.set_cons_succ, i64_w, i32_w]
        rfl
      refine pure_ (i := 2) (N := some 24) (v := ?_) (a' := ?_) #[true, true, true, false, false, false, false, false, false, false, false, false] rfl rfl (by kernel_rfl) (fun _ _ _ h => h) (Or.inl ⟨by rfl, ?_⟩) ?_ ?_
      rotate_left
      · intro w'
        go_simp
        with_reducible rfl
      rotate_left
      · simp only [Act.put, List.setIfInBounds_toArray, List.set_cons_zero, List.set_cons_succ, i64_w, i32_w]
        rfl
      refine pure_ (i := 4) (N := some 26) (v := ?_) (a' := ?_) #[true, true, true, false, true, false, false, false, false, false, false, false] rfl rfl (by kernel_rfl) (fun _ _ _ h => h) (Or.inl ⟨by rfl, ?_⟩) ?_ ?_
      rotate_left
      · intro w'
        go_simp
        with_reducible rfl
      rotate_left
      · simp only [Act.put, List.setIfInBounds_toArray, List.set_cons_zero, List.set_cons_succ, i64_w, i32_w]
        rfl
      refine take_ (i := 3) (N := some 25) (v := ?_) (a' := ?_) #[true, true, true, true, true, false, false, false, false, false, false, false] rfl rfl (by kernel_rfl) (fun _ _ _ h => h) (Or.inl ⟨by rfl, ?_⟩) hHeld ?_ ?_
      rotate_left
      · rintro w' ⟨s0, s1, s2⟩
        go_simp
        with_reducible rfl
      rotate_left
      · simp only [Act.put, List.setIfInBounds_toArray, List.set_cons_zero, List.set_cons_succ, i64_w, i32_w]
        rfl
      refine take_ (i := 5) (N := some 27) (v := ?_) (a' := ?_) #[true, true, true, true, true, true, false, false, false, false, false, false] rfl rfl (by kernel_rfl) (fun _ _ _ h => h) (Or.inl ⟨by rfl, ?_⟩) hHeld ?_ ?_
      rotate_left
      · rintro w' ⟨s0, s1, s2⟩
        go_simp
        with_reducible rfl
      rotate_left
      · simp only [Act.put, List.setIfInBounds_toArray, List.set_cons_zero, List.set_cons_succ, i64_w, i32_w]
        rfl
      refine one_ (i := 6) (N := some 28) #[true, true, true, true, true, true, true, false, false, false, false, false] rfl rfl (by kernel_rfl) (by decide) (fun K hK => ?_)
      refine goes_ Try.func108 (by kernel_rfl) rfl #[.agg #[.int .i8 x, .int .i8 y], .slice A0 p0.length c0, .int .i64 0] (by rfl) rfl rfl (by (try simp only [List.map_toArray, List.map_cons, List.map_nil]); first | done | rfl | (simp only [List.length_drop, List.length_take]; rfl)) ?_
      refine (C0.out _ A0 c0 (Kd.C_below RC0.out HB.out) CP0.out).mono ?_
      rintro e w21 ⟨vb0, rfl, hr_, hb_⟩
      refine ⟨_, rfl, ?_⟩
      have n1_ := Aside0.mk (below_step HB.out hb_)
      clear HB hr_ hb_
      have HB := n1_
      clear n1_
      refine hK.out _ _ ⟨(HS0.out _ HB.out).1, (HS0.out _ HB.out).2.1, (HS0.out _ HB.out).2.2⟩ (fun hHeld => ?_)
      clear hK K
      refine norm_ (a' := ?_) ?_ ?_
      rotate_left
      · show Act.put _ (some 28) _ = _
        simp only [Act.put, List.setIfInBounds_toArray, List.set_cons_zero, List.set_cons_succ, i64_w, i32_w]
        rfl
      refine pure_ (i := 7) (N := some 21) (v := ?_) (a' := ?_) #[true, true, true, true, true, true, true, true, false, false, false, false] rfl rfl (by kernel_rfl) (fun _ _ _ h => h) (Or.inl ⟨by rfl, ?_⟩) ?_ ?_
      rotate_left
      · intro w'
        go_simp
        with_reducible rfl
      rotate_left
      · simp only [Act.put, List.setIfInBounds_toArray, List.set_cons_zero, List.set_cons_succ, i64_w, i32_w]
        rfl
      refine pure_ (i := 8) (N := some 29) (v := ?_) (a' := ?_) #[true, true, true, true, true, true, true, true, true, false, false, false] rfl rfl (by kernel_rfl) (fun _ _ _ h => h) (Or.inl ⟨by rfl, ?_⟩) ?_ ?_
      rotate_left
      · intro w'
        go_simp
        with_reducible rfl
      rotate_left
      · simp only [Act.put, List.setIfInBounds_toArray, List.set_cons_zero, List.set_cons_succ, i64_w, i32_w]
        rfl
      refine pure_ (i := 9) (N := some 30) (v := ?_) (a' := ?_) #[true, true, true, true, true, true, true, true, true, true, false, false] rfl rfl (by kernel_rfl) (fun _ _ _ h => h) (Or.inl ⟨by rfl, ?_⟩) ?_ ?_
      rotate_left
      · intro w'
        go_simp
        with_reducible rfl
      rotate_left
      · simp only [Act.put, List.setIfInBounds_toArray, List.set_cons_zero, List.set_cons_succ, i64_w, i32_w]
        rfl
      refine pure_ (i := 10) (N := some 6) (v := ?_) (a' := ?_) #[true, true, true, true, true, true, true, true, true, true, true, false] rfl rfl (by kernel_rfl) (fun _ _ _ h => h) (Or.inl ⟨by rfl, ?_⟩) ?_ ?_
      rotate_left
      · intro w'
        go_simp
        with_reducible rfl
      rotate_left
      · simp only [Act.put, List.setIfInBounds_toArray, List.set_cons_zero, List.set_cons_succ, i64_w, i32_w]
        rfl
      refine pure_ (i := 11) (N := some 7) (v := ?_) (a' := ?_) #[true, true, true, true, true, true, true, true, true, true, true, true] rfl rfl (by kernel_rfl) (fun _ _ _ h => h) (Or.inl ⟨by rfl, ?_⟩) ?_ ?_
      rotate_left
      · intro w'
        go_simp
        with_reducible rfl
      rotate_left
      · simp only [Act.put, List.setIfInBounds_toArray, List.set_cons_zero, List.set_cons_succ, i64_w, i32_w]
        rfl
      refine done_ (by kernel_rfl) ?_
      try go_wp2
      refine start_ (n := 12) (S := fun w' => w'.cell? ⟨g, 0, none⟩ = some (.int .i8 x) ∧ w'.cell? ⟨g, 1, none⟩ = some (.int .i8 y) ∧ w'.cell? ⟨gp, 1, none⟩ = some (.slice A1 p1.length c1)) (ds := []) #[false, false, false, false, false, false, false, false, false, false, false, false] (by kernel_rfl) rfl rfl ⟨(HS1.out _ (below_drew1 HB.out)).1, (HS1.out _ (below_drew1 HB.out)).2.1, (HS1.out _ (below_drew1 HB.out)).2.2⟩ (fun hHeld => ?_)
      have n1_ := Aside0.mk (below_drew1 HB.out)
      clear HB
      generalize w21.drew = w30 at n1_ hHeld  ⊢
      have HB := n1_
      clear n1_
      refine pure_ (i := 0) (N := some 32) (v := ?_) (a' := ?_) #[true, false, false, false, false, false, false, false, false, false, false, false] rfl rfl (by kernel_rfl) (fun _ _ _ h => h) (Or.inl ⟨by rfl, ?_⟩) ?_ ?_
      rotate_left
      · intro w'
        go_simp
        with_reducible rfl
      rotate_left
      · simp only [Act.put, List.setIfInBounds_toArray, List.set_cons_zero, List.set_cons_succ, i64_w, i32_w]
        rfl
      refine pure_ (i := 1) (N := some 33) (v := ?_) (a' := ?_) #[true, true, false, false, false, false, false, false, false, false, false, false] rfl rfl (by kernel_rfl) (fun _ _ _ h => h) (Or.inl ⟨by rfl, ?_⟩) ?_ ?_
      rotate_left
      · intro w'
        go_simp
        with_reducible rfl
      rotate_left
      · simp only [Act.put, List.setIfInBounds_toArray, List.set_cons_zero, List.set_cons_succ, i64_w, i32_w]
        rfl
      refine pure_ (i := 2) (N := some 34) (v := ?_) (a' := ?_) #[true, true, true, false, false, false, false, false, false, false, false, false] rfl rfl (by kernel_rfl) (fun _ _ _ h => h) (Or.inl ⟨by rfl, ?_⟩) ?_ ?_
      rotate_left
      · intro w'
        go_simp
        with_reducible rfl
      rotate_left
      · simp only [Act.put, List.setIfInBounds_toArray, List.set_cons_zero, List.set_cons_succ, i64_w, i32_w]
        rfl
      refine pure_ (i := 4) (N := some 36) (v := ?_) (a' := ?_) #[true, true, true, false, true, false, false, false, false, false, false, false] rfl rfl (by kernel_rfl) (fun _ _ _ h => h) (Or.inl ⟨by rfl, ?_⟩) ?_ ?_
      rotate_left
      · intro w'
        go_simp
        with_reducible rfl
      rotate_left
      · simp only [Act.put, List.setIfInBounds_toArray, List.set_cons_zero, List.set_cons_succ, i64_w, i32_w]
        rfl
      refine take_ (i := 3) (N := some 35) (v := ?_) (a' := ?_) #[true, true, true, true, true, false, false, false, false, false, false, false] rfl rfl (by kernel_rfl) (fun _ _ _ h => h) (Or.inl ⟨by rfl, ?_⟩) hHeld ?_ ?_
      rotate_left
      · rintro w' ⟨s0, s1, s2⟩
        go_simp
        with_reducible rfl
      rotate_left
      · simp only [Act.put, List.setIfInBounds_toArray, List.set_cons_zero, List.set_cons_succ, i64_w, i32_w]
        rfl
      refine take_ (i := 5) (N := some 37) (v := ?_) (a' := ?_) #[true, true, true, true, true, true, false, false, false, false, false, false] rfl rfl (by kernel_rfl) (fun _ _ _ h => h) (Or.inl ⟨by rfl, ?_⟩) hHeld ?_ ?_
      rotate_left
      · rintro w' ⟨s0, s1, s2⟩
        go_simp
        with_reducible rfl
      rotate_left
      · simp only [Act.put, List.setIfInBounds_toArray, List.set_cons_zero, List.set_cons_succ, i64_w, i32_w]
        rfl
      refine one_ (i := 6) (N := some 38) #[true, true, true, true, true, true, true, false, false, false, false, false] rfl rfl (by kernel_rfl) (by decide) (fun K hK => ?_)
      refine goes_ Try.func108 (by kernel_rfl) rfl #[.agg #[.int .i8 x, .int .i8 y], .slice A1 p1.length c1, .int .i64 0] (by rfl) rfl rfl (by (try simp only [List.map_toArray, List.map_cons, List.map_nil]); first | done | rfl | (simp only [List.length_drop, List.length_take]; rfl)) ?_
      refine (C1.out _ A1 c1 (Kd.C_below RC1.out HB.out) CP1.out).mono ?_
      rintro e w31 ⟨vb1, rfl, hr_, hb_⟩
      refine ⟨_, rfl, ?_⟩
      have n1_ := Aside0.mk (below_step HB.out hb_)
      clear HB hr_ hb_
      have HB := n1_
      clear n1_
      refine hK.out _ _ ⟨(HS1.out _ HB.out).1, (HS1.out _ HB.out).2.1, (HS1.out _ HB.out).2.2⟩ (fun hHeld => ?_)
      clear hK K
      refine norm_ (a' := ?_) ?_ ?_
      rotate_left
      · show Act.put _ (some 38) _ = _
        simp only [Act.put, List.setIfInBounds_toArray, List.set_cons_zero, List.set_cons_succ, i64_w, i32_w]
        rfl
      refine pure_ (i := 7) (N := some 31) (v := ?_) (a' := ?_) #[true, true, true, true, true, true, true, true, false, false, false, false] rfl rfl (by kernel_rfl) (fun _ _ _ h => h) (Or.inl ⟨by rfl, ?_⟩) ?_ ?_
      rotate_left
      · intro w'
        go_simp
        with_reducible rfl
      rotate_left
      · simp only [Act.put, List.setIfInBounds_toArray, List.set_cons_zero, List.set_cons_succ, i64_w, i32_w]
        rfl
      refine pure_ (i := 8) (N := some 39) (v := ?_) (a' := ?_) #[true, true, true, true, true, true, true, true, true, false, false, false] rfl rfl (by kernel_rfl) (fun _ _ _ h => h) (Or.inl ⟨by rfl, ?_⟩) ?_ ?_
      rotate_left
      · intro w'
        go_simp
        with_reducible rfl
      rotate_left
      · simp only [Act.put, List.setIfInBounds_toArray, List.set_cons_zero, List.set_cons_succ, i64_w, i32_w]
        rfl
      refine pure_ (i := 9) (N := some 40) (v := ?_) (a' := ?_) #[true, true, true, true, true, true, true, true, true, true, false, false] rfl rfl (by kernel_rfl) (fun _ _ _ h => h) (Or.inl ⟨by rfl, ?_⟩) ?_ ?_
      rotate_left
      · intro w'
        go_simp
        with_reducible rfl
      rotate_left
      · simp only [Act.put, List.setIfInBounds_toArray, List.set_cons_zero, List.set_cons_succ, i64_w, i32_w]
        rfl
      refine pure_ (i := 10) (N := some 8) (v := ?_) (a' := ?_) #[true, true, true, true, true, true, true, true, true, true, true, false] rfl rfl (by kernel_rfl) (fun _ _ _ h => h) (Or.inl ⟨by rfl, ?_⟩) ?_ ?_
      rotate_left
      · intro w'
        go_simp
        with_reducible rfl
      rotate_left
      · simp only [Act.put, List.setIfInBounds_toArray, List.set_cons_zero, List.set_cons_succ, i64_w, i32_w]
        rfl
      refine pure_ (i := 11) (N := some 9) (v := ?_) (a' := ?_) #[true, true, true, true, true, true, true, true, true, true, true, true] rfl rfl (by kernel_rfl) (fun _ _ _ h => h) (Or.inl ⟨by rfl, ?_⟩) ?_ ?_
      rotate_left
      · intro w'
        go_simp
        with_reducible rfl
      rotate_left
      · simp only [Act.put, List.setIfInBounds_toArray, List.set_cons_zero, List.set_cons_succ, i64_w, i32_w]
        rfl
      refine done_ (by kernel_rfl) ?_
      go_wp2_with (first | (go_at_call 72; refine (HM.out _).mono ?_; rintro e w41 ⟨rfl, hd⟩; have n1_ := Aside0.mk (below_step HB.out (by first | exact hd | exact hd.below)); clear hd HB; have HB := n1_; clear n1_; have k5 : w41.cell? ⟨g, 5, none⟩ = some (.bool true) := blk_cell (HE5.out.below HB.out).blk 5; have k4 : w41.cell? ⟨g, 4, none⟩ = some (.int .i64 ql) := blk_cell (HE5.out.below HB.out).blk 4))
      first | go_end0 | ((try simp only [Exit.inBlock, Exit.then]); refine bodyPost_ret (results_none rfl _ _ _) rfl ?_)
      exact ⟨rfl, bv, HE5.out.below HB.out, HB5.out.trans (HB.out.mono (by have := HE5.out.lt; omega)), HM5.out.trans (Mid.of_below HB.out)⟩
end Go.Proofs.Ythkccaclmodjiaa.I
