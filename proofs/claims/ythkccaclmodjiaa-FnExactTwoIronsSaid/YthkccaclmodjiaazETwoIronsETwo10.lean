import Derived.Test.YthkccaclmodjiaazETwoIronsEListsPiece
import Derived.Test.YthkccaclmodjiaazETwoIronsEShortest1
import Derived.Test.YthkccaclmodjiaazETwoIronsEShortest3
import Derived.Test.YthkccaclmodjiaazETwoIronsESearch1
import Derived.Test.YthkccaclmodjiaazETwoIronsETwo10b
import Derived.Test.YthkccaclmodjiaazETwoIronsETwo9
import Derived.Test.YthkccaclmodjiaazETwoIronsI0
import Derived.Test.YthkccaclmodjiaazETwoIronsEBLem1
import Derived.Shelf.Abstract
import Derived.RangeFuncBox
import Derived.Shelf.SlSortCmp.Insertion1
namespace Go.Proofs.Ythkccaclmodjiaa.I
open Go.RowKit Go.Proofs.YthkccaclmodjiaaW.PrintWords Go.Proofs.YthkccaclmodjiaaW.PrintLast Go.Proofs.YthkccaclmodjiaaW.PrintMore
attribute [local go_sem] max2_int min2_int max_two min_two max_three min_three max_four min_four
set_option linter.unusedVariables false
set_option linter.unusedSimpArgs false
open Go.Sort Go.Shelf Go.Lib
set_option maxHeartbeats 8000000 in
set_option maxRecDepth 100000 in
theorem two_walk (k : Nat) (x : Int) (y : Int) (A0 : Option Addr) (c0 : Nat) (l0 : List (S57)) (w : World) (hr1 : Kd.C k57 w A0 l0.length l0) (hc1 : l0.length ≤ c0) (ha : impl_ironCode.f k x y l0 = some 0) (hs : sureB x y l0 = true) :
    Calls Try.prog 42 #[.agg #[.int .i8 x, .int .i8 y], .slice A0 l0.length c0] w fun e w' => ∃ v0_ : Value, e = .returned (.tuple #[v0_, .int .i64 (lowOf (twoOf (timeP x y) l0)), .int .i64 0]) ∧ Kd.R (Kd.int .i64) 2 w' w.heap.size (fun _ => True) v0_ (wayOf (twoOf (timeP x y) l0)) ∧ Below w.heap.size w w' := by
  have hu27 := Try.underlying27
  have hu57 := Try.underlying57
  have HA := Aside0.mk ha
  have HR0 := Aside0.mk hr1
  have HC0 := Aside0.mk hc1
  clear ha hr1 hc1
  go_enter Try.func42, Try.ntmps42
  go_wp2_with (first | ((with_reducible refine gate_dst (N := 2) rfl ?_); refine box_event ?hg (N := 2) ?hd (cs := #[.int .i8 x, .int .i8 y]) (t := 27) ?hr ?_; (case hd => rfl); (case hg => rfl); (case hr => first | (go_simp; done) | (go_simp; rfl)); intro gx hgx W1 hbx hb1; have BX := Aside0.mk hbx; have HB := Aside0.mk hb1; have k0 : W1.cell? ⟨gx, 0, none⟩ = some (.int .i8 x) := (blk_cell hbx 0).trans rfl; have k1 : W1.cell? ⟨gx, 1, none⟩ = some (.int .i8 y) := (blk_cell hbx 1).trans rfl; clear hbx hb1 hgx) | (go_at_call 74; refine (impl_ironCode.calls k x y A0 c0 l0 _ _ (Kd.C_below HR0.out HB.out) HC0.out HA.out).mono ?_; rintro e W2 ⟨rfl, hb2⟩; have n0_ := Aside0.mk (blk_below BX.out hb2); have n1_ := Aside0.mk (below_step HB.out hb2); clear BX HB hb2 k0 k1; have BX := n0_; have HB := n1_; clear n0_ n1_))
  obtain ⟨hx, hy, h8, hf⟩ := sureB_iff.mp hs
  obtain ⟨n, hn⟩ : ∃ n, l0.length = n := ⟨_, rfl⟩
  obtain ⟨N, hN⟩ : ∃ N, 2 ^ n = N := ⟨_, rfl⟩
  have hNb : 1 ≤ N ∧ N ≤ 256 := by
    have : n ≤ 8 := by omega
    rw [← hN]
    exact ⟨Nat.one_le_two_pow, Nat.pow_le_pow_right (by omega) this⟩
  have hsh : wrap64 (2 ^ min l0.length 64) = (N : Int) := by
    have hz : (2 : Int) ^ n = (N : Int) := by rw [← hN, Int.natCast_pow]; rfl
    rw [hn, show min n 64 = n by omega, hz]
    exact w64 _ (by omega) (by omega)
  rw [hsh]
  clear hsh
  have HN := Aside0.mk hn
  have HNN := Aside0.mk hN
  have HNB := Aside0.mk hNb
  have H8 := Aside0.mk h8
  have HS := Aside0.mk hs
  clear hn hN hNb h8 hs hx hy hf
  go_loopg [8, 9, 26] N (fun gk v8 v9 v26 wr => ∃ (s : Nat), s ≤ N ∧ N - s ≤ gk ∧ v26 = .int .i64 s ∧ v9 = .int .i64 (foundOf (overSets (timeP x y) l0 s)).2 ∧ Aside0 (Kd.R (Kd.int .i64) 2 wr w.heap.size (fun _ => True) v8 (foundOf (overSets (timeP x y) l0 s)).1) ∧ Aside0 (Below w.heap.size w wr) ∧ Aside0 (wr.heap[gx]? = some (.cells #[.int .i8 x, .int .i8 y] 27 (0, 0))))
  case atStart => exact ⟨0, Nat.zero_le _, by omega, rfl, rfl, ⟨Kd.R_nil _ _ _ _ _⟩, HB, BX⟩
  case round =>
    clear HB BX
    obtain ⟨s, hsN, hgk, rfl, rfl, RB, BR, KX⟩ := hrel
    obtain ⟨wo, hwo⟩ : ∃ wo, wo = wr := ⟨_, rfl⟩
    subst hwo
    obtain ⟨gko, hgo⟩ : ∃ z, z = gk := ⟨_, rfl⟩
    subst hgo
    by_cases hlt : s < N
    · have hltz : (s : Int) < (N : Int) := by omega
      go_wp2_with (first | ((with_reducible refine gate_dst (N := 29) rfl ?_); refine Kd.R_lit (Kd.int .i64) _ 2 ?hg (N := 29) ?hd (xs := ([] : List Int)) (inner := []) (ok := fun _ => True) (okp := fun _ => True) ?hr ?hp (fun _ hk => hk) trivial (Below.refl _ _) (Nat.le_refl _) (by simp) ?_; (case hd => rfl); (case hg => rfl); (case hr => first | (go_simp; done) | (go_simp; rfl)); (case hp => exact (Reps.none _ _)); intro vl w29 ho hb hg_ hnew_; clear hg_ hnew_; have RL := Aside0.mk ho; have BL := Aside0.mk hb; clear ho hb) | ((with_reducible refine gate_dst (N := 12) rfl ?_); refine box_event ?hg (N := 12) ?hd (cs := #[.slice none 0 0, .slice none 0 0]) (t := 83) ?hr ?_; (case hd => rfl); (case hg => rfl); (case hr => first | (go_simp; done) | (go_simp; rfl)); intro gn hgn w12 hbn hb4; have GN := Aside0.mk (show wo.heap.size ≤ gn by rw [hgn]; exact BL.out.size); have n0_ := Aside0.mk (Kd.R_below RL.out hb4); have n1_ := Aside0.mk (below_step BL.out hb4); clear RL BL; have RL := n0_; have BL := n1_; clear n0_ n1_; have KN := Aside0.mk hbn; have cn0 : w12.cell? ⟨gn, 0, none⟩ = some (.slice none 0 0) := (blk_cell hbn 0).trans rfl; have cn1 : w12.cell? ⟨gn, 1, none⟩ = some (.slice none 0 0) := (blk_cell hbn 1).trans rfl; have fn0 := blk_frozen hbn 0; have fn1 := blk_frozen hbn 1; clear hbn hb4 hgn))
      have K13 := Aside0.mk (blk_put (blk_put (cs := #[.slice none 0 0, .slice none 0 0]) KN.out 0 (.slice none 0 0) rfl) 1 (.slice none 0 0) (cs' := #[.slice none 0 0, .slice none 0 0]) rfl)
      have K12 := Aside0.mk (blk_put (cs := #[.slice none 0 0, .slice none 0 0]) (cs' := #[.slice none 0 0, .slice none 0 0]) KN.out 0 (.slice none 0 0) rfl)
      have R13 := Aside0.mk (Kd.R_set (Kd.R_set RL.out KN.out (by decide) 0 (.slice none 0 0)) K12.out (by decide) 1 (.slice none 0 0))
      have B13 := Aside0.mk (below_set (j := 1) (v := .slice none 0 0) (below_set (j := 0) (v := .slice none 0 0) BL.out GN.out) GN.out)
      clear KN K12 RL BL cn0 cn1 fn0 fn1
      generalize (w12.setCell ⟨gn, 0, none⟩ (.slice none 0 0)).setCell ⟨gn, 1, none⟩ (.slice none 0 0) = w13 at K13 R13 B13 ⊢
      obtain ⟨b, hb⟩ : ∃ b, bitsOf n s = b := ⟨_, rfl⟩
      have HBB := Aside0.mk hb
      clear hb
      have PE := Aside0.mk (show PartsEnv wo.heap.size wo gn l0 b 0 vl (.slice none 0 0) (.slice none 0 0) w13 from ⟨K13.out, R13.out, Kd.R_nil _ _ _ _ _, Kd.R_nil _ _ _ _ _, fun _ h => by simp [Value.ownBlock] at h, GN.out, B13.out⟩)
      clear K13 R13 B13 GN
      go_loopg [11, 33] n (fun gk2 v11 v33 w' => ∃ (i : Nat) (u0 u1 : Value), i ≤ n ∧ n - i ≤ gk2 ∧ v33 = .int .i64 i ∧ Aside0 (PartsEnv wo.heap.size wo gn l0 b i v11 u0 u1 w'))
      case atStart => exact ⟨0, .slice none 0 0, .slice none 0 0, Nat.zero_le _, by omega, rfl, PE⟩
      case round =>
        clear PE
        obtain ⟨i, u0, u1, hin, hgi, rfl, PE⟩ := hrel
        by_cases hli : i < n
        · have hliz : (i : Int) < (l0.length : Int) := by have := HN.out; omega
          obtain ⟨P, hP⟩ : ∃ P, rd_T57 l0 (i : Int) = P := ⟨_, rfl⟩
          have BW := Aside0.mk (BR.out.trans (PE.out.hb.mono BR.out.size))
          have PAT := Aside0.mk (show ∀ w', Below wr.heap.size wr w' → ∃ ad, A0 = some ad ∧ w'.cell? (ad.add (i * 3)) = some (.int .i8 P.f0) ∧ w'.cell? ⟨(ad.add (i * 3)).block, (ad.add (i * 3)).off + 1, none⟩ = some (.int .i8 P.f1) ∧ w'.cell? ⟨(ad.add (i * 3)).block, (ad.add (i * 3)).off + 2, none⟩ = some (.int .i16 P.f2) from fun w' hb => by
            have := at_T57 (Kd.C_below HR0.out (below_step BW.out hb)) (i : Int) (by omega) hliz
            rw [Int.toNat_natCast, hP] at this
            exact this)
          have HP := Aside0.mk hP
          clear hP
          obtain ⟨ad, ea, y0, y1, y2⟩ := PAT.out wr (Below.refl _ _)
          have EA := Aside0.mk ea
          subst ea
          obtain ⟨j, hj⟩ : ∃ j : Nat, n - 1 - i = j := ⟨_, rfl⟩
          have hjw : wrap64 (wrap64 ((l0.length : Int) - 1) - (i : Int)) = (j : Int) := by
            have := HN.out
            have := H8.out
            rw [w64 ((l0.length : Int) - 1) (by omega) (by omega), w64 _ (by omega) (by omega)]
            omega
          have hj0 : 0 ≤ wrap64 (wrap64 ((l0.length : Int) - 1) - (i : Int)) := by rw [hjw]; omega
          have HJ := Aside0.mk hj
          clear hj
          go_wp2_with (first | ((with_reducible refine gate_dst (N := 14) rfl ?_); refine box_event ?hg (N := 14) ?hd (cs := #[.int .i8 0, .int .i8 0, .int .i16 0]) (t := 57) ?hr ?_; (case hd => rfl); (case hg => rfl); (case hr => first | (go_simp; done) | (go_simp; rfl)); intro g14 hg14 w14 hbn hb4; have G14 := Aside0.mk (show gn < g14 by rw [hg14]; exact blk_lt PE.out.blk); have G14b := Aside0.mk (show wr.heap.size ≤ g14 from Nat.le_of_eq hg14.symm); have B14 := Aside0.mk hb4; have KN := Aside0.mk hbn; have cn0 : w14.cell? ⟨g14, 0, none⟩ = some (.int .i8 0) := (blk_cell hbn 0).trans rfl; have cn1 : w14.cell? ⟨g14, 1, none⟩ = some (.int .i8 0) := (blk_cell hbn 1).trans rfl; have cn2 : w14.cell? ⟨g14, 2, none⟩ = some (.int .i16 0) := (blk_cell hbn 2).trans rfl; have fn0 := blk_frozen hbn 0; have fn1 := blk_frozen hbn 1; have fn2 := blk_frozen hbn 2; clear hbn hb4 hg14 y0 y1 y2))
          have ebl : b.length = n := by rw [← HBB.out]; exact bitsOf_len n s
          have hib : i < (bitsOf n s).length := by rw [bitsOf_len]; exact hli
          have hbt := bit_told s n i j HJ.out hib (by have := HN.out; have := H8.out; omega)
          have hbv := bitsOf_bit n s i hib
          obtain ⟨bk, hbk⟩ : ∃ bk, (bitsOf n s)[i] = bk := ⟨_, rfl⟩
          have HBK := Aside0.mk (show ∀ h : i < b.length, b[i] = bk from fun h => by have := HBB.out; subst this; exact hbk)
          rw [hbk] at hbt hbv
          rw [hbt]
          clear hbt hbk hib hjw hj0
          have EBL := Aside0.mk ebl
          have HLI := Aside0.mk hli
          clear ebl hli
          have K14 := Aside0.mk (blk_put (blk_put (blk_put (cs := #[.int .i8 0, .int .i8 0, .int .i16 0]) KN.out 0 (.int .i8 P.f0) rfl) 1 (.int .i8 P.f1) rfl) 2 (.int .i16 P.f2) (cs' := #[.int .i8 P.f0, .int .i8 P.f1, .int .i16 P.f2]) rfl)
          have BS := Aside0.mk (show Below wr.heap.size wr (((w14.setCell ⟨g14, 0, none⟩ (.int .i8 P.f0)).setCell ⟨g14, 1, none⟩ (.int .i8 P.f1)).setCell ⟨g14, 2, none⟩ (.int .i16 P.f2)) from below_set (below_set (below_set B14.out G14b.out) G14b.out) G14b.out)
          have HZ := Aside0.mk (PE.out.hb.size)
          clear KN B14 cn0 cn1 cn2 fn0 fn1 fn2
          generalize ((w14.setCell ⟨g14, 0, none⟩ (.int .i8 P.f0)).setCell ⟨g14, 1, none⟩ (.int .i8 P.f1)).setCell ⟨g14, 2, none⟩ (.int .i16 P.f2) = w15 at K14 BS ⊢
          obtain ⟨q0, hq0⟩ : ∃ q, partOf 0 (b.take i) (l0.take i) = q := ⟨_, rfl⟩
          obtain ⟨q1, hq1⟩ : ∃ q, partOf 1 (b.take i) (l0.take i) = q := ⟨_, rfl⟩
          have Q0 := Aside0.mk hq0
          have Q1 := Aside0.mk hq1
          have AX := Aside0.mk (show PartsIn wo.heap.size wo gn g14 P q0 q1 u0 u1 w15 from ⟨blk_below PE.out.blk BS.out, K14.out, by rw [← hq0]; exact Kd.R_below PE.out.r0 BS.out, by rw [← hq1]; exact Kd.R_below PE.out.r1 BS.out, PE.out.hb.trans (BS.out.mono HZ.out), Nat.le_trans HZ.out BS.out.size⟩)
          have RBY := Aside0.mk (Kd.R_below PE.out.rb BS.out)
          have NE := Aside0.mk PE.out.ne
          have LO := Aside0.mk PE.out.lo
          have L0 := Aside0.mk (show q0.length ≤ 8 by rw [← hq0]; have := partOf_len 0 (b.take i) (l0.take i); rw [List.length_take] at this; have := H8.out; omega)
          have L1 := Aside0.mk (show q1.length ≤ 8 by rw [← hq1]; have := partOf_len 1 (b.take i) (l0.take i); rw [List.length_take] at this; have := H8.out; omega)
          have LB := Aside0.mk (show (b.take i).length ≤ 8 by rw [List.length_take]; have := EBL.out; have := HN.out; have := H8.out; omega)
          clear PE K14 BS PAT BW hq0 hq1
          rcases hbv with rfl | rfl
          · skip
            refine start_ (n := 14) (S := fun w' => w'.cell? ⟨gn, 0, none⟩ = some u0 ∧ w'.cell? ⟨g14, 0, none⟩ = some (.int .i8 P.f0) ∧ w'.cell? ⟨g14, 1, none⟩ = some (.int .i8 P.f1) ∧ w'.cell? ⟨g14, 2, none⟩ = some (.int .i16 P.f2)) (ds := [10, 13]) #[false, false, false, false, false, false, false, false, false, false, false, false, false, false] (by kernel_rfl) rfl rfl ⟨(blk_cell (AX.out.below (below_drew1 (Below.refl _ _))).blk 0).trans rfl, (blk_cell (AX.out.below (below_drew1 (Below.refl _ _))).pc 0).trans rfl, (blk_cell (AX.out.below (below_drew1 (Below.refl _ _))).pc 1).trans rfl, (blk_cell (AX.out.below (below_drew1 (Below.refl _ _))).pc 2).trans rfl⟩ (fun hHeld => ?_)
            have n1_ := Aside0.mk (AX.out.below (below_drew1 (Below.refl _ _)))
            have n2_ := Aside0.mk (Kd.R_below RBY.out (below_drew1 (Below.refl _ _)))
            clear AX RBY
            generalize w15.drew = w16 at n1_ n2_ hHeld ⊢
            have AX := n1_
            have RBY := n2_
            clear n1_ n2_
            refine pure_ (i := 0) (N := some 46) (v := ?_) (a' := ?_) #[true, false, false, false, false, false, false, false, false, false, false, false, false, false] rfl rfl (by kernel_rfl) (fun _ _ _ h => h) (Or.inl ⟨by rfl, ?_⟩) ?_ ?_
            rotate_left
            · intro w'
              go_simp
              with_reducible rfl
            rotate_left
            · simp only [Act.put, List.setIfInBounds_toArray, List.set_cons_zero, List.set_cons_succ, i64_w, i32_w]
              rfl
            refine pure_ (i := 1) (N := some 47) (v := ?_) (a' := ?_) #[true, true, false, false, false, false, false, false, false, false, false, false, false, false] rfl rfl (by kernel_rfl) (fun _ _ _ h => h) (Or.inl ⟨by rfl, ?_⟩) ?_ ?_
            rotate_left
            · intro w'
              go_simp
              with_reducible rfl
            rotate_left
            · simp only [Act.put, List.setIfInBounds_toArray, List.set_cons_zero, List.set_cons_succ, i64_w, i32_w]
              rfl
            refine pure_ (i := 2) (N := some 48) (v := ?_) (a' := ?_) #[true, true, true, false, false, false, false, false, false, false, false, false, false, false] rfl rfl (by kernel_rfl) (fun _ _ _ h => h) (Or.inl ⟨by rfl, ?_⟩) ?_ ?_
            rotate_left
            · intro w'
              go_simp
              with_reducible rfl
            rotate_left
            · simp only [Act.put, List.setIfInBounds_toArray, List.set_cons_zero, List.set_cons_succ, i64_w, i32_w]
              rfl
            refine pure_ (i := 5) (N := some 51) (v := ?_) (a' := ?_) #[true, true, true, false, false, true, false, false, false, false, false, false, false, false] rfl rfl (by kernel_rfl) (fun _ _ _ h => h) (Or.inl ⟨by rfl, ?_⟩) ?_ ?_
            rotate_left
            · intro w'
              go_simp
              with_reducible rfl
            rotate_left
            · simp only [Act.put, List.setIfInBounds_toArray, List.set_cons_zero, List.set_cons_succ, i64_w, i32_w]
              rfl
            refine pure_ (i := 6) (N := some 52) (v := ?_) (a' := ?_) #[true, true, true, false, false, true, true, false, false, false, false, false, false, false] rfl rfl (by kernel_rfl) (fun _ _ _ h => h) (Or.inl ⟨by rfl, ?_⟩) ?_ ?_
            rotate_left
            · intro w'
              go_simp
              with_reducible rfl
            rotate_left
            · simp only [Act.put, List.setIfInBounds_toArray, List.set_cons_zero, List.set_cons_succ, i64_w, i32_w]
              rfl
            refine take_ (i := 7) (N := some 53) (v := ?_) (a' := ?_) #[true, true, true, false, false, true, true, true, false, false, false, false, false, false] rfl rfl (by kernel_rfl) (fun _ _ _ h => h) (Or.inl ⟨by rfl, ?_⟩) hHeld ?_ ?_
            rotate_left
            · rintro w' ⟨s0, s1, s2, s3⟩
              go_simp
              with_reducible rfl
            rotate_left
            · simp only [Act.put, List.setIfInBounds_toArray, List.set_cons_zero, List.set_cons_succ, i64_w, i32_w]
              rfl
            refine take_ (i := 8) (N := some 54) (v := ?_) (a' := ?_) #[true, true, true, false, false, true, true, true, true, false, false, false, false, false] rfl rfl (by kernel_rfl) (fun _ _ _ h => h) (Or.inl ⟨by rfl, ?_⟩) hHeld ?_ ?_
            rotate_left
            · rintro w' ⟨s0, s1, s2, s3⟩
              go_simp
              with_reducible rfl
            rotate_left
            · simp only [Act.put, List.setIfInBounds_toArray, List.set_cons_zero, List.set_cons_succ, i64_w, i32_w]
              rfl
            refine join_ (σ := Value × Value × Value) 4 #[true, true, true, true, true, true, true, true, true, true, false, false, false, false] (fun s_ => [(49, s_.1), (50, s_.2.1), (55, s_.2.2)]) (fun s_ w' => PartsIn wo.heap.size wo gn g14 P q0 q1 u0 u1 w' ∧ Kd.R (Kd.int .i64) 2 w' wo.heap.size (fun _ => True) s_.2.1 (b.take i ++ [(0 : Int)]) ∧ Kd.R k57 57 w' wo.heap.size (fun _ => True) s_.2.2 [P] ∧ Kd.R k57 57 w' wo.heap.size (fun k_ => some k_ ≠ (s_.2.2 : Value).ownBlock) u0 q0) ?_ ?_
            rotate_left
            · intro hCont
              refine two_ (i := 3) (j := 9) (Ni := some 49) (Nj := some 55) #[true, true, true, true, false, true, true, true, true, false, false, false, false, false] #[true, true, true, false, false, true, true, true, true, true, false, false, false, false] rfl rfl rfl rfl (by kernel_rfl) (by decide) (by decide) (fun K hK => ?_) (fun K hK => ?_)
              · skip
                refine Kd.R_lit_step (Kd.int .i64) _ 2 ?hg (N := 49) ?hd (xs := ([(0 : Int)] : List Int)) (inner := [.int .i64 0]) (ok := fun _ => True) (okp := fun _ => True) ?hr ?hp (fun _ hk => hk) trivial (Below.refl _ _) (Nat.le_refl _) (by simp) ?_; (case hd => rfl); (case hg => rfl); (case hr => first | (go_simp; done) | (go_simp; rfl)); (case hp => exact (Reps.one (show Kd.M (Kd.int .i64) _ _ _ (0 : Int) [.int .i64 0] from rfl) (Reps.none _ _)))
                intro v49 wa ho_ hb hg_ hnew_
                clear hg_ hnew_
                have HL := Aside0.mk (Kd.R_lower ho_ AX.out.hz)
                have RB49 := Aside0.mk (Kd.R_elder' RBY.out (Kd.R_base ho_) hb)
                have n_ := Aside0.mk (AX.out.below hb); clear AX; have AX := n_; clear n_
                clear RBY ho_ hb
                refine hK.out _ _ ⟨(blk_cell AX.out.blk 0).trans rfl, (blk_cell AX.out.pc 0).trans rfl, (blk_cell AX.out.pc 1).trans rfl, (blk_cell AX.out.pc 2).trans rfl⟩ (fun hHeld => ?_)
                clear hK K
                refine norm_ (a' := ?_) ?_ ?_
                rotate_left
                · show Act.put _ (some 49) _ = _
                  simp only [Act.put, List.setIfInBounds_toArray, List.set_cons_zero, List.set_cons_succ, i64_w, i32_w]
                  rfl
                refine two_ (i := 4) (j := 9) (Ni := some 50) (Nj := some 55) #[true, true, true, true, true, true, true, true, true, false, false, false, false, false] #[true, true, true, true, false, true, true, true, true, true, false, false, false, false] rfl rfl rfl rfl (by kernel_rfl) (by decide) (by decide) (fun K hK => ?_) (fun K hK => ?_)
                · skip
                  obtain ⟨Al49, cl49, el49⟩ := Kd.R_slice HL.out
                  (first | subst el49 | (injection el49 with f1_ f2_ f3_; have f4_ := f1_.symm; have f5_ := f3_.symm; clear f1_ f2_ f3_; subst f4_; subst f5_))
                  refine Kd.R_append_rows_step (Kd.int .i64) (w0 := wo) wo.heap.size (by rfl) (.tmp 47) (.tmp 49) 37 2 (.int .i64 0) 8 rfl Try.underlying37 info2 rfl (by decide) (by omega) u11 (b.take i) [(0 : Int)] _ _ _ (fun k_ => some k_ ≠ (.slice Al49 [(0 : Int)].length cl49 : Value).ownBlock) (fun _ => False) rfl rfl ?aO ?aR (fun _ _ h => h) (fun _ h => h.elim) ?aF ?aB ?aS ?aL ?_
                  (case aR => exact (Kd.R_reads' HL.out).2.2)
                  (case aB => exact AX.out.hb)
                  (case aF => exact (fun k_ hk => Kd.fresh' (Kd.R_lt HL.out) k_ hk))
                  (case aO => exact Kd.R_mono RB49.out (fun _ hk => hk.2))
                  (case aS => exact AX.out.hz)
                  (case aL => have := LB.out; simp only [List.length_singleton]; omega)
                  intro v50 wc ho hb hg hat
                  have n0_ := Aside0.mk (AX.out.grown RB49.out hg hb)
                  clear AX
                  have AX := n0_
                  clear n0_
                  have HO50 := Aside0.mk (Kd.R_mono ho (fun _ _ => trivial) : Kd.R (Kd.int .i64) 2 wc wo.heap.size (fun _ => True) v50 (b.take i ++ [(0 : Int)]))
                  clear ho hb hg hat HL RB49
                  refine hK.out _ _ ⟨(blk_cell AX.out.blk 0).trans rfl, (blk_cell AX.out.pc 0).trans rfl, (blk_cell AX.out.pc 1).trans rfl, (blk_cell AX.out.pc 2).trans rfl⟩ (fun hHeld => ?_)
                  clear hK K
                  refine norm_ (a' := ?_) ?_ ?_
                  rotate_left
                  · show Act.put _ (some 50) _ = _
                    simp only [Act.put, List.setIfInBounds_toArray, List.set_cons_zero, List.set_cons_succ, i64_w, i32_w]
                    rfl
                  refine one_ (i := 9) (N := some 55) #[true, true, true, true, true, true, true, true, true, true, false, false, false, false] rfl rfl (by kernel_rfl) (by decide) (fun K hK => ?_)
                  refine Kd.R_lit_step k57 _ 57 ?hg (N := 55) ?hd (xs := ([P] : List S57)) (inner := [.int .i8 P.f0, .int .i8 P.f1, .int .i16 P.f2]) (ok := fun _ => True) (okp := fun _ => True) ?hr ?hp (fun _ hk => hk) trivial (Below.refl _ _) (Nat.le_refl _) (by simp) ?_; (case hd => rfl); (case hg => rfl); (case hr => first | (go_simp; done) | (go_simp; rfl)); (case hp => exact (Reps.c3 (k57_mkM _ _ _ P) (Reps.none _ _)))
                  intro v55 wb ho_ hb hg_ hnew_
                  clear hg_ hnew_
                  have H2 := Aside0.mk (Kd.R_lower ho_ AX.out.hz)
                  have RK := Aside0.mk (Kd.R_elder' AX.out.r0 (Kd.R_base ho_) hb)
                  have n_ := Aside0.mk (Kd.R_below HO50.out hb); clear HO50; have HO50 := n_; clear n_
                  have n_ := Aside0.mk (AX.out.below hb); clear AX; have AX := n_; clear n_
                  clear ho_ hb
                  refine hK.out _ _ ⟨(blk_cell AX.out.blk 0).trans rfl, (blk_cell AX.out.pc 0).trans rfl, (blk_cell AX.out.pc 1).trans rfl, (blk_cell AX.out.pc 2).trans rfl⟩ (fun hHeld => ?_)
                  clear hK K
                  refine norm_ (a' := ?_) ?_ ?_
                  rotate_left
                  · show Act.put _ (some 55) _ = _
                    simp only [Act.put, List.setIfInBounds_toArray, List.set_cons_zero, List.set_cons_succ, i64_w, i32_w]
                    rfl
                  exact norm_ (by simp only [putAll, Act.put, List.setIfInBounds_toArray, List.set_cons_zero, List.set_cons_succ]) (hCont ((.slice Al49 [(0 : Int)].length cl49), v50, v55) _ ⟨AX.out, HO50.out, H2.out, Kd.R_mono RK.out (fun _ hk => hk.2)⟩)
                · skip
                  refine Kd.R_lit_step k57 _ 57 ?hg (N := 55) ?hd (xs := ([P] : List S57)) (inner := [.int .i8 P.f0, .int .i8 P.f1, .int .i16 P.f2]) (ok := fun _ => True) (okp := fun _ => True) ?hr ?hp (fun _ hk => hk) trivial (Below.refl _ _) (Nat.le_refl _) (by simp) ?_; (case hd => rfl); (case hg => rfl); (case hr => first | (go_simp; done) | (go_simp; rfl)); (case hp => exact (Reps.c3 (k57_mkM _ _ _ P) (Reps.none _ _)))
                  intro v55 wb ho_ hb hg_ hnew_
                  clear hg_ hnew_
                  have H2 := Aside0.mk (Kd.R_lower ho_ AX.out.hz)
                  have RK := Aside0.mk (Kd.R_elder' AX.out.r0 (Kd.R_base ho_) hb)
                  have n_ := Aside0.mk (Kd.R_below HL.out hb); clear HL; have HL := n_; clear n_
                  have n_ := Aside0.mk (Kd.R_below RB49.out hb); clear RB49; have RB49 := n_; clear n_
                  have n_ := Aside0.mk (AX.out.below hb); clear AX; have AX := n_; clear n_
                  clear ho_ hb
                  refine hK.out _ _ ⟨(blk_cell AX.out.blk 0).trans rfl, (blk_cell AX.out.pc 0).trans rfl, (blk_cell AX.out.pc 1).trans rfl, (blk_cell AX.out.pc 2).trans rfl⟩ (fun hHeld => ?_)
                  clear hK K
                  refine norm_ (a' := ?_) ?_ ?_
                  rotate_left
                  · show Act.put _ (some 55) _ = _
                    simp only [Act.put, List.setIfInBounds_toArray, List.set_cons_zero, List.set_cons_succ, i64_w, i32_w]
                    rfl
                  refine one_ (i := 4) (N := some 50) #[true, true, true, true, true, true, true, true, true, true, false, false, false, false] rfl rfl (by kernel_rfl) (by decide) (fun K hK => ?_)
                  obtain ⟨Al49, cl49, el49⟩ := Kd.R_slice HL.out
                  (first | subst el49 | (injection el49 with f1_ f2_ f3_; have f4_ := f1_.symm; have f5_ := f3_.symm; clear f1_ f2_ f3_; subst f4_; subst f5_))
                  refine Kd.R_append_rows_step (Kd.int .i64) (w0 := wo) wo.heap.size (by rfl) (.tmp 47) (.tmp 49) 37 2 (.int .i64 0) 8 rfl Try.underlying37 info2 rfl (by decide) (by omega) u11 (b.take i) [(0 : Int)] _ _ _ (fun k_ => some k_ ≠ (.slice Al49 [(0 : Int)].length cl49 : Value).ownBlock) (fun _ => False) rfl rfl ?aO ?aR (fun _ _ h => h) (fun _ h => h.elim) ?aF ?aB ?aS ?aL ?_
                  (case aR => exact (Kd.R_reads' HL.out).2.2)
                  (case aB => exact AX.out.hb)
                  (case aF => exact (fun k_ hk => Kd.fresh' (Kd.R_lt HL.out) k_ hk))
                  (case aO => exact Kd.R_mono RB49.out (fun _ hk => hk.2))
                  (case aS => exact AX.out.hz)
                  (case aL => have := LB.out; simp only [List.length_singleton]; omega)
                  intro v50 wc ho hb hg hat
                  have n0_ := Aside0.mk (AX.out.grown RB49.out hg hb)
                  have n1_ := Aside0.mk (Kd.R_over' H2.out (Kd.R_typed RB49.out) (by decide) hg)
                  have n2_ := Aside0.mk (Kd.R_over' RK.out (Kd.R_typed RB49.out) (by decide) hg)
                  clear H2 RK
                  have H2 := n1_
                  have RK := n2_
                  clear n1_ n2_
                  clear AX
                  have AX := n0_
                  clear n0_
                  have HO50 := Aside0.mk (Kd.R_mono ho (fun _ _ => trivial) : Kd.R (Kd.int .i64) 2 wc wo.heap.size (fun _ => True) v50 (b.take i ++ [(0 : Int)]))
                  clear ho hb hg hat HL RB49
                  refine hK.out _ _ ⟨(blk_cell AX.out.blk 0).trans rfl, (blk_cell AX.out.pc 0).trans rfl, (blk_cell AX.out.pc 1).trans rfl, (blk_cell AX.out.pc 2).trans rfl⟩ (fun hHeld => ?_)
                  clear hK K
                  refine norm_ (a' := ?_) ?_ ?_
                  rotate_left
                  · show Act.put _ (some 50) _ = _
                    simp only [Act.put, List.setIfInBounds_toArray, List.set_cons_zero, List.set_cons_succ, i64_w, i32_w]
                    rfl
                  exact norm_ (by simp only [putAll, Act.put, List.setIfInBounds_toArray, List.set_cons_zero, List.set_cons_succ]) (hCont ((.slice Al49 [(0 : Int)].length cl49), v50, v55) _ ⟨AX.out, HO50.out, H2.out, Kd.R_mono RK.out (fun _ hk => hk.2)⟩)
              · skip
                refine Kd.R_lit_step k57 _ 57 ?hg (N := 55) ?hd (xs := ([P] : List S57)) (inner := [.int .i8 P.f0, .int .i8 P.f1, .int .i16 P.f2]) (ok := fun _ => True) (okp := fun _ => True) ?hr ?hp (fun _ hk => hk) trivial (Below.refl _ _) (Nat.le_refl _) (by simp) ?_; (case hd => rfl); (case hg => rfl); (case hr => first | (go_simp; done) | (go_simp; rfl)); (case hp => exact (Reps.c3 (k57_mkM _ _ _ P) (Reps.none _ _)))
                intro v55 wb ho_ hb hg_ hnew_
                clear hg_ hnew_
                have H2 := Aside0.mk (Kd.R_lower ho_ AX.out.hz)
                have RK := Aside0.mk (Kd.R_elder' AX.out.r0 (Kd.R_base ho_) hb)
                have n_ := Aside0.mk (Kd.R_below RBY.out hb); clear RBY; have RBY := n_; clear n_
                have n_ := Aside0.mk (AX.out.below hb); clear AX; have AX := n_; clear n_
                clear ho_ hb
                refine hK.out _ _ ⟨(blk_cell AX.out.blk 0).trans rfl, (blk_cell AX.out.pc 0).trans rfl, (blk_cell AX.out.pc 1).trans rfl, (blk_cell AX.out.pc 2).trans rfl⟩ (fun hHeld => ?_)
                clear hK K
                refine norm_ (a' := ?_) ?_ ?_
                rotate_left
                · show Act.put _ (some 55) _ = _
                  simp only [Act.put, List.setIfInBounds_toArray, List.set_cons_zero, List.set_cons_succ, i64_w, i32_w]
                  rfl
                refine one_ (i := 3) (N := some 49) #[true, true, true, true, false, true, true, true, true, true, false, false, false, false] rfl rfl (by kernel_rfl) (by decide) (fun K hK => ?_)
                refine Kd.R_lit_step (Kd.int .i64) _ 2 ?hg (N := 49) ?hd (xs := ([(0 : Int)] : List Int)) (inner := [.int .i64 0]) (ok := fun _ => True) (okp := fun _ => True) ?hr ?hp (fun _ hk => hk) trivial (Below.refl _ _) (Nat.le_refl _) (by simp) ?_; (case hd => rfl); (case hg => rfl); (case hr => first | (go_simp; done) | (go_simp; rfl)); (case hp => exact (Reps.one (show Kd.M (Kd.int .i64) _ _ _ (0 : Int) [.int .i64 0] from rfl) (Reps.none _ _)))
                intro v49 wa ho_ hb hg_ hnew_
                clear hg_ hnew_
                have HL := Aside0.mk (Kd.R_lower ho_ AX.out.hz)
                have RB49 := Aside0.mk (Kd.R_elder' RBY.out (Kd.R_base ho_) hb)
                have n_ := Aside0.mk (Kd.R_below H2.out hb); clear H2; have H2 := n_; clear n_
                have n_ := Aside0.mk (Kd.R_below RK.out hb); clear RK; have RK := n_; clear n_
                have n_ := Aside0.mk (AX.out.below hb); clear AX; have AX := n_; clear n_
                clear RBY ho_ hb
                refine hK.out _ _ ⟨(blk_cell AX.out.blk 0).trans rfl, (blk_cell AX.out.pc 0).trans rfl, (blk_cell AX.out.pc 1).trans rfl, (blk_cell AX.out.pc 2).trans rfl⟩ (fun hHeld => ?_)
                clear hK K
                refine norm_ (a' := ?_) ?_ ?_
                rotate_left
                · show Act.put _ (some 49) _ = _
                  simp only [Act.put, List.setIfInBounds_toArray, List.set_cons_zero, List.set_cons_succ, i64_w, i32_w]
                  rfl
                refine one_ (i := 4) (N := some 50) #[true, true, true, true, true, true, true, true, true, true, false, false, false, false] rfl rfl (by kernel_rfl) (by decide) (fun K hK => ?_)
                obtain ⟨Al49, cl49, el49⟩ := Kd.R_slice HL.out
                (first | subst el49 | (injection el49 with f1_ f2_ f3_; have f4_ := f1_.symm; have f5_ := f3_.symm; clear f1_ f2_ f3_; subst f4_; subst f5_))
                refine Kd.R_append_rows_step (Kd.int .i64) (w0 := wo) wo.heap.size (by rfl) (.tmp 47) (.tmp 49) 37 2 (.int .i64 0) 8 rfl Try.underlying37 info2 rfl (by decide) (by omega) u11 (b.take i) [(0 : Int)] _ _ _ (fun k_ => some k_ ≠ (.slice Al49 [(0 : Int)].length cl49 : Value).ownBlock) (fun _ => False) rfl rfl ?aO ?aR (fun _ _ h => h) (fun _ h => h.elim) ?aF ?aB ?aS ?aL ?_
                (case aR => exact (Kd.R_reads' HL.out).2.2)
                (case aB => exact AX.out.hb)
                (case aF => exact (fun k_ hk => Kd.fresh' (Kd.R_lt HL.out) k_ hk))
                (case aO => exact Kd.R_mono RB49.out (fun _ hk => hk.2))
                (case aS => exact AX.out.hz)
                (case aL => have := LB.out; simp only [List.length_singleton]; omega)
                intro v50 wc ho hb hg hat
                have n0_ := Aside0.mk (AX.out.grown RB49.out hg hb)
                have n1_ := Aside0.mk (Kd.R_over' H2.out (Kd.R_typed RB49.out) (by decide) hg)
                have n2_ := Aside0.mk (Kd.R_over' RK.out (Kd.R_typed RB49.out) (by decide) hg)
                clear H2 RK
                have H2 := n1_
                have RK := n2_
                clear n1_ n2_
                clear AX
                have AX := n0_
                clear n0_
                have HO50 := Aside0.mk (Kd.R_mono ho (fun _ _ => trivial) : Kd.R (Kd.int .i64) 2 wc wo.heap.size (fun _ => True) v50 (b.take i ++ [(0 : Int)]))
                clear ho hb hg hat HL RB49
                refine hK.out _ _ ⟨(blk_cell AX.out.blk 0).trans rfl, (blk_cell AX.out.pc 0).trans rfl, (blk_cell AX.out.pc 1).trans rfl, (blk_cell AX.out.pc 2).trans rfl⟩ (fun hHeld => ?_)
                clear hK K
                refine norm_ (a' := ?_) ?_ ?_
                rotate_left
                · show Act.put _ (some 50) _ = _
                  simp only [Act.put, List.setIfInBounds_toArray, List.set_cons_zero, List.set_cons_succ, i64_w, i32_w]
                  rfl
                exact norm_ (by simp only [putAll, Act.put, List.setIfInBounds_toArray, List.set_cons_zero, List.set_cons_succ]) (hCont ((.slice Al49 [(0 : Int)].length cl49), v50, v55) _ ⟨AX.out, HO50.out, H2.out, Kd.R_mono RK.out (fun _ hk => hk.2)⟩)
            rintro ⟨v49, v50, v55⟩ wd ⟨h0_, h1_, h2_, h3_⟩
            clear AX RBY
            have AX := Aside0.mk h0_
            have HO50 := Aside0.mk h1_
            have H2 := Aside0.mk h2_
            have RK := Aside0.mk h3_
            clear h0_ h1_ h2_ h3_
            have hHeld := (show _ ∧ _ ∧ _ ∧ _ from ⟨(blk_cell AX.out.blk 0).trans rfl, (blk_cell AX.out.pc 0).trans rfl, (blk_cell AX.out.pc 1).trans rfl, (blk_cell AX.out.pc 2).trans rfl⟩)
            obtain ⟨Al55, cl55, eo_⟩ := Kd.R_slice H2.out
            (first | subst eo_ | (injection eo_ with f1_ f2_ f3_; have f4_ := f1_.symm; have f5_ := f3_.symm; clear f1_ f2_ f3_; subst f4_; subst f5_))
            refine norm_ (a' := ?_) ?_ ?_
            rotate_left
            · simp only [putAll, Act.put, List.setIfInBounds_toArray, List.set_cons_zero, List.set_cons_succ]
              rfl
            refine last_ (i := 10) (N := some 56) #[true, true, true, true, true, true, true, true, true, true, true, false, false, false] rfl rfl (by kernel_rfl) (by decide) (fun K hK => ?_)
            refine Kd.R_append_rows_step k57 (w0 := wo) wo.heap.size (by rfl) (.tmp 53) (.tmp 55) 33 57 (.agg #[.int .i8 0, .int .i8 0, .int .i16 0]) 4 rfl Try.underlying33 info57 rfl (by decide) (by omega) u0 q0 [P] _ _ _ (fun k_ => some k_ ≠ (.slice Al55 [P].length cl55 : Value).ownBlock) (fun _ => False) rfl rfl ?aO ?aR (fun _ _ h => h) (fun _ h => h.elim) ?aF ?aB ?aS ?aL ?_
            (case aR => exact (Kd.R_reads' H2.out).2.2)
            (case aB => exact AX.out.hb)
            (case aF => exact (fun k_ hk => Kd.fresh' (Kd.R_lt H2.out) k_ hk))
            (case aO => exact RK.out)
            (case aS => exact AX.out.hz)
            (case aL => have := L0.out; simp only [List.length_singleton]; omega)
            intro v56 w56 ho hb hg hat
            have KG := Aside0.mk (blk_grown AX.out.blk hg (Kd.R_ne RK.out AX.out.blk (by decide)))
            have n0_ := Aside0.mk (Kd.R_over' HO50.out (Kd.R_typed RK.out) (by decide) hg)
            clear HO50
            have HO50 := n0_
            clear n0_
            have RO := Aside0.mk (Kd.R_mono (Kd.R_grown (Kd.R_flat (ok' := fun k_ => some k_ ≠ (u0 : Value).ownBlock) k57_flat AX.out.r1 (fun k_ hk _ e_ => (NE.out k_ e_.symm) hk)) hg (fun _ h => h)) (fun _ _ => trivial))
            have NV := Aside0.mk (show ∀ q, (v56 : Value).ownBlock = some q → (u1 : Value).ownBlock ≠ some q by
              intro q hq he
              rcases hat with h_ | ⟨b_, h_, hb_⟩
              · rw [h_] at hq
                exact NE.out q hq he
              · rw [h_] at hq
                cases hq
                have := Kd.R_lt AX.out.r1 _ he
                omega)
            have HV := Aside0.mk (Kd.R_mono ho (fun _ _ => trivial) : Kd.R k57 57 w56 wo.heap.size (fun _ => True) v56 (q0 ++ [P]))
            have HB6 := Aside0.mk hb
            clear ho hb hg hat AX RK H2
            refine hK.out _ _ ?_
            clear hK K
            refine norm_ (a' := ?_) ?_ ?_
            rotate_left
            · show Act.put _ (some 56) _ = _
              simp only [Act.put, List.setIfInBounds_toArray, List.set_cons_zero, List.set_cons_succ, i64_w, i32_w]
              rfl
            refine pure_ (i := 11) (N := some 11) (v := ?_) (a' := ?_) #[true, true, true, true, true, true, true, true, true, true, true, true, false, false] rfl rfl (by kernel_rfl) (fun _ _ _ h => h) (Or.inl ⟨by rfl, ?_⟩) ?_ ?_
            rotate_left
            · intro w'
              go_simp
              with_reducible rfl
            rotate_left
            · simp only [Act.put, List.setIfInBounds_toArray, List.set_cons_zero, List.set_cons_succ, i64_w, i32_w]
              rfl
            refine pure_ (i := 12) (N := some 57) (v := ?_) (a' := ?_) #[true, true, true, true, true, true, true, true, true, true, true, true, true, false] rfl rfl (by kernel_rfl) (fun _ _ _ h => h) (Or.inl ⟨by rfl, ?_⟩) ?_ ?_
            rotate_left
            · intro w'
              go_simp
              with_reducible rfl
            rotate_left
            · simp only [Act.put, List.setIfInBounds_toArray, List.set_cons_zero, List.set_cons_succ, i64_w, i32_w]
              rfl
            refine last_ (i := 13) (N := none) #[true, true, true, true, true, true, true, true, true, true, true, true, true, true] rfl rfl (by kernel_rfl) (by decide) (fun K hK => ?_)
            obtain ⟨qn, hqn⟩ : ∃ q, q0 ++ [P] = q := ⟨_, rfl⟩
            have n1_ := HV.out
            rw [hqn] at n1_
            obtain ⟨A56, c56, ev56⟩ := Kd.R_slice n1_
            subst ev56
            clear n1_ hqn
            have hcn : w56.cell? ⟨gn, 0, none⟩ = some u0 := (blk_cell KG.out 0).trans rfl
            have hfn := blk_frozen KG.out 0
            refine skip_ (w1 := ?_) (by rfl) rfl ?_ ?_
            rotate_left
            · go_simp
              rfl
            refine hK.out _ _ ?_
            clear hK K
            refine done_ (by kernel_rfl) ?_
            go_wp2
            have hli_ := HLI.out
            have hn8_ := H8.out
            have hnn_ := HN.out
            go_roundg (n - (i + 1))
            case measure => omega
            case rel => exact ⟨i + 1, (.slice A56 qn.length c56), u1, by have := HLI.out; omega, by omega, by have hw_ : wrap64 ((i : Int) + 1) = ((i + 1 : Nat) : Int) := (w64 _ (by omega) (by omega)).trans (by omega); first | rw [hw_] | (simp only [hw_]; done) | (simp only [i64_w, hw_]; done) | go_num, ⟨PartsIn.done (g14 := g14) (P := P) (l := l0) 0 (by omega) KG.out HO50.out (by rw [show partOf ((0 : Nat) : Int) (b.take i) (l0.take i) = q0 from Q0.out]; exact HV.out) (by rw [show partOf (1 - ((0 : Nat) : Int)) (b.take i) (l0.take i) = q1 from Q1.out]; exact RO.out) NV.out LO.out HB6.out (by rw [EBL.out, HN.out]) (by rw [HN.out]; exact HLI.out) HP.out (HBK.out _)⟩⟩
          · skip
            refine start_ (n := 14) (S := fun w' => w'.cell? ⟨gn, 1, none⟩ = some u1 ∧ w'.cell? ⟨g14, 0, none⟩ = some (.int .i8 P.f0) ∧ w'.cell? ⟨g14, 1, none⟩ = some (.int .i8 P.f1) ∧ w'.cell? ⟨g14, 2, none⟩ = some (.int .i16 P.f2)) (ds := [10, 13]) #[false, false, false, false, false, false, false, false, false, false, false, false, false, false] (by kernel_rfl) rfl rfl ⟨(blk_cell (AX.out.below (below_drew1 (Below.refl _ _))).blk 1).trans rfl, (blk_cell (AX.out.below (below_drew1 (Below.refl _ _))).pc 0).trans rfl, (blk_cell (AX.out.below (below_drew1 (Below.refl _ _))).pc 1).trans rfl, (blk_cell (AX.out.below (below_drew1 (Below.refl _ _))).pc 2).trans rfl⟩ (fun hHeld => ?_)
            have n1_ := Aside0.mk (AX.out.below (below_drew1 (Below.refl _ _)))
            have n2_ := Aside0.mk (Kd.R_below RBY.out (below_drew1 (Below.refl _ _)))
            clear AX RBY
            generalize w15.drew = w16 at n1_ n2_ hHeld ⊢
            have AX := n1_
            have RBY := n2_
            clear n1_ n2_
            refine pure_ (i := 0) (N := some 46) (v := ?_) (a' := ?_) #[true, false, false, false, false, false, false, false, false, false, false, false, false, false] rfl rfl (by kernel_rfl) (fun _ _ _ h => h) (Or.inl ⟨by rfl, ?_⟩) ?_ ?_
            rotate_left
            · intro w'
              go_simp
              with_reducible rfl
            rotate_left
            · simp only [Act.put, List.setIfInBounds_toArray, List.set_cons_zero, List.set_cons_succ, i64_w, i32_w]
              rfl
            refine pure_ (i := 1) (N := some 47) (v := ?_) (a' := ?_) #[true, true, false, false, false, false, false, false, false, false, false, false, false, false] rfl rfl (by kernel_rfl) (fun _ _ _ h => h) (Or.inl ⟨by rfl, ?_⟩) ?_ ?_
            rotate_left
            · intro w'
              go_simp
              with_reducible rfl
            rotate_left
            · simp only [Act.put, List.setIfInBounds_toArray, List.set_cons_zero, List.set_cons_succ, i64_w, i32_w]
              rfl
            refine pure_ (i := 2) (N := some 48) (v := ?_) (a' := ?_) #[true, true, true, false, false, false, false, false, false, false, false, false, false, false] rfl rfl (by kernel_rfl) (fun _ _ _ h => h) (Or.inl ⟨by rfl, ?_⟩) ?_ ?_
            rotate_left
            · intro w'
              go_simp
              with_reducible rfl
            rotate_left
            · simp only [Act.put, List.setIfInBounds_toArray, List.set_cons_zero, List.set_cons_succ, i64_w, i32_w]
              rfl
            refine pure_ (i := 5) (N := some 51) (v := ?_) (a' := ?_) #[true, true, true, false, false, true, false, false, false, false, false, false, false, false] rfl rfl (by kernel_rfl) (fun _ _ _ h => h) (Or.inl ⟨by rfl, ?_⟩) ?_ ?_
            rotate_left
            · intro w'
              go_simp
              with_reducible rfl
            rotate_left
            · simp only [Act.put, List.setIfInBounds_toArray, List.set_cons_zero, List.set_cons_succ, i64_w, i32_w]
              rfl
            refine pure_ (i := 6) (N := some 52) (v := ?_) (a' := ?_) #[true, true, true, false, false, true, true, false, false, false, false, false, false, false] rfl rfl (by kernel_rfl) (fun _ _ _ h => h) (Or.inl ⟨by rfl, ?_⟩) ?_ ?_
            rotate_left
            · intro w'
              go_simp
              with_reducible rfl
            rotate_left
            · simp only [Act.put, List.setIfInBounds_toArray, List.set_cons_zero, List.set_cons_succ, i64_w, i32_w]
              rfl
            refine take_ (i := 7) (N := some 53) (v := ?_) (a' := ?_) #[true, true, true, false, false, true, true, true, false, false, false, false, false, false] rfl rfl (by kernel_rfl) (fun _ _ _ h => h) (Or.inl ⟨by rfl, ?_⟩) hHeld ?_ ?_
            rotate_left
            · rintro w' ⟨s0, s1, s2, s3⟩
              go_simp
              with_reducible rfl
            rotate_left
            · simp only [Act.put, List.setIfInBounds_toArray, List.set_cons_zero, List.set_cons_succ, i64_w, i32_w]
              rfl
            refine take_ (i := 8) (N := some 54) (v := ?_) (a' := ?_) #[true, true, true, false, false, true, true, true, true, false, false, false, false, false] rfl rfl (by kernel_rfl) (fun _ _ _ h => h) (Or.inl ⟨by rfl, ?_⟩) hHeld ?_ ?_
            rotate_left
            · rintro w' ⟨s0, s1, s2, s3⟩
              go_simp
              with_reducible rfl
            rotate_left
            · simp only [Act.put, List.setIfInBounds_toArray, List.set_cons_zero, List.set_cons_succ, i64_w, i32_w]
              rfl
            refine join_ (σ := Value × Value × Value) 4 #[true, true, true, true, true, true, true, true, true, true, false, false, false, false] (fun s_ => [(49, s_.1), (50, s_.2.1), (55, s_.2.2)]) (fun s_ w' => PartsIn wo.heap.size wo gn g14 P q0 q1 u0 u1 w' ∧ Kd.R (Kd.int .i64) 2 w' wo.heap.size (fun _ => True) s_.2.1 (b.take i ++ [(1 : Int)]) ∧ Kd.R k57 57 w' wo.heap.size (fun _ => True) s_.2.2 [P] ∧ Kd.R k57 57 w' wo.heap.size (fun k_ => some k_ ≠ (s_.2.2 : Value).ownBlock) u1 q1) ?_ ?_
            rotate_left
            · intro hCont
              refine two_ (i := 3) (j := 9) (Ni := some 49) (Nj := some 55) #[true, true, true, true, false, true, true, true, true, false, false, false, false, false] #[true, true, true, false, false, true, true, true, true, true, false, false, false, false] rfl rfl rfl rfl (by kernel_rfl) (by decide) (by decide) (fun K hK => ?_) (fun K hK => ?_)
              · skip
                refine Kd.R_lit_step (Kd.int .i64) _ 2 ?hg (N := 49) ?hd (xs := ([(1 : Int)] : List Int)) (inner := [.int .i64 1]) (ok := fun _ => True) (okp := fun _ => True) ?hr ?hp (fun _ hk => hk) trivial (Below.refl _ _) (Nat.le_refl _) (by simp) ?_; (case hd => rfl); (case hg => rfl); (case hr => first | (go_simp; done) | (go_simp; rfl)); (case hp => exact (Reps.one (show Kd.M (Kd.int .i64) _ _ _ (1 : Int) [.int .i64 1] from rfl) (Reps.none _ _)))
                intro v49 wa ho_ hb hg_ hnew_
                clear hg_ hnew_
                have HL := Aside0.mk (Kd.R_lower ho_ AX.out.hz)
                have RB49 := Aside0.mk (Kd.R_elder' RBY.out (Kd.R_base ho_) hb)
                have n_ := Aside0.mk (AX.out.below hb); clear AX; have AX := n_; clear n_
                clear RBY ho_ hb
                refine hK.out _ _ ⟨(blk_cell AX.out.blk 1).trans rfl, (blk_cell AX.out.pc 0).trans rfl, (blk_cell AX.out.pc 1).trans rfl, (blk_cell AX.out.pc 2).trans rfl⟩ (fun hHeld => ?_)
                clear hK K
                refine norm_ (a' := ?_) ?_ ?_
                rotate_left
                · show Act.put _ (some 49) _ = _
                  simp only [Act.put, List.setIfInBounds_toArray, List.set_cons_zero, List.set_cons_succ, i64_w, i32_w]
                  rfl
                refine two_ (i := 4) (j := 9) (Ni := some 50) (Nj := some 55) #[true, true, true, true, true, true, true, true, true, false, false, false, false, false] #[true, true, true, true, false, true, true, true, true, true, false, false, false, false] rfl rfl rfl rfl (by kernel_rfl) (by decide) (by decide) (fun K hK => ?_) (fun K hK => ?_)
                · skip
                  obtain ⟨Al49, cl49, el49⟩ := Kd.R_slice HL.out
                  (first | subst el49 | (injection el49 with f1_ f2_ f3_; have f4_ := f1_.symm; have f5_ := f3_.symm; clear f1_ f2_ f3_; subst f4_; subst f5_))
                  refine Kd.R_append_rows_step (Kd.int .i64) (w0 := wo) wo.heap.size (by rfl) (.tmp 47) (.tmp 49) 37 2 (.int .i64 0) 8 rfl Try.underlying37 info2 rfl (by decide) (by omega) u11 (b.take i) [(1 : Int)] _ _ _ (fun k_ => some k_ ≠ (.slice Al49 [(1 : Int)].length cl49 : Value).ownBlock) (fun _ => False) rfl rfl ?aO ?aR (fun _ _ h => h) (fun _ h => h.elim) ?aF ?aB ?aS ?aL ?_
                  (case aR => exact (Kd.R_reads' HL.out).2.2)
                  (case aB => exact AX.out.hb)
                  (case aF => exact (fun k_ hk => Kd.fresh' (Kd.R_lt HL.out) k_ hk))
                  (case aO => exact Kd.R_mono RB49.out (fun _ hk => hk.2))
                  (case aS => exact AX.out.hz)
                  (case aL => have := LB.out; simp only [List.length_singleton]; omega)
                  intro v50 wc ho hb hg hat
                  have n0_ := Aside0.mk (AX.out.grown RB49.out hg hb)
                  clear AX
                  have AX := n0_
                  clear n0_
                  have HO50 := Aside0.mk (Kd.R_mono ho (fun _ _ => trivial) : Kd.R (Kd.int .i64) 2 wc wo.heap.size (fun _ => True) v50 (b.take i ++ [(1 : Int)]))
                  clear ho hb hg hat HL RB49
                  refine hK.out _ _ ⟨(blk_cell AX.out.blk 1).trans rfl, (blk_cell AX.out.pc 0).trans rfl, (blk_cell AX.out.pc 1).trans rfl, (blk_cell AX.out.pc 2).trans rfl⟩ (fun hHeld => ?_)
                  clear hK K
                  refine norm_ (a' := ?_) ?_ ?_
                  rotate_left
                  · show Act.put _ (some 50) _ = _
                    simp only [Act.put, List.setIfInBounds_toArray, List.set_cons_zero, List.set_cons_succ, i64_w, i32_w]
                    rfl
                  refine one_ (i := 9) (N := some 55) #[true, true, true, true, true, true, true, true, true, true, false, false, false, false] rfl rfl (by kernel_rfl) (by decide) (fun K hK => ?_)
                  refine Kd.R_lit_step k57 _ 57 ?hg (N := 55) ?hd (xs := ([P] : List S57)) (inner := [.int .i8 P.f0, .int .i8 P.f1, .int .i16 P.f2]) (ok := fun _ => True) (okp := fun _ => True) ?hr ?hp (fun _ hk => hk) trivial (Below.refl _ _) (Nat.le_refl _) (by simp) ?_; (case hd => rfl); (case hg => rfl); (case hr => first | (go_simp; done) | (go_simp; rfl)); (case hp => exact (Reps.c3 (k57_mkM _ _ _ P) (Reps.none _ _)))
                  intro v55 wb ho_ hb hg_ hnew_
                  clear hg_ hnew_
                  have H2 := Aside0.mk (Kd.R_lower ho_ AX.out.hz)
                  have RK := Aside0.mk (Kd.R_elder' AX.out.r1 (Kd.R_base ho_) hb)
                  have n_ := Aside0.mk (Kd.R_below HO50.out hb); clear HO50; have HO50 := n_; clear n_
                  have n_ := Aside0.mk (AX.out.below hb); clear AX; have AX := n_; clear n_
                  clear ho_ hb
                  refine hK.out _ _ ⟨(blk_cell AX.out.blk 1).trans rfl, (blk_cell AX.out.pc 0).trans rfl, (blk_cell AX.out.pc 1).trans rfl, (blk_cell AX.out.pc 2).trans rfl⟩ (fun hHeld => ?_)
                  clear hK K
                  refine norm_ (a' := ?_) ?_ ?_
                  rotate_left
                  · show Act.put _ (some 55) _ = _
                    simp only [Act.put, List.setIfInBounds_toArray, List.set_cons_zero, List.set_cons_succ, i64_w, i32_w]
                    rfl
                  exact norm_ (by simp only [putAll, Act.put, List.setIfInBounds_toArray, List.set_cons_zero, List.set_cons_succ]) (hCont ((.slice Al49 [(1 : Int)].length cl49), v50, v55) _ ⟨AX.out, HO50.out, H2.out, Kd.R_mono RK.out (fun _ hk => hk.2)⟩)
                · skip
                  refine Kd.R_lit_step k57 _ 57 ?hg (N := 55) ?hd (xs := ([P] : List S57)) (inner := [.int .i8 P.f0, .int .i8 P.f1, .int .i16 P.f2]) (ok := fun _ => True) (okp := fun _ => True) ?hr ?hp (fun _ hk => hk) trivial (Below.refl _ _) (Nat.le_refl _) (by simp) ?_; (case hd => rfl); (case hg => rfl); (case hr => first | (go_simp; done) | (go_simp; rfl)); (case hp => exact (Reps.c3 (k57_mkM _ _ _ P) (Reps.none _ _)))
                  intro v55 wb ho_ hb hg_ hnew_
                  clear hg_ hnew_
                  have H2 := Aside0.mk (Kd.R_lower ho_ AX.out.hz)
                  have RK := Aside0.mk (Kd.R_elder' AX.out.r1 (Kd.R_base ho_) hb)
                  have n_ := Aside0.mk (Kd.R_below HL.out hb); clear HL; have HL := n_; clear n_
                  have n_ := Aside0.mk (Kd.R_below RB49.out hb); clear RB49; have RB49 := n_; clear n_
                  have n_ := Aside0.mk (AX.out.below hb); clear AX; have AX := n_; clear n_
                  clear ho_ hb
                  refine hK.out _ _ ⟨(blk_cell AX.out.blk 1).trans rfl, (blk_cell AX.out.pc 0).trans rfl, (blk_cell AX.out.pc 1).trans rfl, (blk_cell AX.out.pc 2).trans rfl⟩ (fun hHeld => ?_)
                  clear hK K
                  refine norm_ (a' := ?_) ?_ ?_
                  rotate_left
                  · show Act.put _ (some 55) _ = _
                    simp only [Act.put, List.setIfInBounds_toArray, List.set_cons_zero, List.set_cons_succ, i64_w, i32_w]
                    rfl
                  refine one_ (i := 4) (N := some 50) #[true, true, true, true, true, true, true, true, true, true, false, false, false, false] rfl rfl (by kernel_rfl) (by decide) (fun K hK => ?_)
                  obtain ⟨Al49, cl49, el49⟩ := Kd.R_slice HL.out
                  (first | subst el49 | (injection el49 with f1_ f2_ f3_; have f4_ := f1_.symm; have f5_ := f3_.symm; clear f1_ f2_ f3_; subst f4_; subst f5_))
                  refine Kd.R_append_rows_step (Kd.int .i64) (w0 := wo) wo.heap.size (by rfl) (.tmp 47) (.tmp 49) 37 2 (.int .i64 0) 8 rfl Try.underlying37 info2 rfl (by decide) (by omega) u11 (b.take i) [(1 : Int)] _ _ _ (fun k_ => some k_ ≠ (.slice Al49 [(1 : Int)].length cl49 : Value).ownBlock) (fun _ => False) rfl rfl ?aO ?aR (fun _ _ h => h) (fun _ h => h.elim) ?aF ?aB ?aS ?aL ?_
                  (case aR => exact (Kd.R_reads' HL.out).2.2)
                  (case aB => exact AX.out.hb)
                  (case aF => exact (fun k_ hk => Kd.fresh' (Kd.R_lt HL.out) k_ hk))
                  (case aO => exact Kd.R_mono RB49.out (fun _ hk => hk.2))
                  (case aS => exact AX.out.hz)
                  (case aL => have := LB.out; simp only [List.length_singleton]; omega)
                  intro v50 wc ho hb hg hat
                  have n0_ := Aside0.mk (AX.out.grown RB49.out hg hb)
                  have n1_ := Aside0.mk (Kd.R_over' H2.out (Kd.R_typed RB49.out) (by decide) hg)
                  have n2_ := Aside0.mk (Kd.R_over' RK.out (Kd.R_typed RB49.out) (by decide) hg)
                  clear H2 RK
                  have H2 := n1_
                  have RK := n2_
                  clear n1_ n2_
                  clear AX
                  have AX := n0_
                  clear n0_
                  have HO50 := Aside0.mk (Kd.R_mono ho (fun _ _ => trivial) : Kd.R (Kd.int .i64) 2 wc wo.heap.size (fun _ => True) v50 (b.take i ++ [(1 : Int)]))
                  clear ho hb hg hat HL RB49
                  refine hK.out _ _ ⟨(blk_cell AX.out.blk 1).trans rfl, (blk_cell AX.out.pc 0).trans rfl, (blk_cell AX.out.pc 1).trans rfl, (blk_cell AX.out.pc 2).trans rfl⟩ (fun hHeld => ?_)
                  clear hK K
                  refine norm_ (a' := ?_) ?_ ?_
                  rotate_left
                  · show Act.put _ (some 50) _ = _
                    simp only [Act.put, List.setIfInBounds_toArray, List.set_cons_zero, List.set_cons_succ, i64_w, i32_w]
                    rfl
                  exact norm_ (by simp only [putAll, Act.put, List.setIfInBounds_toArray, List.set_cons_zero, List.set_cons_succ]) (hCont ((.slice Al49 [(1 : Int)].length cl49), v50, v55) _ ⟨AX.out, HO50.out, H2.out, Kd.R_mono RK.out (fun _ hk => hk.2)⟩)
              · skip
                refine Kd.R_lit_step k57 _ 57 ?hg (N := 55) ?hd (xs := ([P] : List S57)) (inner := [.int .i8 P.f0, .int .i8 P.f1, .int .i16 P.f2]) (ok := fun _ => True) (okp := fun _ => True) ?hr ?hp (fun _ hk => hk) trivial (Below.refl _ _) (Nat.le_refl _) (by simp) ?_; (case hd => rfl); (case hg => rfl); (case hr => first | (go_simp; done) | (go_simp; rfl)); (case hp => exact (Reps.c3 (k57_mkM _ _ _ P) (Reps.none _ _)))
                intro v55 wb ho_ hb hg_ hnew_
                clear hg_ hnew_
                have H2 := Aside0.mk (Kd.R_lower ho_ AX.out.hz)
                have RK := Aside0.mk (Kd.R_elder' AX.out.r1 (Kd.R_base ho_) hb)
                have n_ := Aside0.mk (Kd.R_below RBY.out hb); clear RBY; have RBY := n_; clear n_
                have n_ := Aside0.mk (AX.out.below hb); clear AX; have AX := n_; clear n_
                clear ho_ hb
                refine hK.out _ _ ⟨(blk_cell AX.out.blk 1).trans rfl, (blk_cell AX.out.pc 0).trans rfl, (blk_cell AX.out.pc 1).trans rfl, (blk_cell AX.out.pc 2).trans rfl⟩ (fun hHeld => ?_)
                clear hK K
                refine norm_ (a' := ?_) ?_ ?_
                rotate_left
                · show Act.put _ (some 55) _ = _
                  simp only [Act.put, List.setIfInBounds_toArray, List.set_cons_zero, List.set_cons_succ, i64_w, i32_w]
                  rfl
                refine one_ (i := 3) (N := some 49) #[true, true, true, true, false, true, true, true, true, true, false, false, false, false] rfl rfl (by kernel_rfl) (by decide) (fun K hK => ?_)
                refine Kd.R_lit_step (Kd.int .i64) _ 2 ?hg (N := 49) ?hd (xs := ([(1 : Int)] : List Int)) (inner := [.int .i64 1]) (ok := fun _ => True) (okp := fun _ => True) ?hr ?hp (fun _ hk => hk) trivial (Below.refl _ _) (Nat.le_refl _) (by simp) ?_; (case hd => rfl); (case hg => rfl); (case hr => first | (go_simp; done) | (go_simp; rfl)); (case hp => exact (Reps.one (show Kd.M (Kd.int .i64) _ _ _ (1 : Int) [.int .i64 1] from rfl) (Reps.none _ _)))
                intro v49 wa ho_ hb hg_ hnew_
                clear hg_ hnew_
                have HL := Aside0.mk (Kd.R_lower ho_ AX.out.hz)
                have RB49 := Aside0.mk (Kd.R_elder' RBY.out (Kd.R_base ho_) hb)
                have n_ := Aside0.mk (Kd.R_below H2.out hb); clear H2; have H2 := n_; clear n_
                have n_ := Aside0.mk (Kd.R_below RK.out hb); clear RK; have RK := n_; clear n_
                have n_ := Aside0.mk (AX.out.below hb); clear AX; have AX := n_; clear n_
                clear RBY ho_ hb
                refine hK.out _ _ ⟨(blk_cell AX.out.blk 1).trans rfl, (blk_cell AX.out.pc 0).trans rfl, (blk_cell AX.out.pc 1).trans rfl, (blk_cell AX.out.pc 2).trans rfl⟩ (fun hHeld => ?_)
                clear hK K
                refine norm_ (a' := ?_) ?_ ?_
                rotate_left
                · show Act.put _ (some 49) _ = _
                  simp only [Act.put, List.setIfInBounds_toArray, List.set_cons_zero, List.set_cons_succ, i64_w, i32_w]
                  rfl
                refine one_ (i := 4) (N := some 50) #[true, true, true, true, true, true, true, true, true, true, false, false, false, false] rfl rfl (by kernel_rfl) (by decide) (fun K hK => ?_)
                obtain ⟨Al49, cl49, el49⟩ := Kd.R_slice HL.out
                (first | subst el49 | (injection el49 with f1_ f2_ f3_; have f4_ := f1_.symm; have f5_ := f3_.symm; clear f1_ f2_ f3_; subst f4_; subst f5_))
                refine Kd.R_append_rows_step (Kd.int .i64) (w0 := wo) wo.heap.size (by rfl) (.tmp 47) (.tmp 49) 37 2 (.int .i64 0) 8 rfl Try.underlying37 info2 rfl (by decide) (by omega) u11 (b.take i) [(1 : Int)] _ _ _ (fun k_ => some k_ ≠ (.slice Al49 [(1 : Int)].length cl49 : Value).ownBlock) (fun _ => False) rfl rfl ?aO ?aR (fun _ _ h => h) (fun _ h => h.elim) ?aF ?aB ?aS ?aL ?_
                (case aR => exact (Kd.R_reads' HL.out).2.2)
                (case aB => exact AX.out.hb)
                (case aF => exact (fun k_ hk => Kd.fresh' (Kd.R_lt HL.out) k_ hk))
                (case aO => exact Kd.R_mono RB49.out (fun _ hk => hk.2))
                (case aS => exact AX.out.hz)
                (case aL => have := LB.out; simp only [List.length_singleton]; omega)
                intro v50 wc ho hb hg hat
                have n0_ := Aside0.mk (AX.out.grown RB49.out hg hb)
                have n1_ := Aside0.mk (Kd.R_over' H2.out (Kd.R_typed RB49.out) (by decide) hg)
                have n2_ := Aside0.mk (Kd.R_over' RK.out (Kd.R_typed RB49.out) (by decide) hg)
                clear H2 RK
                have H2 := n1_
                have RK := n2_
                clear n1_ n2_
                clear AX
                have AX := n0_
                clear n0_
                have HO50 := Aside0.mk (Kd.R_mono ho (fun _ _ => trivial) : Kd.R (Kd.int .i64) 2 wc wo.heap.size (fun _ => True) v50 (b.take i ++ [(1 : Int)]))
                clear ho hb hg hat HL RB49
                refine hK.out _ _ ⟨(blk_cell AX.out.blk 1).trans rfl, (blk_cell AX.out.pc 0).trans rfl, (blk_cell AX.out.pc 1).trans rfl, (blk_cell AX.out.pc 2).trans rfl⟩ (fun hHeld => ?_)
                clear hK K
                refine norm_ (a' := ?_) ?_ ?_
                rotate_left
                · show Act.put _ (some 50) _ = _
                  simp only [Act.put, List.setIfInBounds_toArray, List.set_cons_zero, List.set_cons_succ, i64_w, i32_w]
                  rfl
                exact norm_ (by simp only [putAll, Act.put, List.setIfInBounds_toArray, List.set_cons_zero, List.set_cons_succ]) (hCont ((.slice Al49 [(1 : Int)].length cl49), v50, v55) _ ⟨AX.out, HO50.out, H2.out, Kd.R_mono RK.out (fun _ hk => hk.2)⟩)
            rintro ⟨v49, v50, v55⟩ wd ⟨h0_, h1_, h2_, h3_⟩
            clear AX RBY
            have AX := Aside0.mk h0_
            have HO50 := Aside0.mk h1_
            have H2 := Aside0.mk h2_
            have RK := Aside0.mk h3_
            clear h0_ h1_ h2_ h3_
            have hHeld := (show _ ∧ _ ∧ _ ∧ _ from ⟨(blk_cell AX.out.blk 1).trans rfl, (blk_cell AX.out.pc 0).trans rfl, (blk_cell AX.out.pc 1).trans rfl, (blk_cell AX.out.pc 2).trans rfl⟩)
            obtain ⟨Al55, cl55, eo_⟩ := Kd.R_slice H2.out
            (first | subst eo_ | (injection eo_ with f1_ f2_ f3_; have f4_ := f1_.symm; have f5_ := f3_.symm; clear f1_ f2_ f3_; subst f4_; subst f5_))
            refine norm_ (a' := ?_) ?_ ?_
            rotate_left
            · simp only [putAll, Act.put, List.setIfInBounds_toArray, List.set_cons_zero, List.set_cons_succ]
              rfl
            refine last_ (i := 10) (N := some 56) #[true, true, true, true, true, true, true, true, true, true, true, false, false, false] rfl rfl (by kernel_rfl) (by decide) (fun K hK => ?_)
            refine Kd.R_append_rows_step k57 (w0 := wo) wo.heap.size (by rfl) (.tmp 53) (.tmp 55) 33 57 (.agg #[.int .i8 0, .int .i8 0, .int .i16 0]) 4 rfl Try.underlying33 info57 rfl (by decide) (by omega) u1 q1 [P] _ _ _ (fun k_ => some k_ ≠ (.slice Al55 [P].length cl55 : Value).ownBlock) (fun _ => False) rfl rfl ?aO ?aR (fun _ _ h => h) (fun _ h => h.elim) ?aF ?aB ?aS ?aL ?_
            (case aR => exact (Kd.R_reads' H2.out).2.2)
            (case aB => exact AX.out.hb)
            (case aF => exact (fun k_ hk => Kd.fresh' (Kd.R_lt H2.out) k_ hk))
            (case aO => exact RK.out)
            (case aS => exact AX.out.hz)
            (case aL => have := L1.out; simp only [List.length_singleton]; omega)
            intro v56 w56 ho hb hg hat
            have KG := Aside0.mk (blk_grown AX.out.blk hg (Kd.R_ne RK.out AX.out.blk (by decide)))
            have n0_ := Aside0.mk (Kd.R_over' HO50.out (Kd.R_typed RK.out) (by decide) hg)
            clear HO50
            have HO50 := n0_
            clear n0_
            have RO := Aside0.mk (Kd.R_mono (Kd.R_grown (Kd.R_flat (ok' := fun k_ => some k_ ≠ (u1 : Value).ownBlock) k57_flat AX.out.r0 (fun k_ hk _ e_ => (fun h => NE.out k_ h e_.symm) hk)) hg (fun _ h => h)) (fun _ _ => trivial))
            have NV := Aside0.mk (show ∀ q, (v56 : Value).ownBlock = some q → (u0 : Value).ownBlock ≠ some q by
              intro q hq he
              rcases hat with h_ | ⟨b_, h_, hb_⟩
              · rw [h_] at hq
                exact NE.out q he hq
              · rw [h_] at hq
                cases hq
                have := Kd.R_lt AX.out.r0 _ he
                omega)
            have HV := Aside0.mk (Kd.R_mono ho (fun _ _ => trivial) : Kd.R k57 57 w56 wo.heap.size (fun _ => True) v56 (q1 ++ [P]))
            have HB6 := Aside0.mk hb
            clear ho hb hg hat AX RK H2
            refine hK.out _ _ ?_
            clear hK K
            refine norm_ (a' := ?_) ?_ ?_
            rotate_left
            · show Act.put _ (some 56) _ = _
              simp only [Act.put, List.setIfInBounds_toArray, List.set_cons_zero, List.set_cons_succ, i64_w, i32_w]
              rfl
            refine pure_ (i := 11) (N := some 11) (v := ?_) (a' := ?_) #[true, true, true, true, true, true, true, true, true, true, true, true, false, false] rfl rfl (by kernel_rfl) (fun _ _ _ h => h) (Or.inl ⟨by rfl, ?_⟩) ?_ ?_
            rotate_left
            · intro w'
              go_simp
              with_reducible rfl
            rotate_left
            · simp only [Act.put, List.setIfInBounds_toArray, List.set_cons_zero, List.set_cons_succ, i64_w, i32_w]
              rfl
            refine pure_ (i := 12) (N := some 57) (v := ?_) (a' := ?_) #[true, true, true, true, true, true, true, true, true, true, true, true, true, false] rfl rfl (by kernel_rfl) (fun _ _ _ h => h) (Or.inl ⟨by rfl, ?_⟩) ?_ ?_
            rotate_left
            · intro w'
              go_simp
              with_reducible rfl
            rotate_left
            · simp only [Act.put, List.setIfInBounds_toArray, List.set_cons_zero, List.set_cons_succ, i64_w, i32_w]
              rfl
            refine last_ (i := 13) (N := none) #[true, true, true, true, true, true, true, true, true, true, true, true, true, true] rfl rfl (by kernel_rfl) (by decide) (fun K hK => ?_)
            obtain ⟨qn, hqn⟩ : ∃ q, q1 ++ [P] = q := ⟨_, rfl⟩
            have n1_ := HV.out
            rw [hqn] at n1_
            obtain ⟨A56, c56, ev56⟩ := Kd.R_slice n1_
            subst ev56
            clear n1_ hqn
            have hcn : w56.cell? ⟨gn, 1, none⟩ = some u1 := (blk_cell KG.out 1).trans rfl
            have hfn := blk_frozen KG.out 1
            refine skip_ (w1 := ?_) (by rfl) rfl ?_ ?_
            rotate_left
            · go_simp
              rfl
            refine hK.out _ _ ?_
            clear hK K
            refine done_ (by kernel_rfl) ?_
            go_wp2
            have hli_ := HLI.out
            have hn8_ := H8.out
            have hnn_ := HN.out
            go_roundg (n - (i + 1))
            case measure => omega
            case rel => exact ⟨i + 1, u0, (.slice A56 qn.length c56), by have := HLI.out; omega, by omega, by have hw_ : wrap64 ((i : Int) + 1) = ((i + 1 : Nat) : Int) := (w64 _ (by omega) (by omega)).trans (by omega); first | rw [hw_] | (simp only [hw_]; done) | (simp only [i64_w, hw_]; done) | go_num, ⟨PartsIn.done (g14 := g14) (P := P) (l := l0) 1 (by omega) KG.out HO50.out (by rw [show partOf ((1 : Nat) : Int) (b.take i) (l0.take i) = q1 from Q1.out]; exact HV.out) (by rw [show partOf (1 - ((1 : Nat) : Int)) (b.take i) (l0.take i) = q0 from Q0.out]; exact RO.out) NV.out LO.out HB6.out (by rw [EBL.out, HN.out]) (by rw [HN.out]; exact HLI.out) HP.out (HBK.out _)⟩⟩
        · have hliz : ¬ (i : Int) < (l0.length : Int) := by have := HN.out; omega
          obtain rfl : i = n := by omega
          have ebl : b.length = i := by rw [← HBB.out]; exact bitsOf_len i s
          have etb : b.take i = b := by rw [← ebl]; exact List.take_length
          have etl : l0.take i = l0 := by rw [← HN.out]; exact List.take_length
          obtain ⟨wi, hwi⟩ : ∃ wi, wi = wr := ⟨_, rfl⟩
          subst hwi
          have hP0 := PE.out.r0
          have hP1 := PE.out.r1
          have hBY := PE.out.rb
          rw [etb, etl] at hP0 hP1
          rw [etb] at hBY
          have kf0 := Ev.get (timeP_ev HS.out 0 b)
          have kf1 := Ev.get (timeP_ev HS.out 1 b)
          have HFS := Aside0.mk (found_step (f := timeP x y) (l := l0) (overSets (timeP x y) l0 s) b (overSets_nonneg (timeP_nonneg x y) s) _ rfl)
          have HOS := Aside0.mk (show overSets (timeP x y) l0 (s + 1) = twoStep (timeP x y) l0 (overSets (timeP x y) l0 s) b by rw [overSets_succ, HN.out, HBB.out])
          clear etb etl ebl
          obtain ⟨p0, hp0⟩ : ∃ p, partOf 0 b l0 = p := ⟨_, rfl⟩
          obtain ⟨p1, hp1⟩ : ∃ p, partOf 1 b l0 = p := ⟨_, rfl⟩
          rw [hp0] at hP0 kf0
          rw [hp1] at hP1 kf1
          rw [hp0, hp1] at HFS
          clear hp0 hp1
          obtain ⟨t0, ht0⟩ : ∃ t, timeP x y p0 = t := ⟨_, rfl⟩
          obtain ⟨t1, ht1⟩ : ∃ t, timeP x y p1 = t := ⟨_, rfl⟩
          rw [ht0] at kf0 HFS
          rw [ht1] at kf1 HFS
          clear ht0 ht1
          obtain ⟨kf0, kf0⟩ := kf0
          obtain ⟨kf1, kf1⟩ := kf1
          obtain ⟨A0', c0', e0⟩ := Kd.R_slice hP0
          obtain ⟨A1', c1', e1⟩ := Kd.R_slice hP1
          subst e0 e1
          have C0 := Aside0.mk (fun (w : World) (A : Option Addr) (c : Nat) (hr : Kd.C k57 w A p0.length p0) (hc : p0.length ≤ c) => impl_Iron_shortest.calls _ x y A c p0 t0 w hr hc kf0)
          have C1 := Aside0.mk (fun (w : World) (A : Option Addr) (c : Nat) (hr : Kd.C k57 w A p1.length p1) (hc : p1.length ≤ c) => impl_Iron_shortest.calls _ x y A c p1 t1 w hr hc kf1)
          have RC0 := Aside0.mk (Kd.R_reads' hP0).2.2
          have CP0 := Aside0.mk (Kd.R_reads' hP0).2.1
          have RC1 := Aside0.mk (Kd.R_reads' hP1).2.2
          have CP1 := Aside0.mk (Kd.R_reads' hP1).2.1
          have RY := Aside0.mk hBY
          have KXI := Aside0.mk (show wi.heap[gx]? = some (.cells #[.int .i8 x, .int .i8 y] 27 (0, 0)) from (PE.out.hb.block gx (blk_lt KX.out)).trans KX.out)
          have BWI := Aside0.mk (BR.out.trans (PE.out.hb.mono BR.out.size))
          have HB := Aside0.mk (Below.refl wi.heap.size wi)
          have HS15 := Aside0.mk (show ∀ w', Below wi.heap.size wi w' → w'.cell? ⟨gx, 0, none⟩ = some (.int .i8 x) ∧ w'.cell? ⟨gx, 1, none⟩ = some (.int .i8 y) ∧ w'.cell? ⟨gn, 0, none⟩ = some (.slice A0' p0.length c0') ∧ w'.cell? ⟨gn, 1, none⟩ = some (.slice A1' p1.length c1') from fun w' h => ⟨(blk_cell (blk_below KXI.out h) 0).trans rfl, (blk_cell (blk_below KXI.out h) 1).trans rfl, (blk_cell (blk_below PE.out.blk h) 0).trans rfl, (blk_cell (blk_below PE.out.blk h) 1).trans rfl⟩)
          have BKEEP := Aside0.mk (show ∀ w', Below wo.heap.size wo w' → Kd.R (Kd.int .i64) 2 w' w.heap.size (fun _ => True) u8 (foundOf (overSets (timeP x y) l0 s)).1 from fun w' h => Kd.R_below RB.out h)
          have WSZ := Aside0.mk PE.out.hb.size
          clear hP0 hP1 hBY kf0 kf1
          go_wp2
          refine start_ (n := 10) (S := fun w' => w'.cell? ⟨gx, 0, none⟩ = some (.int .i8 x) ∧ w'.cell? ⟨gx, 1, none⟩ = some (.int .i8 y) ∧ w'.cell? ⟨gn, 0, none⟩ = some (.slice A0' p0.length c0') ∧ w'.cell? ⟨gn, 1, none⟩ = some (.slice A1' p1.length c1')) (ds := []) #[false, false, false, false, false, false, false, false, false, false] (by kernel_rfl) rfl rfl ⟨(HS15.out _ (below_drew1 HB.out)).1, (HS15.out _ (below_drew1 HB.out)).2.1, (HS15.out _ (below_drew1 HB.out)).2.2.1, (HS15.out _ (below_drew1 HB.out)).2.2.2⟩ (fun hHeld => ?_)
          have n1_ := Aside0.mk (below_drew1 HB.out)
          clear HB
          generalize wi.drew = w30 at n1_ hHeld  ⊢
          have HB := n1_
          clear n1_
          refine pure_ (i := 1) (N := some 60) (v := ?_) (a' := ?_) #[false, true, false, false, false, false, false, false, false, false] rfl rfl (by kernel_rfl) (fun _ _ _ h => h) (Or.inl ⟨by rfl, ?_⟩) ?_ ?_
          rotate_left
          · intro w'
            go_simp
            with_reducible rfl
          rotate_left
          · simp only [Act.put, List.setIfInBounds_toArray, List.set_cons_zero, List.set_cons_succ, i64_w, i32_w]
            rfl
          refine pure_ (i := 5) (N := some 64) (v := ?_) (a' := ?_) #[false, true, false, false, false, true, false, false, false, false] rfl rfl (by kernel_rfl) (fun _ _ _ h => h) (Or.inl ⟨by rfl, ?_⟩) ?_ ?_
          rotate_left
          · intro w'
            go_simp
            with_reducible rfl
          rotate_left
          · simp only [Act.put, List.setIfInBounds_toArray, List.set_cons_zero, List.set_cons_succ, i64_w, i32_w]
            rfl
          refine take_ (i := 0) (N := some 59) (v := ?_) (a' := ?_) #[true, true, false, false, false, true, false, false, false, false] rfl rfl (by kernel_rfl) (fun _ _ _ h => h) (Or.inl ⟨by rfl, ?_⟩) hHeld ?_ ?_
          rotate_left
          · rintro w' ⟨s0, s1, s2, s3⟩
            go_simp
            with_reducible rfl
          rotate_left
          · simp only [Act.put, List.setIfInBounds_toArray, List.set_cons_zero, List.set_cons_succ, i64_w, i32_w]
            rfl
          refine take_ (i := 2) (N := some 61) (v := ?_) (a' := ?_) #[true, true, true, false, false, true, false, false, false, false] rfl rfl (by kernel_rfl) (fun _ _ _ h => h) (Or.inl ⟨by rfl, ?_⟩) hHeld ?_ ?_
          rotate_left
          · rintro w' ⟨s0, s1, s2, s3⟩
            go_simp
            with_reducible rfl
          rotate_left
          · simp only [Act.put, List.setIfInBounds_toArray, List.set_cons_zero, List.set_cons_succ, i64_w, i32_w]
            rfl
          refine take_ (i := 4) (N := some 63) (v := ?_) (a' := ?_) #[true, true, true, false, true, true, false, false, false, false] rfl rfl (by kernel_rfl) (fun _ _ _ h => h) (Or.inl ⟨by rfl, ?_⟩) hHeld ?_ ?_
          rotate_left
          · rintro w' ⟨s0, s1, s2, s3⟩
            go_simp
            with_reducible rfl
          rotate_left
          · simp only [Act.put, List.setIfInBounds_toArray, List.set_cons_zero, List.set_cons_succ, i64_w, i32_w]
            rfl
          refine take_ (i := 6) (N := some 65) (v := ?_) (a' := ?_) #[true, true, true, false, true, true, true, false, false, false] rfl rfl (by kernel_rfl) (fun _ _ _ h => h) (Or.inl ⟨by rfl, ?_⟩) hHeld ?_ ?_
          rotate_left
          · rintro w' ⟨s0, s1, s2, s3⟩
            go_simp
            with_reducible rfl
          rotate_left
          · simp only [Act.put, List.setIfInBounds_toArray, List.set_cons_zero, List.set_cons_succ, i64_w, i32_w]
            rfl
          refine one_ (i := 3) (N := some 62) #[true, true, true, true, true, true, true, false, false, false] rfl rfl (by kernel_rfl) (by decide) (fun K hK => ?_)
          refine goes_ Try.func91 (by kernel_rfl) rfl #[.agg #[.int .i8 x, .int .i8 y], .slice A0' p0.length c0'] (by rfl) rfl rfl (by (try simp only [List.map_toArray, List.map_cons, List.map_nil]); first | done | rfl | (simp only [List.length_drop, List.length_take]; rfl)) ?_
          refine (C0.out _ A0' c0' (Kd.C_below RC0.out HB.out) CP0.out).mono ?_
          rintro e w31 ⟨rfl, hb_⟩
          refine ⟨_, rfl, ?_⟩
          have n1_ := Aside0.mk (below_step HB.out hb_)
          clear HB hb_
          have HB := n1_
          clear n1_
          refine hK.out _ _ ⟨(HS15.out _ HB.out).1, (HS15.out _ HB.out).2.1, (HS15.out _ HB.out).2.2.1, (HS15.out _ HB.out).2.2.2⟩ (fun hHeld => ?_)
          clear hK K
          refine norm_ (a' := ?_) ?_ ?_
          rotate_left
          · show Act.put _ (some 62) _ = _
            simp only [Act.put, List.setIfInBounds_toArray, List.set_cons_zero, List.set_cons_succ, i64_w, i32_w]
            rfl
          refine one_ (i := 7) (N := some 66) #[true, true, true, true, true, true, true, true, false, false] rfl rfl (by kernel_rfl) (by decide) (fun K hK => ?_)
          refine goes_ Try.func91 (by kernel_rfl) rfl #[.agg #[.int .i8 x, .int .i8 y], .slice A1' p1.length c1'] (by rfl) rfl rfl (by (try simp only [List.map_toArray, List.map_cons, List.map_nil]); first | done | rfl | (simp only [List.length_drop, List.length_take]; rfl)) ?_
          refine (C1.out _ A1' c1' (Kd.C_below RC1.out HB.out) CP1.out).mono ?_
          rintro e w32 ⟨rfl, hb_⟩
          refine ⟨_, rfl, ?_⟩
          have n1_ := Aside0.mk (below_step HB.out hb_)
          clear HB hb_
          have HB := n1_
          clear n1_
          refine hK.out _ _ ⟨(HS15.out _ HB.out).1, (HS15.out _ HB.out).2.1, (HS15.out _ HB.out).2.2.1, (HS15.out _ HB.out).2.2.2⟩ (fun hHeld => ?_)
          clear hK K
          refine norm_ (a' := ?_) ?_ ?_
          rotate_left
          · show Act.put _ (some 66) _ = _
            simp only [Act.put, List.setIfInBounds_toArray, List.set_cons_zero, List.set_cons_succ, i64_w, i32_w]
            rfl
          refine pure_ (i := 8) (N := some 67) (v := ?_) (a' := ?_) #[true, true, true, true, true, true, true, true, true, false] rfl rfl (by kernel_rfl) (fun _ _ _ h => h) (Or.inl ⟨by rfl, ?_⟩) ?_ ?_
          rotate_left
          · intro w'
            go_simp
            with_reducible rfl
          rotate_left
          · simp only [Act.put, List.setIfInBounds_toArray, List.set_cons_zero, List.set_cons_succ, i64_w, i32_w]
            rfl
          refine pure_ (i := 9) (N := some 16) (v := ?_) (a' := ?_) #[true, true, true, true, true, true, true, true, true, true] rfl rfl (by kernel_rfl) (fun _ _ _ h => h) (Or.inl ⟨by rfl, ?_⟩) ?_ ?_
          rotate_left
          · intro w'
            go_simp
            with_reducible rfl
          rotate_left
          · simp only [Act.put, List.setIfInBounds_toArray, List.set_cons_zero, List.set_cons_succ, i64_w, i32_w]
            rfl
          refine done_ (by kernel_rfl) ?_
          obtain ⟨m, hm⟩ : ∃ m, mx t0 t1 = m := ⟨_, rfl⟩
          obtain ⟨⟨fw, fl⟩, hfo⟩ : ∃ fo, foundOf (overSets (timeP x y) l0 s) = fo := ⟨_, rfl⟩
          have hm' : (if t0 < t1 then t1 else t0) = m := hm
          rw [hm', hfo]
          rw [hm, hfo] at HFS
          rw [hfo] at BKEEP
          clear hm hm' hfo C0 C1 RC0 RC1 CP0 CP1
          have hstep := HFS.out
          rw [← HOS.out] at hstep
          dsimp only at hstep
          have HST := Aside0.mk hstep
          clear hstep HFS HOS
          have hsn_ := hlt
          have hnb_ := HNB.out.2
          by_cases ca : fl < 0
          · have cb : decide (fl < 0) = true := decide_eq_true ca
            have HE := Aside0.mk (HST.out.trans (if_pos (Or.inl ca)))
            clear ca
            go_wp2
            go_roundg (N - (s + 1))
            case measure => omega
            case rel => exact ⟨s + 1, by omega, by omega, by go_num, by rw [HE.out], ⟨by rw [HE.out]; exact Kd.R_lower (Kd.R_below RY.out HB.out) BR.out.size⟩, ⟨BWI.out.trans (HB.out.mono BWI.out.size)⟩, ⟨blk_below KXI.out HB.out⟩⟩
          · have cb : decide (fl < 0) = false := decide_eq_false ca
            by_cases cc : m < fl
            · have cd : decide (m < fl) = true := decide_eq_true cc
              have HE := Aside0.mk (HST.out.trans (if_pos (Or.inr cc)))
              clear ca cc
              go_wp2
              go_roundg (N - (s + 1))
              case measure => omega
              case rel => exact ⟨s + 1, by omega, by omega, by go_num, by rw [HE.out], ⟨by rw [HE.out]; exact Kd.R_lower (Kd.R_below RY.out HB.out) BR.out.size⟩, ⟨BWI.out.trans (HB.out.mono BWI.out.size)⟩, ⟨blk_below KXI.out HB.out⟩⟩
            · have cd : decide (m < fl) = false := decide_eq_false cc
              have HE := Aside0.mk (HST.out.trans (if_neg (fun h => h.elim ca cc)))
              clear ca cc
              go_wp2
              go_roundg (N - (s + 1))
              case measure => omega
              case rel => exact ⟨s + 1, by omega, by omega, by go_num, by rw [HE.out], ⟨by rw [HE.out]; exact BKEEP.out _ (PE.out.hb.trans (HB.out.mono WSZ.out))⟩, ⟨BWI.out.trans (HB.out.mono BWI.out.size)⟩, ⟨blk_below KXI.out HB.out⟩⟩
    · have hltz : ¬ (s : Int) < (N : Int) := by omega
      obtain rfl : s = N := by omega
      have hf := two_found (timeP x y) l0 s (by rw [HN.out]; exact HNN.out)
      have RB' := RB.out
      rw [hf] at RB'
      rw [hf]
      have RBX := Aside0.mk RB'
      clear RB' hf RB
      go_wp2
      go_ret3
      exact ⟨u8, rfl, RBX.out, BR.out⟩
def impl_TwoIrons.f (k : Nat) (x : Int) (y : Int) (l : List S57) : Option (List Int × Int × Int) := twoBy (impl_ironCode.f k x y l) (timeP x y) x y l
theorem impl_TwoIrons.mono : ∀ a0 a1 a2 k, LeO (impl_TwoIrons.f k a0 a1 a2) (impl_TwoIrons.f (k + 1) a0 a1 a2) := fun a0 a1 a2 k => twoBy_mono (fun k => impl_ironCode.mono a0 a1 a2 k) _ a0 a1 a2 k
set_option maxHeartbeats 8000000 in
set_option maxRecDepth 100000 in
theorem impl_TwoIrons.calls (k : Nat) (x : Int) (y : Int) (A0 : Option Addr) (c0 : Nat) (l0 : List (S57)) (r1 : List Int) (r2 : Int) (r3 : Int) (w : World) (hr1 : Kd.C k57 w A0 l0.length l0) (hc1 : l0.length ≤ c0) (h : impl_TwoIrons.f k x y l0 = some (r1, r2, r3)) :
    Calls Try.prog 42 #[.agg #[.int .i8 x, .int .i8 y], .slice A0 l0.length c0] w fun e w' => ∃ v0_ : Value, e = .returned (.tuple #[v0_, .int .i64 r2, .int .i64 r3]) ∧ Kd.R (Kd.int .i64) 2 w' w.heap.size (fun _ => True) v0_ r1 ∧ Below w.heap.size w w' := by
  obtain ⟨ha, h2⟩ := twoBy_some h
  rcases h2 with ⟨h3, rfl, rfl⟩ | ⟨rfl, hs, rfl, rfl⟩
  · have hu27 := Try.underlying27
    have HA := Aside0.mk ha
    have HR0 := Aside0.mk hr1
    have HC0 := Aside0.mk hc1
    have cb : (r3 == 0) = false := beq_eq_false_iff_ne.mpr h3
    clear ha h hr1 hc1 h3
    go_enter Try.func42, Try.ntmps42
    go_wp2_with (first | ((with_reducible refine gate_dst (N := 2) rfl ?_); refine box_event ?hg (N := 2) ?hd (cs := #[.int .i8 x, .int .i8 y]) (t := 27) ?hr ?_; (case hd => rfl); (case hg => rfl); (case hr => first | (go_simp; done) | (go_simp; rfl)); intro gx hgx W1 hbx hb1; have BX := Aside0.mk hbx; have HB := Aside0.mk hb1; have k0 : W1.cell? ⟨gx, 0, none⟩ = some (.int .i8 x) := (blk_cell hbx 0).trans rfl; have k1 : W1.cell? ⟨gx, 1, none⟩ = some (.int .i8 y) := (blk_cell hbx 1).trans rfl; clear hbx hb1 hgx) | (go_at_call 74; refine (impl_ironCode.calls k x y A0 c0 l0 _ _ (Kd.C_below HR0.out HB.out) HC0.out HA.out).mono ?_; rintro e W2 ⟨rfl, hb2⟩; have n0_ := Aside0.mk (blk_below BX.out hb2); have n1_ := Aside0.mk (below_step HB.out hb2); clear BX HB hb2 k0 k1; have BX := n0_; have HB := n1_; clear n0_ n1_))
    go_ret3
    exact ⟨_, rfl, Kd.R_nil _ _ _ _ _, HB.out⟩
  · exact two_walk k x y A0 c0 l0 w hr1 hc1 ha hs
end Go.Proofs.Ythkccaclmodjiaa.I
