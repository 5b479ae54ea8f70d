import Derived.Test.YthkccaclmodjiaazETwoIronsEChoose
import Derived.Test.YthkccaclmodjiaazETwoIronsEListsPiece
import Derived.Test.YthkccaclmodjiaazETwoIronsEBSearch
import Derived.Test.YthkccaclmodjiaazETwoIronsETwo10b
import Derived.Test.YthkccaclmodjiaazETwoIronsI0
import Derived.Shelf.Abstract
import Derived.RangeFuncBox
import Derived.Shelf.SlSortCmp.Insertion1
namespace Go.Proofs.Ythkccaclmodjiaa.I
open Go.RowKit Go.Proofs.YthkccaclmodjiaaW.PrintWords Go.Proofs.YthkccaclmodjiaaW.PrintLast Go.Proofs.YthkccaclmodjiaaW.PrintMore
attribute [local go_sem] max2_int min2_int max_two min_two max_three min_three max_four min_four
set_option linter.unusedVariables false
set_option linter.unusedSimpArgs false
open Go.Sort Go.Shelf Go.Lib
theorem TwoSt.set {g : Nat} {x y : Int} {A2 : Option Addr} {c2 : Nat} {l : List S57} {W : World} {bv : Value} {st : Option (List Int × Int)} {gn : Nat} {cells : Array Value} (h : TwoSt g x y A2 c2 l W bv st) (hk : W.heap[gn]? = some (.cells cells 83 (0, 0))) (hg : g ≠ gn) (j : Nat) (u : Value) {w0 : World} (hrd : Kd.C k57 w0 A2 l.length l) (hb : Below w0.heap.size w0 (W.setCell ⟨gn, j, none⟩ u)) :
    TwoSt g x y A2 c2 l (W.setCell ⟨gn, j, none⟩ u) bv st :=
  ⟨blk_far (p := ⟨gn, j, none⟩) h.blk hg u, Kd.C_below hrd hb, h.cap, Kd.R_set h.rb hk (by decide) j u⟩
theorem mid_set {m gn : Nat} {a b : World} (h : Mid m a b) (hg : a.heap.size ≤ gn) (j : Nat) (u : Value) : Mid m a (b.setCell ⟨gn, j, none⟩ u) :=
  ⟨by have := h.size; simp; omega, fun k hk hl => (Below.heap_setCell b ⟨gn, j, none⟩ u k (by show k ≠ gn; omega)).trans (h.block k hk hl)⟩
theorem part_next (k c : Int) (b : List Int) (l : List S57) (nb : Nat) (hb : b.length = nb) (h : nb < l.length) : partOf k (b ++ [c]) (l.take (b ++ [c]).length) = partOf k b (l.take nb) ++ (if c == k then [rd_T57 l (nb : Int)] else []) := by
  have e : l.take (b ++ [c]).length = l.take nb ++ [rd_T57 l (nb : Int)] := by
    rw [List.length_append, List.length_singleton, hb, rd57_lt l nb h]
    exact (List.take_append_getElem h).symm
  rw [e]
  exact partOf_snoc k c b _ _ (by rw [List.length_take]; omega)
def atTwo (f : List S57 → Int) (l : List S57) (d : Nat) (b : List Int) (st : Option (List Int × Int)) : Nat → Option (List Int × Int)
  | 0 => st
  | n + 1 => twoFrom f l d (b ++ [(n : Int)]) (atTwo f l d b st n)
set_option maxHeartbeats 40000000 in
set_option maxRecDepth 100000 in
theorem two_step (g : Nat) (x y : Int) (A2 : Option Addr) (c2 : Nat) (l : List S57) (w0 : World) (hrd : Kd.C k57 w0 A2 l.length l) (hgw : w0.heap.size ≤ g) (h8 : l.length ≤ 8) (d : Nat) (ih :
    ∀ (v : Value) (b : List Int) (u0 u1 : Value) (W : World) (bv : Value) (st : Option (List Int × Int)), b.length + d = l.length → TwoSt g x y A2 c2 l W bv st → Kd.R (Kd.int .i64) 2 W (g + 1) (fun _ => True) v b → Kd.R k57 57 W (g + 1) (fun _ => True) u0 (partOf 0 b (l.take b.length)) → Kd.R k57 57 W (g + 1) (fun _ => True) u1 (partOf 1 b (l.take b.length)) → Below g w0 W →
      Calls Try.prog 90 #[.pointer (some ⟨g, 0, none⟩), v, .agg #[u0, u1]] W fun e w' => e = .returned (.tuple #[]) ∧ ∃ bv', TwoSt g x y A2 c2 l w' bv' (twoFrom (fun p => (searched x y p 0).low) l d b st) ∧ Below g w0 w' ∧ Mid (g + 1) W w') :
    ∀ (v : Value) (b : List Int) (u0 u1 : Value) (W : World) (bv : Value) (st : Option (List Int × Int)), b.length + (d + 1) = l.length → TwoSt g x y A2 c2 l W bv st → Kd.R (Kd.int .i64) 2 W (g + 1) (fun _ => True) v b → Kd.R k57 57 W (g + 1) (fun _ => True) u0 (partOf 0 b (l.take b.length)) → Kd.R k57 57 W (g + 1) (fun _ => True) u1 (partOf 1 b (l.take b.length)) → Below g w0 W →
      Calls Try.prog 90 #[.pointer (some ⟨g, 0, none⟩), v, .agg #[u0, u1]] W fun e w' => e = .returned (.tuple #[]) ∧ ∃ bv', TwoSt g x y A2 c2 l w' bv' (twoFrom (fun p => (searched x y p 0).low) l (d + 1) b st) ∧ Below g w0 w' ∧ Mid (g + 1) W w' := by
  intro v b u0 u1 W bv st hbl hE hR h0 h1 hB
  have hu57 := Try.underlying57
  rw [show twoFrom (fun p => (searched x y p 0).low) l (d + 1) b st = atTwo (fun p => (searched x y p 0).low) l d b st 2 from twoFrom_succ _ _ _ _ _]
  have hlz : ((b.length : Int) == (l.length : Int)) = false := beq_eq_false_iff_ne.mpr (by omega)
  obtain ⟨nb, hnb⟩ : ∃ nb, b.length = nb := ⟨_, rfl⟩
  have hlt : nb < l.length := by omega
  have hltz : (nb : Int) < (l.length : Int) := by omega
  rw [hnb] at h0 h1 hlz
  obtain ⟨p0, e0⟩ : ∃ p, partOf 0 b (l.take nb) = p := ⟨_, rfl⟩
  obtain ⟨p1, e1⟩ : ∃ p, partOf 1 b (l.take nb) = p := ⟨_, rfl⟩
  rw [e0] at h0
  rw [e1] at h1
  obtain ⟨A, c, ev⟩ := Kd.R_slice hR
  rw [hnb] at ev
  subst ev
  obtain ⟨A0, c0, rfl⟩ := Kd.R_slice h0
  obtain ⟨A1, c1, rfl⟩ := Kd.R_slice h1
  have L0 := Aside0.mk (show p0.length ≤ 8 by rw [← e0]; have := partOf_len 0 b (l.take nb); rw [List.length_take] at this; omega)
  have L1 := Aside0.mk (show p1.length ≤ 8 by rw [← e1]; have := partOf_len 1 b (l.take nb); rw [List.length_take] at this; omega)
  have E0 := Aside0.mk e0
  have E1' := Aside0.mk e1
  have HNB := Aside0.mk hnb
  have HRD := Aside0.mk hrd
  have HGW := Aside0.mk hgw
  clear hrd hgw
  have HBL := Aside0.mk hbl
  have H8 := Aside0.mk h8
  have HLT := Aside0.mk hlt
  have IH := Aside0.mk ih
  have HE := Aside0.mk hE
  have HR := Aside0.mk hR
  have R0 := Aside0.mk h0
  have R1 := Aside0.mk h1
  have HB0 := Aside0.mk hB
  clear hE hR h0 h1 hB hbl e0 e1 hnb h8 ih hlt
  go_enter Try.func90, Try.ntmps90
  go_wp2_with (first | ((with_reducible refine gate_dst (N := 5) rfl ?_); refine box_event ?hg (N := 5) ?hd (cs := #[.slice A0 p0.length c0, .slice A1 p1.length c1]) (t := 83) ?hr ?_; (case hd => rfl); (case hg => rfl); (case hr => first | (go_simp; done) | (go_simp; rfl)); intro gp hgp W5 hbx hb5; have GP := Aside0.mk (show g + 1 ≤ gp by have := HE.out.lt; omega); have BX := Aside0.mk hbx; have HE5 := Aside0.mk (HE.out.below hb5); have HB5 := Aside0.mk (HB0.out.trans (hb5.mono (Nat.le_of_lt HE.out.lt))); have HM5 := Aside0.mk (Mid.of_below (m := g + 1) hb5); have HR5 := Aside0.mk (Kd.R_below HR.out hb5); have R05 := Aside0.mk (Kd.R_below R0.out hb5); have R15 := Aside0.mk (Kd.R_below R1.out hb5); clear hbx hb5 hgp HB0 HR R0 R1; have k2 : W5.cell? ⟨g, 2, none⟩ = some (.slice A2 l.length c2) := blk_cell HE5.out.blk 2; clear HE))
  go_loopg [11] 2 (fun gg v11 wr => ∃ (kk : Nat) (bv1 : Value), kk ≤ 2 ∧ 2 - kk ≤ gg ∧ v11 = .int .i64 kk ∧ Aside0 (TwoSt g x y A2 c2 l wr bv1 (atTwo (fun p => (searched x y p 0).low) l d b st kk)) ∧ Aside0 (Below g w0 wr) ∧ Aside0 (Mid (g + 1) W5 wr))
  case atStart => exact ⟨0, bv, Nat.zero_le _, by omega, rfl, HE5, HB5, ⟨Mid.refl _ _⟩⟩
  case round =>
    clear k2 HE5 HB5
    obtain ⟨kk, bv1, hkk, hg, rfl, E1, B1, M1⟩ := hrel
    have BR := Aside0.mk (blk_mid BX.out M1.out (by have := GP.out; omega))
    rcases (show kk = 0 ∨ kk = 1 ∨ kk = 2 by omega) with rfl | rfl | rfl
    · have k0 := (blk_cell BR.out 0).trans rfl
      have k1 := (blk_cell BR.out 1).trans rfl
      go_wp2_with (first | ((with_reducible refine gate_dst (N := 12) rfl ?_); refine box_event ?hg (N := 12) ?hd (cs := #[.slice none 0 0, .slice none 0 0]) (t := 83) ?hr ?_; (case hd => rfl); (case hg => rfl); (case hr => first | (go_simp; done) | (go_simp; rfl)); intro gn hgn w4 hbn hb4; have GN := Aside0.mk (show g + 1 ≤ gn by rw [hgn]; exact E1.out.lt); have E4 := Aside0.mk (E1.out.below hb4); have B4 := Aside0.mk (B1.out.trans (hb4.mono (Nat.le_of_lt E1.out.lt))); have M4 := Aside0.mk (M1.out.trans (Mid.of_below hb4)); have GS := Aside0.mk (show W5.heap.size ≤ gn by rw [hgn]; exact M1.out.size); have NP := Aside0.mk (show gp ≠ gn by have := blk_lt BR.out; omega); have KN := Aside0.mk hbn; have cn0 : w4.cell? ⟨gn, 0, none⟩ = some (.slice none 0 0) := (blk_cell hbn 0).trans rfl; have cn1 : w4.cell? ⟨gn, 1, none⟩ = some (.slice none 0 0) := (blk_cell hbn 1).trans rfl; have fn0 := blk_frozen hbn 0; have fn1 := blk_frozen hbn 1; clear hbn hb4 hgn E1 B1 M1 k0 k1))
      have K5 := Aside0.mk (blk_put (blk_put (cs := #[.slice none 0 0, .slice none 0 0]) KN.out 0 (.slice A0 p0.length c0) rfl) 1 (.slice A1 p1.length c1) (cs' := #[.slice A0 p0.length c0, .slice A1 p1.length c1]) rfl)
      have K4 := Aside0.mk (blk_put (cs := #[.slice none 0 0, .slice none 0 0]) KN.out 0 (.slice A0 p0.length c0) rfl)
      have NG := Aside0.mk (show g ≠ gn by have := GN.out; omega)
      have B45 := Aside0.mk (B4.out.setCell (p := ⟨gn, 0, none⟩) (show g ≤ gn by have := GN.out; omega) (.slice A0 p0.length c0))
      have B5 := Aside0.mk (B45.out.setCell (p := ⟨gn, 1, none⟩) (show g ≤ gn by have := GN.out; omega) (.slice A1 p1.length c1))
      have E5 := Aside0.mk (((E4.out.set KN.out NG.out 0 (.slice A0 p0.length c0) HRD.out (B45.out.mono HGW.out)).set K4.out NG.out 1 (.slice A1 p1.length c1) HRD.out (B5.out.mono HGW.out)))
      have M5 := Aside0.mk (mid_set (mid_set M4.out GS.out 0 (.slice A0 p0.length c0)) GS.out 1 (.slice A1 p1.length c1))
      clear KN K4 B4 B45 E4 M4 fn0 fn1 cn0 cn1
      generalize (w4.setCell ⟨gn, 0, none⟩ (.slice A0 p0.length c0)).setCell ⟨gn, 1, none⟩ (.slice A1 p1.length c1) = w5 at K5 B5 E5 M5 ⊢
      have HB := Aside0.mk (Below.refl w5.heap.size w5)
      obtain ⟨P, hP⟩ : ∃ P, rd_T57 l (nb : Int) = P := ⟨_, rfl⟩
      have HP := Aside0.mk hP
      have HRK := Aside0.mk (show ∀ w', Below w5.heap.size w5 w' → Kd.R k57 57 w' (g + 1) (fun _ => True) (.slice A0 p0.length c0) p0 from fun w' h => Kd.R_below (rowK_mid R05.out M5.out) h)
      have PAT := Aside0.mk (show ∀ w', Below w5.heap.size w5 w' → ∃ ad, A2 = some ad ∧ w'.cell? (ad.add (nb * 3)) = some (.int .i8 P.f0) ∧ w'.cell? ⟨(ad.add (nb * 3)).block, (ad.add (nb * 3)).off + 1, none⟩ = some (.int .i8 P.f1) ∧ w'.cell? ⟨(ad.add (nb * 3)).block, (ad.add (nb * 3)).off + 2, none⟩ = some (.int .i16 P.f2) from fun w' hb => by
        have := at_T57 (Kd.C_below E5.out.rd hb) (nb : Int) (by omega) hltz
        rw [Int.toNat_natCast, hP] at this
        exact this)
      clear hP
      obtain ⟨ad, ea, _⟩ := PAT.out w5 (Below.refl _ _)
      subst ea
      have HS13 := Aside0.mk (show ∀ w', Below w5.heap.size w5 w' → w'.cell? ⟨gp, 0, none⟩ = some (.slice A0 p0.length c0) ∧ w'.cell? ⟨g, 2, none⟩ = some (.slice (some ad) l.length c2) ∧ w'.cell? (ad.add (nb * 3)) = some (.int .i8 P.f0) ∧ w'.cell? ⟨(ad.add (nb * 3)).block, (ad.add (nb * 3)).off + 1, none⟩ = some (.int .i8 P.f1) ∧ w'.cell? ⟨(ad.add (nb * 3)).block, (ad.add (nb * 3)).off + 2, none⟩ = some (.int .i16 P.f2) from fun w' h => ⟨(blk_cell (blk_below (blk_mid BX.out M5.out (by have := GP.out; omega)) h) 0).trans rfl, (blk_cell (E5.out.below h).blk 2).trans rfl, by obtain ⟨ad2, ea2, y0, y1, y2⟩ := PAT.out w' h; cases ea2; exact ⟨y0, y1, y2⟩⟩)
      refine start_ (n := 18) (S := fun w' => w'.cell? ⟨gp, 0, none⟩ = some (.slice A0 p0.length c0) ∧ w'.cell? ⟨g, 2, none⟩ = some (.slice (some ad) l.length c2) ∧ w'.cell? (ad.add (nb * 3)) = some (.int .i8 P.f0) ∧ w'.cell? ⟨(ad.add (nb * 3)).block, (ad.add (nb * 3)).off + 1, none⟩ = some (.int .i8 P.f1) ∧ w'.cell? ⟨(ad.add (nb * 3)).block, (ad.add (nb * 3)).off + 2, none⟩ = some (.int .i16 P.f2)) (ds := [17]) #[false, false, false, false, false, false, false, false, false, false, false, false, false, false, false, false, false, false] (by kernel_rfl) rfl rfl ⟨(HS13.out _ (below_drew1 HB.out)).1, (HS13.out _ (below_drew1 HB.out)).2.1, (HS13.out _ (below_drew1 HB.out)).2.2.1, (HS13.out _ (below_drew1 HB.out)).2.2.2.1, (HS13.out _ (below_drew1 HB.out)).2.2.2.2⟩ (fun hHeld => ?_)
      have n1_ := Aside0.mk (below_drew1 HB.out)
      clear HB
      generalize w5.drew = w5d at n1_ hHeld  ⊢
      have HB := n1_
      clear n1_
      refine pure_ (i := 0) (N := some 75) (v := ?_) (a' := ?_) #[true, false, false, false, false, false, false, false, false, false, false, false, false, false, false, false, false, false] rfl rfl (by kernel_rfl) (fun _ _ _ h => h) (Or.inl ⟨by rfl, ?_⟩) ?_ ?_
      rotate_left
      · intro w'
        go_simp
        with_reducible rfl
      rotate_left
      · simp only [Act.put, List.setIfInBounds_toArray, List.set_cons_zero, List.set_cons_succ, i64_w, i32_w]
        rfl
      refine pure_ (i := 2) (N := some 77) (v := ?_) (a' := ?_) #[true, false, true, false, false, false, false, false, false, false, false, false, false, false, false, false, false, false] rfl rfl (by kernel_rfl) (fun _ _ _ h => h) (Or.inl ⟨by rfl, ?_⟩) ?_ ?_
      rotate_left
      · intro w'
        go_simp
        with_reducible rfl
      rotate_left
      · simp only [Act.put, List.setIfInBounds_toArray, List.set_cons_zero, List.set_cons_succ, i64_w, i32_w]
        rfl
      refine pure_ (i := 3) (N := some 78) (v := ?_) (a' := ?_) #[true, false, true, true, false, false, false, false, false, false, false, false, false, false, false, false, false, false] rfl rfl (by kernel_rfl) (fun _ _ _ h => h) (Or.inl ⟨by rfl, ?_⟩) ?_ ?_
      rotate_left
      · intro w'
        go_simp
        with_reducible rfl
      rotate_left
      · simp only [Act.put, List.setIfInBounds_toArray, List.set_cons_zero, List.set_cons_succ, i64_w, i32_w]
        rfl
      refine pure_ (i := 6) (N := some 81) (v := ?_) (a' := ?_) #[true, false, true, true, false, false, true, false, false, false, false, false, false, false, false, false, false, false] rfl rfl (by kernel_rfl) (fun _ _ _ h => h) (Or.inl ⟨by rfl, ?_⟩) ?_ ?_
      rotate_left
      · intro w'
        go_simp
        with_reducible rfl
      rotate_left
      · simp only [Act.put, List.setIfInBounds_toArray, List.set_cons_zero, List.set_cons_succ, i64_w, i32_w]
        rfl
      refine pure_ (i := 7) (N := some 82) (v := ?_) (a' := ?_) #[true, false, true, true, false, false, true, true, false, false, false, false, false, false, false, false, false, false] rfl rfl (by kernel_rfl) (fun _ _ _ h => h) (Or.inl ⟨by rfl, ?_⟩) ?_ ?_
      rotate_left
      · intro w'
        go_simp
        with_reducible rfl
      rotate_left
      · simp only [Act.put, List.setIfInBounds_toArray, List.set_cons_zero, List.set_cons_succ, i64_w, i32_w]
        rfl
      refine pure_ (i := 8) (N := some 83) (v := ?_) (a' := ?_) #[true, false, true, true, false, false, true, true, true, false, false, false, false, false, false, false, false, false] rfl rfl (by kernel_rfl) (fun _ _ _ h => h) (Or.inl ⟨by rfl, ?_⟩) ?_ ?_
      rotate_left
      · intro w'
        go_simp
        with_reducible rfl
      rotate_left
      · simp only [Act.put, List.setIfInBounds_toArray, List.set_cons_zero, List.set_cons_succ, i64_w, i32_w]
        rfl
      refine pure_ (i := 10) (N := some 85) (v := ?_) (a' := ?_) #[true, false, true, true, false, false, true, true, true, false, true, false, false, false, false, false, false, false] rfl rfl (by kernel_rfl) (fun _ _ _ h => h) (Or.inl ⟨by rfl, ?_⟩) ?_ ?_
      rotate_left
      · intro w'
        go_simp
        with_reducible rfl
      rotate_left
      · simp only [Act.put, List.setIfInBounds_toArray, List.set_cons_zero, List.set_cons_succ, i64_w, i32_w]
        rfl
      refine pure_ (i := 11) (N := some 86) (v := ?_) (a' := ?_) #[true, false, true, true, false, false, true, true, true, false, true, true, false, false, false, false, false, false] rfl rfl (by kernel_rfl) (fun _ _ _ h => h) (Or.inl ⟨by rfl, ?_⟩) ?_ ?_
      rotate_left
      · intro w'
        go_simp
        with_reducible rfl
      rotate_left
      · simp only [Act.put, List.setIfInBounds_toArray, List.set_cons_zero, List.set_cons_succ, i64_w, i32_w]
        rfl
      refine take_ (i := 4) (N := some 79) (v := ?_) (a' := ?_) #[true, false, true, true, true, false, true, true, true, false, true, true, false, false, false, false, false, false] rfl rfl (by kernel_rfl) (fun _ _ _ h => h) (Or.inl ⟨by rfl, ?_⟩) hHeld ?_ ?_
      rotate_left
      · rintro w' ⟨s0, s1, s2, s3, s4⟩
        go_simp
        with_reducible rfl
      rotate_left
      · simp only [Act.put, List.setIfInBounds_toArray, List.set_cons_zero, List.set_cons_succ, i64_w, i32_w]
        rfl
      refine take_ (i := 9) (N := some 84) (v := ?_) (a' := ?_) #[true, false, true, true, true, false, true, true, true, true, true, true, false, false, false, false, false, false] rfl rfl (by kernel_rfl) (fun _ _ _ h => h) (Or.inl ⟨by rfl, ?_⟩) hHeld ?_ ?_
      rotate_left
      · rintro w' ⟨s0, s1, s2, s3, s4⟩
        go_simp
        with_reducible rfl
      rotate_left
      · simp only [Act.put, List.setIfInBounds_toArray, List.set_cons_zero, List.set_cons_succ, i64_w, i32_w]
        rfl
      refine pure_ (i := 12) (N := some 87) (v := ?_) (a' := ?_) #[true, false, true, true, true, false, true, true, true, true, true, true, true, false, false, false, false, false] rfl rfl (by kernel_rfl) (fun _ _ _ h => h) (Or.inl ⟨by rfl, ?_⟩) ?_ ?_
      rotate_left
      · intro w'
        go_simp
        with_reducible rfl
      rotate_left
      · simp only [Act.put, List.setIfInBounds_toArray, List.set_cons_zero, List.set_cons_succ, i64_w, i32_w]
        rfl
      refine take_ (i := 13) (N := some 88) (v := ?_) (a' := ?_) #[true, false, true, true, true, false, true, true, true, true, true, true, true, true, false, false, false, false] rfl rfl (by kernel_rfl) (fun _ _ _ h => h) (Or.inl ⟨by rfl, ?_⟩) hHeld ?_ ?_
      rotate_left
      · rintro w' ⟨s0, s1, s2, s3, s4⟩
        go_simp
        with_reducible rfl
      rotate_left
      · simp only [Act.put, List.setIfInBounds_toArray, List.set_cons_zero, List.set_cons_succ, i64_w, i32_w]
        rfl
      refine join_ (σ := Value × Value × Value) 3 #[true, true, true, true, true, true, true, true, true, true, true, true, true, true, true, false, false, false] (fun s_ => [(76, s_.1), (80, s_.2.1), (89, s_.2.2)]) (fun s_ w' => (Kd.R k57 57 w' w5.heap.size (fun k_ => some k_ ≠ (s_.2.2 : Value).ownBlock) s_.2.1 p0) ∧ (Kd.R k57 57 w' w5.heap.size (fun k_ => some k_ ≠ (s_.2.1 : Value).ownBlock) s_.2.2 [P]) ∧ (Below w5.heap.size w5 w')) ?_ ?_
      rotate_left
      · intro hCont
        refine two_ (i := 1) (j := 14) (Ni := some 76) (Nj := some 89) #[true, true, true, true, true, false, true, true, true, true, true, true, true, true, false, false, false, false] #[true, false, true, true, true, false, true, true, true, true, true, true, true, true, true, false, false, false] rfl rfl rfl rfl (by kernel_rfl) (by decide) (by decide) (fun K hK => ?_) (fun K hK => ?_)
        · skip
          refine Kd.R_lit_step k57 _ 57 ?hg (N := 76) ?hd (xs := ([] : List S57)) (inner := []) (ok := fun _ => True) (okp := fun _ => True) ?hr ?hp (fun _ hk => hk) trivial (Below.refl _ _) (Nat.le_refl _) (by simp) ?_; (case hd => rfl); (case hg => rfl); (case hr => first | (go_simp; done) | (go_simp; rfl)); (case hp => exact (Reps.none _ _))
          intro v76 wa13 ho_ hb hg_ hnew_
          clear hg_ hnew_
          have n1_ := Aside0.mk (Kd.R_lower ho_ (below_size (by repeat (first | (with_reducible first | exact HB.out | apply below_alloc | apply pw_below_drewN | apply below_drew1) | exact HB.out))))
          have n2_ := Aside0.mk (below_step (by repeat (first | (with_reducible first | exact HB.out | apply below_alloc | apply pw_below_drewN | apply below_drew1) | exact HB.out)) hb)
          clear HB
          have HO76 := n1_
          have HB := n2_
          clear n1_ n2_
          clear hb ho_
          refine hK.out _ _ ⟨(HS13.out _ HB.out).1, (HS13.out _ HB.out).2.1, (HS13.out _ HB.out).2.2.1, (HS13.out _ HB.out).2.2.2.1, (HS13.out _ HB.out).2.2.2.2⟩ (fun hHeld => ?_)
          clear hK K
          refine norm_ (a' := ?_) ?_ ?_
          rotate_left
          · show Act.put _ (some 76) _ = _
            simp only [Act.put, List.setIfInBounds_toArray, List.set_cons_zero, List.set_cons_succ, i64_w, i32_w]
            rfl
          refine two_ (i := 5) (j := 14) (Ni := some 80) (Nj := some 89) #[true, true, true, true, true, true, true, true, true, true, true, true, true, true, false, false, false, false] #[true, true, true, true, true, false, true, true, true, true, true, true, true, true, true, false, false, false] rfl rfl rfl rfl (by kernel_rfl) (by decide) (by decide) (fun K hK => ?_) (fun K hK => ?_)
          · skip
            refine Kd.R_append_rows_step k57 (w0 := w5) w5.heap.size (by rfl) (.tmp 76) (.tmp 79) 33 57 (.agg #[.int .i8 0, .int .i8 0, .int .i16 0]) 4 rfl Try.underlying33 info57 rfl (by decide) (by omega) v76 [] p0 _ _ _ (fun _ => True) (fun _ => False) rfl rfl ?aO ?aR (fun _ _ h => h) (fun _ h => h.elim) ?aF ?aB ?aS ?aL ?_
            (case aR => have h_ := (Kd.R_reads' (HRK.out _ (by repeat (first | (with_reducible first | exact HB.out | apply below_alloc | apply pw_below_drewN | apply below_drew1) | exact HB.out)))).2.2; exact h_)
            (case aB => exact (by repeat (first | (with_reducible first | exact HB.out | apply below_alloc | apply pw_below_drewN | apply below_drew1) | exact HB.out)))
            (case aF => exact (fun _ _ => trivial))
            (case aO => exact (by (with_reducible repeat (first | apply Kd.R_alloc | apply Kd.R_drewN | apply Kd.R_drew)); exact HO76.out))
            (case aS => exact (below_size (by repeat (first | (with_reducible first | exact HB.out | apply below_alloc | apply pw_below_drewN | apply below_drew1) | exact HB.out))))
            (case aL => have := L0.out; simp only [List.length_nil]; omega)
            intro v80 wc13 ho hb hg hat
            have n2_ := Aside0.mk (hb)
            have n3_ := Aside0.mk (show Kd.R k57 57 wc13 w5.heap.size _ v80 p0 from ho)
            clear HB HO76
            have HB := n2_
            have HO80 := n3_
            clear n2_ n3_
            clear ho hb hg hat
            refine hK.out _ _ ⟨(HS13.out _ HB.out).1, (HS13.out _ HB.out).2.1, (HS13.out _ HB.out).2.2.1, (HS13.out _ HB.out).2.2.2.1, (HS13.out _ HB.out).2.2.2.2⟩ (fun hHeld => ?_)
            clear hK K
            refine norm_ (a' := ?_) ?_ ?_
            rotate_left
            · show Act.put _ (some 80) _ = _
              simp only [Act.put, List.setIfInBounds_toArray, List.set_cons_zero, List.set_cons_succ, i64_w, i32_w]
              rfl
            refine one_ (i := 14) (N := some 89) #[true, true, true, true, true, true, true, true, true, true, true, true, true, true, true, false, false, false] rfl rfl (by kernel_rfl) (by decide) (fun K hK => ?_)
            refine Kd.R_lit_step k57 _ 57 ?hg (N := 89) ?hd (xs := ([P] : List S57)) (inner := [.int .i8 P.f0, .int .i8 P.f1, .int .i16 P.f2]) (ok := fun _ => True) (okp := fun _ => True) ?hr ?hp (fun _ hk => hk) trivial (Below.refl _ _) (Nat.le_refl _) (by simp) ?_; (case hd => rfl); (case hg => rfl); (case hr => first | (go_simp; done) | (go_simp; rfl)); (case hp => exact (Reps.c3 (k57_mkM _ _ _ P) (Reps.none _ _)))
            intro v89 wb13 ho_ hb hg_ hnew_
            clear hg_ hnew_
            have n0_ := Aside0.mk (Kd.R_elder' (by (with_reducible repeat (first | apply Kd.R_alloc | apply Kd.R_drewN | apply Kd.R_drew)); exact HO80.out) (Kd.R_base ho_) hb)
            have n1_ := Aside0.mk (Kd.R_lower (Kd.R_new' ho_ (Kd.R_lt (by (with_reducible repeat (first | apply Kd.R_alloc | apply Kd.R_drewN | apply Kd.R_drew)); exact HO80.out))) (below_size (by repeat (first | (with_reducible first | exact HB.out | apply below_alloc | apply pw_below_drewN | apply below_drew1) | exact HB.out))))
            have n2_ := Aside0.mk (below_step (by repeat (first | (with_reducible first | exact HB.out | apply below_alloc | apply pw_below_drewN | apply below_drew1) | exact HB.out)) hb)
            clear HB
            clear HO80
            have HO80 := n0_
            clear n0_
            have HO89 := n1_
            have HB := n2_
            clear n1_ n2_
            clear hb ho_
            refine hK.out _ _ ⟨(HS13.out _ HB.out).1, (HS13.out _ HB.out).2.1, (HS13.out _ HB.out).2.2.1, (HS13.out _ HB.out).2.2.2.1, (HS13.out _ HB.out).2.2.2.2⟩ (fun hHeld => ?_)
            clear hK K
            refine norm_ (a' := ?_) ?_ ?_
            rotate_left
            · show Act.put _ (some 89) _ = _
              simp only [Act.put, List.setIfInBounds_toArray, List.set_cons_zero, List.set_cons_succ, i64_w, i32_w]
              rfl
            exact norm_ (by simp only [putAll, Act.put, List.setIfInBounds_toArray, List.set_cons_zero, List.set_cons_succ]) (hCont (v76, v80, v89) _ ⟨(by (with_reducible repeat (first | apply Kd.R_alloc | apply Kd.R_drewN | apply Kd.R_drew)); exact Kd.R_mono HO80.out (fun _ hk => hk.2)), (by (with_reducible repeat (first | apply Kd.R_alloc | apply Kd.R_drewN | apply Kd.R_drew)); exact Kd.R_mono HO89.out (fun _ hk => hk.2)), (by repeat (first | (with_reducible first | exact HB.out | apply below_alloc | apply pw_below_drewN | apply below_drew1) | exact HB.out))⟩)
          · skip
            refine Kd.R_lit_step k57 _ 57 ?hg (N := 89) ?hd (xs := ([P] : List S57)) (inner := [.int .i8 P.f0, .int .i8 P.f1, .int .i16 P.f2]) (ok := fun _ => True) (okp := fun _ => True) ?hr ?hp (fun _ hk => hk) trivial (Below.refl _ _) (Nat.le_refl _) (by simp) ?_; (case hd => rfl); (case hg => rfl); (case hr => first | (go_simp; done) | (go_simp; rfl)); (case hp => exact (Reps.c3 (k57_mkM _ _ _ P) (Reps.none _ _)))
            intro v89 wb13 ho_ hb hg_ hnew_
            clear hg_ hnew_
            have n0_ := Aside0.mk (Kd.R_elder' (by (with_reducible repeat (first | apply Kd.R_alloc | apply Kd.R_drewN | apply Kd.R_drew)); exact HO76.out) (Kd.R_base ho_) hb)
            have n1_ := Aside0.mk (Kd.R_lower (Kd.R_new' ho_ (Kd.R_lt (by (with_reducible repeat (first | apply Kd.R_alloc | apply Kd.R_drewN | apply Kd.R_drew)); exact HO76.out))) (below_size (by repeat (first | (with_reducible first | exact HB.out | apply below_alloc | apply pw_below_drewN | apply below_drew1) | exact HB.out))))
            have n2_ := Aside0.mk (below_step (by repeat (first | (with_reducible first | exact HB.out | apply below_alloc | apply pw_below_drewN | apply below_drew1) | exact HB.out)) hb)
            clear HB
            clear HO76
            have HO76 := n0_
            clear n0_
            have HO89 := n1_
            have HB := n2_
            clear n1_ n2_
            clear hb ho_
            refine hK.out _ _ ⟨(HS13.out _ HB.out).1, (HS13.out _ HB.out).2.1, (HS13.out _ HB.out).2.2.1, (HS13.out _ HB.out).2.2.2.1, (HS13.out _ HB.out).2.2.2.2⟩ (fun hHeld => ?_)
            clear hK K
            refine norm_ (a' := ?_) ?_ ?_
            rotate_left
            · show Act.put _ (some 89) _ = _
              simp only [Act.put, List.setIfInBounds_toArray, List.set_cons_zero, List.set_cons_succ, i64_w, i32_w]
              rfl
            refine one_ (i := 5) (N := some 80) #[true, true, true, true, true, true, true, true, true, true, true, true, true, true, true, false, false, false] rfl rfl (by kernel_rfl) (by decide) (fun K hK => ?_)
            refine Kd.R_append_rows_step k57 (w0 := w5) w5.heap.size (by rfl) (.tmp 76) (.tmp 79) 33 57 (.agg #[.int .i8 0, .int .i8 0, .int .i16 0]) 4 rfl Try.underlying33 info57 rfl (by decide) (by omega) v76 [] p0 _ _ _ (fun k_ => some k_ ≠ (v89 : Value).ownBlock) (fun _ => False) rfl rfl ?aO ?aR (fun _ _ h => h) (fun _ h => h.elim) ?aF ?aB ?aS ?aL ?_
            (case aR => have h_ := (Kd.R_reads' (HRK.out _ (by repeat (first | (with_reducible first | exact HB.out | apply below_alloc | apply pw_below_drewN | apply below_drew1) | exact HB.out)))).2.2; exact h_)
            (case aB => exact (by repeat (first | (with_reducible first | exact HB.out | apply below_alloc | apply pw_below_drewN | apply below_drew1) | exact HB.out)))
            (case aF => exact (fun k_ hk => Kd.fresh' (Kd.R_lt (by (with_reducible repeat (first | apply Kd.R_alloc | apply Kd.R_drewN | apply Kd.R_drew)); exact HO89.out)) k_ hk))
            (case aO => exact (by (with_reducible repeat (first | apply Kd.R_alloc | apply Kd.R_drewN | apply Kd.R_drew)); exact Kd.R_mono HO76.out (fun _ hk => hk.2)))
            (case aS => exact (below_size (by repeat (first | (with_reducible first | exact HB.out | apply below_alloc | apply pw_below_drewN | apply below_drew1) | exact HB.out))))
            (case aL => have := L0.out; simp only [List.length_nil]; omega)
            intro v80 wc13 ho hb hg hat
            have n1_ := Aside0.mk (Kd.R_after (ok := (fun _ => True)) (by (with_reducible repeat (first | apply Kd.R_alloc | apply Kd.R_drewN | apply Kd.R_drew)); exact HO89.out) hg hat)
            have n2_ := Aside0.mk (hb)
            have n3_ := Aside0.mk (show Kd.R k57 57 wc13 w5.heap.size _ v80 p0 from ho)
            clear HB HO76
            clear HO89
            have HO89 := n1_
            clear n1_
            have HB := n2_
            have HO80 := n3_
            clear n2_ n3_
            clear ho hb hg hat
            refine hK.out _ _ ⟨(HS13.out _ HB.out).1, (HS13.out _ HB.out).2.1, (HS13.out _ HB.out).2.2.1, (HS13.out _ HB.out).2.2.2.1, (HS13.out _ HB.out).2.2.2.2⟩ (fun hHeld => ?_)
            clear hK K
            refine norm_ (a' := ?_) ?_ ?_
            rotate_left
            · show Act.put _ (some 80) _ = _
              simp only [Act.put, List.setIfInBounds_toArray, List.set_cons_zero, List.set_cons_succ, i64_w, i32_w]
              rfl
            exact norm_ (by simp only [putAll, Act.put, List.setIfInBounds_toArray, List.set_cons_zero, List.set_cons_succ]) (hCont (v76, v80, v89) _ ⟨(by (with_reducible repeat (first | apply Kd.R_alloc | apply Kd.R_drewN | apply Kd.R_drew)); exact HO80.out), (by (with_reducible repeat (first | apply Kd.R_alloc | apply Kd.R_drewN | apply Kd.R_drew)); exact Kd.R_mono HO89.out (fun _ hk => hk.2)), (by repeat (first | (with_reducible first | exact HB.out | apply below_alloc | apply pw_below_drewN | apply below_drew1) | exact HB.out))⟩)
        · skip
          refine Kd.R_lit_step k57 _ 57 ?hg (N := 89) ?hd (xs := ([P] : List S57)) (inner := [.int .i8 P.f0, .int .i8 P.f1, .int .i16 P.f2]) (ok := fun _ => True) (okp := fun _ => True) ?hr ?hp (fun _ hk => hk) trivial (Below.refl _ _) (Nat.le_refl _) (by simp) ?_; (case hd => rfl); (case hg => rfl); (case hr => first | (go_simp; done) | (go_simp; rfl)); (case hp => exact (Reps.c3 (k57_mkM _ _ _ P) (Reps.none _ _)))
          intro v89 wb13 ho_ hb hg_ hnew_
          clear hg_ hnew_
          have n1_ := Aside0.mk (Kd.R_lower ho_ (below_size (by repeat (first | (with_reducible first | exact HB.out | apply below_alloc | apply pw_below_drewN | apply below_drew1) | exact HB.out))))
          have n2_ := Aside0.mk (below_step (by repeat (first | (with_reducible first | exact HB.out | apply below_alloc | apply pw_below_drewN | apply below_drew1) | exact HB.out)) hb)
          clear HB
          have HO89 := n1_
          have HB := n2_
          clear n1_ n2_
          clear hb ho_
          refine hK.out _ _ ⟨(HS13.out _ HB.out).1, (HS13.out _ HB.out).2.1, (HS13.out _ HB.out).2.2.1, (HS13.out _ HB.out).2.2.2.1, (HS13.out _ HB.out).2.2.2.2⟩ (fun hHeld => ?_)
          clear hK K
          refine norm_ (a' := ?_) ?_ ?_
          rotate_left
          · show Act.put _ (some 89) _ = _
            simp only [Act.put, List.setIfInBounds_toArray, List.set_cons_zero, List.set_cons_succ, i64_w, i32_w]
            rfl
          refine one_ (i := 1) (N := some 76) #[true, true, true, true, true, false, true, true, true, true, true, true, true, true, true, false, false, false] rfl rfl (by kernel_rfl) (by decide) (fun K hK => ?_)
          refine Kd.R_lit_step k57 _ 57 ?hg (N := 76) ?hd (xs := ([] : List S57)) (inner := []) (ok := fun _ => True) (okp := fun _ => True) ?hr ?hp (fun _ hk => hk) trivial (Below.refl _ _) (Nat.le_refl _) (by simp) ?_; (case hd => rfl); (case hg => rfl); (case hr => first | (go_simp; done) | (go_simp; rfl)); (case hp => exact (Reps.none _ _))
          intro v76 wa13 ho_ hb hg_ hnew_
          clear hg_ hnew_
          have n0_ := Aside0.mk (Kd.R_elder' (by (with_reducible repeat (first | apply Kd.R_alloc | apply Kd.R_drewN | apply Kd.R_drew)); exact HO89.out) (Kd.R_base ho_) hb)
          have n1_ := Aside0.mk (Kd.R_lower (Kd.R_new' ho_ (Kd.R_lt (by (with_reducible repeat (first | apply Kd.R_alloc | apply Kd.R_drewN | apply Kd.R_drew)); exact HO89.out))) (below_size (by repeat (first | (with_reducible first | exact HB.out | apply below_alloc | apply pw_below_drewN | apply below_drew1) | exact HB.out))))
          have n2_ := Aside0.mk (below_step (by repeat (first | (with_reducible first | exact HB.out | apply below_alloc | apply pw_below_drewN | apply below_drew1) | exact HB.out)) hb)
          clear HB
          clear HO89
          have HO89 := n0_
          clear n0_
          have HO76 := n1_
          have HB := n2_
          clear n1_ n2_
          clear hb ho_
          refine hK.out _ _ ⟨(HS13.out _ HB.out).1, (HS13.out _ HB.out).2.1, (HS13.out _ HB.out).2.2.1, (HS13.out _ HB.out).2.2.2.1, (HS13.out _ HB.out).2.2.2.2⟩ (fun hHeld => ?_)
          clear hK K
          refine norm_ (a' := ?_) ?_ ?_
          rotate_left
          · show Act.put _ (some 76) _ = _
            simp only [Act.put, List.setIfInBounds_toArray, List.set_cons_zero, List.set_cons_succ, i64_w, i32_w]
            rfl
          refine one_ (i := 5) (N := some 80) #[true, true, true, true, true, true, true, true, true, true, true, true, true, true, true, false, false, false] rfl rfl (by kernel_rfl) (by decide) (fun K hK => ?_)
          refine Kd.R_append_rows_step k57 (w0 := w5) w5.heap.size (by rfl) (.tmp 76) (.tmp 79) 33 57 (.agg #[.int .i8 0, .int .i8 0, .int .i16 0]) 4 rfl Try.underlying33 info57 rfl (by decide) (by omega) v76 [] p0 _ _ _ (fun k_ => some k_ ≠ (v89 : Value).ownBlock) (fun _ => False) rfl rfl ?aO ?aR (fun _ _ h => h) (fun _ h => h.elim) ?aF ?aB ?aS ?aL ?_
          (case aR => have h_ := (Kd.R_reads' (HRK.out _ (by repeat (first | (with_reducible first | exact HB.out | apply below_alloc | apply pw_below_drewN | apply below_drew1) | exact HB.out)))).2.2; exact h_)
          (case aB => exact (by repeat (first | (with_reducible first | exact HB.out | apply below_alloc | apply pw_below_drewN | apply below_drew1) | exact HB.out)))
          (case aF => exact (fun k_ hk => Kd.fresh' (Kd.R_lt (by (with_reducible repeat (first | apply Kd.R_alloc | apply Kd.R_drewN | apply Kd.R_drew)); exact HO89.out)) k_ hk))
          (case aO => exact (by (with_reducible repeat (first | apply Kd.R_alloc | apply Kd.R_drewN | apply Kd.R_drew)); exact Kd.R_mono HO76.out (fun _ hk => hk.2)))
          (case aS => exact (below_size (by repeat (first | (with_reducible first | exact HB.out | apply below_alloc | apply pw_below_drewN | apply below_drew1) | exact HB.out))))
          (case aL => have := L0.out; simp only [List.length_nil]; omega)
          intro v80 wc13 ho hb hg hat
          have n1_ := Aside0.mk (Kd.R_after (ok := (fun _ => True)) (by (with_reducible repeat (first | apply Kd.R_alloc | apply Kd.R_drewN | apply Kd.R_drew)); exact HO89.out) hg hat)
          have n2_ := Aside0.mk (hb)
          have n3_ := Aside0.mk (show Kd.R k57 57 wc13 w5.heap.size _ v80 p0 from ho)
          clear HB HO76
          clear HO89
          have HO89 := n1_
          clear n1_
          have HB := n2_
          have HO80 := n3_
          clear n2_ n3_
          clear ho hb hg hat
          refine hK.out _ _ ⟨(HS13.out _ HB.out).1, (HS13.out _ HB.out).2.1, (HS13.out _ HB.out).2.2.1, (HS13.out _ HB.out).2.2.2.1, (HS13.out _ HB.out).2.2.2.2⟩ (fun hHeld => ?_)
          clear hK K
          refine norm_ (a' := ?_) ?_ ?_
          rotate_left
          · show Act.put _ (some 80) _ = _
            simp only [Act.put, List.setIfInBounds_toArray, List.set_cons_zero, List.set_cons_succ, i64_w, i32_w]
            rfl
          exact norm_ (by simp only [putAll, Act.put, List.setIfInBounds_toArray, List.set_cons_zero, List.set_cons_succ]) (hCont (v76, v80, v89) _ ⟨(by (with_reducible repeat (first | apply Kd.R_alloc | apply Kd.R_drewN | apply Kd.R_drew)); exact HO80.out), (by (with_reducible repeat (first | apply Kd.R_alloc | apply Kd.R_drewN | apply Kd.R_drew)); exact Kd.R_mono HO89.out (fun _ hk => hk.2)), (by repeat (first | (with_reducible first | exact HB.out | apply below_alloc | apply pw_below_drewN | apply below_drew1) | exact HB.out))⟩)
      rintro ⟨v76, v80, v89⟩ wd13 ⟨h0_, h1_, h2_⟩
      clear HB
      have HO80 := Aside0.mk h0_
      have HO89 := Aside0.mk h1_
      have HB := Aside0.mk h2_
      clear h0_ h1_ h2_
      have hHeld := HS13.out _ HB.out
      obtain ⟨Al13, cl13, eo_⟩ := Kd.R_slice HO89.out
      (first | subst eo_ | (injection eo_ with f1_ f2_ f3_; have f4_ := f1_.symm; have f5_ := f3_.symm; clear f1_ f2_ f3_; subst f4_; subst f5_))
      refine norm_ (a' := ?_) ?_ ?_
      rotate_left
      · simp only [putAll, Act.put, List.setIfInBounds_toArray, List.set_cons_zero, List.set_cons_succ]
        rfl
      refine one_ (i := 15) (N := some 90) #[true, true, true, true, true, true, true, true, true, true, true, true, true, true, true, true, false, false] rfl rfl (by kernel_rfl) (by decide) (fun K hK => ?_)
      refine Kd.R_append_rows_step k57 (w0 := w5) w5.heap.size (by rfl) (.tmp 80) (.tmp 89) 33 57 (.agg #[.int .i8 0, .int .i8 0, .int .i16 0]) 4 rfl Try.underlying33 info57 rfl (by decide) (by omega) v80 p0 [P] _ _ _ (fun k_ => some k_ ≠ (.slice Al13 ([P]).length cl13 : Value).ownBlock) (fun _ => False) rfl rfl ?aO ?aR (fun _ _ h => h) (fun _ h => h.elim) ?aF ?aB ?aS ?aL ?_
      (case aR => repeat (first | exact (Kd.R_reads' HO89.out).2.2 | (with_reducible refine Kd.C_alloc ?_ _) | (with_reducible refine Kd.C_drewN ?_ _) | (with_reducible refine Kd.C_drew ?_)))
      (case aB => exact (by repeat (first | (with_reducible first | exact HB.out | apply below_alloc | apply pw_below_drewN | apply below_drew1) | exact HB.out)))
      (case aF => exact (fun k_ hk => Kd.fresh' (Kd.R_lt (by (with_reducible repeat (first | apply Kd.R_alloc | apply Kd.R_drewN | apply Kd.R_drew)); exact HO89.out)) k_ hk))
      (case aO => exact (by (with_reducible repeat (first | apply Kd.R_alloc | apply Kd.R_drewN | apply Kd.R_drew)); exact HO80.out))
      (case aS => exact (below_size (by repeat (first | (with_reducible first | exact HB.out | apply below_alloc | apply pw_below_drewN | apply below_drew1) | exact HB.out))))
      (case aL => have := L0.out; simp only [List.length_singleton]; omega)
      intro v90 we13 ho hb hg hat
      clear HB HO80 HO89
      have HB := Aside0.mk hb
      have HO90 := Aside0.mk (Kd.R_mono ho (fun _ _ => trivial) : Kd.R k57 57 we13 w5.heap.size (fun _ => True) v90 (p0 ++ [P]))
      clear ho hb hg hat
      refine hK.out _ _ ⟨(HS13.out _ HB.out).1, (HS13.out _ HB.out).2.1, (HS13.out _ HB.out).2.2.1, (HS13.out _ HB.out).2.2.2.1, (HS13.out _ HB.out).2.2.2.2⟩ (fun hHeld => ?_)
      clear hK K
      refine norm_ (a' := ?_) ?_ ?_
      rotate_left
      · show Act.put _ (some 90) _ = _
        simp only [Act.put, List.setIfInBounds_toArray, List.set_cons_zero, List.set_cons_succ, i64_w, i32_w]
        rfl
      refine pure_ (i := 16) (N := some 91) (v := ?_) (a' := ?_) #[true, true, true, true, true, true, true, true, true, true, true, true, true, true, true, true, true, false] rfl rfl (by kernel_rfl) (fun _ _ _ h => h) (Or.inl ⟨by rfl, ?_⟩) ?_ ?_
      rotate_left
      · intro w'
        go_simp
        with_reducible rfl
      rotate_left
      · simp only [Act.put, List.setIfInBounds_toArray, List.set_cons_zero, List.set_cons_succ, i64_w, i32_w]
        rfl
      refine last_ (i := 17) (N := none) #[true, true, true, true, true, true, true, true, true, true, true, true, true, true, true, true, true, true] rfl rfl (by kernel_rfl) (by decide) (fun K hK => ?_)
      obtain ⟨pn, hpn⟩ : ∃ q, p0 ++ [P] = q := ⟨_, rfl⟩
      have HPN := Aside0.mk hpn
      have n1_ := HO90.out
      rw [hpn] at n1_
      clear HO90
      have HO90 := Aside0.mk n1_
      clear n1_ hpn
      obtain ⟨A90, c90, ev90⟩ := Kd.R_slice HO90.out
      subst ev90
      have hcn : we13.cell? ⟨gn, 0, none⟩ = some (.slice A0 p0.length c0) := (blk_cell (blk_below K5.out HB.out) 0).trans rfl
      have hfn := blk_frozen (blk_below K5.out HB.out) 0
      refine skip_ (w1 := ?_) (by rfl) rfl ?_ ?_
      rotate_left
      · go_simp
        rfl
      refine hK.out _ _ ?_
      clear hK K
      refine done_ (by kernel_rfl) ?_
      try go_wp2
      have HB6 := HB
      clear HB
      have HB := HB6
      clear HB6
      have K6 := Aside0.mk (blk_put (blk_below K5.out HB.out) 0 (.slice A90 pn.length c90) (cs' := #[(.slice A90 pn.length c90), (.slice A1 p1.length c1)]) rfl)
      have B6 := Aside0.mk ((B5.out.trans (HB.out.mono (by have := E5.out.lt; omega))).setCell (p := ⟨gn, 0, none⟩) (show g ≤ gn by have := GN.out; omega) (.slice A90 pn.length c90))
      have E6 := Aside0.mk ((E5.out.below HB.out).set (blk_below K5.out HB.out) NG.out 0 (.slice A90 pn.length c90) HRD.out (B6.out.mono HGW.out))
      have M6 := Aside0.mk (mid_set (M5.out.trans (Mid.of_below HB.out)) GS.out 0 (.slice A90 pn.length c90))
      have HN := Aside0.mk (Kd.R_lower (Kd.R_set HO90.out (blk_below K5.out HB.out) (by decide) 0 (.slice A90 pn.length c90)) (show g + 1 ≤ w5.heap.size from E5.out.lt))
      clear K5 B5 E5 M5 HO90 HRK HS13 PAT HB hHeld hcn hfn
      generalize we13.setCell ⟨gn, 0, none⟩ (.slice A90 pn.length c90) = w6 at K6 B6 E6 M6 HN ⊢
      have HB := Aside0.mk (Below.refl w6.heap.size w6)
      have HU0 := Aside0.mk (show Kd.R k57 57 w6 (g + 1) (fun _ => True) (.slice A90 pn.length c90) (p0 ++ [P]) by rw [HPN.out]; exact HN.out)
      have HU1 := Aside0.mk (show Kd.R k57 57 w6 (g + 1) (fun _ => True) (.slice A1 p1.length c1) (p1 ++ []) by rw [List.append_nil]; exact rowK_mid R15.out M6.out)
      have HRB := Aside0.mk (show ∀ w', Below w6.heap.size w6 w' → Kd.R (Kd.int .i64) 2 w' (g + 1) (fun _ => True) (.slice A nb c) b from fun w' h => Kd.R_below (rowK_mid HR5.out M6.out) h)
      have HBN := Aside0.mk (show b.length ≤ 8 ∧ nb ≤ 8 by have := HNB.out; have := HLT.out; have := H8.out; omega)
      have HS14 := Aside0.mk (show ∀ w', Below w6.heap.size w6 w' → w'.cell? ⟨gn, 0, none⟩ = some (.slice A90 pn.length c90) ∧ w'.cell? ⟨gn, 1, none⟩ = some (.slice A1 p1.length c1) from fun w' h => ⟨(blk_cell (blk_below K6.out h) 0).trans rfl, (blk_cell (blk_below K6.out h) 1).trans rfl⟩)
      refine start_ (n := 9) (S := fun w' => w'.cell? ⟨gn, 0, none⟩ = some (.slice A90 pn.length c90) ∧ w'.cell? ⟨gn, 1, none⟩ = some (.slice A1 p1.length c1)) (ds := [8]) #[false, false, false, false, false, false, false, false, false] (by kernel_rfl) rfl rfl ⟨(HS14.out _ (below_drew1 HB.out)).1, (HS14.out _ (below_drew1 HB.out)).2⟩ (fun hHeld => ?_)
      have n1_ := Aside0.mk (below_drew1 HB.out)
      clear HB
      generalize w6.drew = w6d at n1_ hHeld  ⊢
      have HB := n1_
      clear n1_
      refine pure_ (i := 0) (N := some 92) (v := ?_) (a' := ?_) #[true, false, false, false, false, false, false, false, false] rfl rfl (by kernel_rfl) (fun _ _ _ h => h) (Or.inl ⟨by rfl, ?_⟩) ?_ ?_
      rotate_left
      · intro w'
        go_simp
        with_reducible rfl
      rotate_left
      · simp only [Act.put, List.setIfInBounds_toArray, List.set_cons_zero, List.set_cons_succ, i64_w, i32_w]
        rfl
      refine pure_ (i := 2) (N := some 94) (v := ?_) (a' := ?_) #[true, false, true, false, false, false, false, false, false] rfl rfl (by kernel_rfl) (fun _ _ _ h => h) (Or.inl ⟨by rfl, ?_⟩) ?_ ?_
      rotate_left
      · intro w'
        go_simp
        with_reducible rfl
      rotate_left
      · simp only [Act.put, List.setIfInBounds_toArray, List.set_cons_zero, List.set_cons_succ, i64_w, i32_w]
        rfl
      refine pure_ (i := 4) (N := some 96) (v := ?_) (a' := ?_) #[true, false, true, false, true, false, false, false, false] rfl rfl (by kernel_rfl) (fun _ _ _ h => h) (Or.inl ⟨by rfl, ?_⟩) ?_ ?_
      rotate_left
      · intro w'
        go_simp
        with_reducible rfl
      rotate_left
      · simp only [Act.put, List.setIfInBounds_toArray, List.set_cons_zero, List.set_cons_succ, i64_w, i32_w]
        rfl
      refine take_ (i := 7) (N := some 99) (v := ?_) (a' := ?_) #[true, false, true, false, true, false, false, true, false] rfl rfl (by kernel_rfl) (fun _ _ _ h => h) (Or.inl ⟨by rfl, ?_⟩) hHeld ?_ ?_
      rotate_left
      · rintro w' ⟨s0, s1⟩
        go_simp
        with_reducible rfl
      rotate_left
      · simp only [Act.put, List.setIfInBounds_toArray, List.set_cons_zero, List.set_cons_succ, i64_w, i32_w]
        rfl
      refine join_ (σ := Value × Value × Value) 2 #[true, true, true, true, true, true, false, true, false] (fun s_ => [(93, s_.1), (95, s_.2.1), (97, s_.2.2)]) (fun s_ w' => (Kd.R (Kd.int .i64) 2 w' w6.heap.size (fun k_ => some k_ ≠ (s_.2.2 : Value).ownBlock) s_.2.1 b) ∧ (Kd.R (Kd.int .i64) 2 w' w6.heap.size (fun k_ => some k_ ≠ (s_.2.1 : Value).ownBlock) s_.2.2 [(0 : Int)]) ∧ (Below w6.heap.size w6 w')) ?_ ?_
      rotate_left
      · intro hCont
        refine two_ (i := 1) (j := 5) (Ni := some 93) (Nj := some 97) #[true, true, true, false, true, false, false, true, false] #[true, false, true, false, true, true, false, true, false] rfl rfl rfl rfl (by kernel_rfl) (by decide) (by decide) (fun K hK => ?_) (fun K hK => ?_)
        · skip
          refine Kd.R_lit_step (Kd.int .i64) _ 2 ?hg (N := 93) ?hd (xs := ([] : List Int)) (inner := []) (ok := fun _ => True) (okp := fun _ => True) ?hr ?hp (fun _ hk => hk) trivial (Below.refl _ _) (Nat.le_refl _) (by simp) ?_; (case hd => rfl); (case hg => rfl); (case hr => first | (go_simp; done) | (go_simp; rfl)); (case hp => exact (Reps.none _ _))
          intro v93 wa14 ho_ hb hg_ hnew_
          clear hg_ hnew_
          have n1_ := Aside0.mk (Kd.R_lower ho_ (below_size (by repeat (first | (with_reducible first | exact HB.out | apply below_alloc | apply pw_below_drewN | apply below_drew1) | exact HB.out))))
          have n2_ := Aside0.mk (below_step (by repeat (first | (with_reducible first | exact HB.out | apply below_alloc | apply pw_below_drewN | apply below_drew1) | exact HB.out)) hb)
          clear HB
          have HO93 := n1_
          have HB := n2_
          clear n1_ n2_
          clear hb ho_
          refine hK.out _ _ ⟨(HS14.out _ HB.out).1, (HS14.out _ HB.out).2⟩ (fun hHeld => ?_)
          clear hK K
          refine norm_ (a' := ?_) ?_ ?_
          rotate_left
          · show Act.put _ (some 93) _ = _
            simp only [Act.put, List.setIfInBounds_toArray, List.set_cons_zero, List.set_cons_succ, i64_w, i32_w]
            rfl
          refine two_ (i := 3) (j := 5) (Ni := some 95) (Nj := some 97) #[true, true, true, true, true, false, false, true, false] #[true, true, true, false, true, true, false, true, false] rfl rfl rfl rfl (by kernel_rfl) (by decide) (by decide) (fun K hK => ?_) (fun K hK => ?_)
          · skip
            refine Kd.R_append_rows_step (Kd.int .i64) (w0 := w6) w6.heap.size (by rfl) (.tmp 93) (.tmp 94) 37 2 (.int .i64 0) 8 rfl Try.underlying37 info2 rfl (by decide) (by omega) v93 [] b _ _ _ (fun _ => True) (fun _ => False) rfl rfl ?aO ?aR (fun _ _ h => h) (fun _ h => h.elim) ?aF ?aB ?aS ?aL ?_
            (case aR => have h_ := (Kd.R_reads' (HRB.out _ (by repeat (first | (with_reducible first | exact HB.out | apply below_alloc | apply pw_below_drewN | apply below_drew1) | exact HB.out)))).2.2; rw [HNB.out] at h_; exact h_)
            (case aB => exact (by repeat (first | (with_reducible first | exact HB.out | apply below_alloc | apply pw_below_drewN | apply below_drew1) | exact HB.out)))
            (case aF => exact (fun _ _ => trivial))
            (case aO => exact (by (with_reducible repeat (first | apply Kd.R_alloc | apply Kd.R_drewN | apply Kd.R_drew)); exact HO93.out))
            (case aS => exact (below_size (by repeat (first | (with_reducible first | exact HB.out | apply below_alloc | apply pw_below_drewN | apply below_drew1) | exact HB.out))))
            (case aL => have := HBN.out; simp only [List.length_nil]; omega)
            intro v95 wc14 ho hb hg hat
            have n2_ := Aside0.mk (hb)
            have n3_ := Aside0.mk (show Kd.R (Kd.int .i64) 2 wc14 w6.heap.size _ v95 b from ho)
            clear HB HO93
            have HB := n2_
            have HO95 := n3_
            clear n2_ n3_
            clear ho hb hg hat
            refine hK.out _ _ ⟨(HS14.out _ HB.out).1, (HS14.out _ HB.out).2⟩ (fun hHeld => ?_)
            clear hK K
            refine norm_ (a' := ?_) ?_ ?_
            rotate_left
            · show Act.put _ (some 95) _ = _
              simp only [Act.put, List.setIfInBounds_toArray, List.set_cons_zero, List.set_cons_succ, i64_w, i32_w]
              rfl
            refine one_ (i := 5) (N := some 97) #[true, true, true, true, true, true, false, true, false] rfl rfl (by kernel_rfl) (by decide) (fun K hK => ?_)
            refine Kd.R_lit_step (Kd.int .i64) _ 2 ?hg (N := 97) ?hd (xs := ([(0 : Int)] : List Int)) (inner := [.int .i64 0]) (ok := fun _ => True) (okp := fun _ => True) ?hr ?hp (fun _ hk => hk) trivial (Below.refl _ _) (Nat.le_refl _) (by simp) ?_; (case hd => rfl); (case hg => rfl); (case hr => first | (go_simp; done) | (go_simp; rfl)); (case hp => exact (Reps.one (show Kd.M (Kd.int .i64) _ _ _ (0 : Int) [.int .i64 0] from rfl) (Reps.none _ _)))
            intro v97 wb14 ho_ hb hg_ hnew_
            clear hg_ hnew_
            have n0_ := Aside0.mk (Kd.R_elder' (by (with_reducible repeat (first | apply Kd.R_alloc | apply Kd.R_drewN | apply Kd.R_drew)); exact HO95.out) (Kd.R_base ho_) hb)
            have n1_ := Aside0.mk (Kd.R_lower (Kd.R_new' ho_ (Kd.R_lt (by (with_reducible repeat (first | apply Kd.R_alloc | apply Kd.R_drewN | apply Kd.R_drew)); exact HO95.out))) (below_size (by repeat (first | (with_reducible first | exact HB.out | apply below_alloc | apply pw_below_drewN | apply below_drew1) | exact HB.out))))
            have n2_ := Aside0.mk (below_step (by repeat (first | (with_reducible first | exact HB.out | apply below_alloc | apply pw_below_drewN | apply below_drew1) | exact HB.out)) hb)
            clear HB
            clear HO95
            have HO95 := n0_
            clear n0_
            have HO97 := n1_
            have HB := n2_
            clear n1_ n2_
            clear hb ho_
            refine hK.out _ _ ⟨(HS14.out _ HB.out).1, (HS14.out _ HB.out).2⟩ (fun hHeld => ?_)
            clear hK K
            refine norm_ (a' := ?_) ?_ ?_
            rotate_left
            · show Act.put _ (some 97) _ = _
              simp only [Act.put, List.setIfInBounds_toArray, List.set_cons_zero, List.set_cons_succ, i64_w, i32_w]
              rfl
            exact norm_ (by simp only [putAll, Act.put, List.setIfInBounds_toArray, List.set_cons_zero, List.set_cons_succ]) (hCont (v93, v95, v97) _ ⟨(by (with_reducible repeat (first | apply Kd.R_alloc | apply Kd.R_drewN | apply Kd.R_drew)); exact Kd.R_mono HO95.out (fun _ hk => hk.2)), (by (with_reducible repeat (first | apply Kd.R_alloc | apply Kd.R_drewN | apply Kd.R_drew)); exact Kd.R_mono HO97.out (fun _ hk => hk.2)), (by repeat (first | (with_reducible first | exact HB.out | apply below_alloc | apply pw_below_drewN | apply below_drew1) | exact HB.out))⟩)
          · skip
            refine Kd.R_lit_step (Kd.int .i64) _ 2 ?hg (N := 97) ?hd (xs := ([(0 : Int)] : List Int)) (inner := [.int .i64 0]) (ok := fun _ => True) (okp := fun _ => True) ?hr ?hp (fun _ hk => hk) trivial (Below.refl _ _) (Nat.le_refl _) (by simp) ?_; (case hd => rfl); (case hg => rfl); (case hr => first | (go_simp; done) | (go_simp; rfl)); (case hp => exact (Reps.one (show Kd.M (Kd.int .i64) _ _ _ (0 : Int) [.int .i64 0] from rfl) (Reps.none _ _)))
            intro v97 wb14 ho_ hb hg_ hnew_
            clear hg_ hnew_
            have n0_ := Aside0.mk (Kd.R_elder' (by (with_reducible repeat (first | apply Kd.R_alloc | apply Kd.R_drewN | apply Kd.R_drew)); exact HO93.out) (Kd.R_base ho_) hb)
            have n1_ := Aside0.mk (Kd.R_lower (Kd.R_new' ho_ (Kd.R_lt (by (with_reducible repeat (first | apply Kd.R_alloc | apply Kd.R_drewN | apply Kd.R_drew)); exact HO93.out))) (below_size (by repeat (first | (with_reducible first | exact HB.out | apply below_alloc | apply pw_below_drewN | apply below_drew1) | exact HB.out))))
            have n2_ := Aside0.mk (below_step (by repeat (first | (with_reducible first | exact HB.out | apply below_alloc | apply pw_below_drewN | apply below_drew1) | exact HB.out)) hb)
            clear HB
            clear HO93
            have HO93 := n0_
            clear n0_
            have HO97 := n1_
            have HB := n2_
            clear n1_ n2_
            clear hb ho_
            refine hK.out _ _ ⟨(HS14.out _ HB.out).1, (HS14.out _ HB.out).2⟩ (fun hHeld => ?_)
            clear hK K
            refine norm_ (a' := ?_) ?_ ?_
            rotate_left
            · show Act.put _ (some 97) _ = _
              simp only [Act.put, List.setIfInBounds_toArray, List.set_cons_zero, List.set_cons_succ, i64_w, i32_w]
              rfl
            refine one_ (i := 3) (N := some 95) #[true, true, true, true, true, true, false, true, false] rfl rfl (by kernel_rfl) (by decide) (fun K hK => ?_)
            refine Kd.R_append_rows_step (Kd.int .i64) (w0 := w6) w6.heap.size (by rfl) (.tmp 93) (.tmp 94) 37 2 (.int .i64 0) 8 rfl Try.underlying37 info2 rfl (by decide) (by omega) v93 [] b _ _ _ (fun k_ => some k_ ≠ (v97 : Value).ownBlock) (fun _ => False) rfl rfl ?aO ?aR (fun _ _ h => h) (fun _ h => h.elim) ?aF ?aB ?aS ?aL ?_
            (case aR => have h_ := (Kd.R_reads' (HRB.out _ (by repeat (first | (with_reducible first | exact HB.out | apply below_alloc | apply pw_below_drewN | apply below_drew1) | exact HB.out)))).2.2; rw [HNB.out] at h_; exact h_)
            (case aB => exact (by repeat (first | (with_reducible first | exact HB.out | apply below_alloc | apply pw_below_drewN | apply below_drew1) | exact HB.out)))
            (case aF => exact (fun k_ hk => Kd.fresh' (Kd.R_lt (by (with_reducible repeat (first | apply Kd.R_alloc | apply Kd.R_drewN | apply Kd.R_drew)); exact HO97.out)) k_ hk))
            (case aO => exact (by (with_reducible repeat (first | apply Kd.R_alloc | apply Kd.R_drewN | apply Kd.R_drew)); exact Kd.R_mono HO93.out (fun _ hk => hk.2)))
            (case aS => exact (below_size (by repeat (first | (with_reducible first | exact HB.out | apply below_alloc | apply pw_below_drewN | apply below_drew1) | exact HB.out))))
            (case aL => have := HBN.out; simp only [List.length_nil]; omega)
            intro v95 wc14 ho hb hg hat
            have n1_ := Aside0.mk (Kd.R_after (ok := (fun _ => True)) (by (with_reducible repeat (first | apply Kd.R_alloc | apply Kd.R_drewN | apply Kd.R_drew)); exact HO97.out) hg hat)
            have n2_ := Aside0.mk (hb)
            have n3_ := Aside0.mk (show Kd.R (Kd.int .i64) 2 wc14 w6.heap.size _ v95 b from ho)
            clear HB HO93
            clear HO97
            have HO97 := n1_
            clear n1_
            have HB := n2_
            have HO95 := n3_
            clear n2_ n3_
            clear ho hb hg hat
            refine hK.out _ _ ⟨(HS14.out _ HB.out).1, (HS14.out _ HB.out).2⟩ (fun hHeld => ?_)
            clear hK K
            refine norm_ (a' := ?_) ?_ ?_
            rotate_left
            · show Act.put _ (some 95) _ = _
              simp only [Act.put, List.setIfInBounds_toArray, List.set_cons_zero, List.set_cons_succ, i64_w, i32_w]
              rfl
            exact norm_ (by simp only [putAll, Act.put, List.setIfInBounds_toArray, List.set_cons_zero, List.set_cons_succ]) (hCont (v93, v95, v97) _ ⟨(by (with_reducible repeat (first | apply Kd.R_alloc | apply Kd.R_drewN | apply Kd.R_drew)); exact HO95.out), (by (with_reducible repeat (first | apply Kd.R_alloc | apply Kd.R_drewN | apply Kd.R_drew)); exact Kd.R_mono HO97.out (fun _ hk => hk.2)), (by repeat (first | (with_reducible first | exact HB.out | apply below_alloc | apply pw_below_drewN | apply below_drew1) | exact HB.out))⟩)
        · skip
          refine Kd.R_lit_step (Kd.int .i64) _ 2 ?hg (N := 97) ?hd (xs := ([(0 : Int)] : List Int)) (inner := [.int .i64 0]) (ok := fun _ => True) (okp := fun _ => True) ?hr ?hp (fun _ hk => hk) trivial (Below.refl _ _) (Nat.le_refl _) (by simp) ?_; (case hd => rfl); (case hg => rfl); (case hr => first | (go_simp; done) | (go_simp; rfl)); (case hp => exact (Reps.one (show Kd.M (Kd.int .i64) _ _ _ (0 : Int) [.int .i64 0] from rfl) (Reps.none _ _)))
          intro v97 wb14 ho_ hb hg_ hnew_
          clear hg_ hnew_
          have n1_ := Aside0.mk (Kd.R_lower ho_ (below_size (by repeat (first | (with_reducible first | exact HB.out | apply below_alloc | apply pw_below_drewN | apply below_drew1) | exact HB.out))))
          have n2_ := Aside0.mk (below_step (by repeat (first | (with_reducible first | exact HB.out | apply below_alloc | apply pw_below_drewN | apply below_drew1) | exact HB.out)) hb)
          clear HB
          have HO97 := n1_
          have HB := n2_
          clear n1_ n2_
          clear hb ho_
          refine hK.out _ _ ⟨(HS14.out _ HB.out).1, (HS14.out _ HB.out).2⟩ (fun hHeld => ?_)
          clear hK K
          refine norm_ (a' := ?_) ?_ ?_
          rotate_left
          · show Act.put _ (some 97) _ = _
            simp only [Act.put, List.setIfInBounds_toArray, List.set_cons_zero, List.set_cons_succ, i64_w, i32_w]
            rfl
          refine one_ (i := 1) (N := some 93) #[true, true, true, false, true, true, false, true, false] rfl rfl (by kernel_rfl) (by decide) (fun K hK => ?_)
          refine Kd.R_lit_step (Kd.int .i64) _ 2 ?hg (N := 93) ?hd (xs := ([] : List Int)) (inner := []) (ok := fun _ => True) (okp := fun _ => True) ?hr ?hp (fun _ hk => hk) trivial (Below.refl _ _) (Nat.le_refl _) (by simp) ?_; (case hd => rfl); (case hg => rfl); (case hr => first | (go_simp; done) | (go_simp; rfl)); (case hp => exact (Reps.none _ _))
          intro v93 wa14 ho_ hb hg_ hnew_
          clear hg_ hnew_
          have n0_ := Aside0.mk (Kd.R_elder' (by (with_reducible repeat (first | apply Kd.R_alloc | apply Kd.R_drewN | apply Kd.R_drew)); exact HO97.out) (Kd.R_base ho_) hb)
          have n1_ := Aside0.mk (Kd.R_lower (Kd.R_new' ho_ (Kd.R_lt (by (with_reducible repeat (first | apply Kd.R_alloc | apply Kd.R_drewN | apply Kd.R_drew)); exact HO97.out))) (below_size (by repeat (first | (with_reducible first | exact HB.out | apply below_alloc | apply pw_below_drewN | apply below_drew1) | exact HB.out))))
          have n2_ := Aside0.mk (below_step (by repeat (first | (with_reducible first | exact HB.out | apply below_alloc | apply pw_below_drewN | apply below_drew1) | exact HB.out)) hb)
          clear HB
          clear HO97
          have HO97 := n0_
          clear n0_
          have HO93 := n1_
          have HB := n2_
          clear n1_ n2_
          clear hb ho_
          refine hK.out _ _ ⟨(HS14.out _ HB.out).1, (HS14.out _ HB.out).2⟩ (fun hHeld => ?_)
          clear hK K
          refine norm_ (a' := ?_) ?_ ?_
          rotate_left
          · show Act.put _ (some 93) _ = _
            simp only [Act.put, List.setIfInBounds_toArray, List.set_cons_zero, List.set_cons_succ, i64_w, i32_w]
            rfl
          refine one_ (i := 3) (N := some 95) #[true, true, true, true, true, true, false, true, false] rfl rfl (by kernel_rfl) (by decide) (fun K hK => ?_)
          refine Kd.R_append_rows_step (Kd.int .i64) (w0 := w6) w6.heap.size (by rfl) (.tmp 93) (.tmp 94) 37 2 (.int .i64 0) 8 rfl Try.underlying37 info2 rfl (by decide) (by omega) v93 [] b _ _ _ (fun k_ => some k_ ≠ (v97 : Value).ownBlock) (fun _ => False) rfl rfl ?aO ?aR (fun _ _ h => h) (fun _ h => h.elim) ?aF ?aB ?aS ?aL ?_
          (case aR => have h_ := (Kd.R_reads' (HRB.out _ (by repeat (first | (with_reducible first | exact HB.out | apply below_alloc | apply pw_below_drewN | apply below_drew1) | exact HB.out)))).2.2; rw [HNB.out] at h_; exact h_)
          (case aB => exact (by repeat (first | (with_reducible first | exact HB.out | apply below_alloc | apply pw_below_drewN | apply below_drew1) | exact HB.out)))
          (case aF => exact (fun k_ hk => Kd.fresh' (Kd.R_lt (by (with_reducible repeat (first | apply Kd.R_alloc | apply Kd.R_drewN | apply Kd.R_drew)); exact HO97.out)) k_ hk))
          (case aO => exact (by (with_reducible repeat (first | apply Kd.R_alloc | apply Kd.R_drewN | apply Kd.R_drew)); exact Kd.R_mono HO93.out (fun _ hk => hk.2)))
          (case aS => exact (below_size (by repeat (first | (with_reducible first | exact HB.out | apply below_alloc | apply pw_below_drewN | apply below_drew1) | exact HB.out))))
          (case aL => have := HBN.out; simp only [List.length_nil]; omega)
          intro v95 wc14 ho hb hg hat
          have n1_ := Aside0.mk (Kd.R_after (ok := (fun _ => True)) (by (with_reducible repeat (first | apply Kd.R_alloc | apply Kd.R_drewN | apply Kd.R_drew)); exact HO97.out) hg hat)
          have n2_ := Aside0.mk (hb)
          have n3_ := Aside0.mk (show Kd.R (Kd.int .i64) 2 wc14 w6.heap.size _ v95 b from ho)
          clear HB HO93
          clear HO97
          have HO97 := n1_
          clear n1_
          have HB := n2_
          have HO95 := n3_
          clear n2_ n3_
          clear ho hb hg hat
          refine hK.out _ _ ⟨(HS14.out _ HB.out).1, (HS14.out _ HB.out).2⟩ (fun hHeld => ?_)
          clear hK K
          refine norm_ (a' := ?_) ?_ ?_
          rotate_left
          · show Act.put _ (some 95) _ = _
            simp only [Act.put, List.setIfInBounds_toArray, List.set_cons_zero, List.set_cons_succ, i64_w, i32_w]
            rfl
          exact norm_ (by simp only [putAll, Act.put, List.setIfInBounds_toArray, List.set_cons_zero, List.set_cons_succ]) (hCont (v93, v95, v97) _ ⟨(by (with_reducible repeat (first | apply Kd.R_alloc | apply Kd.R_drewN | apply Kd.R_drew)); exact HO95.out), (by (with_reducible repeat (first | apply Kd.R_alloc | apply Kd.R_drewN | apply Kd.R_drew)); exact Kd.R_mono HO97.out (fun _ hk => hk.2)), (by repeat (first | (with_reducible first | exact HB.out | apply below_alloc | apply pw_below_drewN | apply below_drew1) | exact HB.out))⟩)
      rintro ⟨v93, v95, v97⟩ wd14 ⟨h0_, h1_, h2_⟩
      clear HB
      have HO95 := Aside0.mk h0_
      have HO97 := Aside0.mk h1_
      have HB := Aside0.mk h2_
      clear h0_ h1_ h2_
      have hHeld := HS14.out _ HB.out
      obtain ⟨Al14, cl14, eo_⟩ := Kd.R_slice HO97.out
      (first | subst eo_ | (injection eo_ with f1_ f2_ f3_; have f4_ := f1_.symm; have f5_ := f3_.symm; clear f1_ f2_ f3_; subst f4_; subst f5_))
      refine norm_ (a' := ?_) ?_ ?_
      rotate_left
      · simp only [putAll, Act.put, List.setIfInBounds_toArray, List.set_cons_zero, List.set_cons_succ]
        rfl
      refine one_ (i := 6) (N := some 98) #[true, true, true, true, true, true, true, true, false] rfl rfl (by kernel_rfl) (by decide) (fun K hK => ?_)
      refine Kd.R_append_rows_step (Kd.int .i64) (w0 := w6) w6.heap.size (by rfl) (.tmp 95) (.tmp 97) 37 2 (.int .i64 0) 8 rfl Try.underlying37 info2 rfl (by decide) (by omega) v95 b [(0 : Int)] _ _ _ (fun k_ => some k_ ≠ (.slice Al14 ([(0 : Int)]).length cl14 : Value).ownBlock) (fun _ => False) rfl rfl ?aO ?aR (fun _ _ h => h) (fun _ h => h.elim) ?aF ?aB ?aS ?aL ?_
      (case aR => repeat (first | exact (Kd.R_reads' HO97.out).2.2 | (with_reducible refine Kd.C_alloc ?_ _) | (with_reducible refine Kd.C_drewN ?_ _) | (with_reducible refine Kd.C_drew ?_)))
      (case aB => exact (by repeat (first | (with_reducible first | exact HB.out | apply below_alloc | apply pw_below_drewN | apply below_drew1) | exact HB.out)))
      (case aF => exact (fun k_ hk => Kd.fresh' (Kd.R_lt (by (with_reducible repeat (first | apply Kd.R_alloc | apply Kd.R_drewN | apply Kd.R_drew)); exact HO97.out)) k_ hk))
      (case aO => exact (by (with_reducible repeat (first | apply Kd.R_alloc | apply Kd.R_drewN | apply Kd.R_drew)); exact HO95.out))
      (case aS => exact (below_size (by repeat (first | (with_reducible first | exact HB.out | apply below_alloc | apply pw_below_drewN | apply below_drew1) | exact HB.out))))
      (case aL => have := HBN.out; simp only [List.length_singleton]; omega)
      intro v98 we14 ho hb hg hat
      clear HB HO95 HO97
      have HB := Aside0.mk hb
      have HO98 := Aside0.mk (Kd.R_mono ho (fun _ _ => trivial) : Kd.R (Kd.int .i64) 2 we14 w6.heap.size (fun _ => True) v98 (b ++ [(0 : Int)]))
      clear ho hb hg hat
      refine hK.out _ _ ⟨(HS14.out _ HB.out).1, (HS14.out _ HB.out).2⟩ (fun hHeld => ?_)
      clear hK K
      refine norm_ (a' := ?_) ?_ ?_
      rotate_left
      · show Act.put _ (some 98) _ = _
        simp only [Act.put, List.setIfInBounds_toArray, List.set_cons_zero, List.set_cons_succ, i64_w, i32_w]
        rfl
      refine last_ (i := 8) (N := some 100) #[true, true, true, true, true, true, true, true, true] rfl rfl (by kernel_rfl) (by decide) (fun K hK => ?_)
      obtain ⟨A98, c98, ev98⟩ := Kd.R_slice HO98.out
      (first | subst ev98 | (injection ev98 with f1_ f2_ f3_; have f4_ := f1_.symm; have f5_ := f3_.symm; clear f1_ f2_ f3_; subst f4_; subst f5_))
      refine goes_ Try.func90 (by kernel_rfl) rfl #[.pointer (some ⟨g, 0, none⟩), .slice A98 (b ++ [(0 : Int)]).length c98, .agg #[(.slice A90 pn.length c90), (.slice A1 p1.length c1)]] (by rfl) rfl rfl (by (try simp only [List.map_toArray, List.map_cons, List.map_nil]); first | done | rfl | (simp only [List.length_drop, List.length_take]; rfl)) ?_
      refine (IH.out (.slice A98 (b ++ [(0 : Int)]).length c98) (b ++ [(0 : Int)]) (.slice A90 pn.length c90) (.slice A1 p1.length c1) we14 bv1 (atTwo (fun p => (searched x y p 0).low) l d b st 0) (by have := HBL.out; rw [List.length_append, List.length_singleton]; omega) (E6.out.below HB.out) (Kd.R_lower HO98.out (by have := E6.out.lt; omega)) ?iu0 ?iu1 (B6.out.trans (HB.out.mono (by have := E6.out.lt; omega)))).mono ?_
      (case iu0 => exact (by rw [part_next 0 0 b l nb HNB.out HLT.out, E0.out, HP.out]; exact Kd.R_below HU0.out HB.out))
      (case iu1 => exact (by rw [part_next 1 0 b l nb HNB.out HLT.out, E1'.out, HP.out]; exact Kd.R_below HU1.out HB.out))
      rintro e w47 ⟨rfl, bv2, hE2, hB2, hM2⟩
      refine ⟨_, rfl, ?_⟩
      refine hK.out _ _ ?_
      clear hK K
      refine norm_ (a' := ?_) ?_ ?_
      rotate_left
      · show Act.put _ (some 100) _ = _
        simp only [Act.put, List.setIfInBounds_toArray, List.set_cons_zero, List.set_cons_succ, i64_w, i32_w]
        rfl
      refine done_ (by kernel_rfl) ?_
      have EE := Aside0.mk hE2
      have BB := Aside0.mk hB2
      have MM := Aside0.mk ((M6.out.trans (Mid.of_below HB.out)).trans hM2)
      clear hE2 hB2 hM2
      try go_wp2
      go_roundg 1
      case measure => omega
      case rel => exact ⟨1, bv2, by omega, by omega, by go_num, EE, BB, MM⟩
    · have k0 := (blk_cell BR.out 0).trans rfl
      have k1 := (blk_cell BR.out 1).trans rfl
      go_wp2_with (first | ((with_reducible refine gate_dst (N := 12) rfl ?_); refine box_event ?hg (N := 12) ?hd (cs := #[.slice none 0 0, .slice none 0 0]) (t := 83) ?hr ?_; (case hd => rfl); (case hg => rfl); (case hr => first | (go_simp; done) | (go_simp; rfl)); intro gn hgn w4 hbn hb4; have GN := Aside0.mk (show g + 1 ≤ gn by rw [hgn]; exact E1.out.lt); have E4 := Aside0.mk (E1.out.below hb4); have B4 := Aside0.mk (B1.out.trans (hb4.mono (Nat.le_of_lt E1.out.lt))); have M4 := Aside0.mk (M1.out.trans (Mid.of_below hb4)); have GS := Aside0.mk (show W5.heap.size ≤ gn by rw [hgn]; exact M1.out.size); have NP := Aside0.mk (show gp ≠ gn by have := blk_lt BR.out; omega); have KN := Aside0.mk hbn; have cn0 : w4.cell? ⟨gn, 0, none⟩ = some (.slice none 0 0) := (blk_cell hbn 0).trans rfl; have cn1 : w4.cell? ⟨gn, 1, none⟩ = some (.slice none 0 0) := (blk_cell hbn 1).trans rfl; have fn0 := blk_frozen hbn 0; have fn1 := blk_frozen hbn 1; clear hbn hb4 hgn E1 B1 M1 k0 k1))
      have K5 := Aside0.mk (blk_put (blk_put (cs := #[.slice none 0 0, .slice none 0 0]) KN.out 0 (.slice A0 p0.length c0) rfl) 1 (.slice A1 p1.length c1) (cs' := #[.slice A0 p0.length c0, .slice A1 p1.length c1]) rfl)
      have K4 := Aside0.mk (blk_put (cs := #[.slice none 0 0, .slice none 0 0]) KN.out 0 (.slice A0 p0.length c0) rfl)
      have NG := Aside0.mk (show g ≠ gn by have := GN.out; omega)
      have B45 := Aside0.mk (B4.out.setCell (p := ⟨gn, 0, none⟩) (show g ≤ gn by have := GN.out; omega) (.slice A0 p0.length c0))
      have B5 := Aside0.mk (B45.out.setCell (p := ⟨gn, 1, none⟩) (show g ≤ gn by have := GN.out; omega) (.slice A1 p1.length c1))
      have E5 := Aside0.mk (((E4.out.set KN.out NG.out 0 (.slice A0 p0.length c0) HRD.out (B45.out.mono HGW.out)).set K4.out NG.out 1 (.slice A1 p1.length c1) HRD.out (B5.out.mono HGW.out)))
      have M5 := Aside0.mk (mid_set (mid_set M4.out GS.out 0 (.slice A0 p0.length c0)) GS.out 1 (.slice A1 p1.length c1))
      clear KN K4 B4 B45 E4 M4 fn0 fn1 cn0 cn1
      generalize (w4.setCell ⟨gn, 0, none⟩ (.slice A0 p0.length c0)).setCell ⟨gn, 1, none⟩ (.slice A1 p1.length c1) = w5 at K5 B5 E5 M5 ⊢
      have HB := Aside0.mk (Below.refl w5.heap.size w5)
      obtain ⟨P, hP⟩ : ∃ P, rd_T57 l (nb : Int) = P := ⟨_, rfl⟩
      have HP := Aside0.mk hP
      have HRK := Aside0.mk (show ∀ w', Below w5.heap.size w5 w' → Kd.R k57 57 w' (g + 1) (fun _ => True) (.slice A1 p1.length c1) p1 from fun w' h => Kd.R_below (rowK_mid R15.out M5.out) h)
      have PAT := Aside0.mk (show ∀ w', Below w5.heap.size w5 w' → ∃ ad, A2 = some ad ∧ w'.cell? (ad.add (nb * 3)) = some (.int .i8 P.f0) ∧ w'.cell? ⟨(ad.add (nb * 3)).block, (ad.add (nb * 3)).off + 1, none⟩ = some (.int .i8 P.f1) ∧ w'.cell? ⟨(ad.add (nb * 3)).block, (ad.add (nb * 3)).off + 2, none⟩ = some (.int .i16 P.f2) from fun w' hb => by
        have := at_T57 (Kd.C_below E5.out.rd hb) (nb : Int) (by omega) hltz
        rw [Int.toNat_natCast, hP] at this
        exact this)
      clear hP
      obtain ⟨ad, ea, _⟩ := PAT.out w5 (Below.refl _ _)
      subst ea
      have HS13 := Aside0.mk (show ∀ w', Below w5.heap.size w5 w' → w'.cell? ⟨gp, 1, none⟩ = some (.slice A1 p1.length c1) ∧ w'.cell? ⟨g, 2, none⟩ = some (.slice (some ad) l.length c2) ∧ w'.cell? (ad.add (nb * 3)) = some (.int .i8 P.f0) ∧ w'.cell? ⟨(ad.add (nb * 3)).block, (ad.add (nb * 3)).off + 1, none⟩ = some (.int .i8 P.f1) ∧ w'.cell? ⟨(ad.add (nb * 3)).block, (ad.add (nb * 3)).off + 2, none⟩ = some (.int .i16 P.f2) from fun w' h => ⟨(blk_cell (blk_below (blk_mid BX.out M5.out (by have := GP.out; omega)) h) 1).trans rfl, (blk_cell (E5.out.below h).blk 2).trans rfl, by obtain ⟨ad2, ea2, y0, y1, y2⟩ := PAT.out w' h; cases ea2; exact ⟨y0, y1, y2⟩⟩)
      refine start_ (n := 18) (S := fun w' => w'.cell? ⟨gp, 1, none⟩ = some (.slice A1 p1.length c1) ∧ w'.cell? ⟨g, 2, none⟩ = some (.slice (some ad) l.length c2) ∧ w'.cell? (ad.add (nb * 3)) = some (.int .i8 P.f0) ∧ w'.cell? ⟨(ad.add (nb * 3)).block, (ad.add (nb * 3)).off + 1, none⟩ = some (.int .i8 P.f1) ∧ w'.cell? ⟨(ad.add (nb * 3)).block, (ad.add (nb * 3)).off + 2, none⟩ = some (.int .i16 P.f2)) (ds := [17]) #[false, false, false, false, false, false, false, false, false, false, false, false, false, false, false, false, false, false] (by kernel_rfl) rfl rfl ⟨(HS13.out _ (below_drew1 HB.out)).1, (HS13.out _ (below_drew1 HB.out)).2.1, (HS13.out _ (below_drew1 HB.out)).2.2.1, (HS13.out _ (below_drew1 HB.out)).2.2.2.1, (HS13.out _ (below_drew1 HB.out)).2.2.2.2⟩ (fun hHeld => ?_)
      have n1_ := Aside0.mk (below_drew1 HB.out)
      clear HB
      generalize w5.drew = w5d at n1_ hHeld  ⊢
      have HB := n1_
      clear n1_
      refine pure_ (i := 0) (N := some 75) (v := ?_) (a' := ?_) #[true, false, false, false, false, false, false, false, false, false, false, false, false, false, false, false, false, false] rfl rfl (by kernel_rfl) (fun _ _ _ h => h) (Or.inl ⟨by rfl, ?_⟩) ?_ ?_
      rotate_left
      · intro w'
        go_simp
        with_reducible rfl
      rotate_left
      · simp only [Act.put, List.setIfInBounds_toArray, List.set_cons_zero, List.set_cons_succ, i64_w, i32_w]
        rfl
      refine pure_ (i := 2) (N := some 77) (v := ?_) (a' := ?_) #[true, false, true, false, false, false, false, false, false, false, false, false, false, false, false, false, false, false] rfl rfl (by kernel_rfl) (fun _ _ _ h => h) (Or.inl ⟨by rfl, ?_⟩) ?_ ?_
      rotate_left
      · intro w'
        go_simp
        with_reducible rfl
      rotate_left
      · simp only [Act.put, List.setIfInBounds_toArray, List.set_cons_zero, List.set_cons_succ, i64_w, i32_w]
        rfl
      refine pure_ (i := 3) (N := some 78) (v := ?_) (a' := ?_) #[true, false, true, true, false, false, false, false, false, false, false, false, false, false, false, false, false, false] rfl rfl (by kernel_rfl) (fun _ _ _ h => h) (Or.inl ⟨by rfl, ?_⟩) ?_ ?_
      rotate_left
      · intro w'
        go_simp
        with_reducible rfl
      rotate_left
      · simp only [Act.put, List.setIfInBounds_toArray, List.set_cons_zero, List.set_cons_succ, i64_w, i32_w]
        rfl
      refine pure_ (i := 6) (N := some 81) (v := ?_) (a' := ?_) #[true, false, true, true, false, false, true, false, false, false, false, false, false, false, false, false, false, false] rfl rfl (by kernel_rfl) (fun _ _ _ h => h) (Or.inl ⟨by rfl, ?_⟩) ?_ ?_
      rotate_left
      · intro w'
        go_simp
        with_reducible rfl
      rotate_left
      · simp only [Act.put, List.setIfInBounds_toArray, List.set_cons_zero, List.set_cons_succ, i64_w, i32_w]
        rfl
      refine pure_ (i := 7) (N := some 82) (v := ?_) (a' := ?_) #[true, false, true, true, false, false, true, true, false, false, false, false, false, false, false, false, false, false] rfl rfl (by kernel_rfl) (fun _ _ _ h => h) (Or.inl ⟨by rfl, ?_⟩) ?_ ?_
      rotate_left
      · intro w'
        go_simp
        with_reducible rfl
      rotate_left
      · simp only [Act.put, List.setIfInBounds_toArray, List.set_cons_zero, List.set_cons_succ, i64_w, i32_w]
        rfl
      refine pure_ (i := 8) (N := some 83) (v := ?_) (a' := ?_) #[true, false, true, true, false, false, true, true, true, false, false, false, false, false, false, false, false, false] rfl rfl (by kernel_rfl) (fun _ _ _ h => h) (Or.inl ⟨by rfl, ?_⟩) ?_ ?_
      rotate_left
      · intro w'
        go_simp
        with_reducible rfl
      rotate_left
      · simp only [Act.put, List.setIfInBounds_toArray, List.set_cons_zero, List.set_cons_succ, i64_w, i32_w]
        rfl
      refine pure_ (i := 10) (N := some 85) (v := ?_) (a' := ?_) #[true, false, true, true, false, false, true, true, true, false, true, false, false, false, false, false, false, false] rfl rfl (by kernel_rfl) (fun _ _ _ h => h) (Or.inl ⟨by rfl, ?_⟩) ?_ ?_
      rotate_left
      · intro w'
        go_simp
        with_reducible rfl
      rotate_left
      · simp only [Act.put, List.setIfInBounds_toArray, List.set_cons_zero, List.set_cons_succ, i64_w, i32_w]
        rfl
      refine pure_ (i := 11) (N := some 86) (v := ?_) (a' := ?_) #[true, false, true, true, false, false, true, true, true, false, true, true, false, false, false, false, false, false] rfl rfl (by kernel_rfl) (fun _ _ _ h => h) (Or.inl ⟨by rfl, ?_⟩) ?_ ?_
      rotate_left
      · intro w'
        go_simp
        with_reducible rfl
      rotate_left
      · simp only [Act.put, List.setIfInBounds_toArray, List.set_cons_zero, List.set_cons_succ, i64_w, i32_w]
        rfl
      refine take_ (i := 4) (N := some 79) (v := ?_) (a' := ?_) #[true, false, true, true, true, false, true, true, true, false, true, true, false, false, false, false, false, false] rfl rfl (by kernel_rfl) (fun _ _ _ h => h) (Or.inl ⟨by rfl, ?_⟩) hHeld ?_ ?_
      rotate_left
      · rintro w' ⟨s0, s1, s2, s3, s4⟩
        go_simp
        with_reducible rfl
      rotate_left
      · simp only [Act.put, List.setIfInBounds_toArray, List.set_cons_zero, List.set_cons_succ, i64_w, i32_w]
        rfl
      refine take_ (i := 9) (N := some 84) (v := ?_) (a' := ?_) #[true, false, true, true, true, false, true, true, true, true, true, true, false, false, false, false, false, false] rfl rfl (by kernel_rfl) (fun _ _ _ h => h) (Or.inl ⟨by rfl, ?_⟩) hHeld ?_ ?_
      rotate_left
      · rintro w' ⟨s0, s1, s2, s3, s4⟩
        go_simp
        with_reducible rfl
      rotate_left
      · simp only [Act.put, List.setIfInBounds_toArray, List.set_cons_zero, List.set_cons_succ, i64_w, i32_w]
        rfl
      refine pure_ (i := 12) (N := some 87) (v := ?_) (a' := ?_) #[true, false, true, true, true, false, true, true, true, true, true, true, true, false, false, false, false, false] rfl rfl (by kernel_rfl) (fun _ _ _ h => h) (Or.inl ⟨by rfl, ?_⟩) ?_ ?_
      rotate_left
      · intro w'
        go_simp
        with_reducible rfl
      rotate_left
      · simp only [Act.put, List.setIfInBounds_toArray, List.set_cons_zero, List.set_cons_succ, i64_w, i32_w]
        rfl
      refine take_ (i := 13) (N := some 88) (v := ?_) (a' := ?_) #[true, false, true, true, true, false, true, true, true, true, true, true, true, true, false, false, false, false] rfl rfl (by kernel_rfl) (fun _ _ _ h => h) (Or.inl ⟨by rfl, ?_⟩) hHeld ?_ ?_
      rotate_left
      · rintro w' ⟨s0, s1, s2, s3, s4⟩
        go_simp
        with_reducible rfl
      rotate_left
      · simp only [Act.put, List.setIfInBounds_toArray, List.set_cons_zero, List.set_cons_succ, i64_w, i32_w]
        rfl
      refine join_ (σ := Value × Value × Value) 3 #[true, true, true, true, true, true, true, true, true, true, true, true, true, true, true, false, false, false] (fun s_ => [(76, s_.1), (80, s_.2.1), (89, s_.2.2)]) (fun s_ w' => (Kd.R k57 57 w' w5.heap.size (fun k_ => some k_ ≠ (s_.2.2 : Value).ownBlock) s_.2.1 p1) ∧ (Kd.R k57 57 w' w5.heap.size (fun k_ => some k_ ≠ (s_.2.1 : Value).ownBlock) s_.2.2 [P]) ∧ (Below w5.heap.size w5 w')) ?_ ?_
      rotate_left
      · intro hCont
        refine two_ (i := 1) (j := 14) (Ni := some 76) (Nj := some 89) #[true, true, true, true, true, false, true, true, true, true, true, true, true, true, false, false, false, false] #[true, false, true, true, true, false, true, true, true, true, true, true, true, true, true, false, false, false] rfl rfl rfl rfl (by kernel_rfl) (by decide) (by decide) (fun K hK => ?_) (fun K hK => ?_)
        · skip
          refine Kd.R_lit_step k57 _ 57 ?hg (N := 76) ?hd (xs := ([] : List S57)) (inner := []) (ok := fun _ => True) (okp := fun _ => True) ?hr ?hp (fun _ hk => hk) trivial (Below.refl _ _) (Nat.le_refl _) (by simp) ?_; (case hd => rfl); (case hg => rfl); (case hr => first | (go_simp; done) | (go_simp; rfl)); (case hp => exact (Reps.none _ _))
          intro v76 wa13 ho_ hb hg_ hnew_
          clear hg_ hnew_
          have n1_ := Aside0.mk (Kd.R_lower ho_ (below_size (by repeat (first | (with_reducible first | exact HB.out | apply below_alloc | apply pw_below_drewN | apply below_drew1) | exact HB.out))))
          have n2_ := Aside0.mk (below_step (by repeat (first | (with_reducible first | exact HB.out | apply below_alloc | apply pw_below_drewN | apply below_drew1) | exact HB.out)) hb)
          clear HB
          have HO76 := n1_
          have HB := n2_
          clear n1_ n2_
          clear hb ho_
          refine hK.out _ _ ⟨(HS13.out _ HB.out).1, (HS13.out _ HB.out).2.1, (HS13.out _ HB.out).2.2.1, (HS13.out _ HB.out).2.2.2.1, (HS13.out _ HB.out).2.2.2.2⟩ (fun hHeld => ?_)
          clear hK K
          refine norm_ (a' := ?_) ?_ ?_
          rotate_left
          · show Act.put _ (some 76) _ = _
            simp only [Act.put, List.setIfInBounds_toArray, List.set_cons_zero, List.set_cons_succ, i64_w, i32_w]
            rfl
          refine two_ (i := 5) (j := 14) (Ni := some 80) (Nj := some 89) #[true, true, true, true, true, true, true, true, true, true, true, true, true, true, false, false, false, false] #[true, true, true, true, true, false, true, true, true, true, true, true, true, true, true, false, false, false] rfl rfl rfl rfl (by kernel_rfl) (by decide) (by decide) (fun K hK => ?_) (fun K hK => ?_)
          · skip
            refine Kd.R_append_rows_step k57 (w0 := w5) w5.heap.size (by rfl) (.tmp 76) (.tmp 79) 33 57 (.agg #[.int .i8 0, .int .i8 0, .int .i16 0]) 4 rfl Try.underlying33 info57 rfl (by decide) (by omega) v76 [] p1 _ _ _ (fun _ => True) (fun _ => False) rfl rfl ?aO ?aR (fun _ _ h => h) (fun _ h => h.elim) ?aF ?aB ?aS ?aL ?_
            (case aR => have h_ := (Kd.R_reads' (HRK.out _ (by repeat (first | (with_reducible first | exact HB.out | apply below_alloc | apply pw_below_drewN | apply below_drew1) | exact HB.out)))).2.2; exact h_)
            (case aB => exact (by repeat (first | (with_reducible first | exact HB.out | apply below_alloc | apply pw_below_drewN | apply below_drew1) | exact HB.out)))
            (case aF => exact (fun _ _ => trivial))
            (case aO => exact (by (with_reducible repeat (first | apply Kd.R_alloc | apply Kd.R_drewN | apply Kd.R_drew)); exact HO76.out))
            (case aS => exact (below_size (by repeat (first | (with_reducible first | exact HB.out | apply below_alloc | apply pw_below_drewN | apply below_drew1) | exact HB.out))))
            (case aL => have := L1.out; simp only [List.length_nil]; omega)
            intro v80 wc13 ho hb hg hat
            have n2_ := Aside0.mk (hb)
            have n3_ := Aside0.mk (show Kd.R k57 57 wc13 w5.heap.size _ v80 p1 from ho)
            clear HB HO76
            have HB := n2_
            have HO80 := n3_
            clear n2_ n3_
            clear ho hb hg hat
            refine hK.out _ _ ⟨(HS13.out _ HB.out).1, (HS13.out _ HB.out).2.1, (HS13.out _ HB.out).2.2.1, (HS13.out _ HB.out).2.2.2.1, (HS13.out _ HB.out).2.2.2.2⟩ (fun hHeld => ?_)
            clear hK K
            refine norm_ (a' := ?_) ?_ ?_
            rotate_left
            · show Act.put _ (some 80) _ = _
              simp only [Act.put, List.setIfInBounds_toArray, List.set_cons_zero, List.set_cons_succ, i64_w, i32_w]
              rfl
            refine one_ (i := 14) (N := some 89) #[true, true, true, true, true, true, true, true, true, true, true, true, true, true, true, false, false, false] rfl rfl (by kernel_rfl) (by decide) (fun K hK => ?_)
            refine Kd.R_lit_step k57 _ 57 ?hg (N := 89) ?hd (xs := ([P] : List S57)) (inner := [.int .i8 P.f0, .int .i8 P.f1, .int .i16 P.f2]) (ok := fun _ => True) (okp := fun _ => True) ?hr ?hp (fun _ hk => hk) trivial (Below.refl _ _) (Nat.le_refl _) (by simp) ?_; (case hd => rfl); (case hg => rfl); (case hr => first | (go_simp; done) | (go_simp; rfl)); (case hp => exact (Reps.c3 (k57_mkM _ _ _ P) (Reps.none _ _)))
            intro v89 wb13 ho_ hb hg_ hnew_
            clear hg_ hnew_
            have n0_ := Aside0.mk (Kd.R_elder' (by (with_reducible repeat (first | apply Kd.R_alloc | apply Kd.R_drewN | apply Kd.R_drew)); exact HO80.out) (Kd.R_base ho_) hb)
            have n1_ := Aside0.mk (Kd.R_lower (Kd.R_new' ho_ (Kd.R_lt (by (with_reducible repeat (first | apply Kd.R_alloc | apply Kd.R_drewN | apply Kd.R_drew)); exact HO80.out))) (below_size (by repeat (first | (with_reducible first | exact HB.out | apply below_alloc | apply pw_below_drewN | apply below_drew1) | exact HB.out))))
            have n2_ := Aside0.mk (below_step (by repeat (first | (with_reducible first | exact HB.out | apply below_alloc | apply pw_below_drewN | apply below_drew1) | exact HB.out)) hb)
            clear HB
            clear HO80
            have HO80 := n0_
            clear n0_
            have HO89 := n1_
            have HB := n2_
            clear n1_ n2_
            clear hb ho_
            refine hK.out _ _ ⟨(HS13.out _ HB.out).1, (HS13.out _ HB.out).2.1, (HS13.out _ HB.out).2.2.1, (HS13.out _ HB.out).2.2.2.1, (HS13.out _ HB.out).2.2.2.2⟩ (fun hHeld => ?_)
            clear hK K
            refine norm_ (a' := ?_) ?_ ?_
            rotate_left
            · show Act.put _ (some 89) _ = _
              simp only [Act.put, List.setIfInBounds_toArray, List.set_cons_zero, List.set_cons_succ, i64_w, i32_w]
              rfl
            exact norm_ (by simp only [putAll, Act.put, List.setIfInBounds_toArray, List.set_cons_zero, List.set_cons_succ]) (hCont (v76, v80, v89) _ ⟨(by (with_reducible repeat (first | apply Kd.R_alloc | apply Kd.R_drewN | apply Kd.R_drew)); exact Kd.R_mono HO80.out (fun _ hk => hk.2)), (by (with_reducible repeat (first | apply Kd.R_alloc | apply Kd.R_drewN | apply Kd.R_drew)); exact Kd.R_mono HO89.out (fun _ hk => hk.2)), (by repeat (first | (with_reducible first | exact HB.out | apply below_alloc | apply pw_below_drewN | apply below_drew1) | exact HB.out))⟩)
          · skip
            refine Kd.R_lit_step k57 _ 57 ?hg (N := 89) ?hd (xs := ([P] : List S57)) (inner := [.int .i8 P.f0, .int .i8 P.f1, .int .i16 P.f2]) (ok := fun _ => True) (okp := fun _ => True) ?hr ?hp (fun _ hk => hk) trivial (Below.refl _ _) (Nat.le_refl _) (by simp) ?_; (case hd => rfl); (case hg => rfl); (case hr => first | (go_simp; done) | (go_simp; rfl)); (case hp => exact (Reps.c3 (k57_mkM _ _ _ P) (Reps.none _ _)))
            intro v89 wb13 ho_ hb hg_ hnew_
            clear hg_ hnew_
            have n0_ := Aside0.mk (Kd.R_elder' (by (with_reducible repeat (first | apply Kd.R_alloc | apply Kd.R_drewN | apply Kd.R_drew)); exact HO76.out) (Kd.R_base ho_) hb)
            have n1_ := Aside0.mk (Kd.R_lower (Kd.R_new' ho_ (Kd.R_lt (by (with_reducible repeat (first | apply Kd.R_alloc | apply Kd.R_drewN | apply Kd.R_drew)); exact HO76.out))) (below_size (by repeat (first | (with_reducible first | exact HB.out | apply below_alloc | apply pw_below_drewN | apply below_drew1) | exact HB.out))))
            have n2_ := Aside0.mk (below_step (by repeat (first | (with_reducible first | exact HB.out | apply below_alloc | apply pw_below_drewN | apply below_drew1) | exact HB.out)) hb)
            clear HB
            clear HO76
            have HO76 := n0_
            clear n0_
            have HO89 := n1_
            have HB := n2_
            clear n1_ n2_
            clear hb ho_
            refine hK.out _ _ ⟨(HS13.out _ HB.out).1, (HS13.out _ HB.out).2.1, (HS13.out _ HB.out).2.2.1, (HS13.out _ HB.out).2.2.2.1, (HS13.out _ HB.out).2.2.2.2⟩ (fun hHeld => ?_)
            clear hK K
            refine norm_ (a' := ?_) ?_ ?_
            rotate_left
            · show Act.put _ (some 89) _ = _
              simp only [Act.put, List.setIfInBounds_toArray, List.set_cons_zero, List.set_cons_succ, i64_w, i32_w]
              rfl
            refine one_ (i := 5) (N := some 80) #[true, true, true, true, true, true, true, true, true, true, true, true, true, true, true, false, false, false] rfl rfl (by kernel_rfl) (by decide) (fun K hK => ?_)
            refine Kd.R_append_rows_step k57 (w0 := w5) w5.heap.size (by rfl) (.tmp 76) (.tmp 79) 33 57 (.agg #[.int .i8 0, .int .i8 0, .int .i16 0]) 4 rfl Try.underlying33 info57 rfl (by decide) (by omega) v76 [] p1 _ _ _ (fun k_ => some k_ ≠ (v89 : Value).ownBlock) (fun _ => False) rfl rfl ?aO ?aR (fun _ _ h => h) (fun _ h => h.elim) ?aF ?aB ?aS ?aL ?_
            (case aR => have h_ := (Kd.R_reads' (HRK.out _ (by repeat (first | (with_reducible first | exact HB.out | apply below_alloc | apply pw_below_drewN | apply below_drew1) | exact HB.out)))).2.2; exact h_)
            (case aB => exact (by repeat (first | (with_reducible first | exact HB.out | apply below_alloc | apply pw_below_drewN | apply below_drew1) | exact HB.out)))
            (case aF => exact (fun k_ hk => Kd.fresh' (Kd.R_lt (by (with_reducible repeat (first | apply Kd.R_alloc | apply Kd.R_drewN | apply Kd.R_drew)); exact HO89.out)) k_ hk))
            (case aO => exact (by (with_reducible repeat (first | apply Kd.R_alloc | apply Kd.R_drewN | apply Kd.R_drew)); exact Kd.R_mono HO76.out (fun _ hk => hk.2)))
            (case aS => exact (below_size (by repeat (first | (with_reducible first | exact HB.out | apply below_alloc | apply pw_below_drewN | apply below_drew1) | exact HB.out))))
            (case aL => have := L1.out; simp only [List.length_nil]; omega)
            intro v80 wc13 ho hb hg hat
            have n1_ := Aside0.mk (Kd.R_after (ok := (fun _ => True)) (by (with_reducible repeat (first | apply Kd.R_alloc | apply Kd.R_drewN | apply Kd.R_drew)); exact HO89.out) hg hat)
            have n2_ := Aside0.mk (hb)
            have n3_ := Aside0.mk (show Kd.R k57 57 wc13 w5.heap.size _ v80 p1 from ho)
            clear HB HO76
            clear HO89
            have HO89 := n1_
            clear n1_
            have HB := n2_
            have HO80 := n3_
            clear n2_ n3_
            clear ho hb hg hat
            refine hK.out _ _ ⟨(HS13.out _ HB.out).1, (HS13.out _ HB.out).2.1, (HS13.out _ HB.out).2.2.1, (HS13.out _ HB.out).2.2.2.1, (HS13.out _ HB.out).2.2.2.2⟩ (fun hHeld => ?_)
            clear hK K
            refine norm_ (a' := ?_) ?_ ?_
            rotate_left
            · show Act.put _ (some 80) _ = _
              simp only [Act.put, List.setIfInBounds_toArray, List.set_cons_zero, List.set_cons_succ, i64_w, i32_w]
              rfl
            exact norm_ (by simp only [putAll, Act.put, List.setIfInBounds_toArray, List.set_cons_zero, List.set_cons_succ]) (hCont (v76, v80, v89) _ ⟨(by (with_reducible repeat (first | apply Kd.R_alloc | apply Kd.R_drewN | apply Kd.R_drew)); exact HO80.out), (by (with_reducible repeat (first | apply Kd.R_alloc | apply Kd.R_drewN | apply Kd.R_drew)); exact Kd.R_mono HO89.out (fun _ hk => hk.2)), (by repeat (first | (with_reducible first | exact HB.out | apply below_alloc | apply pw_below_drewN | apply below_drew1) | exact HB.out))⟩)
        · skip
          refine Kd.R_lit_step k57 _ 57 ?hg (N := 89) ?hd (xs := ([P] : List S57)) (inner := [.int .i8 P.f0, .int .i8 P.f1, .int .i16 P.f2]) (ok := fun _ => True) (okp := fun _ => True) ?hr ?hp (fun _ hk => hk) trivial (Below.refl _ _) (Nat.le_refl _) (by simp) ?_; (case hd => rfl); (case hg => rfl); (case hr => first | (go_simp; done) | (go_simp; rfl)); (case hp => exact (Reps.c3 (k57_mkM _ _ _ P) (Reps.none _ _)))
          intro v89 wb13 ho_ hb hg_ hnew_
          clear hg_ hnew_
          have n1_ := Aside0.mk (Kd.R_lower ho_ (below_size (by repeat (first | (with_reducible first | exact HB.out | apply below_alloc | apply pw_below_drewN | apply below_drew1) | exact HB.out))))
          have n2_ := Aside0.mk (below_step (by repeat (first | (with_reducible first | exact HB.out | apply below_alloc | apply pw_below_drewN | apply below_drew1) | exact HB.out)) hb)
          clear HB
          have HO89 := n1_
          have HB := n2_
          clear n1_ n2_
          clear hb ho_
          refine hK.out _ _ ⟨(HS13.out _ HB.out).1, (HS13.out _ HB.out).2.1, (HS13.out _ HB.out).2.2.1, (HS13.out _ HB.out).2.2.2.1, (HS13.out _ HB.out).2.2.2.2⟩ (fun hHeld => ?_)
          clear hK K
          refine norm_ (a' := ?_) ?_ ?_
          rotate_left
          · show Act.put _ (some 89) _ = _
            simp only [Act.put, List.setIfInBounds_toArray, List.set_cons_zero, List.set_cons_succ, i64_w, i32_w]
            rfl
          refine one_ (i := 1) (N := some 76) #[true, true, true, true, true, false, true, true, true, true, true, true, true, true, true, false, false, false] rfl rfl (by kernel_rfl) (by decide) (fun K hK => ?_)
          refine Kd.R_lit_step k57 _ 57 ?hg (N := 76) ?hd (xs := ([] : List S57)) (inner := []) (ok := fun _ => True) (okp := fun _ => True) ?hr ?hp (fun _ hk => hk) trivial (Below.refl _ _) (Nat.le_refl _) (by simp) ?_; (case hd => rfl); (case hg => rfl); (case hr => first | (go_simp; done) | (go_simp; rfl)); (case hp => exact (Reps.none _ _))
          intro v76 wa13 ho_ hb hg_ hnew_
          clear hg_ hnew_
          have n0_ := Aside0.mk (Kd.R_elder' (by (with_reducible repeat (first | apply Kd.R_alloc | apply Kd.R_drewN | apply Kd.R_drew)); exact HO89.out) (Kd.R_base ho_) hb)
          have n1_ := Aside0.mk (Kd.R_lower (Kd.R_new' ho_ (Kd.R_lt (by (with_reducible repeat (first | apply Kd.R_alloc | apply Kd.R_drewN | apply Kd.R_drew)); exact HO89.out))) (below_size (by repeat (first | (with_reducible first | exact HB.out | apply below_alloc | apply pw_below_drewN | apply below_drew1) | exact HB.out))))
          have n2_ := Aside0.mk (below_step (by repeat (first | (with_reducible first | exact HB.out | apply below_alloc | apply pw_below_drewN | apply below_drew1) | exact HB.out)) hb)
          clear HB
          clear HO89
          have HO89 := n0_
          clear n0_
          have HO76 := n1_
          have HB := n2_
          clear n1_ n2_
          clear hb ho_
          refine hK.out _ _ ⟨(HS13.out _ HB.out).1, (HS13.out _ HB.out).2.1, (HS13.out _ HB.out).2.2.1, (HS13.out _ HB.out).2.2.2.1, (HS13.out _ HB.out).2.2.2.2⟩ (fun hHeld => ?_)
          clear hK K
          refine norm_ (a' := ?_) ?_ ?_
          rotate_left
          · show Act.put _ (some 76) _ = _
            simp only [Act.put, List.setIfInBounds_toArray, List.set_cons_zero, List.set_cons_succ, i64_w, i32_w]
            rfl
          refine one_ (i := 5) (N := some 80) #[true, true, true, true, true, true, true, true, true, true, true, true, true, true, true, false, false, false] rfl rfl (by kernel_rfl) (by decide) (fun K hK => ?_)
          refine Kd.R_append_rows_step k57 (w0 := w5) w5.heap.size (by rfl) (.tmp 76) (.tmp 79) 33 57 (.agg #[.int .i8 0, .int .i8 0, .int .i16 0]) 4 rfl Try.underlying33 info57 rfl (by decide) (by omega) v76 [] p1 _ _ _ (fun k_ => some k_ ≠ (v89 : Value).ownBlock) (fun _ => False) rfl rfl ?aO ?aR (fun _ _ h => h) (fun _ h => h.elim) ?aF ?aB ?aS ?aL ?_
          (case aR => have h_ := (Kd.R_reads' (HRK.out _ (by repeat (first | (with_reducible first | exact HB.out | apply below_alloc | apply pw_below_drewN | apply below_drew1) | exact HB.out)))).2.2; exact h_)
          (case aB => exact (by repeat (first | (with_reducible first | exact HB.out | apply below_alloc | apply pw_below_drewN | apply below_drew1) | exact HB.out)))
          (case aF => exact (fun k_ hk => Kd.fresh' (Kd.R_lt (by (with_reducible repeat (first | apply Kd.R_alloc | apply Kd.R_drewN | apply Kd.R_drew)); exact HO89.out)) k_ hk))
          (case aO => exact (by (with_reducible repeat (first | apply Kd.R_alloc | apply Kd.R_drewN | apply Kd.R_drew)); exact Kd.R_mono HO76.out (fun _ hk => hk.2)))
          (case aS => exact (below_size (by repeat (first | (with_reducible first | exact HB.out | apply below_alloc | apply pw_below_drewN | apply below_drew1) | exact HB.out))))
          (case aL => have := L1.out; simp only [List.length_nil]; omega)
          intro v80 wc13 ho hb hg hat
          have n1_ := Aside0.mk (Kd.R_after (ok := (fun _ => True)) (by (with_reducible repeat (first | apply Kd.R_alloc | apply Kd.R_drewN | apply Kd.R_drew)); exact HO89.out) hg hat)
          have n2_ := Aside0.mk (hb)
          have n3_ := Aside0.mk (show Kd.R k57 57 wc13 w5.heap.size _ v80 p1 from ho)
          clear HB HO76
          clear HO89
          have HO89 := n1_
          clear n1_
          have HB := n2_
          have HO80 := n3_
          clear n2_ n3_
          clear ho hb hg hat
          refine hK.out _ _ ⟨(HS13.out _ HB.out).1, (HS13.out _ HB.out).2.1, (HS13.out _ HB.out).2.2.1, (HS13.out _ HB.out).2.2.2.1, (HS13.out _ HB.out).2.2.2.2⟩ (fun hHeld => ?_)
          clear hK K
          refine norm_ (a' := ?_) ?_ ?_
          rotate_left
          · show Act.put _ (some 80) _ = _
            simp only [Act.put, List.setIfInBounds_toArray, List.set_cons_zero, List.set_cons_succ, i64_w, i32_w]
            rfl
          exact norm_ (by simp only [putAll, Act.put, List.setIfInBounds_toArray, List.set_cons_zero, List.set_cons_succ]) (hCont (v76, v80, v89) _ ⟨(by (with_reducible repeat (first | apply Kd.R_alloc | apply Kd.R_drewN | apply Kd.R_drew)); exact HO80.out), (by (with_reducible repeat (first | apply Kd.R_alloc | apply Kd.R_drewN | apply Kd.R_drew)); exact Kd.R_mono HO89.out (fun _ hk => hk.2)), (by repeat (first | (with_reducible first | exact HB.out | apply below_alloc | apply pw_below_drewN | apply below_drew1) | exact HB.out))⟩)
      rintro ⟨v76, v80, v89⟩ wd13 ⟨h0_, h1_, h2_⟩
      clear HB
      have HO80 := Aside0.mk h0_
      have HO89 := Aside0.mk h1_
      have HB := Aside0.mk h2_
      clear h0_ h1_ h2_
      have hHeld := HS13.out _ HB.out
      obtain ⟨Al13, cl13, eo_⟩ := Kd.R_slice HO89.out
      (first | subst eo_ | (injection eo_ with f1_ f2_ f3_; have f4_ := f1_.symm; have f5_ := f3_.symm; clear f1_ f2_ f3_; subst f4_; subst f5_))
      refine norm_ (a' := ?_) ?_ ?_
      rotate_left
      · simp only [putAll, Act.put, List.setIfInBounds_toArray, List.set_cons_zero, List.set_cons_succ]
        rfl
      refine one_ (i := 15) (N := some 90) #[true, true, true, true, true, true, true, true, true, true, true, true, true, true, true, true, false, false] rfl rfl (by kernel_rfl) (by decide) (fun K hK => ?_)
      refine Kd.R_append_rows_step k57 (w0 := w5) w5.heap.size (by rfl) (.tmp 80) (.tmp 89) 33 57 (.agg #[.int .i8 0, .int .i8 0, .int .i16 0]) 4 rfl Try.underlying33 info57 rfl (by decide) (by omega) v80 p1 [P] _ _ _ (fun k_ => some k_ ≠ (.slice Al13 ([P]).length cl13 : Value).ownBlock) (fun _ => False) rfl rfl ?aO ?aR (fun _ _ h => h) (fun _ h => h.elim) ?aF ?aB ?aS ?aL ?_
      (case aR => repeat (first | exact (Kd.R_reads' HO89.out).2.2 | (with_reducible refine Kd.C_alloc ?_ _) | (with_reducible refine Kd.C_drewN ?_ _) | (with_reducible refine Kd.C_drew ?_)))
      (case aB => exact (by repeat (first | (with_reducible first | exact HB.out | apply below_alloc | apply pw_below_drewN | apply below_drew1) | exact HB.out)))
      (case aF => exact (fun k_ hk => Kd.fresh' (Kd.R_lt (by (with_reducible repeat (first | apply Kd.R_alloc | apply Kd.R_drewN | apply Kd.R_drew)); exact HO89.out)) k_ hk))
      (case aO => exact (by (with_reducible repeat (first | apply Kd.R_alloc | apply Kd.R_drewN | apply Kd.R_drew)); exact HO80.out))
      (case aS => exact (below_size (by repeat (first | (with_reducible first | exact HB.out | apply below_alloc | apply pw_below_drewN | apply below_drew1) | exact HB.out))))
      (case aL => have := L1.out; simp only [List.length_singleton]; omega)
      intro v90 we13 ho hb hg hat
      clear HB HO80 HO89
      have HB := Aside0.mk hb
      have HO90 := Aside0.mk (Kd.R_mono ho (fun _ _ => trivial) : Kd.R k57 57 we13 w5.heap.size (fun _ => True) v90 (p1 ++ [P]))
      clear ho hb hg hat
      refine hK.out _ _ ⟨(HS13.out _ HB.out).1, (HS13.out _ HB.out).2.1, (HS13.out _ HB.out).2.2.1, (HS13.out _ HB.out).2.2.2.1, (HS13.out _ HB.out).2.2.2.2⟩ (fun hHeld => ?_)
      clear hK K
      refine norm_ (a' := ?_) ?_ ?_
      rotate_left
      · show Act.put _ (some 90) _ = _
        simp only [Act.put, List.setIfInBounds_toArray, List.set_cons_zero, List.set_cons_succ, i64_w, i32_w]
        rfl
      refine pure_ (i := 16) (N := some 91) (v := ?_) (a' := ?_) #[true, true, true, true, true, true, true, true, true, true, true, true, true, true, true, true, true, false] rfl rfl (by kernel_rfl) (fun _ _ _ h => h) (Or.inl ⟨by rfl, ?_⟩) ?_ ?_
      rotate_left
      · intro w'
        go_simp
        with_reducible rfl
      rotate_left
      · simp only [Act.put, List.setIfInBounds_toArray, List.set_cons_zero, List.set_cons_succ, i64_w, i32_w]
        rfl
      refine last_ (i := 17) (N := none) #[true, true, true, true, true, true, true, true, true, true, true, true, true, true, true, true, true, true] rfl rfl (by kernel_rfl) (by decide) (fun K hK => ?_)
      obtain ⟨pn, hpn⟩ : ∃ q, p1 ++ [P] = q := ⟨_, rfl⟩
      have HPN := Aside0.mk hpn
      have n1_ := HO90.out
      rw [hpn] at n1_
      clear HO90
      have HO90 := Aside0.mk n1_
      clear n1_ hpn
      obtain ⟨A90, c90, ev90⟩ := Kd.R_slice HO90.out
      subst ev90
      have hcn : we13.cell? ⟨gn, 1, none⟩ = some (.slice A1 p1.length c1) := (blk_cell (blk_below K5.out HB.out) 1).trans rfl
      have hfn := blk_frozen (blk_below K5.out HB.out) 1
      refine skip_ (w1 := ?_) (by rfl) rfl ?_ ?_
      rotate_left
      · go_simp
        rfl
      refine hK.out _ _ ?_
      clear hK K
      refine done_ (by kernel_rfl) ?_
      try go_wp2
      have HB6 := HB
      clear HB
      have HB := HB6
      clear HB6
      have K6 := Aside0.mk (blk_put (blk_below K5.out HB.out) 1 (.slice A90 pn.length c90) (cs' := #[(.slice A0 p0.length c0), (.slice A90 pn.length c90)]) rfl)
      have B6 := Aside0.mk ((B5.out.trans (HB.out.mono (by have := E5.out.lt; omega))).setCell (p := ⟨gn, 1, none⟩) (show g ≤ gn by have := GN.out; omega) (.slice A90 pn.length c90))
      have E6 := Aside0.mk ((E5.out.below HB.out).set (blk_below K5.out HB.out) NG.out 1 (.slice A90 pn.length c90) HRD.out (B6.out.mono HGW.out))
      have M6 := Aside0.mk (mid_set (M5.out.trans (Mid.of_below HB.out)) GS.out 1 (.slice A90 pn.length c90))
      have HN := Aside0.mk (Kd.R_lower (Kd.R_set HO90.out (blk_below K5.out HB.out) (by decide) 1 (.slice A90 pn.length c90)) (show g + 1 ≤ w5.heap.size from E5.out.lt))
      clear K5 B5 E5 M5 HO90 HRK HS13 PAT HB hHeld hcn hfn
      generalize we13.setCell ⟨gn, 1, none⟩ (.slice A90 pn.length c90) = w6 at K6 B6 E6 M6 HN ⊢
      have HB := Aside0.mk (Below.refl w6.heap.size w6)
      have HU1 := Aside0.mk (show Kd.R k57 57 w6 (g + 1) (fun _ => True) (.slice A90 pn.length c90) (p1 ++ [P]) by rw [HPN.out]; exact HN.out)
      have HU0 := Aside0.mk (show Kd.R k57 57 w6 (g + 1) (fun _ => True) (.slice A0 p0.length c0) (p0 ++ []) by rw [List.append_nil]; exact rowK_mid R05.out M6.out)
      have HRB := Aside0.mk (show ∀ w', Below w6.heap.size w6 w' → Kd.R (Kd.int .i64) 2 w' (g + 1) (fun _ => True) (.slice A nb c) b from fun w' h => Kd.R_below (rowK_mid HR5.out M6.out) h)
      have HBN := Aside0.mk (show b.length ≤ 8 ∧ nb ≤ 8 by have := HNB.out; have := HLT.out; have := H8.out; omega)
      have HS14 := Aside0.mk (show ∀ w', Below w6.heap.size w6 w' → w'.cell? ⟨gn, 0, none⟩ = some (.slice A0 p0.length c0) ∧ w'.cell? ⟨gn, 1, none⟩ = some (.slice A90 pn.length c90) from fun w' h => ⟨(blk_cell (blk_below K6.out h) 0).trans rfl, (blk_cell (blk_below K6.out h) 1).trans rfl⟩)
      refine start_ (n := 9) (S := fun w' => w'.cell? ⟨gn, 0, none⟩ = some (.slice A0 p0.length c0) ∧ w'.cell? ⟨gn, 1, none⟩ = some (.slice A90 pn.length c90)) (ds := [8]) #[false, false, false, false, false, false, false, false, false] (by kernel_rfl) rfl rfl ⟨(HS14.out _ (below_drew1 HB.out)).1, (HS14.out _ (below_drew1 HB.out)).2⟩ (fun hHeld => ?_)
      have n1_ := Aside0.mk (below_drew1 HB.out)
      clear HB
      generalize w6.drew = w6d at n1_ hHeld  ⊢
      have HB := n1_
      clear n1_
      refine pure_ (i := 0) (N := some 92) (v := ?_) (a' := ?_) #[true, false, false, false, false, false, false, false, false] rfl rfl (by kernel_rfl) (fun _ _ _ h => h) (Or.inl ⟨by rfl, ?_⟩) ?_ ?_
      rotate_left
      · intro w'
        go_simp
        with_reducible rfl
      rotate_left
      · simp only [Act.put, List.setIfInBounds_toArray, List.set_cons_zero, List.set_cons_succ, i64_w, i32_w]
        rfl
      refine pure_ (i := 2) (N := some 94) (v := ?_) (a' := ?_) #[true, false, true, false, false, false, false, false, false] rfl rfl (by kernel_rfl) (fun _ _ _ h => h) (Or.inl ⟨by rfl, ?_⟩) ?_ ?_
      rotate_left
      · intro w'
        go_simp
        with_reducible rfl
      rotate_left
      · simp only [Act.put, List.setIfInBounds_toArray, List.set_cons_zero, List.set_cons_succ, i64_w, i32_w]
        rfl
      refine pure_ (i := 4) (N := some 96) (v := ?_) (a' := ?_) #[true, false, true, false, true, false, false, false, false] rfl rfl (by kernel_rfl) (fun _ _ _ h => h) (Or.inl ⟨by rfl, ?_⟩) ?_ ?_
      rotate_left
      · intro w'
        go_simp
        with_reducible rfl
      rotate_left
      · simp only [Act.put, List.setIfInBounds_toArray, List.set_cons_zero, List.set_cons_succ, i64_w, i32_w]
        rfl
      refine take_ (i := 7) (N := some 99) (v := ?_) (a' := ?_) #[true, false, true, false, true, false, false, true, false] rfl rfl (by kernel_rfl) (fun _ _ _ h => h) (Or.inl ⟨by rfl, ?_⟩) hHeld ?_ ?_
      rotate_left
      · rintro w' ⟨s0, s1⟩
        go_simp
        with_reducible rfl
      rotate_left
      · simp only [Act.put, List.setIfInBounds_toArray, List.set_cons_zero, List.set_cons_succ, i64_w, i32_w]
        rfl
      refine join_ (σ := Value × Value × Value) 2 #[true, true, true, true, true, true, false, true, false] (fun s_ => [(93, s_.1), (95, s_.2.1), (97, s_.2.2)]) (fun s_ w' => (Kd.R (Kd.int .i64) 2 w' w6.heap.size (fun k_ => some k_ ≠ (s_.2.2 : Value).ownBlock) s_.2.1 b) ∧ (Kd.R (Kd.int .i64) 2 w' w6.heap.size (fun k_ => some k_ ≠ (s_.2.1 : Value).ownBlock) s_.2.2 [(1 : Int)]) ∧ (Below w6.heap.size w6 w')) ?_ ?_
      rotate_left
      · intro hCont
        refine two_ (i := 1) (j := 5) (Ni := some 93) (Nj := some 97) #[true, true, true, false, true, false, false, true, false] #[true, false, true, false, true, true, false, true, false] rfl rfl rfl rfl (by kernel_rfl) (by decide) (by decide) (fun K hK => ?_) (fun K hK => ?_)
        · skip
          refine Kd.R_lit_step (Kd.int .i64) _ 2 ?hg (N := 93) ?hd (xs := ([] : List Int)) (inner := []) (ok := fun _ => True) (okp := fun _ => True) ?hr ?hp (fun _ hk => hk) trivial (Below.refl _ _) (Nat.le_refl _) (by simp) ?_; (case hd => rfl); (case hg => rfl); (case hr => first | (go_simp; done) | (go_simp; rfl)); (case hp => exact (Reps.none _ _))
          intro v93 wa14 ho_ hb hg_ hnew_
          clear hg_ hnew_
          have n1_ := Aside0.mk (Kd.R_lower ho_ (below_size (by repeat (first | (with_reducible first | exact HB.out | apply below_alloc | apply pw_below_drewN | apply below_drew1) | exact HB.out))))
          have n2_ := Aside0.mk (below_step (by repeat (first | (with_reducible first | exact HB.out | apply below_alloc | apply pw_below_drewN | apply below_drew1) | exact HB.out)) hb)
          clear HB
          have HO93 := n1_
          have HB := n2_
          clear n1_ n2_
          clear hb ho_
          refine hK.out _ _ ⟨(HS14.out _ HB.out).1, (HS14.out _ HB.out).2⟩ (fun hHeld => ?_)
          clear hK K
          refine norm_ (a' := ?_) ?_ ?_
          rotate_left
          · show Act.put _ (some 93) _ = _
            simp only [Act.put, List.setIfInBounds_toArray, List.set_cons_zero, List.set_cons_succ, i64_w, i32_w]
            rfl
          refine two_ (i := 3) (j := 5) (Ni := some 95) (Nj := some 97) #[true, true, true, true, true, false, false, true, false] #[true, true, true, false, true, true, false, true, false] rfl rfl rfl rfl (by kernel_rfl) (by decide) (by decide) (fun K hK => ?_) (fun K hK => ?_)
          · skip
            refine Kd.R_append_rows_step (Kd.int .i64) (w0 := w6) w6.heap.size (by rfl) (.tmp 93) (.tmp 94) 37 2 (.int .i64 0) 8 rfl Try.underlying37 info2 rfl (by decide) (by omega) v93 [] b _ _ _ (fun _ => True) (fun _ => False) rfl rfl ?aO ?aR (fun _ _ h => h) (fun _ h => h.elim) ?aF ?aB ?aS ?aL ?_
            (case aR => have h_ := (Kd.R_reads' (HRB.out _ (by repeat (first | (with_reducible first | exact HB.out | apply below_alloc | apply pw_below_drewN | apply below_drew1) | exact HB.out)))).2.2; rw [HNB.out] at h_; exact h_)
            (case aB => exact (by repeat (first | (with_reducible first | exact HB.out | apply below_alloc | apply pw_below_drewN | apply below_drew1) | exact HB.out)))
            (case aF => exact (fun _ _ => trivial))
            (case aO => exact (by (with_reducible repeat (first | apply Kd.R_alloc | apply Kd.R_drewN | apply Kd.R_drew)); exact HO93.out))
            (case aS => exact (below_size (by repeat (first | (with_reducible first | exact HB.out | apply below_alloc | apply pw_below_drewN | apply below_drew1) | exact HB.out))))
            (case aL => have := HBN.out; simp only [List.length_nil]; omega)
            intro v95 wc14 ho hb hg hat
            have n2_ := Aside0.mk (hb)
            have n3_ := Aside0.mk (show Kd.R (Kd.int .i64) 2 wc14 w6.heap.size _ v95 b from ho)
            clear HB HO93
            have HB := n2_
            have HO95 := n3_
            clear n2_ n3_
            clear ho hb hg hat
            refine hK.out _ _ ⟨(HS14.out _ HB.out).1, (HS14.out _ HB.out).2⟩ (fun hHeld => ?_)
            clear hK K
            refine norm_ (a' := ?_) ?_ ?_
            rotate_left
            · show Act.put _ (some 95) _ = _
              simp only [Act.put, List.setIfInBounds_toArray, List.set_cons_zero, List.set_cons_succ, i64_w, i32_w]
              rfl
            refine one_ (i := 5) (N := some 97) #[true, true, true, true, true, true, false, true, false] rfl rfl (by kernel_rfl) (by decide) (fun K hK => ?_)
            refine Kd.R_lit_step (Kd.int .i64) _ 2 ?hg (N := 97) ?hd (xs := ([(1 : Int)] : List Int)) (inner := [.int .i64 1]) (ok := fun _ => True) (okp := fun _ => True) ?hr ?hp (fun _ hk => hk) trivial (Below.refl _ _) (Nat.le_refl _) (by simp) ?_; (case hd => rfl); (case hg => rfl); (case hr => first | (go_simp; done) | (go_simp; rfl)); (case hp => exact (Reps.one (show Kd.M (Kd.int .i64) _ _ _ (1 : Int) [.int .i64 1] from rfl) (Reps.none _ _)))
            intro v97 wb14 ho_ hb hg_ hnew_
            clear hg_ hnew_
            have n0_ := Aside0.mk (Kd.R_elder' (by (with_reducible repeat (first | apply Kd.R_alloc | apply Kd.R_drewN | apply Kd.R_drew)); exact HO95.out) (Kd.R_base ho_) hb)
            have n1_ := Aside0.mk (Kd.R_lower (Kd.R_new' ho_ (Kd.R_lt (by (with_reducible repeat (first | apply Kd.R_alloc | apply Kd.R_drewN | apply Kd.R_drew)); exact HO95.out))) (below_size (by repeat (first | (with_reducible first | exact HB.out | apply below_alloc | apply pw_below_drewN | apply below_drew1) | exact HB.out))))
            have n2_ := Aside0.mk (below_step (by repeat (first | (with_reducible first | exact HB.out | apply below_alloc | apply pw_below_drewN | apply below_drew1) | exact HB.out)) hb)
            clear HB
            clear HO95
            have HO95 := n0_
            clear n0_
            have HO97 := n1_
            have HB := n2_
            clear n1_ n2_
            clear hb ho_
            refine hK.out _ _ ⟨(HS14.out _ HB.out).1, (HS14.out _ HB.out).2⟩ (fun hHeld => ?_)
            clear hK K
            refine norm_ (a' := ?_) ?_ ?_
            rotate_left
            · show Act.put _ (some 97) _ = _
              simp only [Act.put, List.setIfInBounds_toArray, List.set_cons_zero, List.set_cons_succ, i64_w, i32_w]
              rfl
            exact norm_ (by simp only [putAll, Act.put, List.setIfInBounds_toArray, List.set_cons_zero, List.set_cons_succ]) (hCont (v93, v95, v97) _ ⟨(by (with_reducible repeat (first | apply Kd.R_alloc | apply Kd.R_drewN | apply Kd.R_drew)); exact Kd.R_mono HO95.out (fun _ hk => hk.2)), (by (with_reducible repeat (first | apply Kd.R_alloc | apply Kd.R_drewN | apply Kd.R_drew)); exact Kd.R_mono HO97.out (fun _ hk => hk.2)), (by repeat (first | (with_reducible first | exact HB.out | apply below_alloc | apply pw_below_drewN | apply below_drew1) | exact HB.out))⟩)
          · skip
            refine Kd.R_lit_step (Kd.int .i64) _ 2 ?hg (N := 97) ?hd (xs := ([(1 : Int)] : List Int)) (inner := [.int .i64 1]) (ok := fun _ => True) (okp := fun _ => True) ?hr ?hp (fun _ hk => hk) trivial (Below.refl _ _) (Nat.le_refl _) (by simp) ?_; (case hd => rfl); (case hg => rfl); (case hr => first | (go_simp; done) | (go_simp; rfl)); (case hp => exact (Reps.one (show Kd.M (Kd.int .i64) _ _ _ (1 : Int) [.int .i64 1] from rfl) (Reps.none _ _)))
            intro v97 wb14 ho_ hb hg_ hnew_
            clear hg_ hnew_
            have n0_ := Aside0.mk (Kd.R_elder' (by (with_reducible repeat (first | apply Kd.R_alloc | apply Kd.R_drewN | apply Kd.R_drew)); exact HO93.out) (Kd.R_base ho_) hb)
            have n1_ := Aside0.mk (Kd.R_lower (Kd.R_new' ho_ (Kd.R_lt (by (with_reducible repeat (first | apply Kd.R_alloc | apply Kd.R_drewN | apply Kd.R_drew)); exact HO93.out))) (below_size (by repeat (first | (with_reducible first | exact HB.out | apply below_alloc | apply pw_below_drewN | apply below_drew1) | exact HB.out))))
            have n2_ := Aside0.mk (below_step (by repeat (first | (with_reducible first | exact HB.out | apply below_alloc | apply pw_below_drewN | apply below_drew1) | exact HB.out)) hb)
            clear HB
            clear HO93
            have HO93 := n0_
            clear n0_
            have HO97 := n1_
            have HB := n2_
            clear n1_ n2_
            clear hb ho_
            refine hK.out _ _ ⟨(HS14.out _ HB.out).1, (HS14.out _ HB.out).2⟩ (fun hHeld => ?_)
            clear hK K
            refine norm_ (a' := ?_) ?_ ?_
            rotate_left
            · show Act.put _ (some 97) _ = _
              simp only [Act.put, List.setIfInBounds_toArray, List.set_cons_zero, List.set_cons_succ, i64_w, i32_w]
              rfl
            refine one_ (i := 3) (N := some 95) #[true, true, true, true, true, true, false, true, false] rfl rfl (by kernel_rfl) (by decide) (fun K hK => ?_)
            refine Kd.R_append_rows_step (Kd.int .i64) (w0 := w6) w6.heap.size (by rfl) (.tmp 93) (.tmp 94) 37 2 (.int .i64 0) 8 rfl Try.underlying37 info2 rfl (by decide) (by omega) v93 [] b _ _ _ (fun k_ => some k_ ≠ (v97 : Value).ownBlock) (fun _ => False) rfl rfl ?aO ?aR (fun _ _ h => h) (fun _ h => h.elim) ?aF ?aB ?aS ?aL ?_
            (case aR => have h_ := (Kd.R_reads' (HRB.out _ (by repeat (first | (with_reducible first | exact HB.out | apply below_alloc | apply pw_below_drewN | apply below_drew1) | exact HB.out)))).2.2; rw [HNB.out] at h_; exact h_)
            (case aB => exact (by repeat (first | (with_reducible first | exact HB.out | apply below_alloc | apply pw_below_drewN | apply below_drew1) | exact HB.out)))
            (case aF => exact (fun k_ hk => Kd.fresh' (Kd.R_lt (by (with_reducible repeat (first | apply Kd.R_alloc | apply Kd.R_drewN | apply Kd.R_drew)); exact HO97.out)) k_ hk))
            (case aO => exact (by (with_reducible repeat (first | apply Kd.R_alloc | apply Kd.R_drewN | apply Kd.R_drew)); exact Kd.R_mono HO93.out (fun _ hk => hk.2)))
            (case aS => exact (below_size (by repeat (first | (with_reducible first | exact HB.out | apply below_alloc | apply pw_below_drewN | apply below_drew1) | exact HB.out))))
            (case aL => have := HBN.out; simp only [List.length_nil]; omega)
            intro v95 wc14 ho hb hg hat
            have n1_ := Aside0.mk (Kd.R_after (ok := (fun _ => True)) (by (with_reducible repeat (first | apply Kd.R_alloc | apply Kd.R_drewN | apply Kd.R_drew)); exact HO97.out) hg hat)
            have n2_ := Aside0.mk (hb)
            have n3_ := Aside0.mk (show Kd.R (Kd.int .i64) 2 wc14 w6.heap.size _ v95 b from ho)
            clear HB HO93
            clear HO97
            have HO97 := n1_
            clear n1_
            have HB := n2_
            have HO95 := n3_
            clear n2_ n3_
            clear ho hb hg hat
            refine hK.out _ _ ⟨(HS14.out _ HB.out).1, (HS14.out _ HB.out).2⟩ (fun hHeld => ?_)
            clear hK K
            refine norm_ (a' := ?_) ?_ ?_
            rotate_left
            · show Act.put _ (some 95) _ = _
              simp only [Act.put, List.setIfInBounds_toArray, List.set_cons_zero, List.set_cons_succ, i64_w, i32_w]
              rfl
            exact norm_ (by simp only [putAll, Act.put, List.setIfInBounds_toArray, List.set_cons_zero, List.set_cons_succ]) (hCont (v93, v95, v97) _ ⟨(by (with_reducible repeat (first | apply Kd.R_alloc | apply Kd.R_drewN | apply Kd.R_drew)); exact HO95.out), (by (with_reducible repeat (first | apply Kd.R_alloc | apply Kd.R_drewN | apply Kd.R_drew)); exact Kd.R_mono HO97.out (fun _ hk => hk.2)), (by repeat (first | (with_reducible first | exact HB.out | apply below_alloc | apply pw_below_drewN | apply below_drew1) | exact HB.out))⟩)
        · skip
          refine Kd.R_lit_step (Kd.int .i64) _ 2 ?hg (N := 97) ?hd (xs := ([(1 : Int)] : List Int)) (inner := [.int .i64 1]) (ok := fun _ => True) (okp := fun _ => True) ?hr ?hp (fun _ hk => hk) trivial (Below.refl _ _) (Nat.le_refl _) (by simp) ?_; (case hd => rfl); (case hg => rfl); (case hr => first | (go_simp; done) | (go_simp; rfl)); (case hp => exact (Reps.one (show Kd.M (Kd.int .i64) _ _ _ (1 : Int) [.int .i64 1] from rfl) (Reps.none _ _)))
          intro v97 wb14 ho_ hb hg_ hnew_
          clear hg_ hnew_
          have n1_ := Aside0.mk (Kd.R_lower ho_ (below_size (by repeat (first | (with_reducible first | exact HB.out | apply below_alloc | apply pw_below_drewN | apply below_drew1) | exact HB.out))))
          have n2_ := Aside0.mk (below_step (by repeat (first | (with_reducible first | exact HB.out | apply below_alloc | apply pw_below_drewN | apply below_drew1) | exact HB.out)) hb)
          clear HB
          have HO97 := n1_
          have HB := n2_
          clear n1_ n2_
          clear hb ho_
          refine hK.out _ _ ⟨(HS14.out _ HB.out).1, (HS14.out _ HB.out).2⟩ (fun hHeld => ?_)
          clear hK K
          refine norm_ (a' := ?_) ?_ ?_
          rotate_left
          · show Act.put _ (some 97) _ = _
            simp only [Act.put, List.setIfInBounds_toArray, List.set_cons_zero, List.set_cons_succ, i64_w, i32_w]
            rfl
          refine one_ (i := 1) (N := some 93) #[true, true, true, false, true, true, false, true, false] rfl rfl (by kernel_rfl) (by decide) (fun K hK => ?_)
          refine Kd.R_lit_step (Kd.int .i64) _ 2 ?hg (N := 93) ?hd (xs := ([] : List Int)) (inner := []) (ok := fun _ => True) (okp := fun _ => True) ?hr ?hp (fun _ hk => hk) trivial (Below.refl _ _) (Nat.le_refl _) (by simp) ?_; (case hd => rfl); (case hg => rfl); (case hr => first | (go_simp; done) | (go_simp; rfl)); (case hp => exact (Reps.none _ _))
          intro v93 wa14 ho_ hb hg_ hnew_
          clear hg_ hnew_
          have n0_ := Aside0.mk (Kd.R_elder' (by (with_reducible repeat (first | apply Kd.R_alloc | apply Kd.R_drewN | apply Kd.R_drew)); exact HO97.out) (Kd.R_base ho_) hb)
          have n1_ := Aside0.mk (Kd.R_lower (Kd.R_new' ho_ (Kd.R_lt (by (with_reducible repeat (first | apply Kd.R_alloc | apply Kd.R_drewN | apply Kd.R_drew)); exact HO97.out))) (below_size (by repeat (first | (with_reducible first | exact HB.out | apply below_alloc | apply pw_below_drewN | apply below_drew1) | exact HB.out))))
          have n2_ := Aside0.mk (below_step (by repeat (first | (with_reducible first | exact HB.out | apply below_alloc | apply pw_below_drewN | apply below_drew1) | exact HB.out)) hb)
          clear HB
          clear HO97
          have HO97 := n0_
          clear n0_
          have HO93 := n1_
          have HB := n2_
          clear n1_ n2_
          clear hb ho_
          refine hK.out _ _ ⟨(HS14.out _ HB.out).1, (HS14.out _ HB.out).2⟩ (fun hHeld => ?_)
          clear hK K
          refine norm_ (a' := ?_) ?_ ?_
          rotate_left
          · show Act.put _ (some 93) _ = _
            simp only [Act.put, List.setIfInBounds_toArray, List.set_cons_zero, List.set_cons_succ, i64_w, i32_w]
            rfl
          refine one_ (i := 3) (N := some 95) #[true, true, true, true, true, true, false, true, false] rfl rfl (by kernel_rfl) (by decide) (fun K hK => ?_)
          refine Kd.R_append_rows_step (Kd.int .i64) (w0 := w6) w6.heap.size (by rfl) (.tmp 93) (.tmp 94) 37 2 (.int .i64 0) 8 rfl Try.underlying37 info2 rfl (by decide) (by omega) v93 [] b _ _ _ (fun k_ => some k_ ≠ (v97 : Value).ownBlock) (fun _ => False) rfl rfl ?aO ?aR (fun _ _ h => h) (fun _ h => h.elim) ?aF ?aB ?aS ?aL ?_
          (case aR => have h_ := (Kd.R_reads' (HRB.out _ (by repeat (first | (with_reducible first | exact HB.out | apply below_alloc | apply pw_below_drewN | apply below_drew1) | exact HB.out)))).2.2; rw [HNB.out] at h_; exact h_)
          (case aB => exact (by repeat (first | (with_reducible first | exact HB.out | apply below_alloc | apply pw_below_drewN | apply below_drew1) | exact HB.out)))
          (case aF => exact (fun k_ hk => Kd.fresh' (Kd.R_lt (by (with_reducible repeat (first | apply Kd.R_alloc | apply Kd.R_drewN | apply Kd.R_drew)); exact HO97.out)) k_ hk))
          (case aO => exact (by (with_reducible repeat (first | apply Kd.R_alloc | apply Kd.R_drewN | apply Kd.R_drew)); exact Kd.R_mono HO93.out (fun _ hk => hk.2)))
          (case aS => exact (below_size (by repeat (first | (with_reducible first | exact HB.out | apply below_alloc | apply pw_below_drewN | apply below_drew1) | exact HB.out))))
          (case aL => have := HBN.out; simp only [List.length_nil]; omega)
          intro v95 wc14 ho hb hg hat
          have n1_ := Aside0.mk (Kd.R_after (ok := (fun _ => True)) (by (with_reducible repeat (first | apply Kd.R_alloc | apply Kd.R_drewN | apply Kd.R_drew)); exact HO97.out) hg hat)
          have n2_ := Aside0.mk (hb)
          have n3_ := Aside0.mk (show Kd.R (Kd.int .i64) 2 wc14 w6.heap.size _ v95 b from ho)
          clear HB HO93
          clear HO97
          have HO97 := n1_
          clear n1_
          have HB := n2_
          have HO95 := n3_
          clear n2_ n3_
          clear ho hb hg hat
          refine hK.out _ _ ⟨(HS14.out _ HB.out).1, (HS14.out _ HB.out).2⟩ (fun hHeld => ?_)
          clear hK K
          refine norm_ (a' := ?_) ?_ ?_
          rotate_left
          · show Act.put _ (some 95) _ = _
            simp only [Act.put, List.setIfInBounds_toArray, List.set_cons_zero, List.set_cons_succ, i64_w, i32_w]
            rfl
          exact norm_ (by simp only [putAll, Act.put, List.setIfInBounds_toArray, List.set_cons_zero, List.set_cons_succ]) (hCont (v93, v95, v97) _ ⟨(by (with_reducible repeat (first | apply Kd.R_alloc | apply Kd.R_drewN | apply Kd.R_drew)); exact HO95.out), (by (with_reducible repeat (first | apply Kd.R_alloc | apply Kd.R_drewN | apply Kd.R_drew)); exact Kd.R_mono HO97.out (fun _ hk => hk.2)), (by repeat (first | (with_reducible first | exact HB.out | apply below_alloc | apply pw_below_drewN | apply below_drew1) | exact HB.out))⟩)
      rintro ⟨v93, v95, v97⟩ wd14 ⟨h0_, h1_, h2_⟩
      clear HB
      have HO95 := Aside0.mk h0_
      have HO97 := Aside0.mk h1_
      have HB := Aside0.mk h2_
      clear h0_ h1_ h2_
      have hHeld := HS14.out _ HB.out
      obtain ⟨Al14, cl14, eo_⟩ := Kd.R_slice HO97.out
      (first | subst eo_ | (injection eo_ with f1_ f2_ f3_; have f4_ := f1_.symm; have f5_ := f3_.symm; clear f1_ f2_ f3_; subst f4_; subst f5_))
      refine norm_ (a' := ?_) ?_ ?_
      rotate_left
      · simp only [putAll, Act.put, List.setIfInBounds_toArray, List.set_cons_zero, List.set_cons_succ]
        rfl
      refine one_ (i := 6) (N := some 98) #[true, true, true, true, true, true, true, true, false] rfl rfl (by kernel_rfl) (by decide) (fun K hK => ?_)
      refine Kd.R_append_rows_step (Kd.int .i64) (w0 := w6) w6.heap.size (by rfl) (.tmp 95) (.tmp 97) 37 2 (.int .i64 0) 8 rfl Try.underlying37 info2 rfl (by decide) (by omega) v95 b [(1 : Int)] _ _ _ (fun k_ => some k_ ≠ (.slice Al14 ([(1 : Int)]).length cl14 : Value).ownBlock) (fun _ => False) rfl rfl ?aO ?aR (fun _ _ h => h) (fun _ h => h.elim) ?aF ?aB ?aS ?aL ?_
      (case aR => repeat (first | exact (Kd.R_reads' HO97.out).2.2 | (with_reducible refine Kd.C_alloc ?_ _) | (with_reducible refine Kd.C_drewN ?_ _) | (with_reducible refine Kd.C_drew ?_)))
      (case aB => exact (by repeat (first | (with_reducible first | exact HB.out | apply below_alloc | apply pw_below_drewN | apply below_drew1) | exact HB.out)))
      (case aF => exact (fun k_ hk => Kd.fresh' (Kd.R_lt (by (with_reducible repeat (first | apply Kd.R_alloc | apply Kd.R_drewN | apply Kd.R_drew)); exact HO97.out)) k_ hk))
      (case aO => exact (by (with_reducible repeat (first | apply Kd.R_alloc | apply Kd.R_drewN | apply Kd.R_drew)); exact HO95.out))
      (case aS => exact (below_size (by repeat (first | (with_reducible first | exact HB.out | apply below_alloc | apply pw_below_drewN | apply below_drew1) | exact HB.out))))
      (case aL => have := HBN.out; simp only [List.length_singleton]; omega)
      intro v98 we14 ho hb hg hat
      clear HB HO95 HO97
      have HB := Aside0.mk hb
      have HO98 := Aside0.mk (Kd.R_mono ho (fun _ _ => trivial) : Kd.R (Kd.int .i64) 2 we14 w6.heap.size (fun _ => True) v98 (b ++ [(1 : Int)]))
      clear ho hb hg hat
      refine hK.out _ _ ⟨(HS14.out _ HB.out).1, (HS14.out _ HB.out).2⟩ (fun hHeld => ?_)
      clear hK K
      refine norm_ (a' := ?_) ?_ ?_
      rotate_left
      · show Act.put _ (some 98) _ = _
        simp only [Act.put, List.setIfInBounds_toArray, List.set_cons_zero, List.set_cons_succ, i64_w, i32_w]
        rfl
      refine last_ (i := 8) (N := some 100) #[true, true, true, true, true, true, true, true, true] rfl rfl (by kernel_rfl) (by decide) (fun K hK => ?_)
      obtain ⟨A98, c98, ev98⟩ := Kd.R_slice HO98.out
      (first | subst ev98 | (injection ev98 with f1_ f2_ f3_; have f4_ := f1_.symm; have f5_ := f3_.symm; clear f1_ f2_ f3_; subst f4_; subst f5_))
      refine goes_ Try.func90 (by kernel_rfl) rfl #[.pointer (some ⟨g, 0, none⟩), .slice A98 (b ++ [(1 : Int)]).length c98, .agg #[(.slice A0 p0.length c0), (.slice A90 pn.length c90)]] (by rfl) rfl rfl (by (try simp only [List.map_toArray, List.map_cons, List.map_nil]); first | done | rfl | (simp only [List.length_drop, List.length_take]; rfl)) ?_
      refine (IH.out (.slice A98 (b ++ [(1 : Int)]).length c98) (b ++ [(1 : Int)]) (.slice A0 p0.length c0) (.slice A90 pn.length c90) we14 bv1 (atTwo (fun p => (searched x y p 0).low) l d b st 1) (by have := HBL.out; rw [List.length_append, List.length_singleton]; omega) (E6.out.below HB.out) (Kd.R_lower HO98.out (by have := E6.out.lt; omega)) ?iu0 ?iu1 (B6.out.trans (HB.out.mono (by have := E6.out.lt; omega)))).mono ?_
      (case iu0 => exact (by rw [part_next 0 1 b l nb HNB.out HLT.out, E0.out, HP.out]; exact Kd.R_below HU0.out HB.out))
      (case iu1 => exact (by rw [part_next 1 1 b l nb HNB.out HLT.out, E1'.out, HP.out]; exact Kd.R_below HU1.out HB.out))
      rintro e w47 ⟨rfl, bv2, hE2, hB2, hM2⟩
      refine ⟨_, rfl, ?_⟩
      refine hK.out _ _ ?_
      clear hK K
      refine norm_ (a' := ?_) ?_ ?_
      rotate_left
      · show Act.put _ (some 100) _ = _
        simp only [Act.put, List.setIfInBounds_toArray, List.set_cons_zero, List.set_cons_succ, i64_w, i32_w]
        rfl
      refine done_ (by kernel_rfl) ?_
      have EE := Aside0.mk hE2
      have BB := Aside0.mk hB2
      have MM := Aside0.mk ((M6.out.trans (Mid.of_below HB.out)).trans hM2)
      clear hE2 hB2 hM2
      try go_wp2
      go_roundg 0
      case measure => omega
      case rel => exact ⟨2, bv2, by omega, by omega, by go_num, EE, BB, MM⟩
    · go_wp2
      first | go_end0 | ((try simp only [Exit.inBlock, Exit.then]); refine bodyPost_ret (results_none rfl _ _ _) rfl ?_)
      first | exact ⟨rfl, bv1, E1.out, B1.out, HM5.out.trans M1.out⟩ | exact ⟨rfl, ⟨bv1, E1.out⟩, B1.out, HM5.out.trans M1.out⟩
end Go.Proofs.Ythkccaclmodjiaa.I
