import Derived.Test.YthkccaclmodjiaazETwoIronsESortedV
import Derived.Test.YthkccaclmodjiaazETwoIronsELayC
import Derived.Test.YthkccaclmodjiaazETwoIronsEChoose
import Derived.Test.YthkccaclmodjiaazETwoIronsEListsPiece
import Derived.Test.YthkccaclmodjiaazETwoIronsESearch1
import Derived.Test.YthkccaclmodjiaazETwoIronsI0
import Derived.Test.YthkccaclmodjiaazETwoIronsI7
import Derived.Shelf.Abstract
import Derived.RangeFuncBox
import Derived.Shelf.SlSortCmp.Insertion1
namespace Go.Proofs.Ythkccaclmodjiaa.I
open Go.RowKit Go.Proofs.YthkccaclmodjiaaW.PrintWords Go.Proofs.YthkccaclmodjiaaW.PrintLast Go.Proofs.YthkccaclmodjiaaW.PrintMore
attribute [local go_sem] max2_int min2_int max_two min_two max_three min_three max_four min_four
set_option linter.unusedVariables false
set_option linter.unusedSimpArgs false
open Go.Sort Go.Shelf Go.Lib
def afterGo (x y : Int) (l : List S57) (what : Int) (d : Nat) (o : List Int) (lv now s : Int) (st : Found) (i : Nat) : Found := (List.range i).foldl (fun st (k : Nat) => if o.contains (k : Int) = true then st else goOn x y l what d (o ++ [(k : Int)]) (wrap64 (rd_T57 l (k : Int)).f0) (nextOf x y l lv now k) (wrap64 (s + costF what (rd_T57 l (k : Int)).f2 now (nextOf x y l lv now k))) st) st
theorem afterGo_succ (x y : Int) (l : List S57) (what : Int) (d : Nat) (o : List Int) (lv now s : Int) (st : Found) (i : Nat) : afterGo x y l what d o lv now s st (i + 1) = if o.contains (i : Int) = true then afterGo x y l what d o lv now s st i else goOn x y l what d (o ++ [(i : Int)]) (wrap64 (rd_T57 l (i : Int)).f0) (nextOf x y l lv now i) (wrap64 (s + costF what (rd_T57 l (i : Int)).f2 now (nextOf x y l lv now i))) (afterGo x y l what d o lv now s st i) := by
  unfold afterGo
  rw [List.range_succ, List.foldl_append]
  rfl
theorem Srch.put {g : Nat} {x y : Int} {A2 : Option Addr} {c2 : Nat} {l : List S57} {what : Int} {W : World} {bv : Value} {st : Found} (h : Srch g x y A2 c2 l what W bv st) {v : Value} {o : List Int} (hv : Kd.R (Kd.int .i64) 2 W (g + 1) (fun _ => True) v o) (s : Int) (hrd : Kd.C k57 (((W.setCell ⟨g, 4, none⟩ v).setCell ⟨g, 5, none⟩ (.int .i64 s)).setCell ⟨g, 6, none⟩ (.bool true)) A2 l.length l) :
    Srch g x y A2 c2 l what (((W.setCell ⟨g, 4, none⟩ v).setCell ⟨g, 5, none⟩ (.int .i64 s)).setCell ⟨g, 6, none⟩ (.bool true)) v ⟨o, s, true⟩ := by
  have r1 : ∀ {W : World} {v : Value} {o : List Int} (j : Nat) (u : Value), Kd.R (Kd.int .i64) 2 W (g + 1) (fun _ => True) v o → Kd.R (Kd.int .i64) 2 (W.setCell ⟨g, j, none⟩ u) (g + 1) (fun _ => True) v o := fun j u h =>
    Kd.R_mono (Kd.R_far (p := ⟨g, j, none⟩) (Kd.R_bound h) (fun k hk => by have := hk.2.1; show k ≠ g; omega) u) (fun _ _ => trivial)
  exact ⟨blk_put (blk_put (blk_put h.blk 4 v rfl) 5 _ rfl) 6 _ rfl, hrd, h.cap, r1 _ _ (r1 _ _ (r1 _ _ hv))⟩
theorem below_put {g : Nat} {w0 W : World} (h : Below g w0 W) {v : Value} (s : Int) : Below g w0 (((W.setCell ⟨g, 4, none⟩ v).setCell ⟨g, 5, none⟩ (.int .i64 s)).setCell ⟨g, 6, none⟩ (.bool true)) :=
  ((h.setCell (p := ⟨g, 4, none⟩) (Nat.le_refl _) _).setCell (p := ⟨g, 5, none⟩) (Nat.le_refl _) _).setCell (p := ⟨g, 6, none⟩) (Nat.le_refl _) _
theorem mid_put {g : Nat} {w0 W : World} (h : Mid (g + 1) w0 W) {v : Value} (s : Int) : Mid (g + 1) w0 (((W.setCell ⟨g, 4, none⟩ v).setCell ⟨g, 5, none⟩ (.int .i64 s)).setCell ⟨g, 6, none⟩ (.bool true)) := by
  have m : ∀ (W : World) (j : Nat) (u : Value), Mid (g + 1) W (W.setCell ⟨g, j, none⟩ u) := fun W j u => ⟨by simp, fun k hk hl => Below.heap_setCell W ⟨g, j, none⟩ u k (by show k ≠ g; omega)⟩
  exact ((h.trans (m _ _ _)).trans (m _ _ _)).trans (m _ _ _)
set_option maxHeartbeats 40000000 in
set_option maxRecDepth 100000 in
theorem from_calls (g : Nat) (x y : Int) (A2 : Option Addr) (c2 : Nat) (l : List S57) (what : Int) (w0 : World) (hx : wrap64 x = x ∧ 0 ≤ x ∧ x ≤ 60) (hy : wrap64 y = y ∧ 0 ≤ y ∧ y ≤ 60) (h8 : l.length ≤ 8) (hfine : Fine l) (hrd : Kd.C k57 w0 A2 l.length l) (hgw : w0.heap.size ≤ g) (hwh : what = 0 ∨ what = 1 ∨ what = 2 ∨ what = 3) :
    ∀ (d : Nat) (v : Value) (o : List Int) (lv now s : Int) (W : World) (bv : Value) (st : Found), o.length + d = l.length → 0 ≤ lv ∧ lv ≤ 3 → Srch g x y A2 c2 l what W bv st → Kd.R (Kd.int .i64) 2 W (g + 1) (fun _ => True) v o → Below g w0 W →
      Calls Try.prog 121 #[.pointer (some ⟨g, 0, none⟩), v, .int .i64 lv, .int .i64 now, .int .i64 s] W fun e w' => e = .returned (.tuple #[]) ∧ ∃ bv', Srch g x y A2 c2 l what w' bv' (goOn x y l what d o lv now s st) ∧ Below g w0 w' ∧ Mid (g + 1) W w' := by
  have HX := Aside0.mk hx
  have HY := Aside0.mk hy
  have HF := Aside0.mk hfine
  have HWH := Aside0.mk hwh
  have HRD := Aside0.mk hrd
  have HG := Aside0.mk hgw
  clear hx hy hfine hwh hrd hgw
  have ends : ∀ (d : Nat) (v : Value) (o : List Int) (lv now s : Int) (W : World) (bv : Value) (st : Found), (st.is = true ∧ st.low ≤ s) → Srch g x y A2 c2 l what W bv st → Below g w0 W →
      Calls Try.prog 121 #[.pointer (some ⟨g, 0, none⟩), v, .int .i64 lv, .int .i64 now, .int .i64 s] W fun e w' => e = .returned (.tuple #[]) ∧ ∃ bv', Srch g x y A2 c2 l what w' bv' (goOn x y l what d o lv now s st) ∧ Below g w0 w' ∧ Mid (g + 1) W w' := by
    intro d v o lv now s W bv st hq hE hB
    have e : goOn x y l what d o lv now s st = st := by
      cases d <;> rw [goOn, if_pos hq]
    rw [e]
    obtain ⟨hf, hs⟩ := hq
    have hb_ := hE.blk
    rw [hf] at hb_
    have k5 : W.cell? ⟨g, 5, none⟩ = some (.int .i64 st.low) := blk_cell hb_ 5
    have k6 : W.cell? ⟨g, 6, none⟩ = some (.bool true) := blk_cell hb_ 6
    have q1 : decide (st.low ≤ s) = true := decide_eq_true hs
    have HE := Aside0.mk hE
    have HB := Aside0.mk hB
    clear hE hB hb_ hf hs
    go_enter Try.func121, Try.ntmps121
    go_wp2
    first | go_end0 | ((try simp only [Exit.inBlock, Exit.then]); refine bodyPost_ret (results_none rfl _ _ _) rfl ?_)
    exact ⟨rfl, bv, HE.out, HB.out, Mid.refl _ _⟩
  intro d
  induction d with
  | zero =>
    intro v o lv now s W bv st ho hlv hE hR hB
    by_cases hq : st.is = true ∧ st.low ≤ s
    · exact ends 0 v o lv now s W bv st hq hE hB
    rw [goOn, if_neg hq]
    have hgo : st.is = false ∨ (st.is = true ∧ decide (st.low ≤ s) = false) := by
      cases hi : st.is with
      | false => exact .inl rfl
      | true => exact .inr ⟨rfl, decide_eq_false (fun h => hq ⟨hi, h⟩)⟩
    clear ends hq
    rcases hgo with hf | ⟨hf, hs⟩
    · have hb_ := hE.blk
      rw [hf] at hb_
      have k0 : W.cell? ⟨g, 0, none⟩ = some (.int .i8 x) := blk_cell hb_ 0
      have k1 : W.cell? ⟨g, 1, none⟩ = some (.int .i8 y) := blk_cell hb_ 1
      have k2 : W.cell? ⟨g, 2, none⟩ = some (.slice A2 l.length c2) := blk_cell hb_ 2
      have k5 : W.cell? ⟨g, 5, none⟩ = some (.int .i64 st.low) := blk_cell hb_ 5
      have k6 : W.cell? ⟨g, 6, none⟩ = some (.bool false) := blk_cell hb_ 6
      clear hb_
      have hlz : ((o.length : Int) == (l.length : Int)) = true := beq_iff_eq.mpr (by omega)
      have HL1 := Aside0.mk (show o.length ≤ 1000 by omega)
      have HE := Aside0.mk hE
      have HR := Aside0.mk hR
      have HB0 := Aside0.mk hB
      obtain ⟨A, c, rfl⟩ := Kd.R_slice hR
      have HRB : ∀ w', Below W.heap.size W w' → Kd.R (Kd.int .i64) 2 w' (g + 1) (fun _ => True) (.slice A o.length c) o := fun w' hb => Kd.R_below HR.out hb
      have HRB' := Aside0.mk HRB
      have HB := Aside0.mk (Below.refl W.heap.size W)
      clear hE hR hB ho hlv HRB
      go_enter Try.func121, Try.ntmps121
      go_wp2_with (first | ((with_reducible refine gate_dst (N := 34) rfl ?_); refine Kd.R_lit (Kd.int .i64) _ 2 ?hg (N := 34) ?hd (xs := ([] : List Int)) (inner := []) (ok := fun _ => True) (okp := fun _ => True) ?hr ?hp (fun _ hk => hk) trivial (Below.refl _ _) (Nat.le_refl _) (by simp) ?_; (case hd => rfl); (case hg => rfl); (case hr => first | (go_simp; done) | (go_simp; rfl)); (case hp => exact (Reps.none _ _)); intro v143 w14 ho15 hb hg_ hnew_; clear hg_ hnew_; have n0_ := Aside0.mk (Kd.R_lower ho15 (below_size (by repeat (first | (with_reducible first | exact HB.out | apply below_alloc | apply pw_below_drewN | apply below_drew1) | exact HB.out)))); have n1_ := Aside0.mk (below_step (by repeat (first | (with_reducible first | exact HB.out | apply below_alloc | apply pw_below_drewN | apply below_drew1) | exact HB.out)) hb); clear HB; have HO144 := n0_; have HB := n1_; clear n0_ n1_; clear hb ho15) | ((with_reducible refine gate_builtin (b := .append) (xs := #[.tmp 34, .tmp 35]) rfl ?_); at_builtin; refine Kd.R_append_rows (Kd.int .i64) (w0 := W) W.heap.size rfl (.tmp 34) (.tmp 35) 37 2 (.int .i64 0) 8 rfl Try.underlying37 info2 rfl (by decide) (by omega) v143 [] o _ _ _ (fun _ => True) (fun _ => False) rfl rfl ?aO ?aR (fun _ _ h => h) (fun _ h => h.elim) ?aF ?aB ?aS ?aL ?_; (case aR => exact (Kd.R_reads' (HRB'.out _ (by repeat (first | (with_reducible first | exact HB.out | apply below_alloc | apply pw_below_drewN | apply below_drew1) | exact HB.out)))).2.2); (case aB => exact (by repeat (first | (with_reducible first | exact HB.out | apply below_alloc | apply pw_below_drewN | apply below_drew1) | exact HB.out))); (case aF => exact (fun _ _ => trivial)); (case aO => exact (by (with_reducible repeat (first | apply Kd.R_alloc | apply Kd.R_drewN | apply Kd.R_drew)); exact HO144.out)); (case aS => exact (below_size (by repeat (first | (with_reducible first | exact HB.out | apply below_alloc | apply pw_below_drewN | apply below_drew1) | exact HB.out)))); (case aL => have := HL1.out; simp only [List.length_nil]; omega); intro v146 w17 ho hb hg hat; clear HB HO144; have HB := Aside0.mk hb; have HO147 := Aside0.mk (show Kd.R (Kd.int .i64) 2 w17 W.heap.size _ v146 o from ho); clear ho hb hg hat; have HE7 := Aside0.mk (HE.out.below HB.out); have f4 := blk_frozen HE7.out.blk 4; have f5 := blk_frozen HE7.out.blk 5; have f6 := blk_frozen HE7.out.blk 6; have d4 : w17.cell? ⟨g, 4, none⟩ = some bv := blk_cell HE7.out.blk 4; have d5 : w17.cell? ⟨g, 5, none⟩ = some (.int .i64 st.low) := blk_cell HE7.out.blk 5; have d6 : w17.cell? ⟨g, 6, none⟩ = some (.bool st.is) := blk_cell HE7.out.blk 6; obtain ⟨Ab, cb, eb⟩ := Kd.R_slice HO147.out; subst eb))
      first | go_end0 | ((try simp only [Exit.inBlock, Exit.then]); refine bodyPost_ret (results_none rfl _ _ _) rfl ?_)
      have hbp := HB0.out.trans (HB.out.mono (by have := HE.out.lt; omega))
      exact ⟨rfl, _, HE7.out.put (Kd.R_lower (Kd.R_mono HO147.out (fun _ _ => trivial)) (by have := HE.out.lt; omega)) s (Kd.C_below HRD.out ((below_put hbp s).mono HG.out)), below_put ((HB0.out.trans (HB.out.mono (by have := HE.out.lt; omega)))) s, mid_put (Mid.of_below HB.out) s⟩
    · have hs_ := hs
      have hb_ := hE.blk
      rw [hf] at hb_
      have k0 : W.cell? ⟨g, 0, none⟩ = some (.int .i8 x) := blk_cell hb_ 0
      have k1 : W.cell? ⟨g, 1, none⟩ = some (.int .i8 y) := blk_cell hb_ 1
      have k2 : W.cell? ⟨g, 2, none⟩ = some (.slice A2 l.length c2) := blk_cell hb_ 2
      have k5 : W.cell? ⟨g, 5, none⟩ = some (.int .i64 st.low) := blk_cell hb_ 5
      have k6 : W.cell? ⟨g, 6, none⟩ = some (.bool true) := blk_cell hb_ 6
      clear hb_
      have hlz : ((o.length : Int) == (l.length : Int)) = true := beq_iff_eq.mpr (by omega)
      have HL1 := Aside0.mk (show o.length ≤ 1000 by omega)
      have HE := Aside0.mk hE
      have HR := Aside0.mk hR
      have HB0 := Aside0.mk hB
      obtain ⟨A, c, rfl⟩ := Kd.R_slice hR
      have HRB : ∀ w', Below W.heap.size W w' → Kd.R (Kd.int .i64) 2 w' (g + 1) (fun _ => True) (.slice A o.length c) o := fun w' hb => Kd.R_below HR.out hb
      have HRB' := Aside0.mk HRB
      have HB := Aside0.mk (Below.refl W.heap.size W)
      clear hE hR hB ho hlv HRB
      go_enter Try.func121, Try.ntmps121
      go_wp2_with (first | ((with_reducible refine gate_dst (N := 34) rfl ?_); refine Kd.R_lit (Kd.int .i64) _ 2 ?hg (N := 34) ?hd (xs := ([] : List Int)) (inner := []) (ok := fun _ => True) (okp := fun _ => True) ?hr ?hp (fun _ hk => hk) trivial (Below.refl _ _) (Nat.le_refl _) (by simp) ?_; (case hd => rfl); (case hg => rfl); (case hr => first | (go_simp; done) | (go_simp; rfl)); (case hp => exact (Reps.none _ _)); intro v143 w14 ho15 hb hg_ hnew_; clear hg_ hnew_; have n0_ := Aside0.mk (Kd.R_lower ho15 (below_size (by repeat (first | (with_reducible first | exact HB.out | apply below_alloc | apply pw_below_drewN | apply below_drew1) | exact HB.out)))); have n1_ := Aside0.mk (below_step (by repeat (first | (with_reducible first | exact HB.out | apply below_alloc | apply pw_below_drewN | apply below_drew1) | exact HB.out)) hb); clear HB; have HO144 := n0_; have HB := n1_; clear n0_ n1_; clear hb ho15) | ((with_reducible refine gate_builtin (b := .append) (xs := #[.tmp 34, .tmp 35]) rfl ?_); at_builtin; refine Kd.R_append_rows (Kd.int .i64) (w0 := W) W.heap.size rfl (.tmp 34) (.tmp 35) 37 2 (.int .i64 0) 8 rfl Try.underlying37 info2 rfl (by decide) (by omega) v143 [] o _ _ _ (fun _ => True) (fun _ => False) rfl rfl ?aO ?aR (fun _ _ h => h) (fun _ h => h.elim) ?aF ?aB ?aS ?aL ?_; (case aR => exact (Kd.R_reads' (HRB'.out _ (by repeat (first | (with_reducible first | exact HB.out | apply below_alloc | apply pw_below_drewN | apply below_drew1) | exact HB.out)))).2.2); (case aB => exact (by repeat (first | (with_reducible first | exact HB.out | apply below_alloc | apply pw_below_drewN | apply below_drew1) | exact HB.out))); (case aF => exact (fun _ _ => trivial)); (case aO => exact (by (with_reducible repeat (first | apply Kd.R_alloc | apply Kd.R_drewN | apply Kd.R_drew)); exact HO144.out)); (case aS => exact (below_size (by repeat (first | (with_reducible first | exact HB.out | apply below_alloc | apply pw_below_drewN | apply below_drew1) | exact HB.out)))); (case aL => have := HL1.out; simp only [List.length_nil]; omega); intro v146 w17 ho hb hg hat; clear HB HO144; have HB := Aside0.mk hb; have HO147 := Aside0.mk (show Kd.R (Kd.int .i64) 2 w17 W.heap.size _ v146 o from ho); clear ho hb hg hat; have HE7 := Aside0.mk (HE.out.below HB.out); have f4 := blk_frozen HE7.out.blk 4; have f5 := blk_frozen HE7.out.blk 5; have f6 := blk_frozen HE7.out.blk 6; have d4 : w17.cell? ⟨g, 4, none⟩ = some bv := blk_cell HE7.out.blk 4; have d5 : w17.cell? ⟨g, 5, none⟩ = some (.int .i64 st.low) := blk_cell HE7.out.blk 5; have d6 : w17.cell? ⟨g, 6, none⟩ = some (.bool st.is) := blk_cell HE7.out.blk 6; obtain ⟨Ab, cb, eb⟩ := Kd.R_slice HO147.out; subst eb))
      first | go_end0 | ((try simp only [Exit.inBlock, Exit.then]); refine bodyPost_ret (results_none rfl _ _ _) rfl ?_)
      have hbp := HB0.out.trans (HB.out.mono (by have := HE.out.lt; omega))
      exact ⟨rfl, _, HE7.out.put (Kd.R_lower (Kd.R_mono HO147.out (fun _ _ => trivial)) (by have := HE.out.lt; omega)) s (Kd.C_below HRD.out ((below_put hbp s).mono HG.out)), below_put ((HB0.out.trans (HB.out.mono (by have := HE.out.lt; omega)))) s, mid_put (Mid.of_below HB.out) s⟩
  | succ d ih =>
    intro v o lv now s W bv st ho hlv hE hR hB
    by_cases hq : st.is = true ∧ st.low ≤ s
    · exact ends (d + 1) v o lv now s W bv st hq hE hB
    rw [goOn, if_neg hq]
    show Calls _ _ _ _ (fun e w' => e = .returned (.tuple #[]) ∧ ∃ bv', Srch g x y A2 c2 l what w' bv' (afterGo x y l what d o lv now s st l.length) ∧ Below g w0 w' ∧ Mid (g + 1) W w')
    have hgo : st.is = false ∨ (st.is = true ∧ decide (st.low ≤ s) = false) := by
      cases hi : st.is with
      | false => exact .inl rfl
      | true => exact .inr ⟨rfl, decide_eq_false (fun h => hq ⟨hi, h⟩)⟩
    have IH := Aside0.mk ih
    clear ends hq ih
    rcases hgo with hf | ⟨hf, hs⟩
    · have hb_ := hE.blk
      rw [hf] at hb_
      have k0 : W.cell? ⟨g, 0, none⟩ = some (.int .i8 x) := blk_cell hb_ 0
      have k1 : W.cell? ⟨g, 1, none⟩ = some (.int .i8 y) := blk_cell hb_ 1
      have k2 : W.cell? ⟨g, 2, none⟩ = some (.slice A2 l.length c2) := blk_cell hb_ 2
      have k5 : W.cell? ⟨g, 5, none⟩ = some (.int .i64 st.low) := blk_cell hb_ 5
      have k6 : W.cell? ⟨g, 6, none⟩ = some (.bool false) := blk_cell hb_ 6
      clear hb_
      have hlz : ((o.length : Int) == (l.length : Int)) = false := beq_eq_false_iff_ne.mpr (by omega)
      have HL1 := Aside0.mk (show o.length ≤ 1000 by omega)
      have HE := Aside0.mk hE
      obtain ⟨A, c, rfl⟩ := Kd.R_slice hR
      have HR := Aside0.mk hR
      have HB0 := Aside0.mk hB
      have HL := Aside0.mk ho
      have HLV0 := Aside0.mk hlv
      have HCP := Aside0.mk (Kd.R_reads' hR).2.1
      clear hE hR hB ho hlv hf
      go_enter Try.func121, Try.ntmps121
      go_wp2
      go_loopg [10] l.length (fun gg v10 wr => ∃ (kk : Nat) (bv1 : Value), kk ≤ l.length ∧ l.length - kk ≤ gg ∧ v10 = .int .i64 kk ∧ Aside0 (Srch g x y A2 c2 l what wr bv1 (afterGo x y l what d o lv now s st kk)) ∧ Aside0 (Below g w0 wr) ∧ Aside0 (Mid (g + 1) W wr))
      case atStart => exact ⟨0, bv, Nat.zero_le _, by omega, rfl, HE, HB0, ⟨Mid.refl _ _⟩⟩
      case round =>
        clear k0 k1 k2 k5 k6 HB0 HE
        obtain ⟨kk, bv1, hkk, hg, rfl, E1, B1, M1⟩ := hrel
        have R1 := Aside0.mk (R_mid HR.out M1.out)
        clear HR
        have k0 : wr.cell? ⟨g, 0, none⟩ = some (.int .i8 x) := blk_cell E1.out.blk 0
        have k1 : wr.cell? ⟨g, 1, none⟩ = some (.int .i8 y) := blk_cell E1.out.blk 1
        have k2 : wr.cell? ⟨g, 2, none⟩ = some (.slice A2 l.length c2) := blk_cell E1.out.blk 2
        by_cases hlt : kk < l.length
        · have hltz : (kk : Int) < (l.length : Int) := by omega
          obtain ⟨kc, hkc⟩ := Ev.get (has_ev o (kk : Int) (by have := HL1.out; omega))
          have CON := Aside0.mk (spec_l00Has.calls kc A c o (kk : Int) (o.contains (kk : Int)) wr (Kd.R_reads' R1.out).2.2 HCP.out hkc)
          clear hkc
          cases hcq : o.contains (kk : Int) with
          | true =>
            rw [hcq] at CON
            have HCQ := Aside0.mk hcq
            clear hcq
            go_wp2_with (go_at_call 77; refine CON.out.mono ?_; rintro e w2 ⟨rfl, hd⟩; have hb2 : Below wr.heap.size wr w2 := (by first | exact hd | exact hd.below); clear hd; have E2 := Aside0.mk (E1.out.below hb2); have B2 := Aside0.mk (B1.out.trans (hb2.mono (by have := E1.out.lt; omega))); have M2 := Aside0.mk (M1.out.trans (Mid.of_below hb2)); clear hb2)
            go_roundg (l.length - (kk + 1))
            case measure => omega
            case rel => exact ⟨kk + 1, bv1, by omega, by omega, by go_num, ⟨by rw [afterGo_succ, if_pos HCQ.out]; exact E2.out⟩, B2, M2⟩
          | false =>
            rw [hcq] at CON
            have HCQ := Aside0.mk hcq
            clear hcq
            have hu57 := Try.underlying57
            obtain ⟨P, hP⟩ : ∃ P, rd_T57 l (kk : Int) = P := ⟨_, rfl⟩
            obtain ⟨nx, hnx⟩ : ∃ nx, nextOf x y l lv now kk = nx := ⟨_, rfl⟩
            have fine := piece_at l HF.out (kk : Int) (by omega) hltz
            rw [hP] at fine
            have hch := specChange_f x y lv P.f0 HX.out HY.out HLV0.out ⟨by have := fine.2.2.2.1; omega, fine.2.2.2.2.1⟩
            have e0 : wrap64 P.f0 = P.f0 := fine.1
            have hnx' := hnx
            unfold nextOf at hnx'
            rw [hP, e0] at hnx'
            generalize ht : chg x y lv P.f0 = t at hch hnx'
            have HCH := Aside0.mk (show ∀ w, Calls Try.prog 67 #[.agg #[.int .i8 x, .int .i8 y], .int .i64 lv, .int .i64 (wrap64 P.f0)] w _ from fun w => change_calls x y lv (wrap64 P.f0) t w (by rw [e0]; exact hch))
            have HP := Aside0.mk hP
            have HNX := Aside0.mk hnx
            have HNX2 := Aside0.mk hnx'
            have HLV := Aside0.mk (show 0 ≤ wrap64 P.f0 ∧ wrap64 P.f0 ≤ 3 by rw [e0]; exact ⟨by have := fine.2.2.2.1; omega, fine.2.2.2.2.1⟩)
            have PAT := Aside0.mk (show ∀ w', Below wr.heap.size wr w' → ∃ ad, A2 = some ad ∧ w'.cell? (ad.add (kk * 3)) = some (.int .i8 P.f0) ∧ w'.cell? ⟨(ad.add (kk * 3)).block, (ad.add (kk * 3)).off + 1, none⟩ = some (.int .i8 P.f1) ∧ w'.cell? ⟨(ad.add (kk * 3)).block, (ad.add (kk * 3)).off + 2, none⟩ = some (.int .i16 P.f2) from fun w' hb => by
              have := at_T57 (Kd.C_below E1.out.rd hb) (kk : Int) (by omega) hltz
              rw [Int.toNat_natCast, hP] at this
              exact this)
            clear hP hnx hnx' ht hch e0 fine
            obtain ⟨ad, ea, _⟩ := PAT.out wr (Below.refl _ _)
            subst ea
            go_wp2_with (go_at_call 77; refine CON.out.mono ?_; rintro e w2 ⟨rfl, hd⟩; have hb2 : Below wr.heap.size wr w2 := (by first | exact hd | exact hd.below); clear hd; have E2 := Aside0.mk (E1.out.below hb2); have B2 := Aside0.mk (B1.out.trans (hb2.mono (by have := E1.out.lt; omega))); have M2 := Aside0.mk (M1.out.trans (Mid.of_below hb2)); have R2 := Aside0.mk (Kd.R_below R1.out hb2); obtain ⟨ad2, ea2, y0, y1, y2⟩ := PAT.out w2 hb2; cases ea2; have j0 : w2.cell? ⟨g, 0, none⟩ = some (.int .i8 x) := blk_cell E2.out.blk 0; have j1 : w2.cell? ⟨g, 1, none⟩ = some (.int .i8 y) := blk_cell E2.out.blk 1; have j2 : w2.cell? ⟨g, 2, none⟩ = some (.slice (some ad) l.length c2) := blk_cell E2.out.blk 2; clear hb2 k0 k1 k2)
            have PB4 : ∀ j u, (#[Value.int .i8 P.f0, .int .i8 P.f1, .int .i16 P.f2] : Array Value)[j]? = some u → (w2.alloc (.cells #[.int .i8 P.f0, .int .i8 P.f1, .int .i16 P.f2] 57)).cell? ⟨w2.heap.size, j, none⟩ = some u := fun j u hu => (blk_cell (World.alloc_heap_new w2 (.cells #[.int .i8 P.f0, .int .i8 P.f1, .int .i16 P.f2] 57)) j).trans hu
            have hb4 : Below w2.heap.size w2 (w2.alloc (.cells #[.int .i8 P.f0, .int .i8 P.f1, .int .i16 P.f2] 57)) := (Below.refl _ w2).alloc (Nat.le_refl _) _
            have PL4 : w2.heap.size < (w2.alloc (.cells #[.int .i8 P.f0, .int .i8 P.f1, .int .i16 P.f2] 57)).heap.size := by simp
            have E4 := Aside0.mk (E2.out.below hb4)
            have B4 := Aside0.mk (B2.out.trans (hb4.mono (by have := E2.out.lt; omega)))
            have M4 := Aside0.mk (M2.out.trans (Mid.of_below hb4))
            have R4 := Aside0.mk (Kd.R_below R2.out hb4)
            clear hb4 j0 j1 j2 y0 y1 y2 E2 B2 M2 R2
            obtain ⟨gp, hgp⟩ : ∃ gp, w2.heap.size = gp := ⟨_, rfl⟩
            rw [hgp] at PB4 PL4
            simp only [hgp]
            generalize w2.alloc (.cells #[.int .i8 P.f0, .int .i8 P.f1, .int .i16 P.f2] 57) = w4 at PB4 PL4 E4 B4 M4 R4 ⊢
            clear hgp
            have mixed : Try.prog.follows .mixedOrders = true := by kernel_rfl
            have PL := Aside0.mk PL4
            have PB := Aside0.mk PB4
            have u0 : ∀ n os, (grow (w4.drewN n) os).cell? ⟨gp, 0, none⟩ = some (.int .i8 P.f0) := fun n os => cell_grown PL4 (PB4 0 _ rfl) n os
            have u1 : ∀ n os, (grow (w4.drewN n) os).cell? ⟨gp, 1, none⟩ = some (.int .i8 P.f1) := fun n os => cell_grown PL4 (PB4 1 _ rfl) n os
            have v0 : ∀ n os, (grow (w4.drewN n) os).cell? ⟨g, 0, none⟩ = some (.int .i8 x) := fun n os => cell_grown E4.out.lt (blk_cell E4.out.blk 0) n os
            have v1 : ∀ n os, (grow (w4.drewN n) os).cell? ⟨g, 1, none⟩ = some (.int .i8 y) := fun n os => cell_grown E4.out.lt (blk_cell E4.out.blk 1) n os
            have hiw : ∀ z : Int, IntKind.i64.wrap z = wrap64 z := i64_w
            have hnx2 := HNX2.out
            clear PL4 PB4
            have e67 : ∀ args w, (callFunc 67 args).run Try.prog w = .ok (.enter 67 args) w := enters_of Try.func67 (by kernel_rfl) rfl
            go_quiet_grown (first | (go_at_fn 67; refine Calls.grown_of (HCH.out _)))
            have hb5 := below_drew1 (below_grow w4 nq osq)
            have E3 := Aside0.mk (E4.out.below hb5)
            have B3 := Aside0.mk (B4.out.trans (hb5.mono (by have := E4.out.lt; omega)))
            have M3 := Aside0.mk (M4.out.trans (Mid.of_below hb5))
            have R3 := Aside0.mk (Kd.R_below R4.out hb5)
            have PL3 := Aside0.mk (Nat.lt_of_lt_of_le PL.out hb5.size)
            have PB3 := Aside0.mk (show (grow (w4.drewN nq) osq).drew.cell? ⟨gp, 0, none⟩ = some (.int .i8 P.f0) ∧ (grow (w4.drewN nq) osq).drew.cell? ⟨gp, 1, none⟩ = some (.int .i8 P.f1) ∧ (grow (w4.drewN nq) osq).drew.cell? ⟨gp, 2, none⟩ = some (.int .i16 P.f2) from ⟨(hb5.cell (p := ⟨gp, 0, none⟩) PL.out).trans (PB.out 0 _ rfl), (hb5.cell (p := ⟨gp, 1, none⟩) PL.out).trans (PB.out 1 _ rfl), (hb5.cell (p := ⟨gp, 2, none⟩) PL.out).trans (PB.out 2 _ rfl)⟩)
            clear e67 hiw hb5 u0 u1 v0 v1 E4 B4 M4 R4 PL PB hnx2
            generalize grow (w4.drewN nq) osq = w5 at E3 B3 M3 R3 PL3 PB3 ⊢
            go_wp2
            refine start_ (n := 19) (S := fun w' => w'.cell? ⟨gp, 0, none⟩ = some (.int .i8 P.f0) ∧ w'.cell? ⟨gp, 1, none⟩ = some (.int .i8 P.f1) ∧ w'.cell? ⟨gp, 2, none⟩ = some (.int .i16 P.f2)) (ds := [18]) #[false, false, false, false, false, false, false, false, false, false, false, false, false, false, false, false, false, false, false] (by kernel_rfl) rfl rfl PB3.out (fun hHeld => ?_)
            generalize w5.drew = w13 at E3 B3 M3 R3 PB3 PL3 hHeld ⊢
            have HB := Aside0.mk (Below.refl w13.heap.size w13)
            have HS13 := Aside0.mk (show ∀ w', Below w13.heap.size w13 w' → (w'.cell? ⟨gp, 0, none⟩ = some (.int .i8 P.f0) ∧ w'.cell? ⟨gp, 1, none⟩ = some (.int .i8 P.f1) ∧ w'.cell? ⟨gp, 2, none⟩ = some (.int .i16 P.f2)) from fun w' hb => ⟨(hb.cell (p := ⟨gp, 0, none⟩) PL3.out).trans PB3.out.1, (hb.cell (p := ⟨gp, 1, none⟩) PL3.out).trans PB3.out.2.1, (hb.cell (p := ⟨gp, 2, none⟩) PL3.out).trans PB3.out.2.2⟩)
            have HRB : ∀ w', Below w13.heap.size w13 w' → Kd.R (Kd.int .i64) 2 w' (g + 1) (fun _ => True) (.slice A o.length c) o := fun w' hb => Kd.R_below R3.out hb
            refine pure_ (i := 0) (N := some 80) (v := ?_) (a' := ?_) #[true, false, false, false, false, false, false, false, false, false, false, false, false, false, false, false, false, false, false] rfl rfl (by kernel_rfl) (fun _ _ _ h => h) (Or.inl ⟨by rfl, ?_⟩) ?_ ?_
            rotate_left
            · intro w'
              go_simp
              with_reducible rfl
            rotate_left
            · simp only [Act.put, List.setIfInBounds_toArray, List.set_cons_zero, List.set_cons_succ, i64_w, i32_w]
              rfl
            refine pure_ (i := 2) (N := some 82) (v := ?_) (a' := ?_) #[true, false, true, false, false, false, false, false, false, false, false, false, false, false, false, false, false, false, false] rfl rfl (by kernel_rfl) (fun _ _ _ h => h) (Or.inl ⟨by rfl, ?_⟩) ?_ ?_
            rotate_left
            · intro w'
              go_simp
              with_reducible rfl
            rotate_left
            · simp only [Act.put, List.setIfInBounds_toArray, List.set_cons_zero, List.set_cons_succ, i64_w, i32_w]
              rfl
            refine pure_ (i := 4) (N := some 84) (v := ?_) (a' := ?_) #[true, false, true, false, true, false, false, false, false, false, false, false, false, false, false, false, false, false, false] rfl rfl (by kernel_rfl) (fun _ _ _ h => h) (Or.inl ⟨by rfl, ?_⟩) ?_ ?_
            rotate_left
            · intro w'
              go_simp
              with_reducible rfl
            rotate_left
            · simp only [Act.put, List.setIfInBounds_toArray, List.set_cons_zero, List.set_cons_succ, i64_w, i32_w]
              rfl
            refine pure_ (i := 7) (N := some 87) (v := ?_) (a' := ?_) #[true, false, true, false, true, false, false, true, false, false, false, false, false, false, false, false, false, false, false] rfl rfl (by kernel_rfl) (fun _ _ _ h => h) (Or.inl ⟨by rfl, ?_⟩) ?_ ?_
            rotate_left
            · intro w'
              go_simp
              with_reducible rfl
            rotate_left
            · simp only [Act.put, List.setIfInBounds_toArray, List.set_cons_zero, List.set_cons_succ, i64_w, i32_w]
              rfl
            refine pure_ (i := 10) (N := some 90) (v := ?_) (a' := ?_) #[true, false, true, false, true, false, false, true, false, false, true, false, false, false, false, false, false, false, false] rfl rfl (by kernel_rfl) (fun _ _ _ h => h) (Or.inl ⟨by rfl, ?_⟩) ?_ ?_
            rotate_left
            · intro w'
              go_simp
              with_reducible rfl
            rotate_left
            · simp only [Act.put, List.setIfInBounds_toArray, List.set_cons_zero, List.set_cons_succ, i64_w, i32_w]
              rfl
            refine pure_ (i := 11) (N := some 91) (v := ?_) (a' := ?_) #[true, false, true, false, true, false, false, true, false, false, true, true, false, false, false, false, false, false, false] rfl rfl (by kernel_rfl) (fun _ _ _ h => h) (Or.inl ⟨by rfl, ?_⟩) ?_ ?_
            rotate_left
            · intro w'
              go_simp
              with_reducible rfl
            rotate_left
            · simp only [Act.put, List.setIfInBounds_toArray, List.set_cons_zero, List.set_cons_succ, i64_w, i32_w]
              rfl
            refine pure_ (i := 12) (N := some 92) (v := ?_) (a' := ?_) #[true, false, true, false, true, false, false, true, false, false, true, true, true, false, false, false, false, false, false] rfl rfl (by kernel_rfl) (fun _ _ _ h => h) (Or.inl ⟨by rfl, ?_⟩) ?_ ?_
            rotate_left
            · intro w'
              go_simp
              with_reducible rfl
            rotate_left
            · simp only [Act.put, List.setIfInBounds_toArray, List.set_cons_zero, List.set_cons_succ, i64_w, i32_w]
              rfl
            refine pure_ (i := 14) (N := some 94) (v := ?_) (a' := ?_) #[true, false, true, false, true, false, false, true, false, false, true, true, true, false, true, false, false, false, false] rfl rfl (by kernel_rfl) (fun _ _ _ h => h) (Or.inl ⟨by rfl, ?_⟩) ?_ ?_
            rotate_left
            · intro w'
              go_simp
              with_reducible rfl
            rotate_left
            · simp only [Act.put, List.setIfInBounds_toArray, List.set_cons_zero, List.set_cons_succ, i64_w, i32_w]
              rfl
            refine pure_ (i := 15) (N := some 95) (v := ?_) (a' := ?_) #[true, false, true, false, true, false, false, true, false, false, true, true, true, false, true, true, false, false, false] rfl rfl (by kernel_rfl) (fun _ _ _ h => h) (Or.inl ⟨by rfl, ?_⟩) ?_ ?_
            rotate_left
            · intro w'
              go_simp
              with_reducible rfl
            rotate_left
            · simp only [Act.put, List.setIfInBounds_toArray, List.set_cons_zero, List.set_cons_succ, i64_w, i32_w]
              rfl
            refine take_ (i := 8) (N := some 88) (v := ?_) (a' := ?_) #[true, false, true, false, true, false, false, true, true, false, true, true, true, false, true, true, false, false, false] rfl rfl (by kernel_rfl) (fun _ _ _ h => h) (Or.inl ⟨by rfl, ?_⟩) hHeld ?_ ?_
            rotate_left
            · rintro w' ⟨s0, s1, s2⟩
              go_simp
              with_reducible rfl
            rotate_left
            · simp only [Act.put, List.setIfInBounds_toArray, List.set_cons_zero, List.set_cons_succ, i64_w, i32_w]
              rfl
            refine pure_ (i := 9) (N := some 89) (v := ?_) (a' := ?_) #[true, false, true, false, true, false, false, true, true, true, true, true, true, false, true, true, false, false, false] rfl rfl (by kernel_rfl) (fun _ _ _ h => h) (Or.inl ⟨by rfl, ?_⟩) ?_ ?_
            rotate_left
            · intro w'
              go_simp
              with_reducible rfl
            rotate_left
            · simp only [Act.put, List.setIfInBounds_toArray, List.set_cons_zero, List.set_cons_succ, i64_w, i32_w]
              rfl
            refine take_ (i := 13) (N := some 93) (v := ?_) (a' := ?_) #[true, false, true, false, true, false, false, true, true, true, true, true, true, true, true, true, false, false, false] rfl rfl (by kernel_rfl) (fun _ _ _ h => h) (Or.inl ⟨by rfl, ?_⟩) hHeld ?_ ?_
            rotate_left
            · rintro w' ⟨s0, s1, s2⟩
              go_simp
              with_reducible rfl
            rotate_left
            · simp only [Act.put, List.setIfInBounds_toArray, List.set_cons_zero, List.set_cons_succ, i64_w, i32_w]
              rfl
            refine join_ (σ := Value × Value × Value) 4 #[true, true, true, true, true, true, false, true, true, true, true, true, true, true, true, true, false, false, false] (fun s_ => [(81, s_.1), (83, s_.2.1), (85, s_.2.2)]) (fun s_ w' => (Kd.R (Kd.int .i64) 2 w' w13.heap.size (fun k_ => some k_ ≠ (s_.2.2 : Value).ownBlock) s_.2.1 o) ∧ (Kd.R (Kd.int .i64) 2 w' w13.heap.size (fun k_ => some k_ ≠ (s_.2.1 : Value).ownBlock) s_.2.2 [(kk : Int)]) ∧ (Below w13.heap.size w13 w')) ?_ ?_
            rotate_left
            · intro hCont
              refine two_ (i := 1) (j := 5) (Ni := some 81) (Nj := some 85) #[true, true, true, false, true, false, false, true, true, true, true, true, true, true, true, true, false, false, false] #[true, false, true, false, true, true, false, true, true, true, true, true, true, true, true, true, false, false, false] rfl rfl rfl rfl (by kernel_rfl) (by decide) (by decide) (fun K hK => ?_) (fun K hK => ?_)
              · skip
                refine Kd.R_lit_step (Kd.int .i64) _ 2 ?hg (N := 81) ?hd (xs := ([] : List Int)) (inner := []) (ok := fun _ => True) (okp := fun _ => True) ?hr ?hp (fun _ hk => hk) trivial (Below.refl _ _) (Nat.le_refl _) (by simp) ?_; (case hd => rfl); (case hg => rfl); (case hr => first | (go_simp; done) | (go_simp; rfl)); (case hp => exact (Reps.none _ _))
                intro v153 wa ho_ hb hg_ hnew_
                clear hg_ hnew_
                have n1_ := Aside0.mk (Kd.R_lower ho_ (below_size (by repeat (first | (with_reducible first | exact HB.out | apply below_alloc | apply pw_below_drewN | apply below_drew1) | exact HB.out))))
                have n2_ := Aside0.mk (below_step (by repeat (first | (with_reducible first | exact HB.out | apply below_alloc | apply pw_below_drewN | apply below_drew1) | exact HB.out)) hb)
                clear HB
                have HO154 := n1_
                have HB := n2_
                clear n1_ n2_
                clear hb ho_
                refine hK.out _ _ (HS13.out _ HB.out) (fun hHeld => ?_)
                clear hK K
                refine norm_ (a' := ?_) ?_ ?_
                rotate_left
                · show Act.put _ (some 81) _ = _
                  simp only [Act.put, List.setIfInBounds_toArray, List.set_cons_zero, List.set_cons_succ, i64_w, i32_w]
                  rfl
                refine two_ (i := 3) (j := 5) (Ni := some 83) (Nj := some 85) #[true, true, true, true, true, false, false, true, true, true, true, true, true, true, true, true, false, false, false] #[true, true, true, false, true, true, false, true, true, true, true, true, true, true, true, true, false, false, false] rfl rfl rfl rfl (by kernel_rfl) (by decide) (by decide) (fun K hK => ?_) (fun K hK => ?_)
                · skip
                  refine Kd.R_append_rows_step (Kd.int .i64) (w0 := w13) w13.heap.size (by rfl) (.tmp 81) (.tmp 82) 37 2 (.int .i64 0) 8 rfl Try.underlying37 info2 rfl (by decide) (by omega) v153 [] o _ _ _ (fun _ => True) (fun _ => False) rfl rfl ?aO ?aR (fun _ _ h => h) (fun _ h => h.elim) ?aF ?aB ?aS ?aL ?_
                  (case aR => exact (Kd.R_reads' (HRB _ (by repeat (first | (with_reducible first | exact HB.out | apply below_alloc | apply pw_below_drewN | apply below_drew1) | exact HB.out)))).2.2)
                  (case aB => exact (by repeat (first | (with_reducible first | exact HB.out | apply below_alloc | apply pw_below_drewN | apply below_drew1) | exact HB.out)))
                  (case aF => exact (fun _ _ => trivial))
                  (case aO => exact (by (with_reducible repeat (first | apply Kd.R_alloc | apply Kd.R_drewN | apply Kd.R_drew)); exact HO154.out))
                  (case aS => exact (below_size (by repeat (first | (with_reducible first | exact HB.out | apply below_alloc | apply pw_below_drewN | apply below_drew1) | exact HB.out))))
                  (case aL => have := HL1.out; simp only [List.length_nil]; omega)
                  intro v156 w_ ho hb hg hat
                  have n2_ := Aside0.mk (hb)
                  have n3_ := Aside0.mk (show Kd.R (Kd.int .i64) 2 w_ w13.heap.size _ v156 o from ho)
                  clear HB HO154
                  have HB := n2_
                  have HO157 := n3_
                  clear n2_ n3_
                  clear ho hb hg hat
                  refine hK.out _ _ (HS13.out _ HB.out) (fun hHeld => ?_)
                  clear hK K
                  refine norm_ (a' := ?_) ?_ ?_
                  rotate_left
                  · show Act.put _ (some 83) _ = _
                    simp only [Act.put, List.setIfInBounds_toArray, List.set_cons_zero, List.set_cons_succ, i64_w, i32_w]
                    rfl
                  refine one_ (i := 5) (N := some 85) #[true, true, true, true, true, true, false, true, true, true, true, true, true, true, true, true, false, false, false] rfl rfl (by kernel_rfl) (by decide) (fun K hK => ?_)
                  refine Kd.R_lit_step (Kd.int .i64) _ 2 ?hg (N := 85) ?hd (xs := ([(kk : Int)] : List Int)) (inner := [.int .i64 (kk : Int)]) (ok := fun _ => True) (okp := fun _ => True) ?hr ?hp (fun _ hk => hk) trivial (Below.refl _ _) (Nat.le_refl _) (by simp) ?_; (case hd => rfl); (case hg => rfl); (case hr => first | (go_simp; done) | (go_simp; rfl)); (case hp => exact (Reps.one (show Kd.M (Kd.int .i64) _ _ _ (kk : Int) [.int .i64 (kk : Int)] from rfl) (Reps.none _ _)))
                  intro v159 wb ho_ hb hg_ hnew_
                  clear hg_ hnew_
                  have n0_ := Aside0.mk (Kd.R_elder' (by (with_reducible repeat (first | apply Kd.R_alloc | apply Kd.R_drewN | apply Kd.R_drew)); exact HO157.out) (Kd.R_base ho_) hb)
                  have n1_ := Aside0.mk (Kd.R_lower (Kd.R_new' ho_ (Kd.R_lt (by (with_reducible repeat (first | apply Kd.R_alloc | apply Kd.R_drewN | apply Kd.R_drew)); exact HO157.out))) (below_size (by repeat (first | (with_reducible first | exact HB.out | apply below_alloc | apply pw_below_drewN | apply below_drew1) | exact HB.out))))
                  have n2_ := Aside0.mk (below_step (by repeat (first | (with_reducible first | exact HB.out | apply below_alloc | apply pw_below_drewN | apply below_drew1) | exact HB.out)) hb)
                  clear HB
                  clear HO157
                  have HO157 := n0_
                  clear n0_
                  have HO160 := n1_
                  have HB := n2_
                  clear n1_ n2_
                  clear hb ho_
                  refine hK.out _ _ (HS13.out _ HB.out) (fun hHeld => ?_)
                  clear hK K
                  refine norm_ (a' := ?_) ?_ ?_
                  rotate_left
                  · show Act.put _ (some 85) _ = _
                    simp only [Act.put, List.setIfInBounds_toArray, List.set_cons_zero, List.set_cons_succ, i64_w, i32_w]
                    rfl
                  exact norm_ (by simp only [putAll, Act.put, List.setIfInBounds_toArray, List.set_cons_zero, List.set_cons_succ]) (hCont (v153, v156, v159) _ ⟨(by (with_reducible repeat (first | apply Kd.R_alloc | apply Kd.R_drewN | apply Kd.R_drew)); exact Kd.R_mono HO157.out (fun _ hk => hk.2)), (by (with_reducible repeat (first | apply Kd.R_alloc | apply Kd.R_drewN | apply Kd.R_drew)); exact Kd.R_mono HO160.out (fun _ hk => hk.2)), (by repeat (first | (with_reducible first | exact HB.out | apply below_alloc | apply pw_below_drewN | apply below_drew1) | exact HB.out))⟩)
                · skip
                  refine Kd.R_lit_step (Kd.int .i64) _ 2 ?hg (N := 85) ?hd (xs := ([(kk : Int)] : List Int)) (inner := [.int .i64 (kk : Int)]) (ok := fun _ => True) (okp := fun _ => True) ?hr ?hp (fun _ hk => hk) trivial (Below.refl _ _) (Nat.le_refl _) (by simp) ?_; (case hd => rfl); (case hg => rfl); (case hr => first | (go_simp; done) | (go_simp; rfl)); (case hp => exact (Reps.one (show Kd.M (Kd.int .i64) _ _ _ (kk : Int) [.int .i64 (kk : Int)] from rfl) (Reps.none _ _)))
                  intro v159 wb ho_ hb hg_ hnew_
                  clear hg_ hnew_
                  have n0_ := Aside0.mk (Kd.R_elder' (by (with_reducible repeat (first | apply Kd.R_alloc | apply Kd.R_drewN | apply Kd.R_drew)); exact HO154.out) (Kd.R_base ho_) hb)
                  have n1_ := Aside0.mk (Kd.R_lower (Kd.R_new' ho_ (Kd.R_lt (by (with_reducible repeat (first | apply Kd.R_alloc | apply Kd.R_drewN | apply Kd.R_drew)); exact HO154.out))) (below_size (by repeat (first | (with_reducible first | exact HB.out | apply below_alloc | apply pw_below_drewN | apply below_drew1) | exact HB.out))))
                  have n2_ := Aside0.mk (below_step (by repeat (first | (with_reducible first | exact HB.out | apply below_alloc | apply pw_below_drewN | apply below_drew1) | exact HB.out)) hb)
                  clear HB
                  clear HO154
                  have HO154 := n0_
                  clear n0_
                  have HO160 := n1_
                  have HB := n2_
                  clear n1_ n2_
                  clear hb ho_
                  refine hK.out _ _ (HS13.out _ HB.out) (fun hHeld => ?_)
                  clear hK K
                  refine norm_ (a' := ?_) ?_ ?_
                  rotate_left
                  · show Act.put _ (some 85) _ = _
                    simp only [Act.put, List.setIfInBounds_toArray, List.set_cons_zero, List.set_cons_succ, i64_w, i32_w]
                    rfl
                  refine one_ (i := 3) (N := some 83) #[true, true, true, true, true, true, false, true, true, true, true, true, true, true, true, true, false, false, false] rfl rfl (by kernel_rfl) (by decide) (fun K hK => ?_)
                  refine Kd.R_append_rows_step (Kd.int .i64) (w0 := w13) w13.heap.size (by rfl) (.tmp 81) (.tmp 82) 37 2 (.int .i64 0) 8 rfl Try.underlying37 info2 rfl (by decide) (by omega) v153 [] o _ _ _ (fun k_ => some k_ ≠ (v159 : Value).ownBlock) (fun _ => False) rfl rfl ?aO ?aR (fun _ _ h => h) (fun _ h => h.elim) ?aF ?aB ?aS ?aL ?_
                  (case aR => exact (Kd.R_reads' (HRB _ (by repeat (first | (with_reducible first | exact HB.out | apply below_alloc | apply pw_below_drewN | apply below_drew1) | exact HB.out)))).2.2)
                  (case aB => exact (by repeat (first | (with_reducible first | exact HB.out | apply below_alloc | apply pw_below_drewN | apply below_drew1) | exact HB.out)))
                  (case aF => exact (fun k_ hk => Kd.fresh' (Kd.R_lt (by (with_reducible repeat (first | apply Kd.R_alloc | apply Kd.R_drewN | apply Kd.R_drew)); exact HO160.out)) k_ hk))
                  (case aO => exact (by (with_reducible repeat (first | apply Kd.R_alloc | apply Kd.R_drewN | apply Kd.R_drew)); exact Kd.R_mono HO154.out (fun _ hk => hk.2)))
                  (case aS => exact (below_size (by repeat (first | (with_reducible first | exact HB.out | apply below_alloc | apply pw_below_drewN | apply below_drew1) | exact HB.out))))
                  (case aL => have := HL1.out; simp only [List.length_nil]; omega)
                  intro v156 w_ ho hb hg hat
                  have n1_ := Aside0.mk (Kd.R_after (ok := (fun _ => True)) (by (with_reducible repeat (first | apply Kd.R_alloc | apply Kd.R_drewN | apply Kd.R_drew)); exact HO160.out) hg hat)
                  have n2_ := Aside0.mk (hb)
                  have n3_ := Aside0.mk (show Kd.R (Kd.int .i64) 2 w_ w13.heap.size _ v156 o from ho)
                  clear HB HO154
                  clear HO160
                  have HO160 := n1_
                  clear n1_
                  have HB := n2_
                  have HO157 := n3_
                  clear n2_ n3_
                  clear ho hb hg hat
                  refine hK.out _ _ (HS13.out _ HB.out) (fun hHeld => ?_)
                  clear hK K
                  refine norm_ (a' := ?_) ?_ ?_
                  rotate_left
                  · show Act.put _ (some 83) _ = _
                    simp only [Act.put, List.setIfInBounds_toArray, List.set_cons_zero, List.set_cons_succ, i64_w, i32_w]
                    rfl
                  exact norm_ (by simp only [putAll, Act.put, List.setIfInBounds_toArray, List.set_cons_zero, List.set_cons_succ]) (hCont (v153, v156, v159) _ ⟨(by (with_reducible repeat (first | apply Kd.R_alloc | apply Kd.R_drewN | apply Kd.R_drew)); exact HO157.out), (by (with_reducible repeat (first | apply Kd.R_alloc | apply Kd.R_drewN | apply Kd.R_drew)); exact Kd.R_mono HO160.out (fun _ hk => hk.2)), (by repeat (first | (with_reducible first | exact HB.out | apply below_alloc | apply pw_below_drewN | apply below_drew1) | exact HB.out))⟩)
              · skip
                refine Kd.R_lit_step (Kd.int .i64) _ 2 ?hg (N := 85) ?hd (xs := ([(kk : Int)] : List Int)) (inner := [.int .i64 (kk : Int)]) (ok := fun _ => True) (okp := fun _ => True) ?hr ?hp (fun _ hk => hk) trivial (Below.refl _ _) (Nat.le_refl _) (by simp) ?_; (case hd => rfl); (case hg => rfl); (case hr => first | (go_simp; done) | (go_simp; rfl)); (case hp => exact (Reps.one (show Kd.M (Kd.int .i64) _ _ _ (kk : Int) [.int .i64 (kk : Int)] from rfl) (Reps.none _ _)))
                intro v159 wa ho_ hb hg_ hnew_
                clear hg_ hnew_
                have n1_ := Aside0.mk (Kd.R_lower ho_ (below_size (by repeat (first | (with_reducible first | exact HB.out | apply below_alloc | apply pw_below_drewN | apply below_drew1) | exact HB.out))))
                have n2_ := Aside0.mk (below_step (by repeat (first | (with_reducible first | exact HB.out | apply below_alloc | apply pw_below_drewN | apply below_drew1) | exact HB.out)) hb)
                clear HB
                have HO160 := n1_
                have HB := n2_
                clear n1_ n2_
                clear hb ho_
                refine hK.out _ _ (HS13.out _ HB.out) (fun hHeld => ?_)
                clear hK K
                refine norm_ (a' := ?_) ?_ ?_
                rotate_left
                · show Act.put _ (some 85) _ = _
                  simp only [Act.put, List.setIfInBounds_toArray, List.set_cons_zero, List.set_cons_succ, i64_w, i32_w]
                  rfl
                refine one_ (i := 1) (N := some 81) #[true, true, true, false, true, true, false, true, true, true, true, true, true, true, true, true, false, false, false] rfl rfl (by kernel_rfl) (by decide) (fun K hK => ?_)
                refine Kd.R_lit_step (Kd.int .i64) _ 2 ?hg (N := 81) ?hd (xs := ([] : List Int)) (inner := []) (ok := fun _ => True) (okp := fun _ => True) ?hr ?hp (fun _ hk => hk) trivial (Below.refl _ _) (Nat.le_refl _) (by simp) ?_; (case hd => rfl); (case hg => rfl); (case hr => first | (go_simp; done) | (go_simp; rfl)); (case hp => exact (Reps.none _ _))
                intro v153 wb ho_ hb hg_ hnew_
                clear hg_ hnew_
                have n0_ := Aside0.mk (Kd.R_elder' (by (with_reducible repeat (first | apply Kd.R_alloc | apply Kd.R_drewN | apply Kd.R_drew)); exact HO160.out) (Kd.R_base ho_) hb)
                have n1_ := Aside0.mk (Kd.R_lower (Kd.R_new' ho_ (Kd.R_lt (by (with_reducible repeat (first | apply Kd.R_alloc | apply Kd.R_drewN | apply Kd.R_drew)); exact HO160.out))) (below_size (by repeat (first | (with_reducible first | exact HB.out | apply below_alloc | apply pw_below_drewN | apply below_drew1) | exact HB.out))))
                have n2_ := Aside0.mk (below_step (by repeat (first | (with_reducible first | exact HB.out | apply below_alloc | apply pw_below_drewN | apply below_drew1) | exact HB.out)) hb)
                clear HB
                clear HO160
                have HO160 := n0_
                clear n0_
                have HO154 := n1_
                have HB := n2_
                clear n1_ n2_
                clear hb ho_
                refine hK.out _ _ (HS13.out _ HB.out) (fun hHeld => ?_)
                clear hK K
                refine norm_ (a' := ?_) ?_ ?_
                rotate_left
                · show Act.put _ (some 81) _ = _
                  simp only [Act.put, List.setIfInBounds_toArray, List.set_cons_zero, List.set_cons_succ, i64_w, i32_w]
                  rfl
                refine one_ (i := 3) (N := some 83) #[true, true, true, true, true, true, false, true, true, true, true, true, true, true, true, true, false, false, false] rfl rfl (by kernel_rfl) (by decide) (fun K hK => ?_)
                refine Kd.R_append_rows_step (Kd.int .i64) (w0 := w13) w13.heap.size (by rfl) (.tmp 81) (.tmp 82) 37 2 (.int .i64 0) 8 rfl Try.underlying37 info2 rfl (by decide) (by omega) v153 [] o _ _ _ (fun k_ => some k_ ≠ (v159 : Value).ownBlock) (fun _ => False) rfl rfl ?aO ?aR (fun _ _ h => h) (fun _ h => h.elim) ?aF ?aB ?aS ?aL ?_
                (case aR => exact (Kd.R_reads' (HRB _ (by repeat (first | (with_reducible first | exact HB.out | apply below_alloc | apply pw_below_drewN | apply below_drew1) | exact HB.out)))).2.2)
                (case aB => exact (by repeat (first | (with_reducible first | exact HB.out | apply below_alloc | apply pw_below_drewN | apply below_drew1) | exact HB.out)))
                (case aF => exact (fun k_ hk => Kd.fresh' (Kd.R_lt (by (with_reducible repeat (first | apply Kd.R_alloc | apply Kd.R_drewN | apply Kd.R_drew)); exact HO160.out)) k_ hk))
                (case aO => exact (by (with_reducible repeat (first | apply Kd.R_alloc | apply Kd.R_drewN | apply Kd.R_drew)); exact Kd.R_mono HO154.out (fun _ hk => hk.2)))
                (case aS => exact (below_size (by repeat (first | (with_reducible first | exact HB.out | apply below_alloc | apply pw_below_drewN | apply below_drew1) | exact HB.out))))
                (case aL => have := HL1.out; simp only [List.length_nil]; omega)
                intro v156 w_ ho hb hg hat
                have n1_ := Aside0.mk (Kd.R_after (ok := (fun _ => True)) (by (with_reducible repeat (first | apply Kd.R_alloc | apply Kd.R_drewN | apply Kd.R_drew)); exact HO160.out) hg hat)
                have n2_ := Aside0.mk (hb)
                have n3_ := Aside0.mk (show Kd.R (Kd.int .i64) 2 w_ w13.heap.size _ v156 o from ho)
                clear HB HO154
                clear HO160
                have HO160 := n1_
                clear n1_
                have HB := n2_
                have HO157 := n3_
                clear n2_ n3_
                clear ho hb hg hat
                refine hK.out _ _ (HS13.out _ HB.out) (fun hHeld => ?_)
                clear hK K
                refine norm_ (a' := ?_) ?_ ?_
                rotate_left
                · show Act.put _ (some 83) _ = _
                  simp only [Act.put, List.setIfInBounds_toArray, List.set_cons_zero, List.set_cons_succ, i64_w, i32_w]
                  rfl
                exact norm_ (by simp only [putAll, Act.put, List.setIfInBounds_toArray, List.set_cons_zero, List.set_cons_succ]) (hCont (v153, v156, v159) _ ⟨(by (with_reducible repeat (first | apply Kd.R_alloc | apply Kd.R_drewN | apply Kd.R_drew)); exact HO157.out), (by (with_reducible repeat (first | apply Kd.R_alloc | apply Kd.R_drewN | apply Kd.R_drew)); exact Kd.R_mono HO160.out (fun _ hk => hk.2)), (by repeat (first | (with_reducible first | exact HB.out | apply below_alloc | apply pw_below_drewN | apply below_drew1) | exact HB.out))⟩)
            rintro ⟨v153, v156, v159⟩ w42 ⟨h0_, h1_, h2_⟩
            clear HB
            have HO157 := Aside0.mk h0_
            have HO160 := Aside0.mk h1_
            have HB := Aside0.mk h2_
            clear h0_ h1_ h2_
            have hHeld := HS13.out _ HB.out
            obtain ⟨Ao44, co44, eo44⟩ := Kd.R_slice HO160.out
            (first | subst eo44 | (injection eo44 with f1_ f2_ f3_; have f4_ := f1_.symm; have f5_ := f3_.symm; clear f1_ f2_ f3_; subst f4_; subst f5_))
            refine norm_ (a' := ?_) ?_ ?_
            rotate_left
            · simp only [putAll, Act.put, List.setIfInBounds_toArray, List.set_cons_zero, List.set_cons_succ]
              rfl
            refine one_ (i := 6) (N := some 86) #[true, true, true, true, true, true, true, true, true, true, true, true, true, true, true, true, false, false, false] rfl rfl (by kernel_rfl) (by decide) (fun K hK => ?_)
            refine Kd.R_append_rows_step (Kd.int .i64) (w0 := w13) w13.heap.size (by rfl) (.tmp 83) (.tmp 85) 37 2 (.int .i64 0) 8 rfl Try.underlying37 info2 rfl (by decide) (by omega) v156 o [(kk : Int)] _ _ _ (fun k_ => some k_ ≠ (.slice Ao44 [(kk : Int)].length co44 : Value).ownBlock) (fun _ => False) rfl rfl ?aO ?aR (fun _ _ h => h) (fun _ h => h.elim) ?aF ?aB ?aS ?aL ?_
            (case aR => repeat (first | exact (Kd.R_reads' HO160.out).2.2 | (with_reducible refine Kd.C_alloc ?_ _) | (with_reducible refine Kd.C_drewN ?_ _) | (with_reducible refine Kd.C_drew ?_)))
            (case aB => exact (by repeat (first | (with_reducible first | exact HB.out | apply below_alloc | apply pw_below_drewN | apply below_drew1) | exact HB.out)))
            (case aF => exact (fun k_ hk => Kd.fresh' (Kd.R_lt (by (with_reducible repeat (first | apply Kd.R_alloc | apply Kd.R_drewN | apply Kd.R_drew)); exact HO160.out)) k_ hk))
            (case aO => exact (by (with_reducible repeat (first | apply Kd.R_alloc | apply Kd.R_drewN | apply Kd.R_drew)); exact HO157.out))
            (case aS => exact (below_size (by repeat (first | (with_reducible first | exact HB.out | apply below_alloc | apply pw_below_drewN | apply below_drew1) | exact HB.out))))
            (case aL => have := HL1.out; simp only [List.length_singleton]; omega)
            intro v162 w43 ho hb hg hat
            clear HB HO157 HO160
            have HB := Aside0.mk hb
            have HO163 := Aside0.mk (Kd.R_mono ho (fun _ _ => trivial) : Kd.R (Kd.int .i64) 2 w43 w13.heap.size (fun _ => True) v162 (o ++ [(kk : Int)]))
            clear ho hb hg hat
            refine hK.out _ _ (HS13.out _ HB.out) (fun hHeld => ?_)
            clear hK K
            refine norm_ (a' := ?_) ?_ ?_
            rotate_left
            · show Act.put _ (some 86) _ = _
              simp only [Act.put, List.setIfInBounds_toArray, List.set_cons_zero, List.set_cons_succ, i64_w, i32_w]
              rfl
            refine one_ (i := 16) (N := some 96) #[true, true, true, true, true, true, true, true, true, true, true, true, true, true, true, true, true, false, false] rfl rfl (by kernel_rfl) (by decide) (fun K hK => ?_)
            refine goes_ Try.func130 (by kernel_rfl) rfl #[.pointer (some ⟨g, 0, none⟩), .agg #[.int .i8 P.f0, .int .i8 P.f1, .int .i16 P.f2], .int .i64 now, .int .i64 nx] (by rfl) rfl rfl (by (try simp only [List.map_toArray, List.map_cons, List.map_nil]); first | done | rfl | (simp only [List.length_drop, List.length_take]; rfl)) ?_
            have E4 := E3.out.below HB.out
            refine (cost_calls g what P.f0 P.f1 P.f2 now nx _ E4.lt ((blk_cell E4.blk 3).trans rfl) HWH.out).mono ?_
            rintro e w45 ⟨rfl, hb⟩
            clear E4
            refine ⟨_, rfl, ?_⟩
            have n0_ := Aside0.mk (Kd.R_below HO163.out hb)
            have n1_ := Aside0.mk (below_step (by repeat (first | (with_reducible first | exact HB.out | apply below_alloc | apply pw_below_drewN | apply below_drew1) | exact HB.out)) hb)
            clear HO163 HB
            have HO163 := n0_
            have HB := n1_
            clear n0_ n1_ hb
            obtain ⟨Ao46, co46, eo46⟩ := Kd.R_slice HO163.out
            (first | subst eo46 | (injection eo46 with f1_ f2_ f3_; have f4_ := f1_.symm; have f5_ := f3_.symm; clear f1_ f2_ f3_; subst f4_; subst f5_))
            refine hK.out _ _ (HS13.out _ HB.out) (fun hHeld => ?_)
            clear hK K
            refine norm_ (a' := ?_) ?_ ?_
            rotate_left
            · show Act.put _ (some 96) _ = _
              simp only [Act.put, List.setIfInBounds_toArray, List.set_cons_zero, List.set_cons_succ, i64_w, i32_w]
              rfl
            refine pure_ (i := 17) (N := some 97) (v := ?_) (a' := ?_) #[true, true, true, true, true, true, true, true, true, true, true, true, true, true, true, true, true, true, false] rfl rfl (by kernel_rfl) (fun _ _ _ h => h) (Or.inl ⟨by rfl, ?_⟩) ?_ ?_
            rotate_left
            · intro w'
              go_simp
              with_reducible rfl
            rotate_left
            · simp only [Act.put, List.setIfInBounds_toArray, List.set_cons_zero, List.set_cons_succ, i64_w, i32_w]
              rfl
            refine last_ (i := 18) (N := some 98) #[true, true, true, true, true, true, true, true, true, true, true, true, true, true, true, true, true, true, true] rfl rfl (by kernel_rfl) (by decide) (fun K hK => ?_)
            refine goes_ Try.func121 (by kernel_rfl) rfl #[.pointer (some ⟨g, 0, none⟩), .slice Ao46 (o ++ [(kk : Int)]).length co46, .int .i64 (wrap64 P.f0), .int .i64 nx, .int .i64 (wrap64 (s + costF what P.f2 now nx))] (by rfl) rfl rfl (by (try simp only [List.map_toArray, List.map_cons, List.map_nil]); first | done | rfl | (simp only [List.length_drop, List.length_take]; rfl)) ?_
            refine (IH.out (.slice Ao46 (o ++ [(kk : Int)]).length co46) (o ++ [(kk : Int)]) (wrap64 P.f0) nx (wrap64 (s + costF what P.f2 now nx)) w45 bv1 (afterGo x y l what d o lv now s st kk) (by have := HL.out; rw [List.length_append, List.length_singleton]; omega) HLV.out (E3.out.below HB.out) (Kd.R_lower HO163.out (by have := E3.out.lt; omega)) (B3.out.trans (HB.out.mono (by have := E3.out.lt; omega)))).mono ?_
            rintro e w47 ⟨rfl, bv2, hE2, hB2, hM2⟩
            refine ⟨_, rfl, ?_⟩
            refine hK.out _ _ ?_
            clear hK K
            have EE := Aside0.mk hE2
            have BB := Aside0.mk hB2
            have MM := Aside0.mk ((M3.out.trans (Mid.of_below HB.out)).trans hM2)
            clear hE2 hB2 hM2
            refine norm_ (a' := ?_) ?_ ?_
            rotate_left
            · show Act.put _ (some 98) _ = _
              simp only [Act.put, List.setIfInBounds_toArray, List.set_cons_zero, List.set_cons_succ, i64_w, i32_w]
              rfl
            refine done_ (by kernel_rfl) ?_
            try go_wp2
            go_roundg (l.length - (kk + 1))
            case measure => omega
            case rel => exact ⟨kk + 1, bv2, by omega, by omega, by go_num, ⟨by rw [afterGo_succ, if_neg (by rw [HCQ.out]; decide), HNX.out, HP.out]; exact EE.out⟩, BB, MM⟩
        · have hltz : ¬ (kk : Int) < (l.length : Int) := by omega
          obtain rfl : kk = l.length := by omega
          go_wp2
          first | go_end0 | ((try simp only [Exit.inBlock, Exit.then]); refine bodyPost_ret (results_none rfl _ _ _) rfl ?_)
          first | exact ⟨rfl, bv1, E1.out, B1.out, M1.out⟩ | exact ⟨rfl, ⟨bv1, E1.out⟩, B1.out, M1.out⟩
    · have hs_ := hs
      have hb_ := hE.blk
      rw [hf] at hb_
      have k0 : W.cell? ⟨g, 0, none⟩ = some (.int .i8 x) := blk_cell hb_ 0
      have k1 : W.cell? ⟨g, 1, none⟩ = some (.int .i8 y) := blk_cell hb_ 1
      have k2 : W.cell? ⟨g, 2, none⟩ = some (.slice A2 l.length c2) := blk_cell hb_ 2
      have k5 : W.cell? ⟨g, 5, none⟩ = some (.int .i64 st.low) := blk_cell hb_ 5
      have k6 : W.cell? ⟨g, 6, none⟩ = some (.bool true) := blk_cell hb_ 6
      clear hb_
      have hlz : ((o.length : Int) == (l.length : Int)) = false := beq_eq_false_iff_ne.mpr (by omega)
      have HL1 := Aside0.mk (show o.length ≤ 1000 by omega)
      have HE := Aside0.mk hE
      obtain ⟨A, c, rfl⟩ := Kd.R_slice hR
      have HR := Aside0.mk hR
      have HB0 := Aside0.mk hB
      have HL := Aside0.mk ho
      have HLV0 := Aside0.mk hlv
      have HCP := Aside0.mk (Kd.R_reads' hR).2.1
      clear hE hR hB ho hlv hf
      go_enter Try.func121, Try.ntmps121
      go_wp2
      go_loopg [10] l.length (fun gg v10 wr => ∃ (kk : Nat) (bv1 : Value), kk ≤ l.length ∧ l.length - kk ≤ gg ∧ v10 = .int .i64 kk ∧ Aside0 (Srch g x y A2 c2 l what wr bv1 (afterGo x y l what d o lv now s st kk)) ∧ Aside0 (Below g w0 wr) ∧ Aside0 (Mid (g + 1) W wr))
      case atStart => exact ⟨0, bv, Nat.zero_le _, by omega, rfl, HE, HB0, ⟨Mid.refl _ _⟩⟩
      case round =>
        clear k0 k1 k2 k5 k6 HB0 HE
        obtain ⟨kk, bv1, hkk, hg, rfl, E1, B1, M1⟩ := hrel
        have R1 := Aside0.mk (R_mid HR.out M1.out)
        clear HR
        have k0 : wr.cell? ⟨g, 0, none⟩ = some (.int .i8 x) := blk_cell E1.out.blk 0
        have k1 : wr.cell? ⟨g, 1, none⟩ = some (.int .i8 y) := blk_cell E1.out.blk 1
        have k2 : wr.cell? ⟨g, 2, none⟩ = some (.slice A2 l.length c2) := blk_cell E1.out.blk 2
        by_cases hlt : kk < l.length
        · have hltz : (kk : Int) < (l.length : Int) := by omega
          obtain ⟨kc, hkc⟩ := Ev.get (has_ev o (kk : Int) (by have := HL1.out; omega))
          have CON := Aside0.mk (spec_l00Has.calls kc A c o (kk : Int) (o.contains (kk : Int)) wr (Kd.R_reads' R1.out).2.2 HCP.out hkc)
          clear hkc
          cases hcq : o.contains (kk : Int) with
          | true =>
            rw [hcq] at CON
            have HCQ := Aside0.mk hcq
            clear hcq
            go_wp2_with (go_at_call 77; refine CON.out.mono ?_; rintro e w2 ⟨rfl, hd⟩; have hb2 : Below wr.heap.size wr w2 := (by first | exact hd | exact hd.below); clear hd; have E2 := Aside0.mk (E1.out.below hb2); have B2 := Aside0.mk (B1.out.trans (hb2.mono (by have := E1.out.lt; omega))); have M2 := Aside0.mk (M1.out.trans (Mid.of_below hb2)); clear hb2)
            go_roundg (l.length - (kk + 1))
            case measure => omega
            case rel => exact ⟨kk + 1, bv1, by omega, by omega, by go_num, ⟨by rw [afterGo_succ, if_pos HCQ.out]; exact E2.out⟩, B2, M2⟩
          | false =>
            rw [hcq] at CON
            have HCQ := Aside0.mk hcq
            clear hcq
            have hu57 := Try.underlying57
            obtain ⟨P, hP⟩ : ∃ P, rd_T57 l (kk : Int) = P := ⟨_, rfl⟩
            obtain ⟨nx, hnx⟩ : ∃ nx, nextOf x y l lv now kk = nx := ⟨_, rfl⟩
            have fine := piece_at l HF.out (kk : Int) (by omega) hltz
            rw [hP] at fine
            have hch := specChange_f x y lv P.f0 HX.out HY.out HLV0.out ⟨by have := fine.2.2.2.1; omega, fine.2.2.2.2.1⟩
            have e0 : wrap64 P.f0 = P.f0 := fine.1
            have hnx' := hnx
            unfold nextOf at hnx'
            rw [hP, e0] at hnx'
            generalize ht : chg x y lv P.f0 = t at hch hnx'
            have HCH := Aside0.mk (show ∀ w, Calls Try.prog 67 #[.agg #[.int .i8 x, .int .i8 y], .int .i64 lv, .int .i64 (wrap64 P.f0)] w _ from fun w => change_calls x y lv (wrap64 P.f0) t w (by rw [e0]; exact hch))
            have HP := Aside0.mk hP
            have HNX := Aside0.mk hnx
            have HNX2 := Aside0.mk hnx'
            have HLV := Aside0.mk (show 0 ≤ wrap64 P.f0 ∧ wrap64 P.f0 ≤ 3 by rw [e0]; exact ⟨by have := fine.2.2.2.1; omega, fine.2.2.2.2.1⟩)
            have PAT := Aside0.mk (show ∀ w', Below wr.heap.size wr w' → ∃ ad, A2 = some ad ∧ w'.cell? (ad.add (kk * 3)) = some (.int .i8 P.f0) ∧ w'.cell? ⟨(ad.add (kk * 3)).block, (ad.add (kk * 3)).off + 1, none⟩ = some (.int .i8 P.f1) ∧ w'.cell? ⟨(ad.add (kk * 3)).block, (ad.add (kk * 3)).off + 2, none⟩ = some (.int .i16 P.f2) from fun w' hb => by
              have := at_T57 (Kd.C_below E1.out.rd hb) (kk : Int) (by omega) hltz
              rw [Int.toNat_natCast, hP] at this
              exact this)
            clear hP hnx hnx' ht hch e0 fine
            obtain ⟨ad, ea, _⟩ := PAT.out wr (Below.refl _ _)
            subst ea
            go_wp2_with (go_at_call 77; refine CON.out.mono ?_; rintro e w2 ⟨rfl, hd⟩; have hb2 : Below wr.heap.size wr w2 := (by first | exact hd | exact hd.below); clear hd; have E2 := Aside0.mk (E1.out.below hb2); have B2 := Aside0.mk (B1.out.trans (hb2.mono (by have := E1.out.lt; omega))); have M2 := Aside0.mk (M1.out.trans (Mid.of_below hb2)); have R2 := Aside0.mk (Kd.R_below R1.out hb2); obtain ⟨ad2, ea2, y0, y1, y2⟩ := PAT.out w2 hb2; cases ea2; have j0 : w2.cell? ⟨g, 0, none⟩ = some (.int .i8 x) := blk_cell E2.out.blk 0; have j1 : w2.cell? ⟨g, 1, none⟩ = some (.int .i8 y) := blk_cell E2.out.blk 1; have j2 : w2.cell? ⟨g, 2, none⟩ = some (.slice (some ad) l.length c2) := blk_cell E2.out.blk 2; clear hb2 k0 k1 k2)
            have PB4 : ∀ j u, (#[Value.int .i8 P.f0, .int .i8 P.f1, .int .i16 P.f2] : Array Value)[j]? = some u → (w2.alloc (.cells #[.int .i8 P.f0, .int .i8 P.f1, .int .i16 P.f2] 57)).cell? ⟨w2.heap.size, j, none⟩ = some u := fun j u hu => (blk_cell (World.alloc_heap_new w2 (.cells #[.int .i8 P.f0, .int .i8 P.f1, .int .i16 P.f2] 57)) j).trans hu
            have hb4 : Below w2.heap.size w2 (w2.alloc (.cells #[.int .i8 P.f0, .int .i8 P.f1, .int .i16 P.f2] 57)) := (Below.refl _ w2).alloc (Nat.le_refl _) _
            have PL4 : w2.heap.size < (w2.alloc (.cells #[.int .i8 P.f0, .int .i8 P.f1, .int .i16 P.f2] 57)).heap.size := by simp
            have E4 := Aside0.mk (E2.out.below hb4)
            have B4 := Aside0.mk (B2.out.trans (hb4.mono (by have := E2.out.lt; omega)))
            have M4 := Aside0.mk (M2.out.trans (Mid.of_below hb4))
            have R4 := Aside0.mk (Kd.R_below R2.out hb4)
            clear hb4 j0 j1 j2 y0 y1 y2 E2 B2 M2 R2
            obtain ⟨gp, hgp⟩ : ∃ gp, w2.heap.size = gp := ⟨_, rfl⟩
            rw [hgp] at PB4 PL4
            simp only [hgp]
            generalize w2.alloc (.cells #[.int .i8 P.f0, .int .i8 P.f1, .int .i16 P.f2] 57) = w4 at PB4 PL4 E4 B4 M4 R4 ⊢
            clear hgp
            have mixed : Try.prog.follows .mixedOrders = true := by kernel_rfl
            have PL := Aside0.mk PL4
            have PB := Aside0.mk PB4
            have u0 : ∀ n os, (grow (w4.drewN n) os).cell? ⟨gp, 0, none⟩ = some (.int .i8 P.f0) := fun n os => cell_grown PL4 (PB4 0 _ rfl) n os
            have u1 : ∀ n os, (grow (w4.drewN n) os).cell? ⟨gp, 1, none⟩ = some (.int .i8 P.f1) := fun n os => cell_grown PL4 (PB4 1 _ rfl) n os
            have v0 : ∀ n os, (grow (w4.drewN n) os).cell? ⟨g, 0, none⟩ = some (.int .i8 x) := fun n os => cell_grown E4.out.lt (blk_cell E4.out.blk 0) n os
            have v1 : ∀ n os, (grow (w4.drewN n) os).cell? ⟨g, 1, none⟩ = some (.int .i8 y) := fun n os => cell_grown E4.out.lt (blk_cell E4.out.blk 1) n os
            have hiw : ∀ z : Int, IntKind.i64.wrap z = wrap64 z := i64_w
            have hnx2 := HNX2.out
            clear PL4 PB4
            have e67 : ∀ args w, (callFunc 67 args).run Try.prog w = .ok (.enter 67 args) w := enters_of Try.func67 (by kernel_rfl) rfl
            go_quiet_grown (first | (go_at_fn 67; refine Calls.grown_of (HCH.out _)))
            have hb5 := below_drew1 (below_grow w4 nq osq)
            have E3 := Aside0.mk (E4.out.below hb5)
            have B3 := Aside0.mk (B4.out.trans (hb5.mono (by have := E4.out.lt; omega)))
            have M3 := Aside0.mk (M4.out.trans (Mid.of_below hb5))
            have R3 := Aside0.mk (Kd.R_below R4.out hb5)
            have PL3 := Aside0.mk (Nat.lt_of_lt_of_le PL.out hb5.size)
            have PB3 := Aside0.mk (show (grow (w4.drewN nq) osq).drew.cell? ⟨gp, 0, none⟩ = some (.int .i8 P.f0) ∧ (grow (w4.drewN nq) osq).drew.cell? ⟨gp, 1, none⟩ = some (.int .i8 P.f1) ∧ (grow (w4.drewN nq) osq).drew.cell? ⟨gp, 2, none⟩ = some (.int .i16 P.f2) from ⟨(hb5.cell (p := ⟨gp, 0, none⟩) PL.out).trans (PB.out 0 _ rfl), (hb5.cell (p := ⟨gp, 1, none⟩) PL.out).trans (PB.out 1 _ rfl), (hb5.cell (p := ⟨gp, 2, none⟩) PL.out).trans (PB.out 2 _ rfl)⟩)
            clear e67 hiw hb5 u0 u1 v0 v1 E4 B4 M4 R4 PL PB hnx2
            generalize grow (w4.drewN nq) osq = w5 at E3 B3 M3 R3 PL3 PB3 ⊢
            go_wp2
            refine start_ (n := 19) (S := fun w' => w'.cell? ⟨gp, 0, none⟩ = some (.int .i8 P.f0) ∧ w'.cell? ⟨gp, 1, none⟩ = some (.int .i8 P.f1) ∧ w'.cell? ⟨gp, 2, none⟩ = some (.int .i16 P.f2)) (ds := [18]) #[false, false, false, false, false, false, false, false, false, false, false, false, false, false, false, false, false, false, false] (by kernel_rfl) rfl rfl PB3.out (fun hHeld => ?_)
            generalize w5.drew = w13 at E3 B3 M3 R3 PB3 PL3 hHeld ⊢
            have HB := Aside0.mk (Below.refl w13.heap.size w13)
            have HS13 := Aside0.mk (show ∀ w', Below w13.heap.size w13 w' → (w'.cell? ⟨gp, 0, none⟩ = some (.int .i8 P.f0) ∧ w'.cell? ⟨gp, 1, none⟩ = some (.int .i8 P.f1) ∧ w'.cell? ⟨gp, 2, none⟩ = some (.int .i16 P.f2)) from fun w' hb => ⟨(hb.cell (p := ⟨gp, 0, none⟩) PL3.out).trans PB3.out.1, (hb.cell (p := ⟨gp, 1, none⟩) PL3.out).trans PB3.out.2.1, (hb.cell (p := ⟨gp, 2, none⟩) PL3.out).trans PB3.out.2.2⟩)
            have HRB : ∀ w', Below w13.heap.size w13 w' → Kd.R (Kd.int .i64) 2 w' (g + 1) (fun _ => True) (.slice A o.length c) o := fun w' hb => Kd.R_below R3.out hb
            refine pure_ (i := 0) (N := some 80) (v := ?_) (a' := ?_) #[true, false, false, false, false, false, false, false, false, false, false, false, false, false, false, false, false, false, false] rfl rfl (by kernel_rfl) (fun _ _ _ h => h) (Or.inl ⟨by rfl, ?_⟩) ?_ ?_
            rotate_left
            · intro w'
              go_simp
              with_reducible rfl
            rotate_left
            · simp only [Act.put, List.setIfInBounds_toArray, List.set_cons_zero, List.set_cons_succ, i64_w, i32_w]
              rfl
            refine pure_ (i := 2) (N := some 82) (v := ?_) (a' := ?_) #[true, false, true, false, false, false, false, false, false, false, false, false, false, false, false, false, false, false, false] rfl rfl (by kernel_rfl) (fun _ _ _ h => h) (Or.inl ⟨by rfl, ?_⟩) ?_ ?_
            rotate_left
            · intro w'
              go_simp
              with_reducible rfl
            rotate_left
            · simp only [Act.put, List.setIfInBounds_toArray, List.set_cons_zero, List.set_cons_succ, i64_w, i32_w]
              rfl
            refine pure_ (i := 4) (N := some 84) (v := ?_) (a' := ?_) #[true, false, true, false, true, false, false, false, false, false, false, false, false, false, false, false, false, false, false] rfl rfl (by kernel_rfl) (fun _ _ _ h => h) (Or.inl ⟨by rfl, ?_⟩) ?_ ?_
            rotate_left
            · intro w'
              go_simp
              with_reducible rfl
            rotate_left
            · simp only [Act.put, List.setIfInBounds_toArray, List.set_cons_zero, List.set_cons_succ, i64_w, i32_w]
              rfl
            refine pure_ (i := 7) (N := some 87) (v := ?_) (a' := ?_) #[true, false, true, false, true, false, false, true, false, false, false, false, false, false, false, false, false, false, false] rfl rfl (by kernel_rfl) (fun _ _ _ h => h) (Or.inl ⟨by rfl, ?_⟩) ?_ ?_
            rotate_left
            · intro w'
              go_simp
              with_reducible rfl
            rotate_left
            · simp only [Act.put, List.setIfInBounds_toArray, List.set_cons_zero, List.set_cons_succ, i64_w, i32_w]
              rfl
            refine pure_ (i := 10) (N := some 90) (v := ?_) (a' := ?_) #[true, false, true, false, true, false, false, true, false, false, true, false, false, false, false, false, false, false, false] rfl rfl (by kernel_rfl) (fun _ _ _ h => h) (Or.inl ⟨by rfl, ?_⟩) ?_ ?_
            rotate_left
            · intro w'
              go_simp
              with_reducible rfl
            rotate_left
            · simp only [Act.put, List.setIfInBounds_toArray, List.set_cons_zero, List.set_cons_succ, i64_w, i32_w]
              rfl
            refine pure_ (i := 11) (N := some 91) (v := ?_) (a' := ?_) #[true, false, true, false, true, false, false, true, false, false, true, true, false, false, false, false, false, false, false] rfl rfl (by kernel_rfl) (fun _ _ _ h => h) (Or.inl ⟨by rfl, ?_⟩) ?_ ?_
            rotate_left
            · intro w'
              go_simp
              with_reducible rfl
            rotate_left
            · simp only [Act.put, List.setIfInBounds_toArray, List.set_cons_zero, List.set_cons_succ, i64_w, i32_w]
              rfl
            refine pure_ (i := 12) (N := some 92) (v := ?_) (a' := ?_) #[true, false, true, false, true, false, false, true, false, false, true, true, true, false, false, false, false, false, false] rfl rfl (by kernel_rfl) (fun _ _ _ h => h) (Or.inl ⟨by rfl, ?_⟩) ?_ ?_
            rotate_left
            · intro w'
              go_simp
              with_reducible rfl
            rotate_left
            · simp only [Act.put, List.setIfInBounds_toArray, List.set_cons_zero, List.set_cons_succ, i64_w, i32_w]
              rfl
            refine pure_ (i := 14) (N := some 94) (v := ?_) (a' := ?_) #[true, false, true, false, true, false, false, true, false, false, true, true, true, false, true, false, false, false, false] rfl rfl (by kernel_rfl) (fun _ _ _ h => h) (Or.inl ⟨by rfl, ?_⟩) ?_ ?_
            rotate_left
            · intro w'
              go_simp
              with_reducible rfl
            rotate_left
            · simp only [Act.put, List.setIfInBounds_toArray, List.set_cons_zero, List.set_cons_succ, i64_w, i32_w]
              rfl
            refine pure_ (i := 15) (N := some 95) (v := ?_) (a' := ?_) #[true, false, true, false, true, false, false, true, false, false, true, true, true, false, true, true, false, false, false] rfl rfl (by kernel_rfl) (fun _ _ _ h => h) (Or.inl ⟨by rfl, ?_⟩) ?_ ?_
            rotate_left
            · intro w'
              go_simp
              with_reducible rfl
            rotate_left
            · simp only [Act.put, List.setIfInBounds_toArray, List.set_cons_zero, List.set_cons_succ, i64_w, i32_w]
              rfl
            refine take_ (i := 8) (N := some 88) (v := ?_) (a' := ?_) #[true, false, true, false, true, false, false, true, true, false, true, true, true, false, true, true, false, false, false] rfl rfl (by kernel_rfl) (fun _ _ _ h => h) (Or.inl ⟨by rfl, ?_⟩) hHeld ?_ ?_
            rotate_left
            · rintro w' ⟨s0, s1, s2⟩
              go_simp
              with_reducible rfl
            rotate_left
            · simp only [Act.put, List.setIfInBounds_toArray, List.set_cons_zero, List.set_cons_succ, i64_w, i32_w]
              rfl
            refine pure_ (i := 9) (N := some 89) (v := ?_) (a' := ?_) #[true, false, true, false, true, false, false, true, true, true, true, true, true, false, true, true, false, false, false] rfl rfl (by kernel_rfl) (fun _ _ _ h => h) (Or.inl ⟨by rfl, ?_⟩) ?_ ?_
            rotate_left
            · intro w'
              go_simp
              with_reducible rfl
            rotate_left
            · simp only [Act.put, List.setIfInBounds_toArray, List.set_cons_zero, List.set_cons_succ, i64_w, i32_w]
              rfl
            refine take_ (i := 13) (N := some 93) (v := ?_) (a' := ?_) #[true, false, true, false, true, false, false, true, true, true, true, true, true, true, true, true, false, false, false] rfl rfl (by kernel_rfl) (fun _ _ _ h => h) (Or.inl ⟨by rfl, ?_⟩) hHeld ?_ ?_
            rotate_left
            · rintro w' ⟨s0, s1, s2⟩
              go_simp
              with_reducible rfl
            rotate_left
            · simp only [Act.put, List.setIfInBounds_toArray, List.set_cons_zero, List.set_cons_succ, i64_w, i32_w]
              rfl
            refine join_ (σ := Value × Value × Value) 4 #[true, true, true, true, true, true, false, true, true, true, true, true, true, true, true, true, false, false, false] (fun s_ => [(81, s_.1), (83, s_.2.1), (85, s_.2.2)]) (fun s_ w' => (Kd.R (Kd.int .i64) 2 w' w13.heap.size (fun k_ => some k_ ≠ (s_.2.2 : Value).ownBlock) s_.2.1 o) ∧ (Kd.R (Kd.int .i64) 2 w' w13.heap.size (fun k_ => some k_ ≠ (s_.2.1 : Value).ownBlock) s_.2.2 [(kk : Int)]) ∧ (Below w13.heap.size w13 w')) ?_ ?_
            rotate_left
            · intro hCont
              refine two_ (i := 1) (j := 5) (Ni := some 81) (Nj := some 85) #[true, true, true, false, true, false, false, true, true, true, true, true, true, true, true, true, false, false, false] #[true, false, true, false, true, true, false, true, true, true, true, true, true, true, true, true, false, false, false] rfl rfl rfl rfl (by kernel_rfl) (by decide) (by decide) (fun K hK => ?_) (fun K hK => ?_)
              · skip
                refine Kd.R_lit_step (Kd.int .i64) _ 2 ?hg (N := 81) ?hd (xs := ([] : List Int)) (inner := []) (ok := fun _ => True) (okp := fun _ => True) ?hr ?hp (fun _ hk => hk) trivial (Below.refl _ _) (Nat.le_refl _) (by simp) ?_; (case hd => rfl); (case hg => rfl); (case hr => first | (go_simp; done) | (go_simp; rfl)); (case hp => exact (Reps.none _ _))
                intro v153 wa ho_ hb hg_ hnew_
                clear hg_ hnew_
                have n1_ := Aside0.mk (Kd.R_lower ho_ (below_size (by repeat (first | (with_reducible first | exact HB.out | apply below_alloc | apply pw_below_drewN | apply below_drew1) | exact HB.out))))
                have n2_ := Aside0.mk (below_step (by repeat (first | (with_reducible first | exact HB.out | apply below_alloc | apply pw_below_drewN | apply below_drew1) | exact HB.out)) hb)
                clear HB
                have HO154 := n1_
                have HB := n2_
                clear n1_ n2_
                clear hb ho_
                refine hK.out _ _ (HS13.out _ HB.out) (fun hHeld => ?_)
                clear hK K
                refine norm_ (a' := ?_) ?_ ?_
                rotate_left
                · show Act.put _ (some 81) _ = _
                  simp only [Act.put, List.setIfInBounds_toArray, List.set_cons_zero, List.set_cons_succ, i64_w, i32_w]
                  rfl
                refine two_ (i := 3) (j := 5) (Ni := some 83) (Nj := some 85) #[true, true, true, true, true, false, false, true, true, true, true, true, true, true, true, true, false, false, false] #[true, true, true, false, true, true, false, true, true, true, true, true, true, true, true, true, false, false, false] rfl rfl rfl rfl (by kernel_rfl) (by decide) (by decide) (fun K hK => ?_) (fun K hK => ?_)
                · skip
                  refine Kd.R_append_rows_step (Kd.int .i64) (w0 := w13) w13.heap.size (by rfl) (.tmp 81) (.tmp 82) 37 2 (.int .i64 0) 8 rfl Try.underlying37 info2 rfl (by decide) (by omega) v153 [] o _ _ _ (fun _ => True) (fun _ => False) rfl rfl ?aO ?aR (fun _ _ h => h) (fun _ h => h.elim) ?aF ?aB ?aS ?aL ?_
                  (case aR => exact (Kd.R_reads' (HRB _ (by repeat (first | (with_reducible first | exact HB.out | apply below_alloc | apply pw_below_drewN | apply below_drew1) | exact HB.out)))).2.2)
                  (case aB => exact (by repeat (first | (with_reducible first | exact HB.out | apply below_alloc | apply pw_below_drewN | apply below_drew1) | exact HB.out)))
                  (case aF => exact (fun _ _ => trivial))
                  (case aO => exact (by (with_reducible repeat (first | apply Kd.R_alloc | apply Kd.R_drewN | apply Kd.R_drew)); exact HO154.out))
                  (case aS => exact (below_size (by repeat (first | (with_reducible first | exact HB.out | apply below_alloc | apply pw_below_drewN | apply below_drew1) | exact HB.out))))
                  (case aL => have := HL1.out; simp only [List.length_nil]; omega)
                  intro v156 w_ ho hb hg hat
                  have n2_ := Aside0.mk (hb)
                  have n3_ := Aside0.mk (show Kd.R (Kd.int .i64) 2 w_ w13.heap.size _ v156 o from ho)
                  clear HB HO154
                  have HB := n2_
                  have HO157 := n3_
                  clear n2_ n3_
                  clear ho hb hg hat
                  refine hK.out _ _ (HS13.out _ HB.out) (fun hHeld => ?_)
                  clear hK K
                  refine norm_ (a' := ?_) ?_ ?_
                  rotate_left
                  · show Act.put _ (some 83) _ = _
                    simp only [Act.put, List.setIfInBounds_toArray, List.set_cons_zero, List.set_cons_succ, i64_w, i32_w]
                    rfl
                  refine one_ (i := 5) (N := some 85) #[true, true, true, true, true, true, false, true, true, true, true, true, true, true, true, true, false, false, false] rfl rfl (by kernel_rfl) (by decide) (fun K hK => ?_)
                  refine Kd.R_lit_step (Kd.int .i64) _ 2 ?hg (N := 85) ?hd (xs := ([(kk : Int)] : List Int)) (inner := [.int .i64 (kk : Int)]) (ok := fun _ => True) (okp := fun _ => True) ?hr ?hp (fun _ hk => hk) trivial (Below.refl _ _) (Nat.le_refl _) (by simp) ?_; (case hd => rfl); (case hg => rfl); (case hr => first | (go_simp; done) | (go_simp; rfl)); (case hp => exact (Reps.one (show Kd.M (Kd.int .i64) _ _ _ (kk : Int) [.int .i64 (kk : Int)] from rfl) (Reps.none _ _)))
                  intro v159 wb ho_ hb hg_ hnew_
                  clear hg_ hnew_
                  have n0_ := Aside0.mk (Kd.R_elder' (by (with_reducible repeat (first | apply Kd.R_alloc | apply Kd.R_drewN | apply Kd.R_drew)); exact HO157.out) (Kd.R_base ho_) hb)
                  have n1_ := Aside0.mk (Kd.R_lower (Kd.R_new' ho_ (Kd.R_lt (by (with_reducible repeat (first | apply Kd.R_alloc | apply Kd.R_drewN | apply Kd.R_drew)); exact HO157.out))) (below_size (by repeat (first | (with_reducible first | exact HB.out | apply below_alloc | apply pw_below_drewN | apply below_drew1) | exact HB.out))))
                  have n2_ := Aside0.mk (below_step (by repeat (first | (with_reducible first | exact HB.out | apply below_alloc | apply pw_below_drewN | apply below_drew1) | exact HB.out)) hb)
                  clear HB
                  clear HO157
                  have HO157 := n0_
                  clear n0_
                  have HO160 := n1_
                  have HB := n2_
                  clear n1_ n2_
                  clear hb ho_
                  refine hK.out _ _ (HS13.out _ HB.out) (fun hHeld => ?_)
                  clear hK K
                  refine norm_ (a' := ?_) ?_ ?_
                  rotate_left
                  · show Act.put _ (some 85) _ = _
                    simp only [Act.put, List.setIfInBounds_toArray, List.set_cons_zero, List.set_cons_succ, i64_w, i32_w]
                    rfl
                  exact norm_ (by simp only [putAll, Act.put, List.setIfInBounds_toArray, List.set_cons_zero, List.set_cons_succ]) (hCont (v153, v156, v159) _ ⟨(by (with_reducible repeat (first | apply Kd.R_alloc | apply Kd.R_drewN | apply Kd.R_drew)); exact Kd.R_mono HO157.out (fun _ hk => hk.2)), (by (with_reducible repeat (first | apply Kd.R_alloc | apply Kd.R_drewN | apply Kd.R_drew)); exact Kd.R_mono HO160.out (fun _ hk => hk.2)), (by repeat (first | (with_reducible first | exact HB.out | apply below_alloc | apply pw_below_drewN | apply below_drew1) | exact HB.out))⟩)
                · skip
                  refine Kd.R_lit_step (Kd.int .i64) _ 2 ?hg (N := 85) ?hd (xs := ([(kk : Int)] : List Int)) (inner := [.int .i64 (kk : Int)]) (ok := fun _ => True) (okp := fun _ => True) ?hr ?hp (fun _ hk => hk) trivial (Below.refl _ _) (Nat.le_refl _) (by simp) ?_; (case hd => rfl); (case hg => rfl); (case hr => first | (go_simp; done) | (go_simp; rfl)); (case hp => exact (Reps.one (show Kd.M (Kd.int .i64) _ _ _ (kk : Int) [.int .i64 (kk : Int)] from rfl) (Reps.none _ _)))
                  intro v159 wb ho_ hb hg_ hnew_
                  clear hg_ hnew_
                  have n0_ := Aside0.mk (Kd.R_elder' (by (with_reducible repeat (first | apply Kd.R_alloc | apply Kd.R_drewN | apply Kd.R_drew)); exact HO154.out) (Kd.R_base ho_) hb)
                  have n1_ := Aside0.mk (Kd.R_lower (Kd.R_new' ho_ (Kd.R_lt (by (with_reducible repeat (first | apply Kd.R_alloc | apply Kd.R_drewN | apply Kd.R_drew)); exact HO154.out))) (below_size (by repeat (first | (with_reducible first | exact HB.out | apply below_alloc | apply pw_below_drewN | apply below_drew1) | exact HB.out))))
                  have n2_ := Aside0.mk (below_step (by repeat (first | (with_reducible first | exact HB.out | apply below_alloc | apply pw_below_drewN | apply below_drew1) | exact HB.out)) hb)
                  clear HB
                  clear HO154
                  have HO154 := n0_
                  clear n0_
                  have HO160 := n1_
                  have HB := n2_
                  clear n1_ n2_
                  clear hb ho_
                  refine hK.out _ _ (HS13.out _ HB.out) (fun hHeld => ?_)
                  clear hK K
                  refine norm_ (a' := ?_) ?_ ?_
                  rotate_left
                  · show Act.put _ (some 85) _ = _
                    simp only [Act.put, List.setIfInBounds_toArray, List.set_cons_zero, List.set_cons_succ, i64_w, i32_w]
                    rfl
                  refine one_ (i := 3) (N := some 83) #[true, true, true, true, true, true, false, true, true, true, true, true, true, true, true, true, false, false, false] rfl rfl (by kernel_rfl) (by decide) (fun K hK => ?_)
                  refine Kd.R_append_rows_step (Kd.int .i64) (w0 := w13) w13.heap.size (by rfl) (.tmp 81) (.tmp 82) 37 2 (.int .i64 0) 8 rfl Try.underlying37 info2 rfl (by decide) (by omega) v153 [] o _ _ _ (fun k_ => some k_ ≠ (v159 : Value).ownBlock) (fun _ => False) rfl rfl ?aO ?aR (fun _ _ h => h) (fun _ h => h.elim) ?aF ?aB ?aS ?aL ?_
                  (case aR => exact (Kd.R_reads' (HRB _ (by repeat (first | (with_reducible first | exact HB.out | apply below_alloc | apply pw_below_drewN | apply below_drew1) | exact HB.out)))).2.2)
                  (case aB => exact (by repeat (first | (with_reducible first | exact HB.out | apply below_alloc | apply pw_below_drewN | apply below_drew1) | exact HB.out)))
                  (case aF => exact (fun k_ hk => Kd.fresh' (Kd.R_lt (by (with_reducible repeat (first | apply Kd.R_alloc | apply Kd.R_drewN | apply Kd.R_drew)); exact HO160.out)) k_ hk))
                  (case aO => exact (by (with_reducible repeat (first | apply Kd.R_alloc | apply Kd.R_drewN | apply Kd.R_drew)); exact Kd.R_mono HO154.out (fun _ hk => hk.2)))
                  (case aS => exact (below_size (by repeat (first | (with_reducible first | exact HB.out | apply below_alloc | apply pw_below_drewN | apply below_drew1) | exact HB.out))))
                  (case aL => have := HL1.out; simp only [List.length_nil]; omega)
                  intro v156 w_ ho hb hg hat
                  have n1_ := Aside0.mk (Kd.R_after (ok := (fun _ => True)) (by (with_reducible repeat (first | apply Kd.R_alloc | apply Kd.R_drewN | apply Kd.R_drew)); exact HO160.out) hg hat)
                  have n2_ := Aside0.mk (hb)
                  have n3_ := Aside0.mk (show Kd.R (Kd.int .i64) 2 w_ w13.heap.size _ v156 o from ho)
                  clear HB HO154
                  clear HO160
                  have HO160 := n1_
                  clear n1_
                  have HB := n2_
                  have HO157 := n3_
                  clear n2_ n3_
                  clear ho hb hg hat
                  refine hK.out _ _ (HS13.out _ HB.out) (fun hHeld => ?_)
                  clear hK K
                  refine norm_ (a' := ?_) ?_ ?_
                  rotate_left
                  · show Act.put _ (some 83) _ = _
                    simp only [Act.put, List.setIfInBounds_toArray, List.set_cons_zero, List.set_cons_succ, i64_w, i32_w]
                    rfl
                  exact norm_ (by simp only [putAll, Act.put, List.setIfInBounds_toArray, List.set_cons_zero, List.set_cons_succ]) (hCont (v153, v156, v159) _ ⟨(by (with_reducible repeat (first | apply Kd.R_alloc | apply Kd.R_drewN | apply Kd.R_drew)); exact HO157.out), (by (with_reducible repeat (first | apply Kd.R_alloc | apply Kd.R_drewN | apply Kd.R_drew)); exact Kd.R_mono HO160.out (fun _ hk => hk.2)), (by repeat (first | (with_reducible first | exact HB.out | apply below_alloc | apply pw_below_drewN | apply below_drew1) | exact HB.out))⟩)
              · skip
                refine Kd.R_lit_step (Kd.int .i64) _ 2 ?hg (N := 85) ?hd (xs := ([(kk : Int)] : List Int)) (inner := [.int .i64 (kk : Int)]) (ok := fun _ => True) (okp := fun _ => True) ?hr ?hp (fun _ hk => hk) trivial (Below.refl _ _) (Nat.le_refl _) (by simp) ?_; (case hd => rfl); (case hg => rfl); (case hr => first | (go_simp; done) | (go_simp; rfl)); (case hp => exact (Reps.one (show Kd.M (Kd.int .i64) _ _ _ (kk : Int) [.int .i64 (kk : Int)] from rfl) (Reps.none _ _)))
                intro v159 wa ho_ hb hg_ hnew_
                clear hg_ hnew_
                have n1_ := Aside0.mk (Kd.R_lower ho_ (below_size (by repeat (first | (with_reducible first | exact HB.out | apply below_alloc | apply pw_below_drewN | apply below_drew1) | exact HB.out))))
                have n2_ := Aside0.mk (below_step (by repeat (first | (with_reducible first | exact HB.out | apply below_alloc | apply pw_below_drewN | apply below_drew1) | exact HB.out)) hb)
                clear HB
                have HO160 := n1_
                have HB := n2_
                clear n1_ n2_
                clear hb ho_
                refine hK.out _ _ (HS13.out _ HB.out) (fun hHeld => ?_)
                clear hK K
                refine norm_ (a' := ?_) ?_ ?_
                rotate_left
                · show Act.put _ (some 85) _ = _
                  simp only [Act.put, List.setIfInBounds_toArray, List.set_cons_zero, List.set_cons_succ, i64_w, i32_w]
                  rfl
                refine one_ (i := 1) (N := some 81) #[true, true, true, false, true, true, false, true, true, true, true, true, true, true, true, true, false, false, false] rfl rfl (by kernel_rfl) (by decide) (fun K hK => ?_)
                refine Kd.R_lit_step (Kd.int .i64) _ 2 ?hg (N := 81) ?hd (xs := ([] : List Int)) (inner := []) (ok := fun _ => True) (okp := fun _ => True) ?hr ?hp (fun _ hk => hk) trivial (Below.refl _ _) (Nat.le_refl _) (by simp) ?_; (case hd => rfl); (case hg => rfl); (case hr => first | (go_simp; done) | (go_simp; rfl)); (case hp => exact (Reps.none _ _))
                intro v153 wb ho_ hb hg_ hnew_
                clear hg_ hnew_
                have n0_ := Aside0.mk (Kd.R_elder' (by (with_reducible repeat (first | apply Kd.R_alloc | apply Kd.R_drewN | apply Kd.R_drew)); exact HO160.out) (Kd.R_base ho_) hb)
                have n1_ := Aside0.mk (Kd.R_lower (Kd.R_new' ho_ (Kd.R_lt (by (with_reducible repeat (first | apply Kd.R_alloc | apply Kd.R_drewN | apply Kd.R_drew)); exact HO160.out))) (below_size (by repeat (first | (with_reducible first | exact HB.out | apply below_alloc | apply pw_below_drewN | apply below_drew1) | exact HB.out))))
                have n2_ := Aside0.mk (below_step (by repeat (first | (with_reducible first | exact HB.out | apply below_alloc | apply pw_below_drewN | apply below_drew1) | exact HB.out)) hb)
                clear HB
                clear HO160
                have HO160 := n0_
                clear n0_
                have HO154 := n1_
                have HB := n2_
                clear n1_ n2_
                clear hb ho_
                refine hK.out _ _ (HS13.out _ HB.out) (fun hHeld => ?_)
                clear hK K
                refine norm_ (a' := ?_) ?_ ?_
                rotate_left
                · show Act.put _ (some 81) _ = _
                  simp only [Act.put, List.setIfInBounds_toArray, List.set_cons_zero, List.set_cons_succ, i64_w, i32_w]
                  rfl
                refine one_ (i := 3) (N := some 83) #[true, true, true, true, true, true, false, true, true, true, true, true, true, true, true, true, false, false, false] rfl rfl (by kernel_rfl) (by decide) (fun K hK => ?_)
                refine Kd.R_append_rows_step (Kd.int .i64) (w0 := w13) w13.heap.size (by rfl) (.tmp 81) (.tmp 82) 37 2 (.int .i64 0) 8 rfl Try.underlying37 info2 rfl (by decide) (by omega) v153 [] o _ _ _ (fun k_ => some k_ ≠ (v159 : Value).ownBlock) (fun _ => False) rfl rfl ?aO ?aR (fun _ _ h => h) (fun _ h => h.elim) ?aF ?aB ?aS ?aL ?_
                (case aR => exact (Kd.R_reads' (HRB _ (by repeat (first | (with_reducible first | exact HB.out | apply below_alloc | apply pw_below_drewN | apply below_drew1) | exact HB.out)))).2.2)
                (case aB => exact (by repeat (first | (with_reducible first | exact HB.out | apply below_alloc | apply pw_below_drewN | apply below_drew1) | exact HB.out)))
                (case aF => exact (fun k_ hk => Kd.fresh' (Kd.R_lt (by (with_reducible repeat (first | apply Kd.R_alloc | apply Kd.R_drewN | apply Kd.R_drew)); exact HO160.out)) k_ hk))
                (case aO => exact (by (with_reducible repeat (first | apply Kd.R_alloc | apply Kd.R_drewN | apply Kd.R_drew)); exact Kd.R_mono HO154.out (fun _ hk => hk.2)))
                (case aS => exact (below_size (by repeat (first | (with_reducible first | exact HB.out | apply below_alloc | apply pw_below_drewN | apply below_drew1) | exact HB.out))))
                (case aL => have := HL1.out; simp only [List.length_nil]; omega)
                intro v156 w_ ho hb hg hat
                have n1_ := Aside0.mk (Kd.R_after (ok := (fun _ => True)) (by (with_reducible repeat (first | apply Kd.R_alloc | apply Kd.R_drewN | apply Kd.R_drew)); exact HO160.out) hg hat)
                have n2_ := Aside0.mk (hb)
                have n3_ := Aside0.mk (show Kd.R (Kd.int .i64) 2 w_ w13.heap.size _ v156 o from ho)
                clear HB HO154
                clear HO160
                have HO160 := n1_
                clear n1_
                have HB := n2_
                have HO157 := n3_
                clear n2_ n3_
                clear ho hb hg hat
                refine hK.out _ _ (HS13.out _ HB.out) (fun hHeld => ?_)
                clear hK K
                refine norm_ (a' := ?_) ?_ ?_
                rotate_left
                · show Act.put _ (some 83) _ = _
                  simp only [Act.put, List.setIfInBounds_toArray, List.set_cons_zero, List.set_cons_succ, i64_w, i32_w]
                  rfl
                exact norm_ (by simp only [putAll, Act.put, List.setIfInBounds_toArray, List.set_cons_zero, List.set_cons_succ]) (hCont (v153, v156, v159) _ ⟨(by (with_reducible repeat (first | apply Kd.R_alloc | apply Kd.R_drewN | apply Kd.R_drew)); exact HO157.out), (by (with_reducible repeat (first | apply Kd.R_alloc | apply Kd.R_drewN | apply Kd.R_drew)); exact Kd.R_mono HO160.out (fun _ hk => hk.2)), (by repeat (first | (with_reducible first | exact HB.out | apply below_alloc | apply pw_below_drewN | apply below_drew1) | exact HB.out))⟩)
            rintro ⟨v153, v156, v159⟩ w42 ⟨h0_, h1_, h2_⟩
            clear HB
            have HO157 := Aside0.mk h0_
            have HO160 := Aside0.mk h1_
            have HB := Aside0.mk h2_
            clear h0_ h1_ h2_
            have hHeld := HS13.out _ HB.out
            obtain ⟨Ao44, co44, eo44⟩ := Kd.R_slice HO160.out
            (first | subst eo44 | (injection eo44 with f1_ f2_ f3_; have f4_ := f1_.symm; have f5_ := f3_.symm; clear f1_ f2_ f3_; subst f4_; subst f5_))
            refine norm_ (a' := ?_) ?_ ?_
            rotate_left
            · simp only [putAll, Act.put, List.setIfInBounds_toArray, List.set_cons_zero, List.set_cons_succ]
              rfl
            refine one_ (i := 6) (N := some 86) #[true, true, true, true, true, true, true, true, true, true, true, true, true, true, true, true, false, false, false] rfl rfl (by kernel_rfl) (by decide) (fun K hK => ?_)
            refine Kd.R_append_rows_step (Kd.int .i64) (w0 := w13) w13.heap.size (by rfl) (.tmp 83) (.tmp 85) 37 2 (.int .i64 0) 8 rfl Try.underlying37 info2 rfl (by decide) (by omega) v156 o [(kk : Int)] _ _ _ (fun k_ => some k_ ≠ (.slice Ao44 [(kk : Int)].length co44 : Value).ownBlock) (fun _ => False) rfl rfl ?aO ?aR (fun _ _ h => h) (fun _ h => h.elim) ?aF ?aB ?aS ?aL ?_
            (case aR => repeat (first | exact (Kd.R_reads' HO160.out).2.2 | (with_reducible refine Kd.C_alloc ?_ _) | (with_reducible refine Kd.C_drewN ?_ _) | (with_reducible refine Kd.C_drew ?_)))
            (case aB => exact (by repeat (first | (with_reducible first | exact HB.out | apply below_alloc | apply pw_below_drewN | apply below_drew1) | exact HB.out)))
            (case aF => exact (fun k_ hk => Kd.fresh' (Kd.R_lt (by (with_reducible repeat (first | apply Kd.R_alloc | apply Kd.R_drewN | apply Kd.R_drew)); exact HO160.out)) k_ hk))
            (case aO => exact (by (with_reducible repeat (first | apply Kd.R_alloc | apply Kd.R_drewN | apply Kd.R_drew)); exact HO157.out))
            (case aS => exact (below_size (by repeat (first | (with_reducible first | exact HB.out | apply below_alloc | apply pw_below_drewN | apply below_drew1) | exact HB.out))))
            (case aL => have := HL1.out; simp only [List.length_singleton]; omega)
            intro v162 w43 ho hb hg hat
            clear HB HO157 HO160
            have HB := Aside0.mk hb
            have HO163 := Aside0.mk (Kd.R_mono ho (fun _ _ => trivial) : Kd.R (Kd.int .i64) 2 w43 w13.heap.size (fun _ => True) v162 (o ++ [(kk : Int)]))
            clear ho hb hg hat
            refine hK.out _ _ (HS13.out _ HB.out) (fun hHeld => ?_)
            clear hK K
            refine norm_ (a' := ?_) ?_ ?_
            rotate_left
            · show Act.put _ (some 86) _ = _
              simp only [Act.put, List.setIfInBounds_toArray, List.set_cons_zero, List.set_cons_succ, i64_w, i32_w]
              rfl
            refine one_ (i := 16) (N := some 96) #[true, true, true, true, true, true, true, true, true, true, true, true, true, true, true, true, true, false, false] rfl rfl (by kernel_rfl) (by decide) (fun K hK => ?_)
            refine goes_ Try.func130 (by kernel_rfl) rfl #[.pointer (some ⟨g, 0, none⟩), .agg #[.int .i8 P.f0, .int .i8 P.f1, .int .i16 P.f2], .int .i64 now, .int .i64 nx] (by rfl) rfl rfl (by (try simp only [List.map_toArray, List.map_cons, List.map_nil]); first | done | rfl | (simp only [List.length_drop, List.length_take]; rfl)) ?_
            have E4 := E3.out.below HB.out
            refine (cost_calls g what P.f0 P.f1 P.f2 now nx _ E4.lt ((blk_cell E4.blk 3).trans rfl) HWH.out).mono ?_
            rintro e w45 ⟨rfl, hb⟩
            clear E4
            refine ⟨_, rfl, ?_⟩
            have n0_ := Aside0.mk (Kd.R_below HO163.out hb)
            have n1_ := Aside0.mk (below_step (by repeat (first | (with_reducible first | exact HB.out | apply below_alloc | apply pw_below_drewN | apply below_drew1) | exact HB.out)) hb)
            clear HO163 HB
            have HO163 := n0_
            have HB := n1_
            clear n0_ n1_ hb
            obtain ⟨Ao46, co46, eo46⟩ := Kd.R_slice HO163.out
            (first | subst eo46 | (injection eo46 with f1_ f2_ f3_; have f4_ := f1_.symm; have f5_ := f3_.symm; clear f1_ f2_ f3_; subst f4_; subst f5_))
            refine hK.out _ _ (HS13.out _ HB.out) (fun hHeld => ?_)
            clear hK K
            refine norm_ (a' := ?_) ?_ ?_
            rotate_left
            · show Act.put _ (some 96) _ = _
              simp only [Act.put, List.setIfInBounds_toArray, List.set_cons_zero, List.set_cons_succ, i64_w, i32_w]
              rfl
            refine pure_ (i := 17) (N := some 97) (v := ?_) (a' := ?_) #[true, true, true, true, true, true, true, true, true, true, true, true, true, true, true, true, true, true, false] rfl rfl (by kernel_rfl) (fun _ _ _ h => h) (Or.inl ⟨by rfl, ?_⟩) ?_ ?_
            rotate_left
            · intro w'
              go_simp
              with_reducible rfl
            rotate_left
            · simp only [Act.put, List.setIfInBounds_toArray, List.set_cons_zero, List.set_cons_succ, i64_w, i32_w]
              rfl
            refine last_ (i := 18) (N := some 98) #[true, true, true, true, true, true, true, true, true, true, true, true, true, true, true, true, true, true, true] rfl rfl (by kernel_rfl) (by decide) (fun K hK => ?_)
            refine goes_ Try.func121 (by kernel_rfl) rfl #[.pointer (some ⟨g, 0, none⟩), .slice Ao46 (o ++ [(kk : Int)]).length co46, .int .i64 (wrap64 P.f0), .int .i64 nx, .int .i64 (wrap64 (s + costF what P.f2 now nx))] (by rfl) rfl rfl (by (try simp only [List.map_toArray, List.map_cons, List.map_nil]); first | done | rfl | (simp only [List.length_drop, List.length_take]; rfl)) ?_
            refine (IH.out (.slice Ao46 (o ++ [(kk : Int)]).length co46) (o ++ [(kk : Int)]) (wrap64 P.f0) nx (wrap64 (s + costF what P.f2 now nx)) w45 bv1 (afterGo x y l what d o lv now s st kk) (by have := HL.out; rw [List.length_append, List.length_singleton]; omega) HLV.out (E3.out.below HB.out) (Kd.R_lower HO163.out (by have := E3.out.lt; omega)) (B3.out.trans (HB.out.mono (by have := E3.out.lt; omega)))).mono ?_
            rintro e w47 ⟨rfl, bv2, hE2, hB2, hM2⟩
            refine ⟨_, rfl, ?_⟩
            refine hK.out _ _ ?_
            clear hK K
            have EE := Aside0.mk hE2
            have BB := Aside0.mk hB2
            have MM := Aside0.mk ((M3.out.trans (Mid.of_below HB.out)).trans hM2)
            clear hE2 hB2 hM2
            refine norm_ (a' := ?_) ?_ ?_
            rotate_left
            · show Act.put _ (some 98) _ = _
              simp only [Act.put, List.setIfInBounds_toArray, List.set_cons_zero, List.set_cons_succ, i64_w, i32_w]
              rfl
            refine done_ (by kernel_rfl) ?_
            try go_wp2
            go_roundg (l.length - (kk + 1))
            case measure => omega
            case rel => exact ⟨kk + 1, bv2, by omega, by omega, by go_num, ⟨by rw [afterGo_succ, if_neg (by rw [HCQ.out]; decide), HNX.out, HP.out]; exact EE.out⟩, BB, MM⟩
        · have hltz : ¬ (kk : Int) < (l.length : Int) := by omega
          obtain rfl : kk = l.length := by omega
          go_wp2
          first | go_end0 | ((try simp only [Exit.inBlock, Exit.then]); refine bodyPost_ret (results_none rfl _ _ _) rfl ?_)
          first | exact ⟨rfl, bv1, E1.out, B1.out, M1.out⟩ | exact ⟨rfl, ⟨bv1, E1.out⟩, B1.out, M1.out⟩
end Go.Proofs.Ythkccaclmodjiaa.I
