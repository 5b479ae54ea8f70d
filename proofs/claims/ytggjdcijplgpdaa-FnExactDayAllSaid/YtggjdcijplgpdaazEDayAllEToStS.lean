import Derived.Test.YtggjdcijplgpdaazEDayAllEA8
import Derived.Test.YtggjdcijplgpdaazEDayAllEMem
import Derived.Test.YtggjdcijplgpdaazEDayAllEIdx8
import Derived.Shelf.Abstract
section
namespace Go.Proofs.Ytggjdcijplgpdaa.H
open Go.RowKit Go.Proofs.YtggjdcijplgpdaaW.PrintWords Go.Proofs.YtggjdcijplgpdaaW.PrintLast Go.Proofs.YtggjdcijplgpdaaW.PrintMore
attribute [local go_sem] max2_int min2_int max_two min_two max_three min_three max_four min_four
set_option linter.unusedVariables false
set_option linter.unusedSimpArgs false
def toSt (x : S145) : S55 := ⟨x.f0, x.f1, x.f2, x.f3⟩
theorem toA8_any (a0 : Int) (a1 : Int) (a2 : Int) (a3 : Int) (a4 : Int) (a5 : Int) (a6 : Int) (a7 : Int) (w : World) : Calls Try.prog 144 #[.agg #[.int .i16 a0, .int .i16 a1, .int .i16 a2, .int .i16 a3, .int .i16 a4, .int .i16 a5, .int .i16 a6, .int .i16 a7]] w fun e w' => e = .returned (.agg #[.int .i16 a0, .int .i16 a1, .int .i16 a2, .int .i16 a3, .int .i16 a4, .int .i16 a5, .int .i16 a6, .int .i16 a7]) ∧ Below w.heap.size w w' := laws_toInt16A8.calls _ _ _ _ _ _ _ _ _ _ _ _ _ _ _ _ w rfl
theorem cut8_0 (x : S145) : ∀ (j : Nat) (v : Value), ([.int .i16 x.f0.f0, .int .i16 x.f0.f1, .int .i16 x.f0.f2, .int .i16 x.f0.f3, .int .i16 x.f0.f4, .int .i16 x.f0.f5, .int .i16 x.f0.f6, .int .i16 x.f0.f7] : List Value)[j]? = some v → ((stC (toSt x)).toArray)[0 + j]? = some v
  | 0, _, h => h
  | 1, _, h => h
  | 2, _, h => h
  | 3, _, h => h
  | 4, _, h => h
  | 5, _, h => h
  | 6, _, h => h
  | 7, _, h => h
  | j + 8, _, h => by simp at h
theorem cut8_1 (x : S145) : ∀ (j : Nat) (v : Value), ([.int .i16 x.f1.f0, .int .i16 x.f1.f1, .int .i16 x.f1.f2, .int .i16 x.f1.f3, .int .i16 x.f1.f4, .int .i16 x.f1.f5, .int .i16 x.f1.f6, .int .i16 x.f1.f7] : List Value)[j]? = some v → ((stC (toSt x)).toArray)[8 + j]? = some v
  | 0, _, h => h
  | 1, _, h => h
  | 2, _, h => h
  | 3, _, h => h
  | 4, _, h => h
  | 5, _, h => h
  | 6, _, h => h
  | 7, _, h => h
  | j + 8, _, h => by simp at h
theorem cut8_2 (x : S145) : ∀ (j : Nat) (v : Value), ([.int .i16 x.f2.f0, .int .i16 x.f2.f1, .int .i16 x.f2.f2, .int .i16 x.f2.f3, .int .i16 x.f2.f4, .int .i16 x.f2.f5, .int .i16 x.f2.f6, .int .i16 x.f2.f7] : List Value)[j]? = some v → ((stC (toSt x)).toArray)[16 + j]? = some v
  | 0, _, h => h
  | 1, _, h => h
  | 2, _, h => h
  | 3, _, h => h
  | 4, _, h => h
  | 5, _, h => h
  | 6, _, h => h
  | 7, _, h => h
  | j + 8, _, h => by simp at h
set_option maxHeartbeats 8000000 in
set_option maxRecDepth 100000 in
theorem toStock_calls (x : S145) (w : World) :
    Calls Try.prog 119 #[.agg (stC (toSt x)).toArray] w fun e w' => e = .returned (.agg (stC (toSt x)).toArray) ∧ Below w.heap.size w w' := by
  go_enter Try.func119, Try.ntmps119
  go_wp2_with (first | ((with_reducible refine gate_dst (N := 1) rfl ?_); refine box_event ?hg (N := 1) ?hd (cs := (stC (toSt x)).toArray) (t := 145) ?hr ?_; (case hd => rfl); (case hg => rfl); (case hr => first | (go_simp; done) | (go_simp; rfl)); intro g1 hg_ w1 hb_ hb; have K1 := Aside0.mk hb_; have HB := Aside0.mk hb; clear hb_ hb hg_) | ((with_reducible refine gate_dst (N := 2) rfl ?_); refine box_event ?hg (N := 2) ?hd (cs := #[.int .i16 0, .int .i16 0, .int .i16 0, .int .i16 0, .int .i16 0, .int .i16 0, .int .i16 0, .int .i16 0, .int .i16 0, .int .i16 0, .int .i16 0, .int .i16 0, .int .i16 0, .int .i16 0, .int .i16 0, .int .i16 0, .int .i16 0, .int .i16 0, .int .i16 0, .int .i16 0, .int .i16 0, .int .i16 0, .int .i16 0, .int .i16 0, .int .i32 0]) (t := 55) ?hr ?_; (case hd => rfl); (case hg => rfl); (case hr => first | (go_simp; done) | (go_simp; rfl)); intro g2 hg_ w2 hb_ hb; have n_ := Aside0.mk (blk_below K1.out hb); clear K1; have K1 := n_; clear n_; have L2 := Aside0.mk (show w.heap.size ≤ g2 by rw [hg_]; exact HB.out.size); have K2 := Aside0.mk hb_; have n_ := Aside0.mk (below_step HB.out hb); clear HB; have HB := n_; clear n_; clear hb_ hb hg_) | ((with_reducible refine gate_dst (N := 3) rfl ?_); refine box_event ?hg (N := 3) ?hd (cs := #[.int .i16 0, .int .i16 0, .int .i16 0, .int .i16 0, .int .i16 0, .int .i16 0, .int .i16 0, .int .i16 0, .int .i16 0, .int .i16 0, .int .i16 0, .int .i16 0, .int .i16 0, .int .i16 0, .int .i16 0, .int .i16 0, .int .i16 0, .int .i16 0, .int .i16 0, .int .i16 0, .int .i16 0, .int .i16 0, .int .i16 0, .int .i16 0, .int .i32 0]) (t := 55) ?hr ?_; (case hd => rfl); (case hg => rfl); (case hr => first | (go_simp; done) | (go_simp; rfl)); intro g3 hg_ w3 hb_ hb; have N13 := Aside0.mk (show g1 ≠ g3 by have := blk_lt K1.out; omega); have N23 := Aside0.mk (show g2 ≠ g3 by have := blk_lt K2.out; omega); have n_ := Aside0.mk (blk_below K1.out hb); clear K1; have K1 := n_; clear n_; have n_ := Aside0.mk (blk_below K2.out hb); clear K2; have K2 := n_; clear n_; have L3 := Aside0.mk (show w.heap.size ≤ g3 by rw [hg_]; exact HB.out.size); have K3 := Aside0.mk hb_; have n_ := Aside0.mk (below_step HB.out hb); clear HB; have HB := n_; clear n_; clear hb_ hb hg_) | ((with_reducible refine gate_dst (N := 5) rfl ?_); refine Kd.event_run rfl (mem_load (ad := ⟨g1, 0, none⟩) (cs := [.int .i16 x.f0.f0, .int .i16 x.f0.f1, .int .i16 x.f0.f2, .int .i16 x.f0.f3, .int .i16 x.f0.f4, .int .i16 x.f0.f5, .int .i16 x.f0.f6, .int .i16 x.f0.f7]) rfl rfl (part_cells K1.out (fun j v hv => cut8_0 x j v hv)) Try.underlying53 rfl (by kernel_rfl)) ?_) | ((with_reducible refine gate_store (t := 53) (p := 7) (v := .tmp 6) rfl ?_); refine mem_store (seg := [.int .i16 x.f0.f0, .int .i16 x.f0.f1, .int .i16 x.f0.f2, .int .i16 x.f0.f3, .int .i16 x.f0.f4, .int .i16 x.f0.f5, .int .i16 x.f0.f6, .int .i16 x.f0.f7]) (g := g3) (off := 0) rfl rfl rfl rfl rfl K3.out (by kernel_rfl) (by show 0 + 8 ≤ 25; decide) (by intro q hq; simp only [List.mem_cons, List.not_mem_nil, or_false] at hq; rcases hq with rfl | rfl | rfl | rfl | rfl | rfl | rfl | rfl <;> rfl) ?_; intro W0 cur0 hk hl hg; obtain rfl : cur0 = #[.int .i16 x.f0.f0, .int .i16 x.f0.f1, .int .i16 x.f0.f2, .int .i16 x.f0.f3, .int .i16 x.f0.f4, .int .i16 x.f0.f5, .int .i16 x.f0.f6, .int .i16 x.f0.f7, .int .i16 0, .int .i16 0, .int .i16 0, .int .i16 0, .int .i16 0, .int .i16 0, .int .i16 0, .int .i16 0, .int .i16 0, .int .i16 0, .int .i16 0, .int .i16 0, .int .i16 0, .int .i16 0, .int .i16 0, .int .i16 0, .int .i32 0] := Array.ext' (hl.trans rfl); have n_ := Aside0.mk (blk_grown K1.out hg (by intro e; cases e; exact N13.out rfl)); clear K1; have K1 := n_; clear n_; have n_ := Aside0.mk (blk_grown K2.out hg (by intro e; cases e; exact N23.out rfl)); clear K2; have K2 := n_; clear n_; clear K3; have K3 := Aside0.mk hk; have n_ := Aside0.mk (HB.out.grown hg HB.out.size (fun k hk => by cases hk; exact L3.out)); clear HB; have HB := n_; clear n_ hk hl hg; have c24 : W0.cell? ⟨g1, 24, none⟩ = some (.int .i32 x.f3) := (blk_cell K1.out 24).trans rfl; have d24 : W0.cell? ⟨g3, 24, none⟩ = some (.int .i32 0) := (blk_cell K3.out 24).trans rfl; have f24 := blk_frozen K3.out 24) | ((with_reducible refine gate_dst (N := 9) rfl ?_); refine Kd.event_run rfl (mem_load (ad := ⟨g1, 8, none⟩) (cs := [.int .i16 x.f1.f0, .int .i16 x.f1.f1, .int .i16 x.f1.f2, .int .i16 x.f1.f3, .int .i16 x.f1.f4, .int .i16 x.f1.f5, .int .i16 x.f1.f6, .int .i16 x.f1.f7]) rfl rfl (part_cells K1.out (fun j v hv => cut8_1 x j v hv)) Try.underlying53 rfl (by kernel_rfl)) ?_) | ((with_reducible refine gate_store (t := 53) (p := 11) (v := .tmp 10) rfl ?_); refine mem_store (seg := [.int .i16 x.f1.f0, .int .i16 x.f1.f1, .int .i16 x.f1.f2, .int .i16 x.f1.f3, .int .i16 x.f1.f4, .int .i16 x.f1.f5, .int .i16 x.f1.f6, .int .i16 x.f1.f7]) (g := g3) (off := 8) rfl rfl rfl rfl rfl K3.out (by kernel_rfl) (by show 8 + 8 ≤ 25; decide) (by intro q hq; simp only [List.mem_cons, List.not_mem_nil, or_false] at hq; rcases hq with rfl | rfl | rfl | rfl | rfl | rfl | rfl | rfl <;> rfl) ?_; intro W1 cur1 hk hl hg; obtain rfl : cur1 = #[.int .i16 x.f0.f0, .int .i16 x.f0.f1, .int .i16 x.f0.f2, .int .i16 x.f0.f3, .int .i16 x.f0.f4, .int .i16 x.f0.f5, .int .i16 x.f0.f6, .int .i16 x.f0.f7, .int .i16 x.f1.f0, .int .i16 x.f1.f1, .int .i16 x.f1.f2, .int .i16 x.f1.f3, .int .i16 x.f1.f4, .int .i16 x.f1.f5, .int .i16 x.f1.f6, .int .i16 x.f1.f7, .int .i16 0, .int .i16 0, .int .i16 0, .int .i16 0, .int .i16 0, .int .i16 0, .int .i16 0, .int .i16 0, .int .i32 0] := Array.ext' (hl.trans rfl); have n_ := Aside0.mk (blk_grown K1.out hg (by intro e; cases e; exact N13.out rfl)); clear K1; have K1 := n_; clear n_; have n_ := Aside0.mk (blk_grown K2.out hg (by intro e; cases e; exact N23.out rfl)); clear K2; have K2 := n_; clear n_; clear K3; have K3 := Aside0.mk hk; have n_ := Aside0.mk (HB.out.grown hg HB.out.size (fun k hk => by cases hk; exact L3.out)); clear HB; have HB := n_; clear n_ hk hl hg; have c24 : W1.cell? ⟨g1, 24, none⟩ = some (.int .i32 x.f3) := (blk_cell K1.out 24).trans rfl; have d24 : W1.cell? ⟨g3, 24, none⟩ = some (.int .i32 0) := (blk_cell K3.out 24).trans rfl; have f24 := blk_frozen K3.out 24) | ((with_reducible refine gate_dst (N := 13) rfl ?_); refine Kd.event_run rfl (mem_load (ad := ⟨g1, 16, none⟩) (cs := [.int .i16 x.f2.f0, .int .i16 x.f2.f1, .int .i16 x.f2.f2, .int .i16 x.f2.f3, .int .i16 x.f2.f4, .int .i16 x.f2.f5, .int .i16 x.f2.f6, .int .i16 x.f2.f7]) rfl rfl (part_cells K1.out (fun j v hv => cut8_2 x j v hv)) Try.underlying53 rfl (by kernel_rfl)) ?_) | ((with_reducible refine gate_store (t := 53) (p := 15) (v := .tmp 14) rfl ?_); refine mem_store (seg := [.int .i16 x.f2.f0, .int .i16 x.f2.f1, .int .i16 x.f2.f2, .int .i16 x.f2.f3, .int .i16 x.f2.f4, .int .i16 x.f2.f5, .int .i16 x.f2.f6, .int .i16 x.f2.f7]) (g := g3) (off := 16) rfl rfl rfl rfl rfl K3.out (by kernel_rfl) (by show 16 + 8 ≤ 25; decide) (by intro q hq; simp only [List.mem_cons, List.not_mem_nil, or_false] at hq; rcases hq with rfl | rfl | rfl | rfl | rfl | rfl | rfl | rfl <;> rfl) ?_; intro W2 cur2 hk hl hg; obtain rfl : cur2 = #[.int .i16 x.f0.f0, .int .i16 x.f0.f1, .int .i16 x.f0.f2, .int .i16 x.f0.f3, .int .i16 x.f0.f4, .int .i16 x.f0.f5, .int .i16 x.f0.f6, .int .i16 x.f0.f7, .int .i16 x.f1.f0, .int .i16 x.f1.f1, .int .i16 x.f1.f2, .int .i16 x.f1.f3, .int .i16 x.f1.f4, .int .i16 x.f1.f5, .int .i16 x.f1.f6, .int .i16 x.f1.f7, .int .i16 x.f2.f0, .int .i16 x.f2.f1, .int .i16 x.f2.f2, .int .i16 x.f2.f3, .int .i16 x.f2.f4, .int .i16 x.f2.f5, .int .i16 x.f2.f6, .int .i16 x.f2.f7, .int .i32 0] := Array.ext' (hl.trans rfl); have n_ := Aside0.mk (blk_grown K1.out hg (by intro e; cases e; exact N13.out rfl)); clear K1; have K1 := n_; clear n_; have n_ := Aside0.mk (blk_grown K2.out hg (by intro e; cases e; exact N23.out rfl)); clear K2; have K2 := n_; clear n_; clear K3; have K3 := Aside0.mk hk; have n_ := Aside0.mk (HB.out.grown hg HB.out.size (fun k hk => by cases hk; exact L3.out)); clear HB; have HB := n_; clear n_ hk hl hg; have c24 : W2.cell? ⟨g1, 24, none⟩ = some (.int .i32 x.f3) := (blk_cell K1.out 24).trans rfl; have d24 : W2.cell? ⟨g3, 24, none⟩ = some (.int .i32 0) := (blk_cell K3.out 24).trans rfl; have f24 := blk_frozen K3.out 24) | (go_at_call 144; refine (toA8_any _ _ _ _ _ _ _ _ _).mono ?_; rintro e wc ⟨rfl, hb⟩; have n_ := Aside0.mk (blk_below K1.out hb); clear K1; have K1 := n_; clear n_; have n_ := Aside0.mk (blk_below K2.out hb); clear K2; have K2 := n_; clear n_; have n_ := Aside0.mk (blk_below K3.out hb); clear K3; have K3 := n_; clear n_; have n_ := Aside0.mk (below_step HB.out hb); clear HB; have HB := n_; clear n_; clear hb) | ((with_reducible refine gate_dst (N := 19) rfl ?_); refine Kd.event_run rfl (mem_load (ad := ⟨g3, 0, none⟩) (cs := stC (toSt x)) rfl rfl (block_cells (cs := stC (toSt x)) (blk_put K3.out 24 (.int .i32 x.f3) rfl)) Try.underlying55 rfl (by kernel_rfl)) ?_) | ((with_reducible refine gate_store (t := 55) (p := 2) (v := .tmp 19) rfl ?_); refine mem_store (seg := stC (toSt x)) (g := g2) (off := 0) rfl rfl rfl rfl rfl (blk_far (p := ⟨g3, 24, none⟩) K2.out N23.out _) (by kernel_rfl) (by show 0 + 25 ≤ 25; decide) (stC_one _) ?_; intro W9 cur9 hk hl hg; obtain rfl : cur9 = (stC (toSt x)).toArray := Array.ext' (hl.trans rfl); have K9 := Aside0.mk hk; have HB9 := Aside0.mk ((below_set (j := 24) (v := .int .i32 x.f3) HB.out L3.out).grown hg (below_set (j := 24) (v := .int .i32 x.f3) HB.out L3.out).size (fun k hk => by cases hk; exact L2.out)); clear hk hl hg))
  refine bodyPost_ret (results_cell_row rfl _ _ g2 55 (stC (toSt x)).toArray (0, 0) _ rfl K9.out Try.underlying55 rfl (by kernel_rfl)) rfl ?_
  exact ⟨rfl, HB9.out⟩
end Go.Proofs.Ytggjdcijplgpdaa.H
end
section
namespace Go.Proofs.Ytggjdcijplgpdaa.H
open Go.RowKit Go.Proofs.YtggjdcijplgpdaaW.PrintWords Go.Proofs.YtggjdcijplgpdaaW.PrintLast Go.Proofs.YtggjdcijplgpdaaW.PrintMore
attribute [local go_sem] max2_int min2_int max_two min_two max_three min_three max_four min_four
set_option linter.unusedVariables false
set_option linter.unusedSimpArgs false
theorem k145_cells {w : World} {x : S145} {cs : List Value} (h : k145.K w x cs) : cs = stC (toSt x) := k145_open h
theorem k55_stM (w : World) (base : Nat) (ok : Nat → Prop) (x : S55) : k55.M w base ok x (stC x) := k55_mkM w base ok x
theorem elem_cells145 {w : World} {ad : Addr} {n : Nat} {xs : List S145} (h : Kd.C k145 w (some ad) n xs) (i : Nat) (hi : i < n) : ∀ j v, (stC (toSt (xs.getD i z145)))[j]? = some v → w.cell? ((ad.add (i * 25)).add j) = some v := by
  obtain ⟨ad', c, e, _, hK, hc⟩ := Kd.C_get h z145 (i : Int) (by omega) (by omega)
  cases e
  rw [Int.toNat_natCast] at hK hc
  have ec : c = stC (toSt (xs.getD i z145)) := k145_cells hK
  intro j v hv
  rw [add_add]
  exact hc j v (by rw [ec]; exact hv)
def copySt (l : List S145) (i : Nat) : List S55 := (l.take i).map toSt ++ List.replicate (l.length - i) z55
theorem copySt_len (l : List S145) (i : Nat) (h : i ≤ l.length) : (copySt l i).length = l.length := by
  unfold copySt
  rw [List.length_append, List.length_map, List.length_take, List.length_replicate]
  omega
theorem copySt_succ (l : List S145) (i : Nat) (h : i < l.length) : (copySt l i).set i (toSt (l.getD i z145)) = copySt l (i + 1) := by
  unfold copySt
  have e : ((l.take i).map toSt).length = i := by rw [List.length_map, List.length_take]; omega
  rw [List.set_append_right _ _ (by omega), e, Nat.sub_self, show l.length - i = (l.length - (i + 1)) + 1 by omega, List.replicate_succ, List.set_cons_zero, ← List.take_append_getElem h, List.map_append, List.append_assoc, List.getD_eq_getElem?_getD, List.getElem?_eq_getElem h]
  rfl
theorem copySt_all (l : List S145) : copySt l l.length = l.map toSt := by
  unfold copySt
  rw [List.take_length, Nat.sub_self, List.replicate_zero, List.append_nil]
def laws_toStockS.f (l0 : List S145) : Option (List S55) := if l0.length ≤ 1048576 then some (l0.map toSt) else none
set_option maxHeartbeats 8000000 in
set_option maxRecDepth 100000 in
theorem laws_toStockS.calls (A0 : Option Addr) (c0 : Nat) (l0 : List (S145)) (r : List (S55)) (w : World) (hr0 : Kd.C k145 w A0 l0.length l0) (hc0 : l0.length ≤ c0) (h : laws_toStockS.f l0 = some r) :
    Calls Try.prog 60 #[.slice A0 l0.length c0] w fun e w' => ∃ v0_ : Value, e = .returned (v0_) ∧ Kd.R k55 55 w' w.heap.size (fun _ => True) v0_ r ∧ Below w.heap.size w w' := by
  unfold laws_toStockS.f at h
  by_cases hb : l0.length ≤ 1048576
  · rw [if_pos hb] at h
    obtain rfl := Option.some.inj h
    have HL := Aside0.mk hb
    have HR0 := Aside0.mk hr0
    clear h hb hr0 hc0
    have hn0 : (0 : Int) ≤ (l0.length : Int) := by omega
    go_enter Try.func60, Try.ntmps60
    go_wp2_with (first | ((with_reducible refine gate_dst (N := 7) rfl ?_); refine Kd.R_make k55 _ 55 rfl (N := 7) rfl 30 _ _ rfl (l0.length : Int) rfl rfl Try.underlying30 (.agg #[(.int .i16 0), (.int .i16 0), (.int .i16 0), (.int .i16 0), (.int .i16 0), (.int .i16 0), (.int .i16 0), (.int .i16 0), (.int .i16 0), (.int .i16 0), (.int .i16 0), (.int .i16 0), (.int .i16 0), (.int .i16 0), (.int .i16 0), (.int .i16 0), (.int .i16 0), (.int .i16 0), (.int .i16 0), (.int .i16 0), (.int .i16 0), (.int .i16 0), (.int .i16 0), (.int .i16 0), (.int .i32 0)]) 52 infoSt rfl (by decide) (by omega) z55 (ok := fun _ => True) (okp := fun _ => True) (k55_mkM _ _ _ z55 ) (fun _ hk => hk) trivial (by omega) (by have := HL.out; omega) (Below.refl _ _) (Nat.le_refl _) ?_; intro v3 w4 ho hb hg_ hnew_; clear hg_ hnew_; have HO := Aside0.mk (show Kd.R k55 55 w4 w.heap.size (fun _ => True) v3 (copySt l0 0) from ho); have HB := Aside0.mk hb; clear ho hb))
    go_loopg [4] l0.length (fun gk v4 wr => ∃ (i : Nat), i ≤ l0.length ∧ l0.length - i ≤ gk ∧ v4 = .int .i64 i ∧ Aside0 (Kd.R k55 55 wr w.heap.size (fun _ => True) v3 (copySt l0 i)) ∧ Aside0 (Below w.heap.size w wr))
    case atStart => exact ⟨0, by omega, by omega, rfl, HO, HB⟩
    case round =>
      clear HO HB
      obtain ⟨i, hi, hgk, rfl, HO, HB⟩ := hrel
      by_cases hlt : i < l0.length
      · have hltz : (i : Int) < (l0.length : Int) := by omega
        obtain ⟨ad, e⟩ : ∃ ad, A0 = some ad := by
          obtain ⟨ad, c, e, _⟩ := Kd.C_get HR0.out z145 (i : Int) (by omega) hltz
          exact ⟨ad, e⟩
        subst e
        have EC := Aside0.mk (elem_cells145 (Kd.C_below HR0.out HB.out) i hlt)
        have LEN := Aside0.mk (copySt_len l0 i hi)
        have SUC := Aside0.mk (copySt_succ l0 i hlt)
        obtain ⟨g, cp, ev, _⟩ := Kd.R_form HO.out (by rw [LEN.out]; omega)
        rw [LEN.out] at ev
        subst ev
        generalize l0.getD i z145 = x at EC SUC
        generalize hxs : copySt l0 i = xs at HO LEN SUC
        clear hxs
        have HLI := Aside0.mk hlt
        go_wp2_with (first | ((with_reducible refine gate_dst (N := 19) rfl ?_); refine Kd.event_run rfl (mem_load (ad := ad.add (i * 25)) (cs := stC (toSt x)) rfl rfl EC.out Try.underlying145 rfl (by kernel_rfl)) ?_) | (go_at_call 119; refine (toStock_calls x _).mono ?_; rintro e wc ⟨rfl, hb⟩; have n0_ := Aside0.mk (Kd.R_below HO.out hb); have n1_ := Aside0.mk (below_step HB.out hb); clear HO HB hb; have HO := n0_; have HB := n1_; clear n0_ n1_; obtain ⟨ce, hcl, _, hcc, _⟩ := Kd.R_elem HO.out z55 (i : Int) (by omega) (by have := HLI.out; omega); have HCL := Aside0.mk hcl; have HCC := Aside0.mk hcc; clear hcl hcc) | ((with_reducible refine gate_store (t := 55) (p := 21) (v := .tmp 20) rfl ?_); refine Kd.R_store k55 (w0 := w) w.heap.size rfl rfl 55 (.tmp 21) (.tmp 20) rfl 55 (o' := i * 25) (i : Int) 0 xs (toSt x) (.agg (stC (toSt x)).toArray) (stC (toSt x)) ce (fun _ => True) (fun _ => False) (by first | rfl | (simp; done)) (by rw [Int.toNat_natCast]; rfl) rfl (by simp [Value.cells]) (by kernel_rfl) (stC_one _) HO.out (by omega) (by have := HLI.out; omega) HCL.out HCC.out (by show 0 + 25 ≤ 25; decide) (by rw [List.take_zero, List.nil_append, List.drop_of_length_le (by rw [HCL.out]; show 25 ≤ 0 + 25; decide), List.append_nil]; exact k55_stM _ _ _ _) (fun _ h => h.elim) HB.out ?_; intro w9 ho hb hg; have HO9 := Aside0.mk ho; have HB9 := Aside0.mk hb; clear ho hb hg))
        have hli_ := HLI.out
        have hl_ := HL.out
        go_roundg (l0.length - (i + 1))
        case measure => omega
        case rel => exact ⟨i + 1, by omega, by omega, by have hw_ : wrap64 ((i : Int) + 1) = ((i + 1 : Nat) : Int) := (w64i (by omega) (by omega)).trans (by omega); first | rw [hw_] | (simp only [i64_w, hw_]), ⟨by rw [← SUC.out]; exact HO9.out⟩, HB9⟩
      · have hltz : ¬ (i : Int) < (l0.length : Int) := by omega
        obtain rfl : i = l0.length := by omega
        go_wp2
        go_ret
        exact ⟨_, rfl, by rw [← copySt_all]; exact HO.out, HB.out⟩
  · rw [if_neg hb] at h
    cases h
end Go.Proofs.Ytggjdcijplgpdaa.H
end
