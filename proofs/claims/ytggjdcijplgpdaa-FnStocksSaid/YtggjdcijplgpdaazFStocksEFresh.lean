import Derived.Test.YtggjdcijplgpdaazFStocksEInH
import Derived.Test.YtggjdcijplgpdaazFStocksEDayOf
import Derived.Test.YtggjdcijplgpdaazFStocksECloneSt
import Derived.Test.YtggjdcijplgpdaazFStocksH14
import Derived.Shelf.Abstract
import Derived.Great.BuildSlice
import Derived.Test.YtggjdcijplgpdaazFStocksEVHF
section
namespace Go.Proofs.Ytggjdcijplgpdaa.H
open Go.RowKit Go.Proofs.YtggjdcijplgpdaaW.PrintWords Go.Proofs.YtggjdcijplgpdaaW.PrintLast Go.Proofs.YtggjdcijplgpdaaW.PrintMore
attribute [local go_sem] max2_int min2_int max_two min_two max_three min_three max_four min_four
set_option linter.unusedVariables false
set_option linter.unusedSimpArgs false
def Bytes (l : List Int) : Prop := ∀ x ∈ l, (Lit.int .u8 x).wf = true
theorem byte_at {l : List Int} (h : Bytes l) (i : Nat) (hi : i < l.length) : 0 ≤ rd l (i : Int) ∧ rd l (i : Int) ≤ 255 := by
 have e : rd l (i : Int) = l[i] := by
  show l.getD (i : Int).toNat 0 = _
  rw [Int.toNat_natCast, List.getD_eq_getElem?_getD, List.getElem?_eq_getElem hi]
  rfl
 rw [e]
 have := h _ (List.getElem_mem hi)
 simp [Lit.wf, IntKind.min, IntKind.max, IntKind.bits, IntKind.signed] at this
 omega
theorem and255 (a : Int) : 0 ≤ Go.bits .and .u64 a 255 ∧ Go.bits .and .u64 a 255 ≤ 255 := by
 have e : ∃ v : BitVec 64, Go.bits .and .u64 a 255 = IntKind.u64.wrap ((v.toNat : Nat) : Int) ∧ v = BitVec.ofInt 64 a &&& BitVec.ofInt 64 255 := ⟨_, rfl, rfl⟩
 obtain ⟨v, h1, h2⟩ := e
 have hv : v.toNat ≤ 255 := by
  rw [h2, BitVec.toNat_and]
  exact Nat.le_trans Nat.and_le_right (by decide)
 rw [h1, show IntKind.u64.wrap ((v.toNat : Nat) : Int) = ((v.toNat : Nat) : Int) from IntWalk.u64_in _ ⟨by omega, by omega⟩]
 exact ⟨by omega, by omega⟩
theorem nextB {l : List Int} (h : Bytes l) (i : Nat) (hi : i ≤ 100000) (x : Int) : ∃ r y, spec_l00Src_next.f l (i : Int) x = some (r, ((i + 1 : Nat) : Int), y) ∧ 0 ≤ r ∧ r ≤ 255 := by
 unfold spec_l00Src_next.f
 rw [show wrap64 ((i : Int) + 1) = ((i + 1 : Nat) : Int) by rw [w64i (by omega) (by omega)]; rfl]
 by_cases c : (i : Int) < (l.length : Int)
 · have hb := byte_at h i (by omega)
   rw [if_pos c, if_pos (by omega), if_pos (by omega)]
   exact ⟨_, _, rfl, by rw [w64i (by omega) (by omega)]; exact hb.1, by rw [w64i (by omega) (by omega)]; exact hb.2⟩
 · rw [if_neg c, if_neg (by omega)]
   have g : ∀ z, 0 ≤ wrap64 (Go.bits .and .u64 z 255) ∧ wrap64 (Go.bits .and .u64 z 255) ≤ 255 := by
    intro z
    have := and255 z
    rw [w64i (by omega) (by omega)]
    exact this
   exact ⟨_, _, rfl, (g _).1, (g _).2⟩
theorem pickB {l : List Int} (h : Bytes l) (i : Nat) (hi : i ≤ 100000) (x : Int) (q : Int) (h1 : 1 < q) (h2 : q ≤ 200) : ∃ t y, spec_l00Src_pick.f l (i : Int) x q = some (t, ((i + 1 : Nat) : Int), y) ∧ 0 ≤ t ∧ t < q := by
 obtain ⟨r, y, hr, r0, r1⟩ := nextB h i hi x
 refine ⟨Int.tmod r q, y, ?_, ?_, ?_⟩
 · unfold spec_l00Src_pick.f
   rw [if_neg (by omega), hr, Option.bind_some, if_neg (by omega), if_neg (by omega)]
 · rw [Int.tmod_eq_emod_of_nonneg r0]; exact Int.emod_nonneg _ (by omega)
 · rw [Int.tmod_eq_emod_of_nonneg r0]; exact Int.emod_lt_of_pos _ (by omega)
theorem keep_below {w W W' : World} {g : Nat} (h : KeepBut w W g none) (hb : Below W.heap.size W W') : KeepBut w W' g none :=
 ⟨Nat.le_trans h.1 hb.size, fun i hi hg hr => (hb.block i (Nat.lt_of_lt_of_le hi h.1)).trans (h.2 i hi hg hr)⟩
theorem keep_grown {w W W' : World} {g a : Nat} (h : KeepBut w W g none) (hg : W.grownBy W' (some a)) (ha : w.heap.size ≤ a) : KeepBut w W' g none :=
 ⟨Nat.le_trans h.1 hg.size, fun i hi hn hr => (hg.block i (Nat.lt_of_lt_of_le hi h.1) (fun e => by injection e with e; omega)).trans (h.2 i hi hn hr)⟩
theorem keep_then {w W W' : World} {g : Nat} (h : KeepBut w W g none) (k : KeepBut W W' g none) : KeepBut w W' g none :=
 ⟨Nat.le_trans h.1 k.1, fun i hi hg hr => (k.2 i (Nat.lt_of_lt_of_le hi h.1) hg hr).trans (h.2 i hi hg hr)⟩
theorem blk_keep {W W' : World} {a g : Nat} {o : Obj} (h : W.heap[a]? = some o) (k : KeepBut W W' g none) (hne : a ≠ g) : W'.heap[a]? = some o := (k.2 a (blk_lt h) hne (by simp)).trans h
structure SmallSt (n : Int) (s : S55) : Prop where
 pos : ∀ x ∈ s.l, 0 ≤ x
 sum : sumL s.l ≤ n
theorem SmallSt.fit {n : Int} {s : S55} (h : SmallSt n s) (hn : n ≤ 500) : FitSt s := ⟨h.pos, by have := h.sum; omega⟩
theorem SmallSt.at_ {n : Int} {s : S55} (h : SmallSt n s) (hn : n ≤ 500) (j : Nat) : 0 ≤ s.at_ j ∧ s.at_ j ≤ n := by
 refine ⟨at_pos (h.fit hn) j, ?_⟩
 have := sumL_ge s.l j h.pos
 have h2 := h.sum
 show s.l.getD j 0 ≤ n
 omega
theorem SmallSt.add {n m : Int} {s : S55} (h : SmallSt n s) (j : Nat) (hj : j < 25) {v : Int} (h0 : 0 ≤ v) (hv : v ≤ s.at_ j + m) : SmallSt (n + m) (s.put j v) := by
 refine ⟨fun x hx => ?_, ?_⟩
 · rw [S55.put_l] at hx
   rcases List.mem_or_eq_of_mem_set hx with hx | rfl
   · exact h.pos x hx
   · exact h0
 · rw [S55.put_l, sumL_set _ _ _ (show j < s.l.length from hj)]
   have := h.sum
   have e : s.at_ j = s.l.getD j 0 := rfl
   omega
end Go.Proofs.Ytggjdcijplgpdaa.H
end
section
namespace Go.Proofs.Ytggjdcijplgpdaa.H
open Go.RowKit Go.Proofs.YtggjdcijplgpdaaW.PrintWords Go.Proofs.YtggjdcijplgpdaaW.PrintLast Go.Proofs.YtggjdcijplgpdaaW.PrintMore
attribute [local go_sem] max2_int min2_int max_two min_two max_three min_three max_four min_four
set_option linter.unusedVariables false
set_option linter.unusedSimpArgs false
theorem fill_stock (s : S55) (z : Array Value) (hz : z.size = 25) : Instr.fill (fun i => some (i * 25, 25)) z [(0, .agg (stC s).toArray)] = some (stC s).toArray := by
 have h := Great.fill_whole (s := 25) (by decide) [.agg (stC s).toArray] z (by intro v hv; rw [List.mem_singleton] at hv; subst hv; rfl) (by rw [hz]; rfl)
 have h2 : Instr.fill (fun i => some (i * 25, 25)) z [(0, .agg (stC s).toArray)] = some (Value.agg (stC s).toArray).cells := by simpa using h
 exact h2
theorem info_stock : ∃ ie z, Try.prog.info? 55 = some ie ∧ ie.zero = some z ∧ ie.size = 25 := by
 obtain ⟨ie, hie, hz⟩ := Option.map_eq_some_iff.mp infoSt
 simp only [Prod.mk.injEq] at hz
 exact ⟨ie, _, hie, hz.1, hz.2.1⟩
theorem build_run (w : World) (s : S55) : (Instr.buildSlice 30 1 #[(0, .agg (stC s).toArray)]).run Try.prog w = .ok (.slice (some ⟨w.heap.size, 0, none⟩) 1 1) (w.alloc (.cells (stC s).toArray 55)) := by
 obtain ⟨ie, z, hie, hz, hs⟩ := info_stock
 have hf := fill_stock s ((Array.range (1 * 25)).map (z.cells[· % z.cells.size]!)) (by simp)
 generalize (stC s).toArray = cs at hf ⊢
 have hf2 : Instr.fill (fun i => some (i * ie.size, ie.size)) ((Array.range (1 * ie.size)).map (z.cells[· % z.cells.size]!)) #[((0 : Nat), Value.agg cs)].toList = some cs := by rw [hs]; exact hf
 exact run_buildSlice w 30 55 1 #[(0, .agg cs)] cs ie z Try.underlying30 hie hz (by rw [hs]; decide) (by rw [hs]; decide) hf2
theorem build_stock {a : Act} {o : Oper} {w : World} {x : Operand} (ho : o.op = .buildSlice 30 1 #[(0, x)]) (s : S55) (hx : a.eval x = .agg (stC s).toArray) : (execOp a.eval o).run Try.prog w = .ok (.value (.slice (some ⟨w.heap.size, 0, none⟩) 1 1)) (w.alloc (.cells (stC s).toArray 55)) := by
 have hr := build_run w s
 generalize (stC s).toArray = cs at hx hr ⊢
 unfold execOp
 simp only [ho, List.map_toArray, List.map_cons, List.map_nil, hx, Sem.run_bind, hr, Result.andThen_ok, Sem.run_pure]
end Go.Proofs.Ytggjdcijplgpdaa.H
end
section
namespace Go.Proofs.Ytggjdcijplgpdaa.H
open Go.RowKit Go.Proofs.YtggjdcijplgpdaaW.PrintWords Go.Proofs.YtggjdcijplgpdaaW.PrintLast Go.Proofs.YtggjdcijplgpdaaW.PrintMore
attribute [local go_sem] max2_int min2_int max_two min_two max_three min_three max_four min_four
set_option linter.unusedVariables false
set_option linter.unusedSimpArgs false
def freshS (p : Int) : S55 := ⟨⟨0, 0, 0, 0, 0, 0, 0, p⟩, z53, z53, 0⟩
set_option maxHeartbeats 8000000 in
set_option maxRecDepth 100000 in
theorem newStock_calls (p : Int) (hp : 0 ≤ p ∧ p ≤ 500) (w : World) :
 Calls Try.prog 77 #[.int .i64 p] w fun e w' => e = .returned (.agg (stC (freshS p)).toArray) ∧ Below w.heap.size w w' := by
 have hu53 := Try.underlying53
 have hu55 := Try.underlying55
 have hw : IntKind.i16.wrap p = p := wrap16_id (by omega) (by omega)
 clear hp
 go_enter Try.func77, Try.ntmps77
 have ST0 := Aside0.mk True.intro
 go_wp2_with (first
  | (have s_ := ST0; (with_reducible refine gate_dst (N := 2) rfl ?_); refine box_event ?hg (N := 2) ?hd (cs := (stC z55).toArray) (t := 55) ?hr ?_; (case hd => rfl); (case hg => rfl); (case hr => first | (go_simp; done) | (go_simp; rfl)); intro g2 hg_ w1 hbox hb; have GK2 := Aside0.mk (by rw [hg_]; exact Nat.le_refl _ : w.heap.size ≤ g2); have HB := Aside0.mk hb; have K2 := Aside0.mk hbox; clear hb hbox hg_; clear ST0 s_; have ST1 := Aside0.mk True.intro)
  | (have s_ := ST1; (with_reducible refine gate_dst (N := 3) rfl ?_); refine box_event ?hg (N := 3) ?hd (cs := (stC z55).toArray) (t := 55) ?hr ?_; (case hd => rfl); (case hg => rfl); (case hr => first | (go_simp; done) | (go_simp; rfl)); intro g3 hg_ w2 hbox hb; have GK3 := Aside0.mk (by rw [hg_]; exact HB.out.size : w.heap.size ≤ g3); have NK2_K3 := Aside0.mk (by rw [hg_]; exact Nat.ne_of_lt (blk_lt K2.out) : g2 ≠ g3); replace HB := Aside0.mk (below_step HB.out hb); replace K2 := Aside0.mk (blk_below K2.out hb); have K3 := Aside0.mk hbox; clear hb hbox hg_; clear ST1 s_; have ST2 := Aside0.mk True.intro)
  | (have s_ := ST2; (with_reducible refine gate_store (t := 55) (p := 3) (v := .tmp 4) rfl ?_); refine mem_store (seg := stC z55) (g := g3) (off := 0) rfl rfl rfl rfl rfl K3.out (by kernel_rfl) (by show 0 + 25 ≤ 25; decide) (stC_one _) ?_; intro w3 cur_ hk hl hg; obtain rfl : cur_ = (stC z55).toArray := Array.ext' (hl.trans rfl); replace HB := Aside0.mk (below_grown HB.out hg (fun k_ e_ => by injection e_ with e_; subst e_; exact GK3.out)); replace K2 := Aside0.mk (blk_grown K2.out hg (fun e_ => by injection e_ with e_; exact NK2_K3.out e_)); replace K3 := Aside0.mk (hk); clear hk hl hg; have c7 : w3.cell? ⟨g3, 7, none⟩ = some (.int .i16 0) := (blk_cell K3.out 7).trans rfl; have f7 : w3.frozen? ⟨g3, 7, none⟩ = false := blk_frozen K3.out 7; clear ST2 s_; have ST3 := Aside0.mk True.intro)
  | (have s_ := ST3; (with_reducible refine gate_dst (N := 9) rfl ?_); refine Kd.event_run rfl (mem_load (ad := ⟨g3, 0, none⟩) (cs := stC (freshS p)) rfl rfl (block_cells (blk_put K3.out 7 (.int .i16 p) rfl)) Try.underlying55 rfl (by kernel_rfl)) ?_; clear ST3 s_; have ST4 := Aside0.mk True.intro)
  | (have s_ := ST4; (with_reducible refine gate_store (t := 55) (p := 2) (v := .tmp 9) rfl ?_); refine mem_store (seg := stC (freshS p)) (g := g2) (off := 0) rfl rfl rfl rfl rfl (blk_far (p := ⟨g3, 7, none⟩) K2.out NK2_K3.out _) (by kernel_rfl) (by show 0 + 25 ≤ 25; decide) (stC_one _) ?_; intro w5 cur_ hk hl hg; obtain rfl : cur_ = (stC (freshS p)).toArray := Array.ext' (hl.trans rfl); have K9 := Aside0.mk hk; have HB9 := Aside0.mk (below_grown (below_set (j := 7) (v := .int .i16 p) HB.out GK3.out) hg (fun k_ e_ => by injection e_ with e_; subst e_; exact GK2.out)); clear hk hl hg c7 f7; clear ST4 s_; have ST5 := Aside0.mk True.intro))
 refine bodyPost_ret (results_cell_row rfl _ _ g2 55 (stC (freshS p)).toArray (0, 0) _ rfl K9.out Try.underlying55 rfl (by kernel_rfl)) rfl ?_
 exact ⟨rfl, HB9.out⟩
set_option maxHeartbeats 8000000 in
set_option maxRecDepth 100000 in
theorem l05Fresh_calls (p : Int) (hp : 0 ≤ p ∧ p ≤ 500) (w : World) :
 Calls Try.prog 84 #[.int .i64 p] w fun e w' => e = .returned (.agg (stC (freshS p)).toArray) ∧ Below w.heap.size w w' := by
 have hu53 := Try.underlying53
 have hu55 := Try.underlying55
 have hw : IntKind.i16.wrap p = p := wrap16_id (by omega) (by omega)
 clear hp
 go_enter Try.func84, Try.ntmps84
 have ST0 := Aside0.mk True.intro
 go_wp2_with (first
  | (have s_ := ST0; (with_reducible refine gate_dst (N := 2) rfl ?_); refine box_event ?hg (N := 2) ?hd (cs := (stC z55).toArray) (t := 55) ?hr ?_; (case hd => rfl); (case hg => rfl); (case hr => first | (go_simp; done) | (go_simp; rfl)); intro g2 hg_ w1 hbox hb; have GK2 := Aside0.mk (by rw [hg_]; exact Nat.le_refl _ : w.heap.size ≤ g2); have HB := Aside0.mk hb; have K2 := Aside0.mk hbox; clear hb hbox hg_; clear ST0 s_; have ST1 := Aside0.mk True.intro)
  | (have s_ := ST1; (with_reducible refine gate_dst (N := 3) rfl ?_); refine box_event ?hg (N := 3) ?hd (cs := (stC z55).toArray) (t := 55) ?hr ?_; (case hd => rfl); (case hg => rfl); (case hr => first | (go_simp; done) | (go_simp; rfl)); intro g3 hg_ w2 hbox hb; have GK3 := Aside0.mk (by rw [hg_]; exact HB.out.size : w.heap.size ≤ g3); have NK2_K3 := Aside0.mk (by rw [hg_]; exact Nat.ne_of_lt (blk_lt K2.out) : g2 ≠ g3); replace HB := Aside0.mk (below_step HB.out hb); replace K2 := Aside0.mk (blk_below K2.out hb); have K3 := Aside0.mk hbox; clear hb hbox hg_; clear ST1 s_; have ST2 := Aside0.mk True.intro)
  | (have s_ := ST2; (with_reducible refine gate_store (t := 55) (p := 3) (v := .tmp 4) rfl ?_); refine mem_store (seg := stC z55) (g := g3) (off := 0) rfl rfl rfl rfl rfl K3.out (by kernel_rfl) (by show 0 + 25 ≤ 25; decide) (stC_one _) ?_; intro w3 cur_ hk hl hg; obtain rfl : cur_ = (stC z55).toArray := Array.ext' (hl.trans rfl); replace HB := Aside0.mk (below_grown HB.out hg (fun k_ e_ => by injection e_ with e_; subst e_; exact GK3.out)); replace K2 := Aside0.mk (blk_grown K2.out hg (fun e_ => by injection e_ with e_; exact NK2_K3.out e_)); replace K3 := Aside0.mk (hk); clear hk hl hg; have c7 : w3.cell? ⟨g3, 7, none⟩ = some (.int .i16 0) := (blk_cell K3.out 7).trans rfl; have f7 : w3.frozen? ⟨g3, 7, none⟩ = false := blk_frozen K3.out 7; clear ST2 s_; have ST3 := Aside0.mk True.intro)
  | (have s_ := ST3; (with_reducible refine gate_dst (N := 9) rfl ?_); refine Kd.event_run rfl (mem_load (ad := ⟨g3, 0, none⟩) (cs := stC (freshS p)) rfl rfl (block_cells (blk_put K3.out 7 (.int .i16 p) rfl)) Try.underlying55 rfl (by kernel_rfl)) ?_; clear ST3 s_; have ST4 := Aside0.mk True.intro)
  | (have s_ := ST4; (with_reducible refine gate_store (t := 55) (p := 2) (v := .tmp 9) rfl ?_); refine mem_store (seg := stC (freshS p)) (g := g2) (off := 0) rfl rfl rfl rfl rfl (blk_far (p := ⟨g3, 7, none⟩) K2.out NK2_K3.out _) (by kernel_rfl) (by show 0 + 25 ≤ 25; decide) (stC_one _) ?_; intro w5 cur_ hk hl hg; obtain rfl : cur_ = (stC (freshS p)).toArray := Array.ext' (hl.trans rfl); have K9 := Aside0.mk hk; have HB9 := Aside0.mk (below_grown (below_set (j := 7) (v := .int .i16 p) HB.out GK3.out) hg (fun k_ e_ => by injection e_ with e_; subst e_; exact GK2.out)); clear hk hl hg c7 f7; clear ST4 s_; have ST5 := Aside0.mk True.intro))
 refine bodyPost_ret (results_cell_row rfl _ _ g2 55 (stC (freshS p)).toArray (0, 0) _ rfl K9.out Try.underlying55 rfl (by kernel_rfl)) rfl ?_
 exact ⟨rfl, HB9.out⟩
end Go.Proofs.Ytggjdcijplgpdaa.H
end
