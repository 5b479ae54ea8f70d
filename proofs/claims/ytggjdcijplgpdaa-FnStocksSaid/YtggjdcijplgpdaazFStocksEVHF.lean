import Derived.Test.YtggjdcijplgpdaazFStocksEDAll
import Derived.Test.YtggjdcijplgpdaazFStocksEDay2
import Derived.Test.YtggjdcijplgpdaazFStocksELayG
import Derived.Test.YtggjdcijplgpdaazFStocksEDayOf
import Derived.Test.YtggjdcijplgpdaazFStocksEHOk
import Derived.Test.YtggjdcijplgpdaazFStocksEInH
import Derived.Test.YtggjdcijplgpdaazFStocksEMarkSt
import Derived.Test.YtggjdcijplgpdaazFStocksH12
import Derived.Test.YtggjdcijplgpdaazFStocksEVHouse
import Derived.Test.YtggjdcijplgpdaazFStocksECloneSt
import Derived.Test.YtggjdcijplgpdaazFStocksEConcat
import Derived.Test.YtggjdcijplgpdaazFStocksH1
import Derived.Test.YtggjdcijplgpdaazFStocksENeedC
import Derived.Shelf.Abstract
import Derived.Deep.QuietTactic
import Derived.BigQuiet
import Derived.Test.YtggjdcijplgpdaazFStocksEUse1
import Derived.Test.YtggjdcijplgpdaazFStocksEUse2
import Derived.Test.YtggjdcijplgpdaazFStocksEVStock
section
namespace Go.Proofs.Ytggjdcijplgpdaa.H
open Go.RowKit Go.Proofs.YtggjdcijplgpdaaW.PrintWords Go.Proofs.YtggjdcijplgpdaaW.PrintLast Go.Proofs.YtggjdcijplgpdaaW.PrintMore
attribute [local go_sem] max2_int min2_int max_two min_two max_three min_three max_four min_four
set_option linter.unusedVariables false
set_option linter.unusedSimpArgs false
theorem below_grown {w0 w1 w2 : World} {r : Option Nat} (h : Below w0.heap.size w0 w1) (h2 : w1.grownBy w2 r) (hr : ∀ k, r = some k → w0.heap.size ≤ k) : Below w0.heap.size w0 w2 :=
 ⟨h2.os.trans h.os, h2.tape.trans h.tape, h2.output.trans h.output, Nat.le_trans h.size h2.size, fun b hb => (h2.block b (Nat.lt_of_lt_of_le hb h.size) (fun e => by have := hr b e.symm; omega)).trans (h.block b hb)⟩
theorem put4_grown {w : World} {g : Nat} {x0 x1 x2 x3 : Value} (_ : True) (_ : True) : w.grownBy ((((w.setCell ⟨g, 0, none⟩ x0).setCell ⟨g, 1, none⟩ x1).setCell ⟨g, 2, none⟩ x2).setCell ⟨g, 3, none⟩ x3) (some g) :=
 ⟨rfl, rfl, rfl, by simp [World.setCell], fun b _ hn => put4_block b (fun e => hn (congrArg some e))⟩
theorem rowAt_of_R {W : World} {base : Nat} {ok : Nat → Prop} {A : Option Addr} {c : Nat} {l : List S55} (h : Kd.R k55 55 W base ok (.slice A l.length c) l) : RowAt W A l := fun hp => by
 obtain ⟨g, cap, e, _, _, hr⟩ := row_of_R h hp
 injection e with e1 e2 e3
 exact ⟨g, cap, e1, hr⟩
end Go.Proofs.Ytggjdcijplgpdaa.H
end
section
namespace Go.Proofs.Ytggjdcijplgpdaa.H
open Go.RowKit Go.Proofs.YtggjdcijplgpdaaW.PrintWords Go.Proofs.YtggjdcijplgpdaaW.PrintLast Go.Proofs.YtggjdcijplgpdaaW.PrintMore
attribute [local go_sem] max2_int min2_int max_two min_two max_three min_three max_four min_four   -- for this text's walks alone
set_option linter.unusedVariables false
set_option linter.unusedSimpArgs false
def impl_isPieces.f (a0 : Int) : Option (Bool) := (impl_within.f a0 0 500).bind fun t296 => (some t296)
set_option maxHeartbeats 8000000 in
set_option maxRecDepth 100000 in
theorem impl_isPieces.calls (a0 : Int) (r : Bool) (w : World) (h : impl_isPieces.f a0 = some r) :
 Calls Try.prog 76 #[.int .i64 a0] w fun e w' => e = .returned (.bool r) ∧ Drawn0 w w' := by
 have H : ((impl_within.f a0 0 500).bind fun t296 => (some t296)) = some r := h
 clear h
 replace H := Option.bind_eq_some_iff.mp H
 obtain ⟨t296, A20, H⟩ := H
 replace H : (some t296) = some r := H
 have A2 := Aside0.mk A20
 clear A20
 obtain rfl := Option.some.inj H
 go_enter Try.func76, Try.ntmps76
 go_wp2_with (first | ((with_reducible refine gate_callee (f := 72) rfl ?_); refine goesL_ (some 4) rfl rfl Try.func72 (by kernel_rfl) rfl #[.int .i64 a0, .int .i64 0, .int .i64 500] rfl (by (try simp only [List.map_toArray, List.map_cons, List.map_nil]); first | done | rfl | (simp only [List.length_drop, List.length_take]; rfl)) ?_; (with_reducible refine (impl_within.calls a0 0 500 t296 _ A2.out).mono ?_); rintro e w' ⟨rfl, ⟨nd, rfl⟩⟩; refine ⟨_, rfl, ?_⟩))
 go_ret
 exact ⟨by first | rfl | (simp; done) | (simp [*]; done), by repeat (first | exact Drawn0.refl _ | apply Drawn0.step)⟩
end Go.Proofs.Ytggjdcijplgpdaa.H
end
section
namespace Go.Proofs.Ytggjdcijplgpdaa.H
open Go.RowKit Go.Proofs.YtggjdcijplgpdaaW.PrintWords Go.Proofs.YtggjdcijplgpdaaW.PrintLast Go.Proofs.YtggjdcijplgpdaaW.PrintMore
attribute [local go_sem] max2_int min2_int max_two min_two max_three min_three max_four min_four
set_option linter.unusedVariables false
set_option linter.unusedSimpArgs false
theorem stk_in {W : World} {g : Nat} {s : S55} (h : W.heap[g]? = some (.cells (stC s).toArray 55 (0, 0))) : InSt W g 0 55 (stC s).toArray s W :=
 InSt.refl h (fun j hj => by rw [Nat.zero_add, List.getElem?_toArray]; exact stC_get s j hj)
theorem stk_of {W W' : World} {g : Nat} {s s' : S55} (h : InSt W g 0 55 (stC s).toArray s' W') : W'.heap[g]? = some (.cells (stC s').toArray 55 (0, 0)) := by
 obtain ⟨cs, hh, hs, _, hi⟩ := h.blk
 have hz : cs.size = 25 := hs
 have e : cs = (stC s').toArray := by
  apply Array.ext_getElem?
  intro j
  by_cases hj : j < 25
  · have := hi j hj
    rw [Nat.zero_add] at this
    rw [this, List.getElem?_toArray, stC_get s' j hj]
  · rw [Array.getElem?_eq_none (by omega), Array.getElem?_eq_none (show (stC s').toArray.size ≤ j by show 25 ≤ j; omega)]
 rw [hh, e]
theorem fit_typed {s : S55} (h : FitSt s) : TypedSt s := by
 intro x hx
 have h0 := h.pos x hx
 obtain ⟨j, hj, rfl⟩ := List.getElem_of_mem hx
 have h1 := at_le h j
 unfold S55.at_ at h1
 rw [List.getD_eq_getElem?_getD, List.getElem?_eq_getElem hj] at h1
 have h2 : s.l[j] ≤ 500 := h1
 omega
set_option maxHeartbeats 8000000 in
set_option maxRecDepth 100000 in
theorem useKind_calls (k : S55) (need : Int) (hf : FitSt k) (hn : 0 ≤ need ∧ need ≤ 500) (w : World) :
 Calls Try.prog 29 #[.agg (stC k).toArray, .int .i64 need] w fun e w' => e = .returned (.tuple #[.agg (stC (useOf k need).1).toArray, .int .i64 (useOf k need).2, .int .i64 0]) ∧ Below w.heap.size w w' := by
 have hu55 := Try.underlying55
 have mixed : Try.prog.follows .mixedOrders = true := by kernel_rfl
 obtain ⟨q, hq⟩ : ∃ q, useOf k need = q := ⟨_, rfl⟩
 have ht := fit_typed hf
 have hfb := (fitB_iff k).mpr hf
 have HV := Aside0.mk (fun (w : World) => (hfb ▸ validStock_calls k ht w : Calls Try.prog 32 #[.agg (stC k).toArray] w fun e w' => e = .returned (.bool true) ∧ Below w.heap.size w w'))
 have HN1 := Aside0.mk (fun (w : World) => impl_unless.calls true 1 0 w rfl)
 have HN2 := Aside0.mk (fun (w : World) => impl_unless.calls true 2 0 w rfl)
 have HP := Aside0.mk (fun (w : World) => impl_isPieces.calls need true w (by unfold impl_isPieces.f; rw [within_B]; unfold inB; rw [decide_eq_true hn.1, decide_eq_true hn.2]; rfl))
 have HF1 := Aside0.mk (fun (A : Option Addr) (c : Nat) (w : World) (hr : Kd.C (Kd.int .i64) w A ([0, 0] : List Int).length [0, 0]) (hc : ([0, 0] : List Int).length ≤ c) => impl_firstOf.calls 3 A c [0, 0] 0 w hr hc (firstOf_two 0 0))
 have HU := Aside0.mk (fun {g : Nat} (w : World) (E : InSt w g 0 55 (stC k).toArray k w) => use_walk w w g 0 55 (stC k).toArray k need hf hn E)
 rw [hq] at HU ⊢
 clear hq ht hfb hf hn
 go_enter Try.func29, Try.ntmps29
 have ST0 := Aside0.mk True.intro
 go_wp2_with (first
  | (have s_ := ST0; (with_reducible refine gate_dst (N := 2) rfl ?_); refine box_event ?hg (N := 2) ?hd (cs := (stC k).toArray) (t := 55) ?hr ?_; (case hd => rfl); (case hg => rfl); (case hr => first | (go_simp; done) | (go_simp; rfl)); intro g2 hg_ w1 hbox hb; have GK2 := Aside0.mk (by rw [hg_]; exact Nat.le_refl _ : w.heap.size ≤ g2); have HB := Aside0.mk hb; have K2 := Aside0.mk hbox; clear hb hbox hg_; clear ST0 s_; have ST1 := Aside0.mk True.intro)
  | (have s_ := ST1; (with_reducible refine gate_dst (N := 4) rfl ?_); refine box_event ?hg (N := 4) ?hd (cs := (stC z55).toArray) (t := 55) ?hr ?_; (case hd => rfl); (case hg => rfl); (case hr => first | (go_simp; done) | (go_simp; rfl)); intro g4 hg_ w2 hbox hb; have GK4 := Aside0.mk (by rw [hg_]; exact HB.out.size : w.heap.size ≤ g4); have NK2_K4 := Aside0.mk (by rw [hg_]; exact Nat.ne_of_lt (blk_lt K2.out) : g2 ≠ g4); replace HB := Aside0.mk (below_step HB.out hb); replace K2 := Aside0.mk (blk_below K2.out hb); have K4 := Aside0.mk hbox; clear hb hbox hg_; clear ST1 s_; have ST2 := Aside0.mk True.intro)
  | (have s_ := ST2; (with_reducible refine gate_dst (N := 9) rfl ?_); refine Kd.event_run rfl (mem_load (ad := ⟨g2, 0, none⟩) (cs := stC k) rfl rfl (block_cells K2.out) Try.underlying55 rfl (by kernel_rfl)) ?_; clear ST2 s_; have ST3 := Aside0.mk True.intro)
  | (have s_ := ST3; go_at_call 32; (with_reducible refine (HV.out _).mono ?_); rintro e w3 ⟨rfl, hb⟩; replace HB := Aside0.mk (below_step HB.out hb); replace K2 := Aside0.mk (blk_below K2.out hb); replace K4 := Aside0.mk (blk_below K4.out hb); clear hb; clear ST3 s_; have ST4 := Aside0.mk True.intro)
  | (have s_ := ST4; go_at_call 62; (with_reducible refine (HN1.out _).mono ?_); rintro e w4 ⟨rfl, hd⟩; have hb := hd.below; replace HB := Aside0.mk (below_step HB.out hb); replace K2 := Aside0.mk (blk_below K2.out hb); replace K4 := Aside0.mk (blk_below K4.out hb); clear hb hd; clear ST4 s_; have ST5 := Aside0.mk True.intro)
  | (have s_ := ST5; go_at_call 76; (with_reducible refine (HP.out _).mono ?_); rintro e w5 ⟨rfl, hd⟩; have hb := hd.below; replace HB := Aside0.mk (below_step HB.out hb); replace K2 := Aside0.mk (blk_below K2.out hb); replace K4 := Aside0.mk (blk_below K4.out hb); clear hb hd; clear ST5 s_; have ST6 := Aside0.mk True.intro)
  | (have s_ := ST6; go_at_call 62; (with_reducible refine (HN2.out _).mono ?_); rintro e w6 ⟨rfl, hd⟩; have hb := hd.below; replace HB := Aside0.mk (below_step HB.out hb); replace K2 := Aside0.mk (blk_below K2.out hb); replace K4 := Aside0.mk (blk_below K4.out hb); clear hb hd; clear ST6 s_; have ST7 := Aside0.mk True.intro)
  | (have s_ := ST7; (with_reducible refine gate_dst (N := 15) rfl ?_); refine Kd.R_lit (Kd.int .i64) _ 2 ?hg (N := 15) ?hd (xs := ([0, 0] : List Int)) (inner := [.int .i64 0, .int .i64 0]) (ok := fun _ => True) (okp := fun _ => True) ?hr ?hp (fun _ hk => hk) trivial (Below.refl _ _) (Nat.le_refl _) (by simp) ?_; (case hd => rfl); (case hg => rfl); (case hr => first | (go_simp; done) | (go_simp; rfl)); (case hp => exact (Reps.one (show Kd.M (Kd.int .i64) _ _ _ 0 [.int .i64 0] from rfl) (Reps.one (show Kd.M (Kd.int .i64) _ _ _ 0 [.int .i64 0] from rfl) (Reps.none _ _)))); intro v_ w7 ho_ hb hg_ hnew_; clear hg_ hnew_; replace HB := Aside0.mk (below_step HB.out hb); replace K2 := Aside0.mk (blk_below K2.out hb); replace K4 := Aside0.mk (blk_below K4.out hb); have HL := Aside0.mk ho_; clear ho_ hb; obtain ⟨Al, cl, el⟩ := Kd.R_slice HL.out; subst el; clear ST7 s_; have ST8 := Aside0.mk True.intro)
  | (have s_ := ST8; go_at_call 61; refine (HF1.out Al cl _ (Kd.R_reads' HL.out).2.2 (Kd.R_reads' HL.out).2.1).mono ?_; rintro e w8 ⟨rfl, hd⟩; have hb := hd.below; replace HB := Aside0.mk (below_step HB.out hb); replace K2 := Aside0.mk (blk_below K2.out hb); replace K4 := Aside0.mk (blk_below K4.out hb); clear hb hd; clear HL; clear ST8 s_; have ST9 := Aside0.mk True.intro)
  | (have s_ := ST9; go_at_call 88; (with_reducible refine (HU.out _ (stk_in K2.out)).mono ?_); rintro e w9 ⟨rfl, hE⟩; have hg := hE.gr; replace HB := Aside0.mk (below_grown HB.out hg (fun k_ e_ => by injection e_ with e_; subst e_; exact GK2.out)); replace K4 := Aside0.mk (blk_grown K4.out hg (fun e_ => by injection e_ with e_; exact (fun e2_ => NK2_K4.out e2_.symm) e_)); replace K2 := Aside0.mk (stk_of hE); clear hE hg; clear ST9 s_; have ST10 := Aside0.mk True.intro)
  | (have s_ := ST10; (with_reducible refine gate_dst (N := 23) rfl ?_); refine Kd.event_run rfl (mem_load (ad := ⟨g2, 0, none⟩) (cs := stC q.1) rfl rfl (block_cells K2.out) Try.underlying55 rfl (by kernel_rfl)) ?_; clear ST10 s_; have ST11 := Aside0.mk True.intro)
  | (have s_ := ST11; (with_reducible refine gate_store (t := 55) (p := 4) (v := .tmp 23) rfl ?_); refine mem_store (seg := stC q.1) (g := g4) (off := 0) rfl rfl rfl rfl rfl K4.out (by kernel_rfl) (by show 0 + 25 ≤ 25; decide) (stC_one _) ?_; intro w10 cur_ hk hl hg; obtain rfl : cur_ = (stC q.1).toArray := Array.ext' (hl.trans rfl); replace HB := Aside0.mk (below_grown HB.out hg (fun k_ e_ => by injection e_ with e_; subst e_; exact GK4.out)); replace K2 := Aside0.mk (blk_grown K2.out hg (fun e_ => by injection e_ with e_; exact NK2_K4.out e_)); replace K4 := Aside0.mk (hk); clear hk hl hg; clear ST11 s_; have ST12 := Aside0.mk True.intro))
 refine bodyPost_ret (results_ctt rfl _ _ g4 55 (stC q.1).toArray (0, 0) _ rfl K4.out Try.underlying55 rfl (by kernel_rfl)) rfl ?_
 exact ⟨rfl, HB.out⟩
set_option maxHeartbeats 8000000 in
set_option maxRecDepth 100000 in
theorem specUseKind_calls (k : S55) (need : Int) (hf : FitSt k) (hn : 0 ≤ need ∧ need ≤ 500) (w : World) :
 Calls Try.prog 30 #[.agg (stC k).toArray, .int .i64 need] w fun e w' => e = .returned (.tuple #[.agg (stC (useOf k need).1).toArray, .int .i64 (useOf k need).2, .int .i64 0]) ∧ Below w.heap.size w w' := by
 have hu55 := Try.underlying55
 have mixed : Try.prog.follows .mixedOrders = true := by kernel_rfl
 obtain ⟨q, hq⟩ : ∃ q, useOf k need = q := ⟨_, rfl⟩
 have ht := fit_typed hf
 have hfb := (fitB_iff k).mpr hf
 have HV := Aside0.mk (fun (w : World) (g : Nat) (hh : w.heap[g]? = some (.cells (stC k).toArray 55 (0, 0))) => (hfb ▸ l05Stock_walk w g 0 k (fun j hj => (stk_in hh).cell j hj) ht : Calls Try.prog 89 #[.pointer (some ⟨g, 0, none⟩)] w fun e w' => e = .returned (.bool true) ∧ Below w.heap.size w w'))
 have HP := Aside0.mk (fun (w : World) => spec_l05Count.calls need true w (by rw [l05Count_B]; unfold inB; rw [decide_eq_true hn.1, decide_eq_true hn.2]; rfl))
 have HU := Aside0.mk (fun {g : Nat} (w : World) (E : InSt w g 0 55 (stC k).toArray k w) => l05Use_walk w w g 0 55 (stC k).toArray k need hf hn E)
 rw [hq] at HU ⊢
 clear hq ht hfb hf hn
 go_enter Try.func30, Try.ntmps30
 have ST0 := Aside0.mk True.intro
 go_wp2_with (first
  | (have s_ := ST0; (with_reducible refine gate_dst (N := 2) rfl ?_); refine box_event ?hg (N := 2) ?hd (cs := (stC k).toArray) (t := 55) ?hr ?_; (case hd => rfl); (case hg => rfl); (case hr => first | (go_simp; done) | (go_simp; rfl)); intro g2 hg_ w1 hbox hb; have GK2 := Aside0.mk (by rw [hg_]; exact Nat.le_refl _ : w.heap.size ≤ g2); have HB := Aside0.mk hb; have K2 := Aside0.mk hbox; clear hb hbox hg_; clear ST0 s_; have ST1 := Aside0.mk True.intro)
  | (have s_ := ST1; (with_reducible refine gate_dst (N := 4) rfl ?_); refine box_event ?hg (N := 4) ?hd (cs := (stC z55).toArray) (t := 55) ?hr ?_; (case hd => rfl); (case hg => rfl); (case hr => first | (go_simp; done) | (go_simp; rfl)); intro g4 hg_ w2 hbox hb; have GK4 := Aside0.mk (by rw [hg_]; exact HB.out.size : w.heap.size ≤ g4); have NK2_K4 := Aside0.mk (by rw [hg_]; exact Nat.ne_of_lt (blk_lt K2.out) : g2 ≠ g4); replace HB := Aside0.mk (below_step HB.out hb); replace K2 := Aside0.mk (blk_below K2.out hb); have K4 := Aside0.mk hbox; clear hb hbox hg_; clear ST1 s_; have ST2 := Aside0.mk True.intro)
  | (have s_ := ST2; go_at_call 89; (with_reducible refine (HV.out _ g2 K2.out).mono ?_); rintro e w3 ⟨rfl, hb⟩; replace HB := Aside0.mk (below_step HB.out hb); replace K2 := Aside0.mk (blk_below K2.out hb); replace K4 := Aside0.mk (blk_below K4.out hb); clear hb; clear ST2 s_; have ST3 := Aside0.mk True.intro)
  | (have s_ := ST3; go_at_call 81; (with_reducible refine (HP.out _).mono ?_); rintro e w5 ⟨rfl, hd⟩; have hb := hd.below; replace HB := Aside0.mk (below_step HB.out hb); replace K2 := Aside0.mk (blk_below K2.out hb); replace K4 := Aside0.mk (blk_below K4.out hb); clear hb hd; clear ST3 s_; have ST4 := Aside0.mk True.intro)
  | (have s_ := ST4; go_at_call 90; (with_reducible refine (HU.out _ (stk_in K2.out)).mono ?_); rintro e w9 ⟨rfl, hE⟩; have hg := hE.gr; replace HB := Aside0.mk (below_grown HB.out hg (fun k_ e_ => by injection e_ with e_; subst e_; exact GK2.out)); replace K4 := Aside0.mk (blk_grown K4.out hg (fun e_ => by injection e_ with e_; exact (fun e2_ => NK2_K4.out e2_.symm) e_)); replace K2 := Aside0.mk (stk_of hE); clear hE hg; clear ST4 s_; have ST5 := Aside0.mk True.intro)
  | (have s_ := ST5; (with_reducible refine gate_dst (N := 17) rfl ?_); refine Kd.event_run rfl (mem_load (ad := ⟨g2, 0, none⟩) (cs := stC q.1) rfl rfl (block_cells K2.out) Try.underlying55 rfl (by kernel_rfl)) ?_; clear ST5 s_; have ST6 := Aside0.mk True.intro)
  | (have s_ := ST6; (with_reducible refine gate_store (t := 55) (p := 4) (v := .tmp 17) rfl ?_); refine mem_store (seg := stC q.1) (g := g4) (off := 0) rfl rfl rfl rfl rfl K4.out (by kernel_rfl) (by show 0 + 25 ≤ 25; decide) (stC_one _) ?_; intro w10 cur_ hk hl hg; obtain rfl : cur_ = (stC q.1).toArray := Array.ext' (hl.trans rfl); replace HB := Aside0.mk (below_grown HB.out hg (fun k_ e_ => by injection e_ with e_; subst e_; exact GK4.out)); replace K2 := Aside0.mk (blk_grown K2.out hg (fun e_ => by injection e_ with e_; exact NK2_K4.out e_)); replace K4 := Aside0.mk (hk); clear hk hl hg; clear ST6 s_; have ST7 := Aside0.mk True.intro))
 refine bodyPost_ret (results_ctt rfl _ _ g4 55 (stC q.1).toArray (0, 0) _ rfl K4.out Try.underlying55 rfl (by kernel_rfl)) rfl ?_
 exact ⟨rfl, HB.out⟩
end Go.Proofs.Ytggjdcijplgpdaa.H
end
section
namespace Go.Proofs.Ytggjdcijplgpdaa.H
open Go.RowKit Go.Proofs.YtggjdcijplgpdaaW.PrintWords Go.Proofs.YtggjdcijplgpdaaW.PrintLast Go.Proofs.YtggjdcijplgpdaaW.PrintMore
attribute [local go_sem] max2_int min2_int max_two min_two max_three min_three max_four min_four
set_option linter.unusedVariables false
set_option linter.unusedSimpArgs false
def typedHB (l : List S55) (a1 a2 a3 : Int) : Bool := l.all (fun s => s.l.all fun x => decide (-2147483648 ≤ x) && decide (x < 2147483648)) && (decide (-32768 ≤ a1 ∧ a1 < 32768) && (decide (-128 ≤ a2 ∧ a2 < 128) && decide (-32768 ≤ a3 ∧ a3 < 32768)))
theorem typedHB_iff {l : List S55} {a1 a2 a3 : Int} : typedHB l a1 a2 a3 = true ↔ TypedH l a1 a2 a3 := by
 unfold typedHB
 constructor
 · intro h
   rw [Bool.and_eq_true, Bool.and_eq_true, Bool.and_eq_true] at h
   refine ⟨fun s hs x hx => ?_, of_decide_eq_true h.2.1, of_decide_eq_true h.2.2.1, of_decide_eq_true h.2.2.2⟩
   have := List.all_eq_true.mp (List.all_eq_true.mp h.1 s hs) x hx
   rw [Bool.and_eq_true] at this
   exact ⟨of_decide_eq_true this.1, of_decide_eq_true this.2⟩
 · intro h
   rw [Bool.and_eq_true, Bool.and_eq_true, Bool.and_eq_true]
   refine ⟨List.all_eq_true.mpr fun s hs => List.all_eq_true.mpr fun x hx => ?_, decide_eq_true h.tub, decide_eq_true h.every, decide_eq_true h.today⟩
   have := h.st s hs x hx
   rw [Bool.and_eq_true]
   exact ⟨decide_eq_true this.1, decide_eq_true this.2⟩
def impl_ValidHouse.f (l : List S55) (a1 a2 a3 : Int) : Option Bool := if typedHB l a1 a2 a3 = true then some (validH l a1 a2 a3) else none
theorem impl_ValidHouse.calls (A0 : Option Addr) (c0 : Nat) (l : List S55) (a1 a2 a3 : Int) (r : Bool) (w : World) (hr0 : Kd.C k55 w A0 l.length l) (hc0 : l.length ≤ c0) (h : impl_ValidHouse.f l a1 a2 a3 = some r) :
 Calls Try.prog 63 #[.agg #[.slice A0 l.length c0, .int .i16 a1, .int .i8 a2, .int .i16 a3]] w fun e w' => e = .returned (.bool r) ∧ Below w.heap.size w w' := by
 unfold impl_ValidHouse.f at h
 by_cases c : typedHB l a1 a2 a3 = true
 · rw [if_pos c] at h
   obtain rfl := Option.some.inj h
   exact validHouse_calls A0 c0 l a1 a2 a3 w hr0 hc0 (typedHB_iff.mp c)
 · rw [if_neg c] at h
   exact absurd h (by simp)
end Go.Proofs.Ytggjdcijplgpdaa.H
end
