import Derived.Test.YtggjdcijplgpdaazFStocksEPutB
import Derived.Test.YtggjdcijplgpdaazFStocksEFresh
import Derived.Test.YtggjdcijplgpdaazFStocksEDAll
import Derived.Test.YtggjdcijplgpdaazFStocksEInH
import Derived.Test.YtggjdcijplgpdaazFStocksEVHF
import Derived.Test.YtggjdcijplgpdaazFStocksENewH
import Derived.Test.YtggjdcijplgpdaazFStocksEShelf
import Derived.Test.YtggjdcijplgpdaazFStocksEDayOf
import Derived.Test.YtggjdcijplgpdaazFStocksECloneSt
import Derived.Test.YtggjdcijplgpdaazFStocksH14
import Derived.Shelf.Abstract
import Derived.Deep.QuietTactic
import Derived.BigQuiet
namespace Go.Proofs.Ytggjdcijplgpdaa.H
open Go.RowKit Go.Proofs.YtggjdcijplgpdaaW.PrintWords Go.Proofs.YtggjdcijplgpdaaW.PrintLast Go.Proofs.YtggjdcijplgpdaaW.PrintMore
attribute [local go_sem] max2_int min2_int max_two min_two max_three min_three max_four min_four
set_option linter.unusedVariables false
set_option linter.unusedSimpArgs false
theorem set1_grown (w : World) (g j : Nat) (v : Value) : w.grownBy (w.setCell ⟨g, j, none⟩ v) (some g) :=
 ⟨rfl, rfl, rfl, by simp [World.setCell], fun b _ hn => Below.heap_setCell w ⟨g, j, none⟩ v b (fun e => hn (by rw [e]))⟩
theorem keep_own {w W W' : World} {g : Nat} {row : Option Nat} (h : KeepBut w W g none) (hg : W.grownBy W' row) (hr : ∀ k, row = some k → w.heap.size ≤ k) : KeepBut w W' g none :=
 ⟨Nat.le_trans h.1 hg.size, fun i hi hn hr2 => (hg.block i (Nat.lt_of_lt_of_le hi h.1) (fun e => by have := hr i e.symm; omega)).trans (h.2 i hi hn hr2)⟩
structure DrawnL (l : List S55) (a1 a2 a3 : Int) : Prop where
 one : 1 ≤ l.length
 three : l.length ≤ 3
 small : ∀ s ∈ l, SmallSt 66 s
 tub : 0 ≤ a1 ∧ a1 ≤ 29
 every : 1 ≤ a2 ∧ a2 ≤ 4
 today : 0 ≤ a3 ∧ a3 ≤ 19
set_option maxHeartbeats 8000000 in
set_option maxRecDepth 100000 in
theorem drawn_calls (w0 w : World) (g i : Nat) (l : List Int) (x : Int) (hB : Bytes l) (hi : i ≤ 1000) (hI : IsS153 w0 w g l (i : Int) x) (hb : Below w0.heap.size w0 w) :
 Calls Try.prog 87 #[.pointer (some ⟨g, 0, none⟩)] w fun e w' => ∃ (v : Value) (lh : List S55) (a1 a2 a3 : Int), e = .returned (.agg #[v, .int .i16 a1, .int .i8 a2, .int .i16 a3]) ∧ DrawnL lh a1 a2 a3 ∧ Kd.R k55 55 w' w.heap.size (fun _ => True) v lh ∧ Below w0.heap.size w0 w' ∧ KeepBut w w' g none := by
 have hu32 := Try.underlying32
 have mixed : Try.prog.follows .mixedOrders = true := by kernel_rfl
 obtain ⟨a1, y1, h1, a10, a11⟩ := pickB hB i (by omega) x 30 (by decide) (by decide)
 obtain ⟨b, y2, h2, b0, b1⟩ := pickB hB (i + 1) (by omega) y1 4 (by decide) (by decide)
 obtain ⟨a3, y3, h3, a30, a31⟩ := pickB hB (i + 2) (by omega) y2 20 (by decide) (by decide)
 obtain ⟨k, y4, h4, k0, k1⟩ := pickB hB (i + 3) (by omega) y3 3 (by decide) (by decide)
 have hw1 : IntKind.i16.wrap a1 = a1 := wrap16_id (by omega) (by omega)
 have hw2 : wrap64 (1 + b) = 1 + b := w64i (by omega) (by omega)
 have hw3 : IntKind.i8.wrap (1 + b) = 1 + b := wrap8_id (by omega) (by omega)
 have hw4 : IntKind.i16.wrap a3 = a3 := wrap16_id (by omega) (by omega)
 obtain ⟨K, hK⟩ : ∃ K : Nat, 1 + k = (K : Int) := ⟨(1 + k).toNat, by omega⟩
 have hw5 : wrap64 (1 + k) = (K : Int) := (w64i (by omega) (by omega)).trans hK
 have HKK := Aside0.mk (show 1 ≤ K ∧ K ≤ 3 by omega)
 have HAA := Aside0.mk (show (0 ≤ a1 ∧ a1 ≤ 29) ∧ (1 ≤ 1 + b ∧ 1 + b ≤ 4) ∧ (0 ≤ a3 ∧ a3 ≤ 19) from ⟨⟨a10, by omega⟩, ⟨by omega, by omega⟩, ⟨a30, by omega⟩⟩)
 have HB := Aside0.mk hb
 have HI := Aside0.mk hI
 have HK := Aside0.mk (KeepBut.refl w g none)
 have HWW := Aside0.mk hb.size
 have H1 := Aside0.mk h1
 have H2 := Aside0.mk h2
 have H3 := Aside0.mk h3
 have H4 := Aside0.mk h4
 have HBY := Aside0.mk hB
 have Hi := Aside0.mk hi
 clear hb hI h1 h2 h3 h4 hB hi hK a10 a11 b0 b1 a30 a31 k0 k1
 go_enter Try.func87, Try.ntmps87
 have ST0 := Aside0.mk True.intro
 go_wp2_with (first
  | (have s_ := ST0; (with_reducible refine gate_dst (N := 2) rfl ?_); refine box_event ?hg (N := 2) ?hd (cs := #[.slice none 0 0, .int .i16 0, .int .i8 0, .int .i16 0]) (t := 32) ?hr ?_; (case hd => rfl); (case hg => rfl); (case hr => first | (go_simp; done) | (go_simp; rfl)); intro g2 hg_ w1 hbox hb; have GWB2 := Aside0.mk (by rw [hg_]; exact HK.out.1 : w.heap.size ≤ g2); have GB2 := Aside0.mk (by rw [hg_]; exact HB.out.size : w0.heap.size ≤ g2); replace HB := Aside0.mk (below_step HB.out hb); replace HI := Aside0.mk (IsS153.below HI.out hb); replace HK := Aside0.mk (keep_below HK.out hb); have B2 := Aside0.mk hbox; clear hb hbox hg_; have qB20 : w1.cell? ⟨g2, 0, none⟩ = some (.slice none 0 0) := (blk_cell B2.out 0).trans rfl; have qB21 : w1.cell? ⟨g2, 1, none⟩ = some (.int .i16 0) := (blk_cell B2.out 1).trans rfl; have qB22 : w1.cell? ⟨g2, 2, none⟩ = some (.int .i8 0) := (blk_cell B2.out 2).trans rfl; have qB23 : w1.cell? ⟨g2, 3, none⟩ = some (.int .i16 0) := (blk_cell B2.out 3).trans rfl; have fB20 : w1.frozen? ⟨g2, 0, none⟩ = false := blk_frozen B2.out 0; have fB21 : w1.frozen? ⟨g2, 1, none⟩ = false := blk_frozen B2.out 1; have fB22 : w1.frozen? ⟨g2, 2, none⟩ = false := blk_frozen B2.out 2; have fB23 : w1.frozen? ⟨g2, 3, none⟩ = false := blk_frozen B2.out 3; clear ST0 s_; have ST1 := Aside0.mk True.intro)
  | (have s_ := ST1; go_at_call 71; (with_reducible refine (spec_l00Src_pick.calls g l (i : Int) x 30 a1 ((i + 1 : Nat) : Int) y1 w0 _ HI.out HB.out H1.out).mono ?_); rintro e w2 ⟨rfl, hi, hb, hk⟩; replace HB := Aside0.mk (hb); replace HK := Aside0.mk (keep_then HK.out hk); replace B2 := Aside0.mk (blk_keep B2.out hk (fun e_ => IsS153.ne_blk HI.out B2.out (by decide) e_.symm)); replace HI := Aside0.mk (hi); clear hi hb hk; clear qB20 qB21 qB22 qB23 fB20 fB21 fB22 fB23; have qB20 : w2.cell? ⟨g2, 0, none⟩ = some (.slice none 0 0) := (blk_cell B2.out 0).trans rfl; have qB21 : w2.cell? ⟨g2, 1, none⟩ = some (.int .i16 0) := (blk_cell B2.out 1).trans rfl; have qB22 : w2.cell? ⟨g2, 2, none⟩ = some (.int .i8 0) := (blk_cell B2.out 2).trans rfl; have qB23 : w2.cell? ⟨g2, 3, none⟩ = some (.int .i16 0) := (blk_cell B2.out 3).trans rfl; clear ST1 s_; have ST2 := Aside0.mk True.intro)
  | (have s_ := ST2; (with_reducible refine gate_dst (N := 3) rfl ?_); refine box_event ?hg (N := 3) ?hd (cs := #[.slice none 0 0, .int .i16 0, .int .i8 0, .int .i16 0]) (t := 32) ?hr ?_; (case hd => rfl); (case hg => rfl); (case hr => first | (go_simp; done) | (go_simp; rfl)); intro g3 hg_ w3 hbox hb; have GWB3 := Aside0.mk (by rw [hg_]; exact HK.out.1 : w.heap.size ≤ g3); have GB3 := Aside0.mk (by rw [hg_]; exact HB.out.size : w0.heap.size ≤ g3); have NB2_B3 := Aside0.mk (by rw [hg_]; exact Nat.ne_of_lt (blk_lt B2.out) : g2 ≠ g3); replace HB := Aside0.mk (below_step HB.out hb); replace HI := Aside0.mk (IsS153.below HI.out hb); replace HK := Aside0.mk (keep_below HK.out hb); replace B2 := Aside0.mk (blk_below B2.out hb); have B3 := Aside0.mk hbox; clear hb hbox hg_; clear qB20 qB21 qB22 qB23; have qB20 : w3.cell? ⟨g2, 0, none⟩ = some (.slice none 0 0) := (blk_cell B2.out 0).trans rfl; have qB21 : w3.cell? ⟨g2, 1, none⟩ = some (.int .i16 0) := (blk_cell B2.out 1).trans rfl; have qB22 : w3.cell? ⟨g2, 2, none⟩ = some (.int .i8 0) := (blk_cell B2.out 2).trans rfl; have qB23 : w3.cell? ⟨g2, 3, none⟩ = some (.int .i16 0) := (blk_cell B2.out 3).trans rfl; have qB30 : w3.cell? ⟨g3, 0, none⟩ = some (.slice none 0 0) := (blk_cell B3.out 0).trans rfl; have qB31 : w3.cell? ⟨g3, 1, none⟩ = some (.int .i16 0) := (blk_cell B3.out 1).trans rfl; have qB32 : w3.cell? ⟨g3, 2, none⟩ = some (.int .i8 0) := (blk_cell B3.out 2).trans rfl; have qB33 : w3.cell? ⟨g3, 3, none⟩ = some (.int .i16 0) := (blk_cell B3.out 3).trans rfl; have fB30 : w3.frozen? ⟨g3, 0, none⟩ = false := blk_frozen B3.out 0; have fB31 : w3.frozen? ⟨g3, 1, none⟩ = false := blk_frozen B3.out 1; have fB32 : w3.frozen? ⟨g3, 2, none⟩ = false := blk_frozen B3.out 2; have fB33 : w3.frozen? ⟨g3, 3, none⟩ = false := blk_frozen B3.out 3; clear ST2 s_; have ST3 := Aside0.mk True.intro)
  | (have s_ := ST3; (with_reducible refine gate_store (t := 32) (p := 3) rfl ?_); refine store_event (t := 32) (p := 3) (v := ?vo_w4) (w1 := ((((w3.setCell ⟨g3, 0, none⟩ (.slice none 0 0)).setCell ⟨g3, 1, none⟩ (.int .i16 a1)).setCell ⟨g3, 2, none⟩ (.int .i8 0)).setCell ⟨g3, 3, none⟩ (.int .i16 0))) ?hg ?ho ?hn ?hr ?_; (case ho => rfl); (case hg => rfl); (case hn => rfl); (case hr => first | (go_simp; done) | (go_simp; rfl)); intro w4 hw; have hg : w3.grownBy w4 (some g3) := (by rw [hw]; exact put4_grown True.intro True.intro); have hnew : w4.heap[g3]? = some (.cells #[.slice none 0 0, .int .i16 a1, .int .i8 0, .int .i16 0] 32 (0, 0)) := (by rw [hw]; exact put4_blk B3.out); clear hw; replace HB := Aside0.mk (below_grown HB.out hg (fun k_ e_ => by injection e_ with e_; subst e_; exact GB3.out)); replace HI := Aside0.mk (IsS153.grown HI.out hg (fun e_ => by injection e_ with e_; exact IsS153.ne_blk HI.out B3.out (by decide) e_)); replace HK := Aside0.mk (keep_grown HK.out hg GWB3.out); replace B2 := Aside0.mk (blk_grown B2.out hg (fun e_ => by injection e_ with e_; exact NB2_B3.out e_)); replace B3 := Aside0.mk (hnew); clear hg hnew; clear qB20 qB21 qB22 qB23 qB30 qB31 qB32 qB33 fB30 fB31 fB32 fB33; have qB20 : w4.cell? ⟨g2, 0, none⟩ = some (.slice none 0 0) := (blk_cell B2.out 0).trans rfl; have qB21 : w4.cell? ⟨g2, 1, none⟩ = some (.int .i16 0) := (blk_cell B2.out 1).trans rfl; have qB22 : w4.cell? ⟨g2, 2, none⟩ = some (.int .i8 0) := (blk_cell B2.out 2).trans rfl; have qB23 : w4.cell? ⟨g2, 3, none⟩ = some (.int .i16 0) := (blk_cell B2.out 3).trans rfl; have qB30 : w4.cell? ⟨g3, 0, none⟩ = some (.slice none 0 0) := (blk_cell B3.out 0).trans rfl; have qB31 : w4.cell? ⟨g3, 1, none⟩ = some (.int .i16 a1) := (blk_cell B3.out 1).trans rfl; have qB32 : w4.cell? ⟨g3, 2, none⟩ = some (.int .i8 0) := (blk_cell B3.out 2).trans rfl; have qB33 : w4.cell? ⟨g3, 3, none⟩ = some (.int .i16 0) := (blk_cell B3.out 3).trans rfl; clear ST3 s_; have ST4 := Aside0.mk True.intro)
  | (have s_ := ST4; go_at_call 71; (with_reducible refine (spec_l00Src_pick.calls g l ((i + 1 : Nat) : Int) y1 4 b ((i + 2 : Nat) : Int) y2 w0 _ HI.out HB.out H2.out).mono ?_); rintro e w5 ⟨rfl, hi, hb, hk⟩; replace HB := Aside0.mk (hb); replace HK := Aside0.mk (keep_then HK.out hk); replace B2 := Aside0.mk (blk_keep B2.out hk (fun e_ => IsS153.ne_blk HI.out B2.out (by decide) e_.symm)); replace B3 := Aside0.mk (blk_keep B3.out hk (fun e_ => IsS153.ne_blk HI.out B3.out (by decide) e_.symm)); replace HI := Aside0.mk (hi); clear hi hb hk; clear qB20 qB21 qB22 qB23 qB30 qB31 qB32 qB33; have qB20 : w5.cell? ⟨g2, 0, none⟩ = some (.slice none 0 0) := (blk_cell B2.out 0).trans rfl; have qB21 : w5.cell? ⟨g2, 1, none⟩ = some (.int .i16 0) := (blk_cell B2.out 1).trans rfl; have qB22 : w5.cell? ⟨g2, 2, none⟩ = some (.int .i8 0) := (blk_cell B2.out 2).trans rfl; have qB23 : w5.cell? ⟨g2, 3, none⟩ = some (.int .i16 0) := (blk_cell B2.out 3).trans rfl; have qB30 : w5.cell? ⟨g3, 0, none⟩ = some (.slice none 0 0) := (blk_cell B3.out 0).trans rfl; have qB31 : w5.cell? ⟨g3, 1, none⟩ = some (.int .i16 a1) := (blk_cell B3.out 1).trans rfl; have qB32 : w5.cell? ⟨g3, 2, none⟩ = some (.int .i8 0) := (blk_cell B3.out 2).trans rfl; have qB33 : w5.cell? ⟨g3, 3, none⟩ = some (.int .i16 0) := (blk_cell B3.out 3).trans rfl; have f2_ : w5.frozen? ⟨g3, 2, none⟩ = false := blk_frozen B3.out 2; clear ST4 s_; have ST5 := Aside0.mk True.intro)
  | (have s_ := ST5; go_at_call 71; clear f2_; have hg := set1_grown w5 g3 2 (.int .i8 (1 + b)); clear qB20 qB21 qB22 qB23 qB30 qB31 qB32 qB33; replace HB := Aside0.mk (below_grown HB.out hg (fun k_ e_ => by injection e_ with e_; subst e_; exact GB3.out)); replace HI := Aside0.mk (IsS153.grown HI.out hg (fun e_ => by injection e_ with e_; exact IsS153.ne_blk HI.out B3.out (by decide) e_)); replace HK := Aside0.mk (keep_grown HK.out hg GWB3.out); replace B2 := Aside0.mk (blk_grown B2.out hg (fun e_ => by injection e_ with e_; exact NB2_B3.out e_)); replace B3 := Aside0.mk (blk_put B3.out 2 (.int .i8 (1 + b)) rfl); clear hg; generalize (w5.setCell ⟨g3, 2, none⟩ (.int .i8 (1 + b))) = w6 at HB HI HK B2 B3 ⊢; have qB20 : w6.cell? ⟨g2, 0, none⟩ = some (.slice none 0 0) := (blk_cell B2.out 0).trans rfl; have qB21 : w6.cell? ⟨g2, 1, none⟩ = some (.int .i16 0) := (blk_cell B2.out 1).trans rfl; have qB22 : w6.cell? ⟨g2, 2, none⟩ = some (.int .i8 0) := (blk_cell B2.out 2).trans rfl; have qB23 : w6.cell? ⟨g2, 3, none⟩ = some (.int .i16 0) := (blk_cell B2.out 3).trans rfl; have qB30 : w6.cell? ⟨g3, 0, none⟩ = some (.slice none 0 0) := (blk_cell B3.out 0).trans rfl; have qB31 : w6.cell? ⟨g3, 1, none⟩ = some (.int .i16 a1) := (blk_cell B3.out 1).trans rfl; have qB32 : w6.cell? ⟨g3, 2, none⟩ = some (.int .i8 (1 + b)) := (blk_cell B3.out 2).trans rfl; have qB33 : w6.cell? ⟨g3, 3, none⟩ = some (.int .i16 0) := (blk_cell B3.out 3).trans rfl; (with_reducible refine (spec_l00Src_pick.calls g l ((i + 2 : Nat) : Int) y2 20 a3 ((i + 3 : Nat) : Int) y3 w0 _ HI.out HB.out H3.out).mono ?_); rintro e w7 ⟨rfl, hi, hb, hk⟩; replace HB := Aside0.mk (hb); replace HK := Aside0.mk (keep_then HK.out hk); replace B2 := Aside0.mk (blk_keep B2.out hk (fun e_ => IsS153.ne_blk HI.out B2.out (by decide) e_.symm)); replace B3 := Aside0.mk (blk_keep B3.out hk (fun e_ => IsS153.ne_blk HI.out B3.out (by decide) e_.symm)); replace HI := Aside0.mk (hi); clear hi hb hk; clear qB20 qB21 qB22 qB23 qB30 qB31 qB32 qB33; have qB20 : w7.cell? ⟨g2, 0, none⟩ = some (.slice none 0 0) := (blk_cell B2.out 0).trans rfl; have qB21 : w7.cell? ⟨g2, 1, none⟩ = some (.int .i16 0) := (blk_cell B2.out 1).trans rfl; have qB22 : w7.cell? ⟨g2, 2, none⟩ = some (.int .i8 0) := (blk_cell B2.out 2).trans rfl; have qB23 : w7.cell? ⟨g2, 3, none⟩ = some (.int .i16 0) := (blk_cell B2.out 3).trans rfl; have qB30 : w7.cell? ⟨g3, 0, none⟩ = some (.slice none 0 0) := (blk_cell B3.out 0).trans rfl; have qB31 : w7.cell? ⟨g3, 1, none⟩ = some (.int .i16 a1) := (blk_cell B3.out 1).trans rfl; have qB32 : w7.cell? ⟨g3, 2, none⟩ = some (.int .i8 (1 + b)) := (blk_cell B3.out 2).trans rfl; have qB33 : w7.cell? ⟨g3, 3, none⟩ = some (.int .i16 0) := (blk_cell B3.out 3).trans rfl; have f3_ : w7.frozen? ⟨g3, 3, none⟩ = false := blk_frozen B3.out 3; clear ST5 s_; have ST6 := Aside0.mk True.intro)
  | (have s_ := ST6; go_at_call 71; clear f3_; have hg := set1_grown w7 g3 3 (.int .i16 a3); clear qB20 qB21 qB22 qB23 qB30 qB31 qB32 qB33; replace HB := Aside0.mk (below_grown HB.out hg (fun k_ e_ => by injection e_ with e_; subst e_; exact GB3.out)); replace HI := Aside0.mk (IsS153.grown HI.out hg (fun e_ => by injection e_ with e_; exact IsS153.ne_blk HI.out B3.out (by decide) e_)); replace HK := Aside0.mk (keep_grown HK.out hg GWB3.out); replace B2 := Aside0.mk (blk_grown B2.out hg (fun e_ => by injection e_ with e_; exact NB2_B3.out e_)); replace B3 := Aside0.mk (blk_put B3.out 3 (.int .i16 a3) rfl); clear hg; generalize (w7.setCell ⟨g3, 3, none⟩ (.int .i16 a3)) = w8 at HB HI HK B2 B3 ⊢; have qB20 : w8.cell? ⟨g2, 0, none⟩ = some (.slice none 0 0) := (blk_cell B2.out 0).trans rfl; have qB21 : w8.cell? ⟨g2, 1, none⟩ = some (.int .i16 0) := (blk_cell B2.out 1).trans rfl; have qB22 : w8.cell? ⟨g2, 2, none⟩ = some (.int .i8 0) := (blk_cell B2.out 2).trans rfl; have qB23 : w8.cell? ⟨g2, 3, none⟩ = some (.int .i16 0) := (blk_cell B2.out 3).trans rfl; have qB30 : w8.cell? ⟨g3, 0, none⟩ = some (.slice none 0 0) := (blk_cell B3.out 0).trans rfl; have qB31 : w8.cell? ⟨g3, 1, none⟩ = some (.int .i16 a1) := (blk_cell B3.out 1).trans rfl; have qB32 : w8.cell? ⟨g3, 2, none⟩ = some (.int .i8 (1 + b)) := (blk_cell B3.out 2).trans rfl; have qB33 : w8.cell? ⟨g3, 3, none⟩ = some (.int .i16 a3) := (blk_cell B3.out 3).trans rfl; (with_reducible refine (spec_l00Src_pick.calls g l ((i + 3 : Nat) : Int) y3 3 k ((i + 4 : Nat) : Int) y4 w0 _ HI.out HB.out H4.out).mono ?_); rintro e w9 ⟨rfl, hi, hb, hk⟩; replace HB := Aside0.mk (hb); replace HK := Aside0.mk (keep_then HK.out hk); replace B2 := Aside0.mk (blk_keep B2.out hk (fun e_ => IsS153.ne_blk HI.out B2.out (by decide) e_.symm)); replace B3 := Aside0.mk (blk_keep B3.out hk (fun e_ => IsS153.ne_blk HI.out B3.out (by decide) e_.symm)); replace HI := Aside0.mk (hi); clear hi hb hk; clear qB20 qB21 qB22 qB23 qB30 qB31 qB32 qB33; have qB20 : w9.cell? ⟨g2, 0, none⟩ = some (.slice none 0 0) := (blk_cell B2.out 0).trans rfl; have qB21 : w9.cell? ⟨g2, 1, none⟩ = some (.int .i16 0) := (blk_cell B2.out 1).trans rfl; have qB22 : w9.cell? ⟨g2, 2, none⟩ = some (.int .i8 0) := (blk_cell B2.out 2).trans rfl; have qB23 : w9.cell? ⟨g2, 3, none⟩ = some (.int .i16 0) := (blk_cell B2.out 3).trans rfl; have qB30 : w9.cell? ⟨g3, 0, none⟩ = some (.slice none 0 0) := (blk_cell B3.out 0).trans rfl; have qB31 : w9.cell? ⟨g3, 1, none⟩ = some (.int .i16 a1) := (blk_cell B3.out 1).trans rfl; have qB32 : w9.cell? ⟨g3, 2, none⟩ = some (.int .i8 (1 + b)) := (blk_cell B3.out 2).trans rfl; have qB33 : w9.cell? ⟨g3, 3, none⟩ = some (.int .i16 a3) := (blk_cell B3.out 3).trans rfl; clear ST6 s_; have ST7 := Aside0.mk True.intro))
 clear H1 H2 H3 H4 qB20 qB21 qB22 qB23 qB30 qB31 qB32 qB33
 have HV := Aside0.mk (show Kd.R k55 55 w9 w.heap.size (fun _ => True) (.slice none 0 0) [] from Kd.R_nil _ _ _ _ _)
 go_loopg [4] K (fun gk v4 wr => ∃ (d i1 : Nat) (x1 : Int) (lk : List S55) (vk : Value), d ≤ gk ∧ d ≤ 3 ∧ v4 = .int .i64 d ∧ Aside0 (lk.length + d = K) ∧ Aside0 (∀ s ∈ lk, SmallSt 66 s) ∧ Aside0 (i1 + 40 * d ≤ i + 4 + 40 * K) ∧ Aside0 (IsS153 w0 wr g l (i1 : Int) x1) ∧ Aside0 (wr.heap[g3]? = some (.cells #[vk, .int .i16 a1, .int .i8 (1 + b), .int .i16 a3] 32 (0, 0))) ∧ Aside0 (Kd.R k55 55 wr w.heap.size (fun _ => True) vk lk) ∧ Aside0 (wr.heap[g2]? = some (.cells #[.slice none 0 0, .int .i16 0, .int .i8 0, .int .i16 0] 32 (0, 0))) ∧ Aside0 (Below w0.heap.size w0 wr) ∧ Aside0 (KeepBut w wr g none))
 case atStart => exact ⟨K, i + 4, y4, [], _, by omega, HKK.out.2, by first | rfl | rw [hw5] | (simp only [i64_w, hw5]), ⟨by simp⟩, ⟨fun s h => by cases h⟩, ⟨by omega⟩, HI, B3, HV, B2, HB, HK⟩
 case round =>
  clear HB HI HK B2 B3 HV
  obtain ⟨d, i1, x1, lk, vk, hgk, hd3, rfl, HLK, HSM, HII, HI, B3, HV, B2, HB, HK⟩ := hrel
  obtain ⟨Ak, ck, ek⟩ := Kd.R_slice HV.out
  subst ek
  by_cases hd0 : 0 < d
  · obtain ⟨d, rfl⟩ : ∃ q, d = q + 1 := ⟨d - 1, by omega⟩
    have hdz : ((d + 1 : Nat) : Int) > 0 := by omega
    have hdz' : (0 : Int) < ((d + 1 : Nat) : Int) := hdz
    have hdb : decide (((d + 1 : Nat) : Int) > 0) = true := decide_eq_true hdz
    have hdb' : decide ((0 : Int) < ((d + 1 : Nat) : Int)) = true := decide_eq_true hdz
    have hwd : wrap64 (((d + 1 : Nat) : Int) - 1) = (d : Int) := (w64i (by omega) (by omega)).trans (by omega)
    have hwd2 : wrap64 ((d : Int) + 1 - 1) = (d : Int) := (w64i (by omega) (by omega)).trans (by omega)
    have HI9 := Aside0.mk (show i1 ≤ 10000 by have := HII.out; have := Hi.out; have := HKK.out; omega)
    have HGK := Aside0.mk hgk
    have HLK := Aside0.mk (show lk.length ≤ 3 ∧ lk.length + (d + 1) = K from ⟨by have := HLK.out; have := HKK.out; omega, HLK.out⟩)
    have c0_ : wr.cell? ⟨g3, 0, none⟩ = some (.slice Ak lk.length ck) := (blk_cell B3.out 0).trans rfl
    go_wp2
    refine start_ (n := 8) (S := fun w' => w'.cell? ⟨g3, 0, none⟩ = some (.slice Ak lk.length ck)) (ds := [7]) #[false, false, false, false, false, false, false, false] (by kernel_rfl) rfl rfl (c0_) (fun hHeld => ?_)
    have n_HB := Aside0.mk (below_drew1 HB.out)
    have n_B2 := Aside0.mk (blk_drew B2.out)
    have n_B3 := Aside0.mk (blk_drew B3.out)
    have n_HV := Aside0.mk (Kd.R_drew HV.out)
    have n_HI := Aside0.mk (IsS153.drew HI.out)
    have n_HK := Aside0.mk (keep_drew HK.out)
    clear HB B2 B3 HV HI HK c0_
    generalize wr.drew = wd at n_HB n_B2 n_B3 n_HV n_HI n_HK hHeld ⊢
    have HB := n_HB
    have B2 := n_B2
    have B3 := n_B3
    have HV := n_HV
    have HI := n_HI
    have HK := n_HK
    clear n_HB n_B2 n_B3 n_HV n_HI n_HK
    have c0_ : wd.cell? ⟨g3, 0, none⟩ = some (.slice Ak lk.length ck) := (blk_cell B3.out 0).trans rfl
    refine pure_ (i := 0) (N := some 25) (v := ?_) (a' := ?_) #[true, false, false, false, false, false, false, false] rfl rfl (by kernel_rfl) (fun _ _ _ h => h) (Or.inl ⟨by rfl, ?_⟩) ?_ ?_
    rotate_left
    · intro w'
      go_simp
      with_reducible rfl
    rotate_left
    · exact putB
    refine pure_ (i := 2) (N := some 27) (v := ?_) (a' := ?_) #[true, false, true, false, false, false, false, false] rfl rfl (by kernel_rfl) (fun _ _ _ h => h) (Or.inl ⟨by rfl, ?_⟩) ?_ ?_
    rotate_left
    · intro w'
      go_simp
      with_reducible rfl
    rotate_left
    · exact putB
    refine take_ (i := 1) (N := some 26) (v := ?_) (a' := ?_) #[true, true, true, false, false, false, false, false] rfl rfl (by kernel_rfl) (fun _ _ _ h => h) (Or.inl ⟨by rfl, ?_⟩) hHeld ?_ ?_
    rotate_left
    · intro w' s0
      go_simp
      with_reducible rfl
    rotate_left
    · exact putB
    refine one_ (i := 3) (N := some 28) #[true, true, true, true, false, false, false, false] rfl rfl (by kernel_rfl) (by decide) (fun K hK => ?_)
    refine goes_ Try.func130 (by kernel_rfl) rfl #[.pointer (some ⟨g, 0, none⟩)] (by rfl) rfl rfl (by (try simp only [List.map_toArray, List.map_cons, List.map_nil]); first | done | rfl) ?_
    (with_reducible refine (shelf_calls w0 _ g i1 l x1 HBY.out HI9.out HI.out HB.out).mono ?_)
    rintro e wa ⟨s, i2, x2, rfl, hs, h2, hi, hb, hk⟩
    refine ⟨_, rfl, ?_⟩
    have HS := Aside0.mk hs
    have HI2 := Aside0.mk h2
    replace HV := Aside0.mk (Kd.R_mono (Kd.R_keep (IsS153.apart HI.out HV.out (by decide)) hk (fun _ h => h.2)) (fun _ _ => trivial))
    replace HB := Aside0.mk (hb)
    replace HK := Aside0.mk (keep_then HK.out hk)
    replace B2 := Aside0.mk (blk_keep B2.out hk (fun e_ => IsS153.ne_blk HI.out B2.out (by decide) e_.symm))
    replace B3 := Aside0.mk (blk_keep B3.out hk (fun e_ => IsS153.ne_blk HI.out B3.out (by decide) e_.symm))
    replace HI := Aside0.mk (hi)
    clear c0_
    clear hs h2 hi hb hk
    have c0_ : wa.cell? ⟨g3, 0, none⟩ = some (.slice Ak lk.length ck) := (blk_cell B3.out 0).trans rfl
    refine hK.out _ _ (c0_) (fun hHeld => ?_)
    clear hK K
    refine norm_ (a' := ?_) ?_ ?_
    rotate_left
    · show Act.put _ (some 28) _ = _
      exact putB
    refine one_ (i := 4) (N := some 29) #[true, true, true, true, true, false, false, false] rfl rfl (by kernel_rfl) (by decide) (fun K hK => ?_)
    refine Kd.R_lit_step k55 _ 55 ?hg (N := 29) ?hd (xs := ([s] : List S55)) (inner := stC s) (ok := fun _ => True) (okp := fun _ => True) ?hr ?hp (fun _ hk => hk) trivial (Below.refl _ _) (Nat.le_refl _) (by simp) ?_; (case hd => rfl); (case hg => rfl); (case hr => exact build_stock (by rfl) s (by rfl)); (case hp => exact one_stock _ _ _ _)
    intro vl wb ho_ hb hg_ hnew_
    clear hg_ hnew_
    have HL := Aside0.mk (Kd.R_lower ho_ HK.out.1)
    replace HV := Aside0.mk (Kd.R_elder' HV.out (Kd.R_base ho_) hb)
    replace HB := Aside0.mk (below_step HB.out hb)
    replace HK := Aside0.mk (keep_below HK.out hb)
    replace B2 := Aside0.mk (blk_below B2.out hb)
    replace B3 := Aside0.mk (blk_below B3.out hb)
    replace HI := Aside0.mk (IsS153.below HI.out hb)
    clear c0_
    clear hb ho_
    have c0_ : wb.cell? ⟨g3, 0, none⟩ = some (.slice Ak lk.length ck) := (blk_cell B3.out 0).trans rfl
    refine hK.out _ _ (c0_) (fun hHeld => ?_)
    clear hK K
    refine norm_ (a' := ?_) ?_ ?_
    rotate_left
    · show Act.put _ (some 29) _ = _
      exact putB
    refine one_ (i := 5) (N := some 30) #[true, true, true, true, true, true, false, false] rfl rfl (by kernel_rfl) (by decide) (fun K hK => ?_)
    obtain ⟨Al, cl, el⟩ := Kd.R_slice HL.out
    subst el
    refine Kd.R_append_rows_step k55 (Rr := k55.K wb) (w0 := wb) w.heap.size (by rfl) (.tmp 26) (.tmp 29) 30 55 _ _ rfl Try.underlying30 infoSt rfl (by decide) (by omega) (.slice Ak lk.length ck) lk [s] _ _ _ (fun k_ => some k_ ≠ (.slice Al ([s] : List S55).length cl : Value).ownBlock) (fun k_ => some k_ ≠ (.slice Al ([s] : List S55).length cl : Value).ownBlock ∧ some k_ ≠ (.slice Ak lk.length ck : Value).ownBlock) rfl rfl ?aO ?aR ?aK (fun _ h => h) ?aF ?aB ?aS ?aL ?_
    (case aR => exact (Kd.R_reads' HL.out).2.2)
    (case aK => exact (fun x cs h => by have e := k55_cells (show k55.K wb x cs from h); subst e; exact k55_stM _ _ _ _))
    (case aB => exact Below.refl _ _)
    (case aF => exact (fun k_ hk => Kd.fresh' (Kd.R_lt HL.out) k_ hk))
    (case aO => exact Kd.R_mono HV.out (fun _ hk => hk.2))
    (case aS => exact HK.out.1)
    (case aL => simp only [List.length_singleton]; have := HLK.out; omega)
    intro v9 wc ho hb hg hat
    have HN := Aside0.mk (Kd.R_mono ho (fun _ _ => trivial) : Kd.R k55 55 wc w.heap.size (fun _ => True) v9 (lk ++ [s]))
    obtain ⟨lk2, hlk2⟩ : ∃ q, lk ++ [s] = q := ⟨_, rfl⟩
    rw [hlk2] at HN
    have HL2 := Aside0.mk hlk2
    clear hlk2
    replace HB := Aside0.mk (HB.out.grown hg HB.out.size (fun k_ e_ => Nat.le_trans HWW.out (Kd.R_base HV.out k_ e_)))
    replace HK := Aside0.mk (keep_own HK.out hg (fun k_ e_ => Kd.R_base HV.out k_ e_))
    replace B2 := Aside0.mk (blk_grown B2.out hg (Kd.R_ne HV.out B2.out (by decide)))
    replace B3 := Aside0.mk (blk_grown B3.out hg (Kd.R_ne HV.out B3.out (by decide)))
    replace HI := Aside0.mk (IsS153.grown HI.out hg (IsS153.own_ne HI.out HV.out (by decide)))
    clear c0_
    clear HV HL ho hb hg hat
    obtain ⟨A9, c9, e9⟩ := Kd.R_slice HN.out
    subst e9
    have c0_ : wc.cell? ⟨g3, 0, none⟩ = some (.slice Ak lk.length ck) := (blk_cell B3.out 0).trans rfl
    have f0_ : wc.frozen? ⟨g3, 0, none⟩ = false := blk_frozen B3.out 0
    refine hK.out _ _ (c0_) (fun hHeld => ?_)
    clear hK K
    refine norm_ (a' := ?_) ?_ ?_
    rotate_left
    · show Act.put _ (some 30) _ = _
      exact putB
    refine pure_ (i := 6) (N := some 31) (v := ?_) (a' := ?_) #[true, true, true, true, true, true, true, false] rfl rfl (by kernel_rfl) (fun _ _ _ h => h) (Or.inl ⟨by rfl, ?_⟩) ?_ ?_
    rotate_left
    · intro w'
      go_simp
      with_reducible rfl
    rotate_left
    · exact putB
    refine last_ (i := 7) (N := none) #[true, true, true, true, true, true, true, true] rfl rfl (by kernel_rfl) (by decide) (fun K hK => ?_)
    refine skip_ (w1 := ?_) (by rfl) rfl ?_ ?_
    rotate_left
    · go_simp
      rfl
    refine hK.out _ _ ?_
    clear hK K
    refine done_ (by kernel_rfl) ?_
    have hg := set1_grown wc g3 0 (.slice A9 lk2.length c9)
    have b3 := Aside0.mk (blk_put B3.out 0 (.slice A9 lk2.length c9) rfl)
    have hn := Aside0.mk (Kd.R_mono (Kd.R_far (p := ⟨g3, 0, none⟩) (Kd.R_types HN.out B3.out (by decide)) (fun _ hk => hk.2) (.slice A9 lk2.length c9)) (fun _ hk => hk.1))
    have b2 := Aside0.mk (blk_far (p := ⟨g3, 0, none⟩) B2.out NB2_B3.out (.slice A9 lk2.length c9))
    have hb := Aside0.mk (below_grown HB.out hg (fun k_ e_ => by injection e_ with e_; subst e_; exact GB3.out))
    have hi := Aside0.mk (IsS153.grown HI.out hg (fun e_ => by injection e_ with e_; exact IsS153.ne_blk HI.out B3.out (by decide) e_))
    have hk := Aside0.mk (keep_grown HK.out hg GWB3.out)
    clear hg B3 HN B2 HB HI HK hHeld c0_ f0_
    go_wp2
    have hgk_ := HGK.out
    go_roundg d
    case measure => omega
    case rel => exact ⟨d, i2, x2, lk2, _, by omega, by omega, by first | rfl | (simp only [i64_w, hwd, hwd2]) | go_num, ⟨by have := HLK.out; rw [← HL2.out, List.length_append, List.length_singleton]; omega⟩, ⟨fun q hq => by rw [← HL2.out] at hq; rcases List.mem_append.mp hq with hq | hq; exact HSM.out q hq; rw [List.mem_singleton] at hq; subst hq; exact HS.out⟩, ⟨by have := HII.out; have := HI2.out; omega⟩, hi, b3, hn, b2, hb, hk⟩
  · obtain rfl : d = 0 := by omega
    have d0 : wr.cell? ⟨g3, 0, none⟩ = some (.slice Ak lk.length ck) := (blk_cell B3.out 0).trans rfl
    have d1 : wr.cell? ⟨g3, 1, none⟩ = some (.int .i16 a1) := (blk_cell B3.out 1).trans rfl
    have d2 : wr.cell? ⟨g3, 2, none⟩ = some (.int .i8 (1 + b)) := (blk_cell B3.out 2).trans rfl
    have d3 : wr.cell? ⟨g3, 3, none⟩ = some (.int .i16 a3) := (blk_cell B3.out 3).trans rfl
    have e0 : wr.cell? ⟨g2, 0, none⟩ = some (.slice none 0 0) := (blk_cell B2.out 0).trans rfl
    have f0 : wr.frozen? ⟨g2, 0, none⟩ = false := blk_frozen B2.out 0
    have e1 : wr.cell? ⟨g2, 1, none⟩ = some (.int .i16 0) := (blk_cell B2.out 1).trans rfl
    have f1 : wr.frozen? ⟨g2, 1, none⟩ = false := blk_frozen B2.out 1
    have e2 : wr.cell? ⟨g2, 2, none⟩ = some (.int .i8 0) := (blk_cell B2.out 2).trans rfl
    have f2 : wr.frozen? ⟨g2, 2, none⟩ = false := blk_frozen B2.out 2
    have e3 : wr.cell? ⟨g2, 3, none⟩ = some (.int .i16 0) := (blk_cell B2.out 3).trans rfl
    have f3 : wr.frozen? ⟨g2, 3, none⟩ = false := blk_frozen B2.out 3
    go_wp2
    refine bodyPost_ret (results_cell_row rfl _ _ g2 32 #[.slice Ak lk.length ck, .int .i16 a1, .int .i8 (1 + b), .int .i16 a3] (0, 0) _ rfl (put4_blk B2.out) Try.underlying32 rfl (by kernel_rfl)) rfl ?_
    have hl := HLK.out
    have hkk := HKK.out
    exact ⟨_, _, _, _, _, rfl, ⟨by omega, by omega, HSM.out, HAA.out.1, HAA.out.2.1, HAA.out.2.2⟩, Kd.R_mono (Kd.R_move (Kd.R_types HV.out B2.out (by decide)) (fun k_ hk => put4_block k_ hk.2)) (fun _ _ => trivial), below_grown HB.out (put4_grown True.intro True.intro) (fun k_ e_ => by injection e_ with e_; subst e_; exact GB2.out), keep_grown HK.out (put4_grown True.intro True.intro) GWB2.out⟩
set_option maxHeartbeats 8000000 in
set_option maxRecDepth 100000 in
theorem p6House_calls (w : World) (A : Option Addr) (c : Nat) (l : List Int) (hB : Bytes l) (hr : Kd.C (Kd.int .u8) w A l.length l) (hc : l.length ≤ c) :
 Calls Try.prog 28 #[.slice A l.length c] w fun e w' => ∃ (v : Value) (lh : List S55) (a1 a2 a3 : Int), e = .returned (.agg #[v, .int .i16 a1, .int .i8 a2, .int .i16 a3]) ∧ DrawnL lh a1 a2 a3 ∧ Kd.R k55 55 w' w.heap.size (fun _ => True) v lh ∧ Below w.heap.size w w' := by
 have hu32 := Try.underlying32
 have mixed : Try.prog.follows .mixedOrders = true := by kernel_rfl
 have HF := Aside0.mk (fun (w' : World) (hb : Below w.heap.size w w') => spec_l00From.calls A c l l 0 0 w w' hb hr hc rfl)
 have HD := Aside0.mk (fun (w' : World) (g : Nat) (hi : IsS153 w w' g l 0 0) (hb : Below w.heap.size w w') => drawn_calls w w' g 0 l 0 hB (by omega) hi hb)
 clear hB hr hc
 go_enter Try.func28, Try.ntmps28
 have ST0 := Aside0.mk True.intro
 go_wp2_with (first
  | (have s_ := ST0; (with_reducible refine gate_dst (N := 2) rfl ?_); refine box_event ?hg (N := 2) ?hd (cs := #[.slice none 0 0, .int .i16 0, .int .i8 0, .int .i16 0]) (t := 32) ?hr ?_; (case hd => rfl); (case hg => rfl); (case hr => first | (go_simp; done) | (go_simp; rfl)); intro g2 hg_ w1 hbox hb; have GB2 := Aside0.mk (by rw [hg_]; exact Nat.le_refl _ : w.heap.size ≤ g2); have HB := Aside0.mk hb; have B2 := Aside0.mk hbox; clear hb hbox hg_; have qB20 : w1.cell? ⟨g2, 0, none⟩ = some (.slice none 0 0) := (blk_cell B2.out 0).trans rfl; have qB21 : w1.cell? ⟨g2, 1, none⟩ = some (.int .i16 0) := (blk_cell B2.out 1).trans rfl; have qB22 : w1.cell? ⟨g2, 2, none⟩ = some (.int .i8 0) := (blk_cell B2.out 2).trans rfl; have qB23 : w1.cell? ⟨g2, 3, none⟩ = some (.int .i16 0) := (blk_cell B2.out 3).trans rfl; have fB20 : w1.frozen? ⟨g2, 0, none⟩ = false := blk_frozen B2.out 0; have fB21 : w1.frozen? ⟨g2, 1, none⟩ = false := blk_frozen B2.out 1; have fB22 : w1.frozen? ⟨g2, 2, none⟩ = false := blk_frozen B2.out 2; have fB23 : w1.frozen? ⟨g2, 3, none⟩ = false := blk_frozen B2.out 3; clear ST0 s_; have ST1 := Aside0.mk True.intro)
  | (have s_ := ST1; go_at_call 70; (with_reducible refine (HF.out _ HB.out).mono ?_); rintro e w2 ⟨g, rfl, hi, hw, hb⟩; replace HB := Aside0.mk (hw); replace B2 := Aside0.mk (blk_below B2.out hb); have HI := Aside0.mk hi; clear hi hw hb; clear qB20 qB21 qB22 qB23 fB20 fB21 fB22 fB23; have qB20 : w2.cell? ⟨g2, 0, none⟩ = some (.slice none 0 0) := (blk_cell B2.out 0).trans rfl; have qB21 : w2.cell? ⟨g2, 1, none⟩ = some (.int .i16 0) := (blk_cell B2.out 1).trans rfl; have qB22 : w2.cell? ⟨g2, 2, none⟩ = some (.int .i8 0) := (blk_cell B2.out 2).trans rfl; have qB23 : w2.cell? ⟨g2, 3, none⟩ = some (.int .i16 0) := (blk_cell B2.out 3).trans rfl; have fB20 : w2.frozen? ⟨g2, 0, none⟩ = false := blk_frozen B2.out 0; have fB21 : w2.frozen? ⟨g2, 1, none⟩ = false := blk_frozen B2.out 1; have fB22 : w2.frozen? ⟨g2, 2, none⟩ = false := blk_frozen B2.out 2; have fB23 : w2.frozen? ⟨g2, 3, none⟩ = false := blk_frozen B2.out 3; clear ST1 s_; have ST2 := Aside0.mk True.intro)
  | (have s_ := ST2; go_at_call 87; have SZ := Aside0.mk HB.out.size; (with_reducible refine (HD.out _ g HI.out HB.out).mono ?_); rintro e w3 ⟨v, lh, a1, a2, a3, rfl, hl, hR, hb, hk⟩; replace HB := Aside0.mk (hb); replace B2 := Aside0.mk (blk_keep B2.out hk (fun e_ => IsS153.ne_blk HI.out B2.out (by decide) e_.symm)); have HR := Aside0.mk (Kd.R_lower hR SZ.out); have HL := Aside0.mk hl; clear hl hR hb hk; obtain ⟨Av, cv, ev⟩ := Kd.R_slice HR.out; subst ev; clear qB20 qB21 qB22 qB23 fB20 fB21 fB22 fB23; have qB20 : w3.cell? ⟨g2, 0, none⟩ = some (.slice none 0 0) := (blk_cell B2.out 0).trans rfl; have qB21 : w3.cell? ⟨g2, 1, none⟩ = some (.int .i16 0) := (blk_cell B2.out 1).trans rfl; have qB22 : w3.cell? ⟨g2, 2, none⟩ = some (.int .i8 0) := (blk_cell B2.out 2).trans rfl; have qB23 : w3.cell? ⟨g2, 3, none⟩ = some (.int .i16 0) := (blk_cell B2.out 3).trans rfl; have fB20 : w3.frozen? ⟨g2, 0, none⟩ = false := blk_frozen B2.out 0; have fB21 : w3.frozen? ⟨g2, 1, none⟩ = false := blk_frozen B2.out 1; have fB22 : w3.frozen? ⟨g2, 2, none⟩ = false := blk_frozen B2.out 2; have fB23 : w3.frozen? ⟨g2, 3, none⟩ = false := blk_frozen B2.out 3; clear ST2 s_; have ST3 := Aside0.mk True.intro))
 refine bodyPost_ret (results_cell_row rfl _ _ g2 32 #[.slice Av lh.length cv, .int .i16 a1, .int .i8 a2, .int .i16 a3] (0, 0) _ rfl (put4_blk B2.out) Try.underlying32 rfl (by kernel_rfl)) rfl ?_
 exact ⟨_, _, _, _, _, rfl, HL.out, Kd.R_mono (Kd.R_move (Kd.R_types HR.out B2.out (by decide)) (fun k_ hk => put4_block k_ hk.2)) (fun _ _ => trivial), put4_below HB.out GB2.out⟩
end Go.Proofs.Ytggjdcijplgpdaa.H
