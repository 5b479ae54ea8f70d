import Derived.Test.YtggjdcijplgpdaazFStocksEPutB
import Derived.Test.YtggjdcijplgpdaazFStocksEAddP
import Derived.Test.YtggjdcijplgpdaazFStocksEDAll
import Derived.Test.YtggjdcijplgpdaazFStocksELayG
import Derived.Test.YtggjdcijplgpdaazFStocksEDayOf
import Derived.Test.YtggjdcijplgpdaazFStocksEFresh
import Derived.Test.YtggjdcijplgpdaazFStocksEDrawnH
import Derived.Test.YtggjdcijplgpdaazFStocksEHOk
import Derived.Test.YtggjdcijplgpdaazFStocksEInH
import Derived.Test.YtggjdcijplgpdaazFStocksELasts
import Derived.Test.YtggjdcijplgpdaazFStocksEVHF
import Derived.Test.YtggjdcijplgpdaazFStocksELeast
import Derived.Test.YtggjdcijplgpdaazFStocksESNeeds
import Derived.Test.YtggjdcijplgpdaazFStocksENewH
import Derived.Test.YtggjdcijplgpdaazFStocksH12
import Derived.Test.YtggjdcijplgpdaazFStocksESLeast
import Derived.Test.YtggjdcijplgpdaazFStocksESPure
import Derived.Test.YtggjdcijplgpdaazFStocksESameH
import Derived.Test.YtggjdcijplgpdaazFStocksEShortOf
import Derived.Test.YtggjdcijplgpdaazFStocksESome
import Derived.Test.YtggjdcijplgpdaazFStocksEVStock
import Derived.Test.YtggjdcijplgpdaazFStocksECloneSt
import Derived.Test.YtggjdcijplgpdaazFStocksH14
import Derived.Test.YtggjdcijplgpdaazFStocksH15
import Derived.Test.YtggjdcijplgpdaazFStocksES0
import Derived.Test.YtggjdcijplgpdaazFStocksESA
import Derived.Shelf.Abstract
import Derived.Deep.QuietTactic
import Derived.BigQuiet
import Derived.Deep.CutRange
import Derived.Deep.DeepCutAuto
namespace Go.Proofs.Ytggjdcijplgpdaa.H
open Go.RowKit Go.Proofs.YtggjdcijplgpdaaW.PrintWords Go.Proofs.YtggjdcijplgpdaaW.PrintLast Go.Proofs.YtggjdcijplgpdaaW.PrintMore
attribute [local go_sem] max2_int min2_int max_two min_two max_three min_three max_four min_four
set_option linter.unusedVariables false
set_option linter.unusedSimpArgs false
set_option maxHeartbeats 8000000 in
set_option maxRecDepth 100000 in
def stocks_smallB : PSigma fun P : Prop => Aside0 P → stocks_smallA.1 := by
 apply PSigma.mk
 case snd =>
  intro REST
  intro W A0 A1 c0 c1 code more hu32 mixed xs KN days tub b E hwE need u8 n6 P HG0 HG1 HPN HPa HPb HPc HPd HPe HPH HL1 HL2 iP lP HN1 HN2 HFS HSH HIP HPM HTE HX5 HDY HP5 HU8 HN6 HNE n1 n2 n3 zz0A w1 w2 w3 Ad cd w4 w5 w6 w7 w8 zz1A zz2A w9 Ah ch g12 w10 GB12 w11 w12 Al cl w13 Am cm g14 w14 GB14 NB12_B14 w15 w16 x1_ y1_ w17 HB XD ST17 zz3A zz4A wc u4 u19 u20 u21 u22 u23 u24 u25 u26 u27 u28 u29 u30 u31 u32 u33 u34 u35 u36 u37 u38 u39 u40 u41 u42 u43 u44 u45 u46 u47 u48 u49 u50 u51 u52 u53 u54 u55 u56 u57 u58 u59 u60 u61 u62 u63 u64 u65 u66 u67 u68 u69 u70 u71 u72 u73 u74 u75 u76 u77 u78 u79 u80 u81 u82 u83 u84 u85 u86 u87 u88 u89 u90 u91 u92 u93 u94 u95 u96 u97 u98 u99 u100 u101 u102 u103 u104 u105 u106 u107 u108 u109 u110 u111 u112 u113 u114 u115 u116 u117 u118 u119 u120 u121 u122 u123 u124 u125 u126 u127 u128 u129 u130 u131 u132 u133 u134 u135 u136 u137 u138 u139 u140 u141 u142 u143 u144 u145 u146 u147 u148 u149 u150 u151 u152 u153 u154 u155 u156 u157 u158 u159 u160 u161 u162 u163 u164 u165 u166 u167 u168 u169 u170 u171 u172 u173 u174 u175 hcut
  have HB := hcut
  clear hcut XD HL1 HL2 HN1 HN2 HFS HPM HX5 HDY HPN HG0 HG1 hwE n1 n2 n3 HP5 HIP
  have ST0 := Aside0.mk True.intro
  go_wp2_with (first
   | (have s_ := ST0; go_at_call 28; (with_reducible refine (HPH.out _ HB.out).mono ?_); rintro e y1 ⟨v_, lh, a1, a2, a3, rfl, hl, hR, hb⟩; have HSZ := Aside0.mk HB.out.size; replace HB := Aside0.mk (below_step HB.out hb); obtain ⟨gv, cv, e_, hge_, _, hrow⟩ := row_of_R (Kd.R_lower hR HSZ.out) hl.one; subst e_; have HGV := Aside0.mk hge_; clear hge_ HSZ; have PH := Aside0.mk hrow; have HLH := Aside0.mk hl; obtain ⟨s0, hs0⟩ : ∃ s, lh.getD 0 z55 = s := ⟨_, rfl⟩; have HS0 := Aside0.mk hs0; have hsm : SmallSt 66 s0 := (by rw [← hs0, List.getD_eq_getElem?_getD, List.getElem?_eq_getElem (show 0 < lh.length from hl.one)]; exact hl.small _ (List.getElem_mem _)); have hf0 := hsm.fit (by decide); obtain ⟨hu1, hu2, hu3, hu4, hu5⟩ := use_facts hf0 HNE.out; have hfu := (fit_use hf0 HNE.out).1; obtain ⟨u1, hq1⟩ : ∃ q, (useOf s0 need).1 = q := ⟨_, rfl⟩; obtain ⟨S, hq2⟩ : ∃ q, (useOf s0 need).2 = q := ⟨_, rfl⟩; rw [hq1] at hu2 hu3 hu4 hu5 hfu; rw [hq2] at hu1 hu2 hu3; obtain ⟨M, hM⟩ : ∃ q, sumL s0.l = q := ⟨_, rfl⟩; rw [hM] at hu4; have HSM := Aside0.mk hsm; have HFU := Aside0.mk hfu; have HU1 := Aside0.mk hu1; have HU3 := Aside0.mk hu3; have HU5 := Aside0.mk hu5; have HM := Aside0.mk hM; have HUK := Aside0.mk (fun (w' : World) => (hq1 ▸ hq2 ▸ useKind_calls s0 need hf0 HNE.out w' : Calls Try.prog 29 #[.agg (stC s0).toArray, .int .i64 need] w' fun e w'' => e = .returned (.tuple #[.agg (stC u1).toArray, .int .i64 S, .int .i64 0]) ∧ Below w'.heap.size w' w'')); have HUS := Aside0.mk (fun (w' : World) => (hq1 ▸ hq2 ▸ specUseKind_calls s0 need hf0 HNE.out w' : Calls Try.prog 30 #[.agg (stC s0).toArray, .int .i64 need] w' fun e w'' => e = .returned (.tuple #[.agg (stC u1).toArray, .int .i64 S, .int .i64 0]) ∧ Below w'.heap.size w' w'')); have HP0 := Aside0.mk (fun (w' : World) => (hM ▸ piecesOf_calls s0 hf0 w' : Calls Try.prog 31 #[.agg (stC s0).toArray] w' fun e w'' => e = .returned (.tuple #[.int .i64 M, .int .i64 0]) ∧ Below w'.heap.size w' w'')); have HP1 := Aside0.mk (fun (w' : World) => (hu4 ▸ piecesOf_calls u1 hfu w' : Calls Try.prog 31 #[.agg (stC u1).toArray] w' fun e w'' => e = .returned (.tuple #[.int .i64 M, .int .i64 0]) ∧ Below w'.heap.size w' w'')); have hposz : 0 < (lh.length : Int) := (by have := hl.one; omega); clear hb hR hl hs0 hsm hf0 hu1 hu2 hu3 hu4 hu5 hfu hq1 hq2 hM hrow; clear ST0 s_; have ST1 := Aside0.mk True.intro)
   | (have s_ := ST1; (with_reducible refine gate_dst (N := 24) rfl ?_); refine box_event ?hg (N := 24) ?hd (cs := #[.slice none 0 0, .int .i16 0, .int .i8 0, .int .i16 0]) (t := 32) ?hr ?_; (case hd => rfl); (case hg => rfl); (case hr => first | (go_simp; done) | (go_simp; rfl)); intro g24 hg_ y2 hbox hb; have GB24 := Aside0.mk (by rw [hg_]; exact HB.out.size : W.heap.size ≤ g24); replace HB := Aside0.mk (below_step HB.out hb); replace PH := Aside0.mk (PH.out.move (hb.block _ PH.out.lt)); have B24 := Aside0.mk hbox; clear hb hbox hg_; have qB240 : y2.cell? ⟨g24, 0, none⟩ = some (.slice none 0 0) := (blk_cell B24.out 0).trans rfl; have qB241 : y2.cell? ⟨g24, 1, none⟩ = some (.int .i16 0) := (blk_cell B24.out 1).trans rfl; have qB242 : y2.cell? ⟨g24, 2, none⟩ = some (.int .i8 0) := (blk_cell B24.out 2).trans rfl; have qB243 : y2.cell? ⟨g24, 3, none⟩ = some (.int .i16 0) := (blk_cell B24.out 3).trans rfl; have fB240 : y2.frozen? ⟨g24, 0, none⟩ = false := blk_frozen B24.out 0; have fB241 : y2.frozen? ⟨g24, 1, none⟩ = false := blk_frozen B24.out 1; have fB242 : y2.frozen? ⟨g24, 2, none⟩ = false := blk_frozen B24.out 2; have fB243 : y2.frozen? ⟨g24, 3, none⟩ = false := blk_frozen B24.out 3; clear ST1 s_; have ST2 := Aside0.mk True.intro)
   | (have s_ := ST2; (with_reducible refine gate_store (t := 32) (p := 24) rfl ?_); refine store_event (t := 32) (p := 24) (v := ?vo_y3) (w1 := ((((y2.setCell ⟨g24, 0, none⟩ (.slice (some ⟨gv, 0, none⟩) lh.length cv)).setCell ⟨g24, 1, none⟩ (.int .i16 a1)).setCell ⟨g24, 2, none⟩ (.int .i8 a2)).setCell ⟨g24, 3, none⟩ (.int .i16 a3))) ?hg ?ho ?hn ?hr ?_; (case ho => rfl); (case hg => rfl); (case hn => rfl); (case hr => first | (go_simp; done) | (go_simp; rfl)); intro y3 hw; have hg : y2.grownBy y3 (some g24) := (by rw [hw]; exact put4_grown True.intro True.intro); have hnew : y3.heap[g24]? = some (.cells #[.slice (some ⟨gv, 0, none⟩) lh.length cv, .int .i16 a1, .int .i8 a2, .int .i16 a3] 32 (0, 0)) := (by rw [hw]; exact put4_blk B24.out); clear hw; replace HB := Aside0.mk (below_grown HB.out hg (fun k_ e_ => by injection e_ with e_; subst e_; exact GB24.out)); replace PH := Aside0.mk (PH.out.move (hg.block _ PH.out.lt (fun e_ => blk_ne PH.out.blk.choose_spec.1 B24.out (by decide) (by injection e_)))); replace B24 := Aside0.mk (hnew); clear hg hnew; clear qB240 qB241 qB242 qB243 fB240 fB241 fB242 fB243; have qB240 : y3.cell? ⟨g24, 0, none⟩ = some (.slice (some ⟨gv, 0, none⟩) lh.length cv) := (blk_cell B24.out 0).trans rfl; have qB241 : y3.cell? ⟨g24, 1, none⟩ = some (.int .i16 a1) := (blk_cell B24.out 1).trans rfl; have qB242 : y3.cell? ⟨g24, 2, none⟩ = some (.int .i8 a2) := (blk_cell B24.out 2).trans rfl; have qB243 : y3.cell? ⟨g24, 3, none⟩ = some (.int .i16 a3) := (blk_cell B24.out 3).trans rfl; clear ST2 s_; have ST3 := Aside0.mk True.intro)
   | (have s_ := ST3; (with_reducible refine gate_dst (N := 181) rfl ?_); refine Kd.event_run rfl (mem_load (ad := ⟨gv, 0, none⟩) (cs := stC s0) rfl rfl (elem0_cells PH.out HLH.out.one HS0.out) Try.underlying55 rfl (by kernel_rfl)) ?_; clear ST3 s_; have ST4 := Aside0.mk True.intro)
   | (have s_ := ST4; (with_reducible refine gate_dst (N := 25) rfl ?_); refine box_event ?hg (N := 25) ?hd (cs := (stC z55).toArray) (t := 55) ?hr ?_; (case hd => rfl); (case hg => rfl); (case hr => first | (go_simp; done) | (go_simp; rfl)); intro g25 hg_ y4 hbox hb; have NPH_K25 := Aside0.mk (by rw [hg_]; exact Nat.ne_of_lt PH.out.lt : gv ≠ g25); have GK25 := Aside0.mk (by rw [hg_]; exact HB.out.size : W.heap.size ≤ g25); have NB24_K25 := Aside0.mk (by rw [hg_]; exact Nat.ne_of_lt (blk_lt B24.out) : g24 ≠ g25); replace HB := Aside0.mk (below_step HB.out hb); replace PH := Aside0.mk (PH.out.move (hb.block _ PH.out.lt)); replace B24 := Aside0.mk (blk_below B24.out hb); have K25 := Aside0.mk hbox; clear hb hbox hg_; clear qB240 qB241 qB242 qB243; have qB240 : y4.cell? ⟨g24, 0, none⟩ = some (.slice (some ⟨gv, 0, none⟩) lh.length cv) := (blk_cell B24.out 0).trans rfl; have qB241 : y4.cell? ⟨g24, 1, none⟩ = some (.int .i16 a1) := (blk_cell B24.out 1).trans rfl; have qB242 : y4.cell? ⟨g24, 2, none⟩ = some (.int .i8 a2) := (blk_cell B24.out 2).trans rfl; have qB243 : y4.cell? ⟨g24, 3, none⟩ = some (.int .i16 a3) := (blk_cell B24.out 3).trans rfl; clear ST4 s_; have ST5 := Aside0.mk True.intro)
   | (have s_ := ST5; (with_reducible refine gate_store (t := 55) (p := 25) (v := .tmp 181) rfl ?_); refine mem_store (seg := stC s0) (g := g25) (off := 0) rfl rfl rfl rfl rfl K25.out (by kernel_rfl) (by show 0 + 25 ≤ 25; decide) (stC_one _) ?_; intro y5 cur_ hk hl hg; obtain rfl : cur_ = (stC s0).toArray := Array.ext' (hl.trans rfl); replace HB := Aside0.mk (below_grown HB.out hg (fun k_ e_ => by injection e_ with e_; subst e_; exact GK25.out)); replace PH := Aside0.mk (PH.out.move (hg.block _ PH.out.lt (fun e_ => by injection e_ with e_; exact NPH_K25.out e_))); replace B24 := Aside0.mk (blk_grown B24.out hg (fun e_ => by injection e_ with e_; exact NB24_K25.out e_)); replace K25 := Aside0.mk (hk); clear hk hl hg; clear qB240 qB241 qB242 qB243; have qB240 : y5.cell? ⟨g24, 0, none⟩ = some (.slice (some ⟨gv, 0, none⟩) lh.length cv) := (blk_cell B24.out 0).trans rfl; have qB241 : y5.cell? ⟨g24, 1, none⟩ = some (.int .i16 a1) := (blk_cell B24.out 1).trans rfl; have qB242 : y5.cell? ⟨g24, 2, none⟩ = some (.int .i8 a2) := (blk_cell B24.out 2).trans rfl; have qB243 : y5.cell? ⟨g24, 3, none⟩ = some (.int .i16 a3) := (blk_cell B24.out 3).trans rfl; clear ST5 s_; have ST6 := Aside0.mk True.intro)
   | (have s_ := ST6; go_at_call 21; (with_reducible refine (HPc.out _ HB.out).mono ?_); rintro e y6 ⟨rfl, hb⟩; replace HB := Aside0.mk (below_step HB.out hb); replace PH := Aside0.mk (PH.out.move (hb.block _ PH.out.lt)); replace B24 := Aside0.mk (blk_below B24.out hb); replace K25 := Aside0.mk (blk_below K25.out hb); clear hb; clear qB240 qB241 qB242 qB243; have qB240 : y6.cell? ⟨g24, 0, none⟩ = some (.slice (some ⟨gv, 0, none⟩) lh.length cv) := (blk_cell B24.out 0).trans rfl; have qB241 : y6.cell? ⟨g24, 1, none⟩ = some (.int .i16 a1) := (blk_cell B24.out 1).trans rfl; have qB242 : y6.cell? ⟨g24, 2, none⟩ = some (.int .i8 a2) := (blk_cell B24.out 2).trans rfl; have qB243 : y6.cell? ⟨g24, 3, none⟩ = some (.int .i16 a3) := (blk_cell B24.out 3).trans rfl; clear ST6 s_; have ST7 := Aside0.mk True.intro)
   | (have s_ := ST7; (with_reducible refine gate_dst (N := 185) rfl ?_); refine Kd.event_run rfl (mem_load (ad := ⟨g25, 0, none⟩) (cs := stC s0) rfl rfl (block_cells K25.out) Try.underlying55 rfl (by kernel_rfl)) ?_; clear ST7 s_; have ST8 := Aside0.mk True.intro)
   | (have s_ := ST8; go_at_call 29; (with_reducible refine (HUK.out _).mono ?_); rintro e y7 ⟨rfl, hb⟩; replace HB := Aside0.mk (below_step HB.out hb); replace PH := Aside0.mk (PH.out.move (hb.block _ PH.out.lt)); replace B24 := Aside0.mk (blk_below B24.out hb); replace K25 := Aside0.mk (blk_below K25.out hb); clear hb; clear qB240 qB241 qB242 qB243; have qB240 : y7.cell? ⟨g24, 0, none⟩ = some (.slice (some ⟨gv, 0, none⟩) lh.length cv) := (blk_cell B24.out 0).trans rfl; have qB241 : y7.cell? ⟨g24, 1, none⟩ = some (.int .i16 a1) := (blk_cell B24.out 1).trans rfl; have qB242 : y7.cell? ⟨g24, 2, none⟩ = some (.int .i8 a2) := (blk_cell B24.out 2).trans rfl; have qB243 : y7.cell? ⟨g24, 3, none⟩ = some (.int .i16 a3) := (blk_cell B24.out 3).trans rfl; clear ST8 s_; have ST9 := Aside0.mk True.intro)
   | (have s_ := ST9; (with_reducible refine gate_dst (N := 27) rfl ?_); refine box_event ?hg (N := 27) ?hd (cs := (stC z55).toArray) (t := 55) ?hr ?_; (case hd => rfl); (case hg => rfl); (case hr => first | (go_simp; done) | (go_simp; rfl)); intro g27 hg_ y8 hbox hb; have NPH_K27 := Aside0.mk (by rw [hg_]; exact Nat.ne_of_lt PH.out.lt : gv ≠ g27); have GK27 := Aside0.mk (by rw [hg_]; exact HB.out.size : W.heap.size ≤ g27); have NB24_K27 := Aside0.mk (by rw [hg_]; exact Nat.ne_of_lt (blk_lt B24.out) : g24 ≠ g27); have NK25_K27 := Aside0.mk (by rw [hg_]; exact Nat.ne_of_lt (blk_lt K25.out) : g25 ≠ g27); replace HB := Aside0.mk (below_step HB.out hb); replace PH := Aside0.mk (PH.out.move (hb.block _ PH.out.lt)); replace B24 := Aside0.mk (blk_below B24.out hb); replace K25 := Aside0.mk (blk_below K25.out hb); have K27 := Aside0.mk hbox; clear hb hbox hg_; clear qB240 qB241 qB242 qB243; have qB240 : y8.cell? ⟨g24, 0, none⟩ = some (.slice (some ⟨gv, 0, none⟩) lh.length cv) := (blk_cell B24.out 0).trans rfl; have qB241 : y8.cell? ⟨g24, 1, none⟩ = some (.int .i16 a1) := (blk_cell B24.out 1).trans rfl; have qB242 : y8.cell? ⟨g24, 2, none⟩ = some (.int .i8 a2) := (blk_cell B24.out 2).trans rfl; have qB243 : y8.cell? ⟨g24, 3, none⟩ = some (.int .i16 a3) := (blk_cell B24.out 3).trans rfl; clear ST9 s_; have ST10 := Aside0.mk True.intro)
   | (have s_ := ST10; (with_reducible refine gate_store (t := 55) (p := 27) (v := .tmp 188) rfl ?_); refine mem_store (seg := stC u1) (g := g27) (off := 0) rfl rfl rfl rfl rfl K27.out (by kernel_rfl) (by show 0 + 25 ≤ 25; decide) (stC_one _) ?_; intro y9 cur_ hk hl hg; obtain rfl : cur_ = (stC u1).toArray := Array.ext' (hl.trans rfl); replace HB := Aside0.mk (below_grown HB.out hg (fun k_ e_ => by injection e_ with e_; subst e_; exact GK27.out)); replace PH := Aside0.mk (PH.out.move (hg.block _ PH.out.lt (fun e_ => by injection e_ with e_; exact NPH_K27.out e_))); replace B24 := Aside0.mk (blk_grown B24.out hg (fun e_ => by injection e_ with e_; exact NB24_K27.out e_)); replace K25 := Aside0.mk (blk_grown K25.out hg (fun e_ => by injection e_ with e_; exact NK25_K27.out e_)); replace K27 := Aside0.mk (hk); clear hk hl hg; clear qB240 qB241 qB242 qB243; have qB240 : y9.cell? ⟨g24, 0, none⟩ = some (.slice (some ⟨gv, 0, none⟩) lh.length cv) := (blk_cell B24.out 0).trans rfl; have qB241 : y9.cell? ⟨g24, 1, none⟩ = some (.int .i16 a1) := (blk_cell B24.out 1).trans rfl; have qB242 : y9.cell? ⟨g24, 2, none⟩ = some (.int .i8 a2) := (blk_cell B24.out 2).trans rfl; have qB243 : y9.cell? ⟨g24, 3, none⟩ = some (.int .i16 a3) := (blk_cell B24.out 3).trans rfl; clear ST10 s_; have ST11 := Aside0.mk True.intro)
   | (have s_ := ST11; (with_reducible refine gate_dst (N := 192) rfl ?_); refine Kd.event_run rfl (mem_load (ad := ⟨g25, 0, none⟩) (cs := stC s0) rfl rfl (block_cells K25.out) Try.underlying55 rfl (by kernel_rfl)) ?_; clear ST11 s_; have ST12 := Aside0.mk True.intro)
   | (have s_ := ST12; go_at_call 30; (with_reducible refine (HUS.out _).mono ?_); rintro e y10 ⟨rfl, hb⟩; replace HB := Aside0.mk (below_step HB.out hb); replace PH := Aside0.mk (PH.out.move (hb.block _ PH.out.lt)); replace B24 := Aside0.mk (blk_below B24.out hb); replace K25 := Aside0.mk (blk_below K25.out hb); replace K27 := Aside0.mk (blk_below K27.out hb); clear hb; clear qB240 qB241 qB242 qB243; have qB240 : y10.cell? ⟨g24, 0, none⟩ = some (.slice (some ⟨gv, 0, none⟩) lh.length cv) := (blk_cell B24.out 0).trans rfl; have qB241 : y10.cell? ⟨g24, 1, none⟩ = some (.int .i16 a1) := (blk_cell B24.out 1).trans rfl; have qB242 : y10.cell? ⟨g24, 2, none⟩ = some (.int .i8 a2) := (blk_cell B24.out 2).trans rfl; have qB243 : y10.cell? ⟨g24, 3, none⟩ = some (.int .i16 a3) := (blk_cell B24.out 3).trans rfl; clear ST12 s_; have ST13 := Aside0.mk True.intro)
   | (have s_ := ST13; (with_reducible refine gate_dst (N := 30) rfl ?_); refine box_event ?hg (N := 30) ?hd (cs := (stC z55).toArray) (t := 55) ?hr ?_; (case hd => rfl); (case hg => rfl); (case hr => first | (go_simp; done) | (go_simp; rfl)); intro g30 hg_ y11 hbox hb; have NPH_K30 := Aside0.mk (by rw [hg_]; exact Nat.ne_of_lt PH.out.lt : gv ≠ g30); have GK30 := Aside0.mk (by rw [hg_]; exact HB.out.size : W.heap.size ≤ g30); have NB24_K30 := Aside0.mk (by rw [hg_]; exact Nat.ne_of_lt (blk_lt B24.out) : g24 ≠ g30); have NK25_K30 := Aside0.mk (by rw [hg_]; exact Nat.ne_of_lt (blk_lt K25.out) : g25 ≠ g30); have NK27_K30 := Aside0.mk (by rw [hg_]; exact Nat.ne_of_lt (blk_lt K27.out) : g27 ≠ g30); replace HB := Aside0.mk (below_step HB.out hb); replace PH := Aside0.mk (PH.out.move (hb.block _ PH.out.lt)); replace B24 := Aside0.mk (blk_below B24.out hb); replace K25 := Aside0.mk (blk_below K25.out hb); replace K27 := Aside0.mk (blk_below K27.out hb); have K30 := Aside0.mk hbox; clear hb hbox hg_; clear qB240 qB241 qB242 qB243; have qB240 : y11.cell? ⟨g24, 0, none⟩ = some (.slice (some ⟨gv, 0, none⟩) lh.length cv) := (blk_cell B24.out 0).trans rfl; have qB241 : y11.cell? ⟨g24, 1, none⟩ = some (.int .i16 a1) := (blk_cell B24.out 1).trans rfl; have qB242 : y11.cell? ⟨g24, 2, none⟩ = some (.int .i8 a2) := (blk_cell B24.out 2).trans rfl; have qB243 : y11.cell? ⟨g24, 3, none⟩ = some (.int .i16 a3) := (blk_cell B24.out 3).trans rfl; clear ST13 s_; have ST14 := Aside0.mk True.intro)
   | (have s_ := ST14; (with_reducible refine gate_store (t := 55) (p := 30) (v := .tmp 195) rfl ?_); refine mem_store (seg := stC u1) (g := g30) (off := 0) rfl rfl rfl rfl rfl K30.out (by kernel_rfl) (by show 0 + 25 ≤ 25; decide) (stC_one _) ?_; intro y12 cur_ hk hl hg; obtain rfl : cur_ = (stC u1).toArray := Array.ext' (hl.trans rfl); replace HB := Aside0.mk (below_grown HB.out hg (fun k_ e_ => by injection e_ with e_; subst e_; exact GK30.out)); replace PH := Aside0.mk (PH.out.move (hg.block _ PH.out.lt (fun e_ => by injection e_ with e_; exact NPH_K30.out e_))); replace B24 := Aside0.mk (blk_grown B24.out hg (fun e_ => by injection e_ with e_; exact NB24_K30.out e_)); replace K25 := Aside0.mk (blk_grown K25.out hg (fun e_ => by injection e_ with e_; exact NK25_K30.out e_)); replace K27 := Aside0.mk (blk_grown K27.out hg (fun e_ => by injection e_ with e_; exact NK27_K30.out e_)); replace K30 := Aside0.mk (hk); clear hk hl hg; clear qB240 qB241 qB242 qB243; have qB240 : y12.cell? ⟨g24, 0, none⟩ = some (.slice (some ⟨gv, 0, none⟩) lh.length cv) := (blk_cell B24.out 0).trans rfl; have qB241 : y12.cell? ⟨g24, 1, none⟩ = some (.int .i16 a1) := (blk_cell B24.out 1).trans rfl; have qB242 : y12.cell? ⟨g24, 2, none⟩ = some (.int .i8 a2) := (blk_cell B24.out 2).trans rfl; have qB243 : y12.cell? ⟨g24, 3, none⟩ = some (.int .i16 a3) := (blk_cell B24.out 3).trans rfl; clear ST14 s_; have ST15 := Aside0.mk True.intro)
   | (have s_ := ST15; (with_reducible refine gate_dst (N := 199) rfl ?_); refine Kd.event_run rfl (mem_load (ad := ⟨g25, 0, none⟩) (cs := stC s0) rfl rfl (block_cells K25.out) Try.underlying55 rfl (by kernel_rfl)) ?_; clear ST15 s_; have ST16 := Aside0.mk True.intro)
   | (have s_ := ST16; go_at_call 31; (with_reducible refine (HP0.out _).mono ?_); rintro e y13 ⟨rfl, hb⟩; replace HB := Aside0.mk (below_step HB.out hb); replace PH := Aside0.mk (PH.out.move (hb.block _ PH.out.lt)); replace B24 := Aside0.mk (blk_below B24.out hb); replace K25 := Aside0.mk (blk_below K25.out hb); replace K27 := Aside0.mk (blk_below K27.out hb); replace K30 := Aside0.mk (blk_below K30.out hb); clear hb; clear qB240 qB241 qB242 qB243; have qB240 : y13.cell? ⟨g24, 0, none⟩ = some (.slice (some ⟨gv, 0, none⟩) lh.length cv) := (blk_cell B24.out 0).trans rfl; have qB241 : y13.cell? ⟨g24, 1, none⟩ = some (.int .i16 a1) := (blk_cell B24.out 1).trans rfl; have qB242 : y13.cell? ⟨g24, 2, none⟩ = some (.int .i8 a2) := (blk_cell B24.out 2).trans rfl; have qB243 : y13.cell? ⟨g24, 3, none⟩ = some (.int .i16 a3) := (blk_cell B24.out 3).trans rfl; clear ST16 s_; have ST17 := Aside0.mk True.intro)
   | (have s_ := ST17; (with_reducible refine gate_dst (N := 204) rfl ?_); refine Kd.event_run rfl (mem_load (ad := ⟨g30, 0, none⟩) (cs := stC u1) rfl rfl (block_cells K30.out) Try.underlying55 rfl (by kernel_rfl)) ?_; clear ST17 s_; have ST18 := Aside0.mk True.intro)
   | (have s_ := ST18; go_at_call 31; (with_reducible refine (HP1.out _).mono ?_); rintro e y14 ⟨rfl, hb⟩; replace HB := Aside0.mk (below_step HB.out hb); replace PH := Aside0.mk (PH.out.move (hb.block _ PH.out.lt)); replace B24 := Aside0.mk (blk_below B24.out hb); replace K25 := Aside0.mk (blk_below K25.out hb); replace K27 := Aside0.mk (blk_below K27.out hb); replace K30 := Aside0.mk (blk_below K30.out hb); clear hb; clear qB240 qB241 qB242 qB243; have qB240 : y14.cell? ⟨g24, 0, none⟩ = some (.slice (some ⟨gv, 0, none⟩) lh.length cv) := (blk_cell B24.out 0).trans rfl; have qB241 : y14.cell? ⟨g24, 1, none⟩ = some (.int .i16 a1) := (blk_cell B24.out 1).trans rfl; have qB242 : y14.cell? ⟨g24, 2, none⟩ = some (.int .i8 a2) := (blk_cell B24.out 2).trans rfl; have qB243 : y14.cell? ⟨g24, 3, none⟩ = some (.int .i16 a3) := (blk_cell B24.out 3).trans rfl; clear ST18 s_; have ST19 := Aside0.mk True.intro))
  clear qB240 qB241 qB242 qB243
  have BL := Aside0.mk (Below.refl y14.heap.size y14)
  go_loopg [37, 38, 39] 8 (fun gk v37 v38 v39 wr => ∃ u : Nat, u ≤ 8 ∧ 8 - u ≤ gk ∧ v37 = .int .i64 (csum s0 u) ∧ v38 = .int .i64 (usum u1 u) ∧ v39 = .int .i64 u ∧ Aside0 (Below y14.heap.size y14 wr))
  case atStart => exact ⟨0, by omega, by omega, rfl, rfl, rfl, BL⟩
  case round =>
   clear BL
   obtain ⟨u, hu, hgk, rfl, rfl, rfl, BL⟩ := hrel
   by_cases hlt : u < 8
   · have hltz : (u : Int) < 8 := by omega
     have hu0 : 0 ≤ (u : Int) := by omega
     have hf0 := HSM.out.fit (by decide)
     obtain ⟨C0, hC0⟩ : ∃ x, s0.at_ u = x := ⟨_, rfl⟩
     obtain ⟨T0, hT0⟩ : ∃ x, u1.at_ (8 + u) = x := ⟨_, rfl⟩
     obtain ⟨D0, hD0⟩ : ∃ x, s0.at_ (16 + u) = x := ⟨_, rfl⟩
     obtain ⟨V0, hV0⟩ : ∃ x, s0.at_ (8 + u) = x := ⟨_, rfl⟩
     obtain ⟨DV, hDV⟩ : ∃ x, D0 + V0 = x := ⟨_, rfl⟩
     have hd := HU5.out u hlt
     rw [hD0, hV0, hDV] at hd
     have c1 : wr.cell? ⟨g25, u, none⟩ = some (.int .i16 C0) := (blk_cell (blk_below K25.out BL.out) _).trans (by rw [stc16 _ (by omega), hC0])
     have c2 : wr.cell? ⟨g30, 8 + u, none⟩ = some (.int .i16 T0) := (blk_cell (blk_below K30.out BL.out) _).trans (by rw [stc16 _ (by omega), hT0])
     have k1 : wr.drew.cell? ⟨g30, 16 + u, none⟩ = some (.int .i16 DV) := (blk_cell (blk_below K30.out BL.out) _).trans (by rw [stc16 _ (by omega), hd])
     have k2 : wr.drew.cell? ⟨g25, 16 + u, none⟩ = some (.int .i16 D0) := (blk_cell (blk_below K25.out BL.out) _).trans (by rw [stc16 _ (by omega), hD0])
     have k3 : wr.drew.cell? ⟨g25, 8 + u, none⟩ = some (.int .i16 V0) := (blk_cell (blk_below K25.out BL.out) _).trans (by rw [stc16 _ (by omega), hV0])
     have b1 := HSM.out.at_ (by decide) u
     have b2 := HSM.out.at_ (by decide) (16 + u)
     have b3 := HSM.out.at_ (by decide) (8 + u)
     have b4 := at_pos HFU.out (8 + u)
     have b5 := at_le HFU.out (8 + u)
     rw [hC0] at b1
     rw [hD0] at b2
     rw [hV0] at b3
     rw [hT0] at b4 b5
     have hc := csum_bd hf0 u hu
     have ht := usum_bd HFU.out u hu
     have e1 : csum s0 (u + 1) = csum s0 u + C0 := by rw [← hC0]; rfl
     have e2 : usum u1 (u + 1) = usum u1 u + T0 := by rw [← hT0]; rfl
     have w1 : wrap64 C0 = C0 := w64i (by omega) (by omega)
     have w2 : wrap64 T0 = T0 := w64i (by omega) (by omega)
     have w3 : wrap64 (csum s0 u + C0) = csum s0 (u + 1) := (w64i (by omega) (by omega)).trans e1.symm
     have w4 : wrap64 (usum u1 u + T0) = usum u1 (u + 1) := (w64i (by omega) (by omega)).trans e2.symm
     have w5 : IntKind.i16.wrap (D0 + V0) = DV := (wrap16_id (by omega) (by omega)).trans hDV
     have n5 : (DV != DV) = false := by simp
     have w6 : wrap64 ((u : Int) + 1) = ((u + 1 : Nat) : Int) := (w64i (by omega) (by omega)).trans (by omega)
     clear hf0 hC0 hT0 hD0 hV0 hDV hd b1 b2 b3 b4 b5 hc ht e1 e2
     have HW6 := Aside0.mk w6
     clear w6
     go_wp2
     refine start_ (n := 14) (S := fun w' => w'.cell? ⟨g30, 16 + u, none⟩ = some (.int .i16 DV) ∧ w'.cell? ⟨g25, 16 + u, none⟩ = some (.int .i16 D0) ∧ w'.cell? ⟨g25, 8 + u, none⟩ = some (.int .i16 V0)) (ds := []) #[false, false, false, false, false, false, false, false, false, false, false, false, false, false] (by kernel_rfl) rfl rfl ⟨k1, k2, k3⟩ (fun hHeld => ?_)
     refine pure_ (i := 0) (N := some 226) (v := ?_) (a' := ?_) #[true, false, false, false, false, false, false, false, false, false, false, false, false, false] rfl rfl (by kernel_rfl) (fun _ _ _ h => h) (Or.inl ⟨by rfl, ?_⟩) ?_ ?_
     rotate_left
     · intro w'
       go_simp
       with_reducible rfl
     rotate_left
     · exact putB
     refine pure_ (i := 1) (N := some 227) (v := ?_) (a' := ?_) #[true, true, false, false, false, false, false, false, false, false, false, false, false, false] rfl rfl (by kernel_rfl) (fun _ _ _ h => h) (Or.inl ⟨by rfl, ?_⟩) ?_ ?_
     rotate_left
     · intro w'
       go_simp
       with_reducible rfl
     rotate_left
     · exact putB
     refine pure_ (i := 2) (N := some 228) (v := ?_) (a' := ?_) #[true, true, true, false, false, false, false, false, false, false, false, false, false, false] rfl rfl (by kernel_rfl) (fun _ _ _ h => h) (Or.inl ⟨by rfl, ?_⟩) ?_ ?_
     rotate_left
     · intro w'
       go_simp
       with_reducible rfl
     rotate_left
     · exact putB
     refine pure_ (i := 4) (N := some 230) (v := ?_) (a' := ?_) #[true, true, true, false, true, false, false, false, false, false, false, false, false, false] rfl rfl (by kernel_rfl) (fun _ _ _ h => h) (Or.inl ⟨by rfl, ?_⟩) ?_ ?_
     rotate_left
     · intro w'
       go_simp
       with_reducible rfl
     rotate_left
     · exact putB
     refine pure_ (i := 5) (N := some 231) (v := ?_) (a' := ?_) #[true, true, true, false, true, true, false, false, false, false, false, false, false, false] rfl rfl (by kernel_rfl) (fun _ _ _ h => h) (Or.inl ⟨by rfl, ?_⟩) ?_ ?_
     rotate_left
     · intro w'
       go_simp
       with_reducible rfl
     rotate_left
     · exact putB
     refine pure_ (i := 6) (N := some 232) (v := ?_) (a' := ?_) #[true, true, true, false, true, true, true, false, false, false, false, false, false, false] rfl rfl (by kernel_rfl) (fun _ _ _ h => h) (Or.inl ⟨by rfl, ?_⟩) ?_ ?_
     rotate_left
     · intro w'
       go_simp
       with_reducible rfl
     rotate_left
     · exact putB
     refine pure_ (i := 8) (N := some 234) (v := ?_) (a' := ?_) #[true, true, true, false, true, true, true, false, true, false, false, false, false, false] rfl rfl (by kernel_rfl) (fun _ _ _ h => h) (Or.inl ⟨by rfl, ?_⟩) ?_ ?_
     rotate_left
     · intro w'
       go_simp
       with_reducible rfl
     rotate_left
     · exact putB
     refine pure_ (i := 9) (N := some 235) (v := ?_) (a' := ?_) #[true, true, true, false, true, true, true, false, true, true, false, false, false, false] rfl rfl (by kernel_rfl) (fun _ _ _ h => h) (Or.inl ⟨by rfl, ?_⟩) ?_ ?_
     rotate_left
     · intro w'
       go_simp
       with_reducible rfl
     rotate_left
     · exact putB
     refine pure_ (i := 10) (N := some 236) (v := ?_) (a' := ?_) #[true, true, true, false, true, true, true, false, true, true, true, false, false, false] rfl rfl (by kernel_rfl) (fun _ _ _ h => h) (Or.inl ⟨by rfl, ?_⟩) ?_ ?_
     rotate_left
     · intro w'
       go_simp
       with_reducible rfl
     rotate_left
     · exact putB
     refine take_ (i := 3) (N := some 229) (v := ?_) (a' := ?_) #[true, true, true, true, true, true, true, false, true, true, true, false, false, false] rfl rfl (by kernel_rfl) (fun _ _ _ h => h) (Or.inl ⟨by rfl, ?_⟩) hHeld ?_ ?_
     rotate_left
     · rintro w' ⟨s0, s1, s2⟩
       go_simp
       with_reducible rfl
     rotate_left
     · exact putB
     refine take_ (i := 7) (N := some 233) (v := ?_) (a' := ?_) #[true, true, true, true, true, true, true, true, true, true, true, false, false, false] rfl rfl (by kernel_rfl) (fun _ _ _ h => h) (Or.inl ⟨by rfl, ?_⟩) hHeld ?_ ?_
     rotate_left
     · rintro w' ⟨s0, s1, s2⟩
       go_simp
       with_reducible rfl
     rotate_left
     · exact putB
     refine take_ (i := 11) (N := some 237) (v := ?_) (a' := ?_) #[true, true, true, true, true, true, true, true, true, true, true, true, false, false] rfl rfl (by kernel_rfl) (fun _ _ _ h => h) (Or.inl ⟨by rfl, ?_⟩) hHeld ?_ ?_
     rotate_left
     · rintro w' ⟨s0, s1, s2⟩
       go_simp
       with_reducible rfl
     rotate_left
     · exact putB
     refine pure_ (i := 12) (N := some 238) (v := ?_) (a' := ?_) #[true, true, true, true, true, true, true, true, true, true, true, true, true, false] rfl rfl (by kernel_rfl) (fun _ _ _ h => h) (Or.inl ⟨by rfl, ?_⟩) ?_ ?_
     rotate_left
     · intro w'
       go_simp
       with_reducible rfl
     rotate_left
     · exact putB
     refine pure_ (i := 13) (N := some 239) (v := ?_) (a' := ?_) #[true, true, true, true, true, true, true, true, true, true, true, true, true, true] rfl rfl (by kernel_rfl) (fun _ _ _ h => h) (Or.inl ⟨by rfl, ?_⟩) ?_ ?_
     rotate_left
     · intro w'
       go_simp
       with_reducible rfl
     rotate_left
     · exact putB
     refine done_ (by kernel_rfl) ?_
     go_wp2
     go_roundg (8 - (u + 1))
     case measure => omega
     case rel => exact ⟨u + 1, by omega, by omega, by first | rfl | rw [w3] | (simp only [i64_w, w3]), by first | rfl | rw [w4] | (simp only [i64_w, w4]), by first | rfl | rw [HW6.out] | (simp only [i64_w, HW6.out]), ⟨below_drew1 BL.out⟩⟩
   · obtain rfl : u = 8 := by omega
     have hb := BL.out
     have hf0 := HSM.out.fit (by decide)
     have hc := csum_bd hf0 8 (by omega)
     have ht := usum_bd HFU.out 8 (by omega)
     have hu1 := HU1.out
     have hu3 := HU3.out
     generalize csum s0 8 = C at hc hu1 ⊢
     generalize usum u1 8 = T at ht hu3 ⊢
     obtain ⟨R0, hR0⟩ : ∃ x, s0.at_ 24 = x := ⟨_, rfl⟩
     obtain ⟨R1, hR1⟩ : ∃ x, u1.at_ 24 = x := ⟨_, rfl⟩
     have br0 := HSM.out.at_ (by decide) 24
     have br1 := at_pos HFU.out 24
     have br2 := at_le HFU.out 24
     have hne := HNE.out
     rw [hR1, hR0] at hu3
     rw [hR0] at br0
     rw [hR1] at br1 br2
     obtain ⟨DR, hDR⟩ : ∃ x, R1 - R0 = x := ⟨_, rfl⟩
     obtain ⟨NS, hNS⟩ : ∃ x, need - S = x := ⟨_, rfl⟩
     rw [hDR, hNS] at hu3
     obtain ⟨Y, hY⟩ : ∃ x, need - C = x := ⟨_, rfl⟩
     have m1 : wrap64 (need - C) = Y := (w64i (by omega) (by omega)).trans hY
     have m2 : (if 0 < Y then Y else 0) = S := by rw [hu1, hY]; split <;> omega
     have m3 : (S != S) = false := by simp
     have m4 : (M != M) = false := by simp
     have m5 : (NS != NS) = false := by simp
     have m6 : IntKind.i32.wrap (R1 - R0) = DR := (wrap32_id (by omega) (by omega)).trans hDR
     have m7 : wrap32 (R1 - R0) = DR := (i32_w _).symm.trans m6
     have m8 : wrap64 DR = DR := w64i (by omega) (by omega)
     have m9 : wrap64 (T + DR) = NS := (w64i (by omega) (by omega)).trans hu3
     have m10 : wrap64 (need - S) = NS := (w64i (by omega) (by omega)).trans hNS
     have HVS := Aside0.mk (fun (w' : World) => ((fitB_iff u1).mpr HFU.out ▸ validStock_calls u1 (fit_typed HFU.out) w' : Calls Try.prog 32 #[.agg (stC u1).toArray] w' fun e w'' => e = .returned (.bool true) ∧ Below w'.heap.size w' w''))
     have HFH := Aside0.mk (HLH.out.fit)
     have r1_ : wr.cell? ⟨g30, 24, none⟩ = some (.int .i32 R1) := (blk_cell (blk_below K30.out hb) 24).trans (by rw [List.getElem?_toArray, stC_get u1 24 (by decide), hR1]; rfl)
     have r0_ : wr.cell? ⟨g25, 24, none⟩ = some (.int .i32 R0) := (blk_cell (blk_below K25.out hb) 24).trans (by rw [List.getElem?_toArray, stC_get s0 24 (by decide), hR0]; rfl)
     have HR0 := Aside0.mk hR0
     obtain ⟨s2, hs2⟩ : ∃ q, s0.put 7 (s0.at_ 7 + 3) = q := ⟨_, rfl⟩
     obtain ⟨lA, hlA⟩ : ∃ q, lh.set 0 s2 = q := ⟨_, rfl⟩
     have hsm2 : SmallSt 69 s2 := by
      have h := HSM.out.add (m := 3) 7 (by decide) (v := s0.at_ 7 + 3) (by have := (HSM.out.at_ (by decide) 7).1; omega) (by omega)
      rw [hs2] at h
      exact h
     have hs2' : (lh.getD 0 z55).put 7 ((lh.getD 0 z55).at_ 7 + 3) = s2 := by rw [HS0.out]; exact hs2
     have HA1 := Aside0.mk (fun (w' : World) (h : RowSt w' gv cv lh) => (hlA ▸ addPieces_calls w' (some ⟨gv, 0, none⟩) cv lh a1 a2 a3 (C_of_row h) (row_len h) (row_rowAt h) HFH.out s2 hs2' (hsm2.fit (by decide)) : Calls Try.prog 33 #[.agg #[.slice (some ⟨gv, 0, none⟩) lh.length cv, .int .i16 a1, .int .i8 a2, .int .i16 a3], .int .i64 0, .int .i64 3] w' fun e w'' => ∃ v0 : Value, e = .returned (.tuple #[.agg #[v0, .int .i16 a1, .int .i8 a2, .int .i16 a3], .int .i64 0]) ∧ Kd.R k55 55 w'' w'.heap.size (fun _ => True) v0 lA ∧ Below w'.heap.size w' w''))
     have HA2 := Aside0.mk (fun (w' : World) (h : RowSt w' gv cv lh) => (hlA ▸ specAddPieces_calls w' (some ⟨gv, 0, none⟩) cv lh a1 a2 a3 (C_of_row h) (row_len h) (row_rowAt h) HFH.out s2 hs2' (hsm2.fit (by decide)) : Calls Try.prog 34 #[.agg #[.slice (some ⟨gv, 0, none⟩) lh.length cv, .int .i16 a1, .int .i8 a2, .int .i16 a3], .int .i64 0, .int .i64 3] w' fun e w'' => ∃ v0 : Value, e = .returned (.tuple #[.agg #[v0, .int .i16 a1, .int .i8 a2, .int .i16 a3], .int .i64 0]) ∧ Kd.R k55 55 w'' w'.heap.size (fun _ => True) v0 lA ∧ Below w'.heap.size w' w''))
     have hfA : FitL lA := by rw [← hlA]; exact HFH.out.st.set 0 (hsm2.fit (by decide))
     have hA4 : lA.length ≤ 4 := by rw [← hlA, List.length_set]; exact HFH.out.four
     obtain ⟨Q0, hQ0⟩ : ∃ x, sumAll lh = x := ⟨_, rfl⟩
     have hQ1 : sumAll lA = Q0 + 3 := by
      have e := sumAll_set lh s2 HLH.out.one
      have e2 := sumL_put s0 7 (by decide) (s0.at_ 7 + 3)
      rw [hs2] at e2
      rw [HS0.out] at e
      rw [← hlA]
      omega
     have bq := sumAll_bd HFH.out.st
     have b4 := HFH.out.four
     rw [hQ0] at bq
     have m11 : wrap64 (Q0 + 3) = Q0 + 3 := w64i (by omega) (by omega)
     have m12 : (Q0 + 3 != Q0 + 3) = false := by simp
     have m13 : ((lA.length : Int) != (lA.length : Int)) = false := by simp
     have HO1 := Aside0.mk (fun (w' : World) (A : Option Addr) (c : Nat) (h : RowAt w' A lA) => (hQ1 ▸ allOf_calls w' A c lA a1 a2 a3 h hfA hA4 : Calls Try.prog 35 #[.agg #[.slice A lA.length c, .int .i16 a1, .int .i8 a2, .int .i16 a3]] w' fun e w'' => e = .returned (.int .i64 (Q0 + 3)) ∧ Below w'.heap.size w' w''))
     have HO2 := Aside0.mk (fun (w' : World) (h : RowSt w' gv cv lh) => (hQ0 ▸ allOf_calls w' (some ⟨gv, 0, none⟩) cv lh a1 a2 a3 (row_rowAt h) HFH.out.st HFH.out.four : Calls Try.prog 35 #[.agg #[.slice (some ⟨gv, 0, none⟩) lh.length cv, .int .i16 a1, .int .i8 a2, .int .i16 a3]] w' fun e w'' => e = .returned (.int .i64 Q0) ∧ Below w'.heap.size w' w''))
     have n_HB := Aside0.mk (below_step HB.out hb)
     have n_PH := Aside0.mk (PH.out.move (hb.block _ PH.out.lt))
     have n_B24 := Aside0.mk (blk_below B24.out hb)
     have n_K25 := Aside0.mk (blk_below K25.out hb)
     have n_K27 := Aside0.mk (blk_below K27.out hb)
     have n_K30 := Aside0.mk (blk_below K30.out hb)
     clear HB PH B24 K25 K27 K30 BL hY hb hf0 hc ht hu1 hu3 hR0 hR1 br0 br1 br2 hne hDR hNS hs2 hlA hsm2 hs2' hfA hA4 hQ0 hQ1 bq b4 HU1 HU3 HU5 HUK HUS HP0 HP1 HPH HPc HM hlt
     have HB := n_HB
     have PH := n_PH
     have B24 := n_B24
     have K25 := n_K25
     have K27 := n_K27
     have K30 := n_K30
     clear n_HB n_PH n_B24 n_K25 n_K27 n_K30
     have ST0 := Aside0.mk True.intro
     go_upto_region 40 with (first
      | (have s_ := ST0; (with_reducible refine gate_dst (N := 248) rfl ?_); refine event_want (by rfl) (mem_load (ad := ⟨g27, 0, none⟩) (cs := stC u1) rfl rfl (block_cells K27.out) Try.underlying55 rfl (by kernel_rfl)) ?_; clear ST0 s_; have ST1 := Aside0.mk True.intro)
      | (have s_ := ST1; (with_reducible refine gate_dst (N := 249) rfl ?_); refine event_want (by rfl) (mem_load (ad := ⟨g30, 0, none⟩) (cs := stC u1) rfl rfl (block_cells K30.out) Try.underlying55 rfl (by kernel_rfl)) ?_; clear ST1 s_; have ST2 := Aside0.mk True.intro)
      | (have s_ := ST2; (with_reducible refine gate_dst (N := 250) rfl ?_); refine event_want (by rfl) (exec_neq55 (x := .tmp 248) (y := .tmp 249) (s := u1) (r := 55) rfl rfl rfl) ?_; clear ST2 s_; have ST3 := Aside0.mk True.intro)
      | (have s_ := ST3; (with_reducible refine gate_dst (N := 293) rfl ?_); refine event_want (by rfl) (mem_load (ad := ⟨g30, 0, none⟩) (cs := stC u1) rfl rfl (block_cells K30.out) Try.underlying55 rfl (by kernel_rfl)) ?_; clear ST3 s_; have ST4 := Aside0.mk True.intro)
      | (have s_ := ST4; go_at_call 32; (with_reducible refine (HVS.out _).mono ?_); rintro e z1 ⟨rfl, hb⟩; replace HB := Aside0.mk (below_step HB.out hb); replace PH := Aside0.mk (PH.out.move (hb.block _ PH.out.lt)); replace B24 := Aside0.mk (blk_below B24.out hb); replace K25 := Aside0.mk (blk_below K25.out hb); replace K27 := Aside0.mk (blk_below K27.out hb); replace K30 := Aside0.mk (blk_below K30.out hb); clear hb; clear r1_ r0_; have qB240 : z1.cell? ⟨g24, 0, none⟩ = some (.slice (some ⟨gv, 0, none⟩) lh.length cv) := (blk_cell B24.out 0).trans rfl; have qB241 : z1.cell? ⟨g24, 1, none⟩ = some (.int .i16 a1) := (blk_cell B24.out 1).trans rfl; have qB242 : z1.cell? ⟨g24, 2, none⟩ = some (.int .i8 a2) := (blk_cell B24.out 2).trans rfl; have qB243 : z1.cell? ⟨g24, 3, none⟩ = some (.int .i16 a3) := (blk_cell B24.out 3).trans rfl; clear ST4 s_; have ST5 := Aside0.mk True.intro)
      | (have s_ := ST5; go_at_call 33; (with_reducible refine (HA1.out _ PH.out).mono ?_); rintro e z2 ⟨v_, rfl, hR, hb⟩; replace HB := Aside0.mk (below_step HB.out hb); replace PH := Aside0.mk (PH.out.move (hb.block _ PH.out.lt)); replace B24 := Aside0.mk (blk_below B24.out hb); replace K25 := Aside0.mk (blk_below K25.out hb); replace K27 := Aside0.mk (blk_below K27.out hb); replace K30 := Aside0.mk (blk_below K30.out hb); have AX := Aside0.mk hR; clear hb hR; obtain ⟨Aa, ca, e_⟩ := Kd.R_slice AX.out; subst e_; clear qB240 qB241 qB242 qB243; have qB240 : z2.cell? ⟨g24, 0, none⟩ = some (.slice (some ⟨gv, 0, none⟩) lh.length cv) := (blk_cell B24.out 0).trans rfl; have qB241 : z2.cell? ⟨g24, 1, none⟩ = some (.int .i16 a1) := (blk_cell B24.out 1).trans rfl; have qB242 : z2.cell? ⟨g24, 2, none⟩ = some (.int .i8 a2) := (blk_cell B24.out 2).trans rfl; have qB243 : z2.cell? ⟨g24, 3, none⟩ = some (.int .i16 a3) := (blk_cell B24.out 3).trans rfl; clear ST5 s_; have ST6 := Aside0.mk True.intro)
      | (have s_ := ST6; (with_reducible refine gate_dst (N := 40) rfl ?_); refine box_event ?hg (N := 40) ?hd (cs := #[.slice none 0 0, .int .i16 0, .int .i8 0, .int .i16 0]) (t := 32) ?hr ?_; (case hd => rfl); (case hg => rfl); (case hr => first | (go_simp; done) | (go_simp; rfl)); intro g40 hg_ z3 hbox hb; have GB40 := Aside0.mk (by rw [hg_]; exact HB.out.size : W.heap.size ≤ g40); have NB24_B40 := Aside0.mk (by rw [hg_]; exact Nat.ne_of_lt (blk_lt B24.out) : g24 ≠ g40); have NK25_B40 := Aside0.mk (by rw [hg_]; exact Nat.ne_of_lt (blk_lt K25.out) : g25 ≠ g40); have NK27_B40 := Aside0.mk (by rw [hg_]; exact Nat.ne_of_lt (blk_lt K27.out) : g27 ≠ g40); have NK30_B40 := Aside0.mk (by rw [hg_]; exact Nat.ne_of_lt (blk_lt K30.out) : g30 ≠ g40); replace HB := Aside0.mk (below_step HB.out hb); replace PH := Aside0.mk (PH.out.move (hb.block _ PH.out.lt)); replace B24 := Aside0.mk (blk_below B24.out hb); replace K25 := Aside0.mk (blk_below K25.out hb); replace K27 := Aside0.mk (blk_below K27.out hb); replace K30 := Aside0.mk (blk_below K30.out hb); replace AX := Aside0.mk (Kd.R_below AX.out hb); have B40 := Aside0.mk hbox; clear hb hbox hg_; clear qB240 qB241 qB242 qB243; have qB240 : z3.cell? ⟨g24, 0, none⟩ = some (.slice (some ⟨gv, 0, none⟩) lh.length cv) := (blk_cell B24.out 0).trans rfl; have qB241 : z3.cell? ⟨g24, 1, none⟩ = some (.int .i16 a1) := (blk_cell B24.out 1).trans rfl; have qB242 : z3.cell? ⟨g24, 2, none⟩ = some (.int .i8 a2) := (blk_cell B24.out 2).trans rfl; have qB243 : z3.cell? ⟨g24, 3, none⟩ = some (.int .i16 a3) := (blk_cell B24.out 3).trans rfl; have qB400 : z3.cell? ⟨g40, 0, none⟩ = some (.slice none 0 0) := (blk_cell B40.out 0).trans rfl; have qB401 : z3.cell? ⟨g40, 1, none⟩ = some (.int .i16 0) := (blk_cell B40.out 1).trans rfl; have qB402 : z3.cell? ⟨g40, 2, none⟩ = some (.int .i8 0) := (blk_cell B40.out 2).trans rfl; have qB403 : z3.cell? ⟨g40, 3, none⟩ = some (.int .i16 0) := (blk_cell B40.out 3).trans rfl; have fB400 : z3.frozen? ⟨g40, 0, none⟩ = false := blk_frozen B40.out 0; have fB401 : z3.frozen? ⟨g40, 1, none⟩ = false := blk_frozen B40.out 1; have fB402 : z3.frozen? ⟨g40, 2, none⟩ = false := blk_frozen B40.out 2; have fB403 : z3.frozen? ⟨g40, 3, none⟩ = false := blk_frozen B40.out 3; clear ST6 s_; have ST7 := Aside0.mk True.intro)
      | (have s_ := ST7; (with_reducible refine gate_store (t := 32) (p := 40) rfl ?_); refine store_event (t := 32) (p := 40) (v := ?vo_z4) (w1 := ((((z3.setCell ⟨g40, 0, none⟩ (.slice Aa lA.length ca)).setCell ⟨g40, 1, none⟩ (.int .i16 a1)).setCell ⟨g40, 2, none⟩ (.int .i8 a2)).setCell ⟨g40, 3, none⟩ (.int .i16 a3))) ?hg ?ho ?hn ?hr ?_; (case ho => rfl); (case hg => rfl); (case hn => rfl); (case hr => first | (go_simp; done) | (go_simp; rfl)); intro z4 hw; have hg : z3.grownBy z4 (some g40) := (by rw [hw]; exact put4_grown True.intro True.intro); have hnew : z4.heap[g40]? = some (.cells #[.slice Aa lA.length ca, .int .i16 a1, .int .i8 a2, .int .i16 a3] 32 (0, 0)) := (by rw [hw]; exact put4_blk B40.out); clear hw; replace HB := Aside0.mk (below_grown HB.out hg (fun k_ e_ => by injection e_ with e_; subst e_; exact GB40.out)); replace PH := Aside0.mk (PH.out.move (hg.block _ PH.out.lt (fun e_ => blk_ne PH.out.blk.choose_spec.1 B40.out (by decide) (by injection e_)))); replace B24 := Aside0.mk (blk_grown B24.out hg (fun e_ => by injection e_ with e_; exact NB24_B40.out e_)); replace K25 := Aside0.mk (blk_grown K25.out hg (fun e_ => by injection e_ with e_; exact NK25_B40.out e_)); replace K27 := Aside0.mk (blk_grown K27.out hg (fun e_ => by injection e_ with e_; exact NK27_B40.out e_)); replace K30 := Aside0.mk (blk_grown K30.out hg (fun e_ => by injection e_ with e_; exact NK30_B40.out e_)); replace AX := Aside0.mk (Kd.R_grown1 AX.out rfl hg (Kd.R_ne AX.out B40.out (by decide))); replace B40 := Aside0.mk (hnew); clear hg hnew; clear qB240 qB241 qB242 qB243 qB400 qB401 qB402 qB403 fB400 fB401 fB402 fB403; have qB240 : z4.cell? ⟨g24, 0, none⟩ = some (.slice (some ⟨gv, 0, none⟩) lh.length cv) := (blk_cell B24.out 0).trans rfl; have qB241 : z4.cell? ⟨g24, 1, none⟩ = some (.int .i16 a1) := (blk_cell B24.out 1).trans rfl; have qB242 : z4.cell? ⟨g24, 2, none⟩ = some (.int .i8 a2) := (blk_cell B24.out 2).trans rfl; have qB243 : z4.cell? ⟨g24, 3, none⟩ = some (.int .i16 a3) := (blk_cell B24.out 3).trans rfl; have qB400 : z4.cell? ⟨g40, 0, none⟩ = some (.slice Aa lA.length ca) := (blk_cell B40.out 0).trans rfl; have qB401 : z4.cell? ⟨g40, 1, none⟩ = some (.int .i16 a1) := (blk_cell B40.out 1).trans rfl; have qB402 : z4.cell? ⟨g40, 2, none⟩ = some (.int .i8 a2) := (blk_cell B40.out 2).trans rfl; have qB403 : z4.cell? ⟨g40, 3, none⟩ = some (.int .i16 a3) := (blk_cell B40.out 3).trans rfl; clear ST7 s_; have ST8 := Aside0.mk True.intro)
      | (have s_ := ST8; go_at_call 34; (with_reducible refine (HA2.out _ PH.out).mono ?_); rintro e z5 ⟨v_, rfl, hR, hb⟩; replace HB := Aside0.mk (below_step HB.out hb); replace PH := Aside0.mk (PH.out.move (hb.block _ PH.out.lt)); replace B24 := Aside0.mk (blk_below B24.out hb); replace K25 := Aside0.mk (blk_below K25.out hb); replace K27 := Aside0.mk (blk_below K27.out hb); replace K30 := Aside0.mk (blk_below K30.out hb); replace AX := Aside0.mk (Kd.R_below AX.out hb); replace B40 := Aside0.mk (blk_below B40.out hb); have AY := Aside0.mk hR; clear hb hR; obtain ⟨Ab, cb, e_⟩ := Kd.R_slice AY.out; subst e_; clear qB240 qB241 qB242 qB243 qB400 qB401 qB402 qB403; have qB240 : z5.cell? ⟨g24, 0, none⟩ = some (.slice (some ⟨gv, 0, none⟩) lh.length cv) := (blk_cell B24.out 0).trans rfl; have qB241 : z5.cell? ⟨g24, 1, none⟩ = some (.int .i16 a1) := (blk_cell B24.out 1).trans rfl; have qB242 : z5.cell? ⟨g24, 2, none⟩ = some (.int .i8 a2) := (blk_cell B24.out 2).trans rfl; have qB243 : z5.cell? ⟨g24, 3, none⟩ = some (.int .i16 a3) := (blk_cell B24.out 3).trans rfl; have qB400 : z5.cell? ⟨g40, 0, none⟩ = some (.slice Aa lA.length ca) := (blk_cell B40.out 0).trans rfl; have qB401 : z5.cell? ⟨g40, 1, none⟩ = some (.int .i16 a1) := (blk_cell B40.out 1).trans rfl; have qB402 : z5.cell? ⟨g40, 2, none⟩ = some (.int .i8 a2) := (blk_cell B40.out 2).trans rfl; have qB403 : z5.cell? ⟨g40, 3, none⟩ = some (.int .i16 a3) := (blk_cell B40.out 3).trans rfl; clear ST8 s_; have ST9 := Aside0.mk True.intro)
      | (have s_ := ST9; (with_reducible refine gate_dst (N := 42) rfl ?_); refine box_event ?hg (N := 42) ?hd (cs := #[.slice none 0 0, .int .i16 0, .int .i8 0, .int .i16 0]) (t := 32) ?hr ?_; (case hd => rfl); (case hg => rfl); (case hr => first | (go_simp; done) | (go_simp; rfl)); intro g42 hg_ z6 hbox hb; have GB42 := Aside0.mk (by rw [hg_]; exact HB.out.size : W.heap.size ≤ g42); have NB24_B42 := Aside0.mk (by rw [hg_]; exact Nat.ne_of_lt (blk_lt B24.out) : g24 ≠ g42); have NK25_B42 := Aside0.mk (by rw [hg_]; exact Nat.ne_of_lt (blk_lt K25.out) : g25 ≠ g42); have NK27_B42 := Aside0.mk (by rw [hg_]; exact Nat.ne_of_lt (blk_lt K27.out) : g27 ≠ g42); have NK30_B42 := Aside0.mk (by rw [hg_]; exact Nat.ne_of_lt (blk_lt K30.out) : g30 ≠ g42); have NB40_B42 := Aside0.mk (by rw [hg_]; exact Nat.ne_of_lt (blk_lt B40.out) : g40 ≠ g42); replace HB := Aside0.mk (below_step HB.out hb); replace PH := Aside0.mk (PH.out.move (hb.block _ PH.out.lt)); replace B24 := Aside0.mk (blk_below B24.out hb); replace K25 := Aside0.mk (blk_below K25.out hb); replace K27 := Aside0.mk (blk_below K27.out hb); replace K30 := Aside0.mk (blk_below K30.out hb); replace AX := Aside0.mk (Kd.R_below AX.out hb); replace B40 := Aside0.mk (blk_below B40.out hb); replace AY := Aside0.mk (Kd.R_below AY.out hb); have B42 := Aside0.mk hbox; clear hb hbox hg_; clear qB240 qB241 qB242 qB243 qB400 qB401 qB402 qB403; have qB240 : z6.cell? ⟨g24, 0, none⟩ = some (.slice (some ⟨gv, 0, none⟩) lh.length cv) := (blk_cell B24.out 0).trans rfl; have qB241 : z6.cell? ⟨g24, 1, none⟩ = some (.int .i16 a1) := (blk_cell B24.out 1).trans rfl; have qB242 : z6.cell? ⟨g24, 2, none⟩ = some (.int .i8 a2) := (blk_cell B24.out 2).trans rfl; have qB243 : z6.cell? ⟨g24, 3, none⟩ = some (.int .i16 a3) := (blk_cell B24.out 3).trans rfl; have qB400 : z6.cell? ⟨g40, 0, none⟩ = some (.slice Aa lA.length ca) := (blk_cell B40.out 0).trans rfl; have qB401 : z6.cell? ⟨g40, 1, none⟩ = some (.int .i16 a1) := (blk_cell B40.out 1).trans rfl; have qB402 : z6.cell? ⟨g40, 2, none⟩ = some (.int .i8 a2) := (blk_cell B40.out 2).trans rfl; have qB403 : z6.cell? ⟨g40, 3, none⟩ = some (.int .i16 a3) := (blk_cell B40.out 3).trans rfl; have qB420 : z6.cell? ⟨g42, 0, none⟩ = some (.slice none 0 0) := (blk_cell B42.out 0).trans rfl; have qB421 : z6.cell? ⟨g42, 1, none⟩ = some (.int .i16 0) := (blk_cell B42.out 1).trans rfl; have qB422 : z6.cell? ⟨g42, 2, none⟩ = some (.int .i8 0) := (blk_cell B42.out 2).trans rfl; have qB423 : z6.cell? ⟨g42, 3, none⟩ = some (.int .i16 0) := (blk_cell B42.out 3).trans rfl; have fB420 : z6.frozen? ⟨g42, 0, none⟩ = false := blk_frozen B42.out 0; have fB421 : z6.frozen? ⟨g42, 1, none⟩ = false := blk_frozen B42.out 1; have fB422 : z6.frozen? ⟨g42, 2, none⟩ = false := blk_frozen B42.out 2; have fB423 : z6.frozen? ⟨g42, 3, none⟩ = false := blk_frozen B42.out 3; clear ST9 s_; have ST10 := Aside0.mk True.intro)
      | (have s_ := ST10; (with_reducible refine gate_store (t := 32) (p := 42) rfl ?_); refine store_event (t := 32) (p := 42) (v := ?vo_z7) (w1 := ((((z6.setCell ⟨g42, 0, none⟩ (.slice Ab lA.length cb)).setCell ⟨g42, 1, none⟩ (.int .i16 a1)).setCell ⟨g42, 2, none⟩ (.int .i8 a2)).setCell ⟨g42, 3, none⟩ (.int .i16 a3))) ?hg ?ho ?hn ?hr ?_; (case ho => rfl); (case hg => rfl); (case hn => rfl); (case hr => first | (go_simp; done) | (go_simp; rfl)); intro z7 hw; have hg : z6.grownBy z7 (some g42) := (by rw [hw]; exact put4_grown True.intro True.intro); have hnew : z7.heap[g42]? = some (.cells #[.slice Ab lA.length cb, .int .i16 a1, .int .i8 a2, .int .i16 a3] 32 (0, 0)) := (by rw [hw]; exact put4_blk B42.out); clear hw; replace HB := Aside0.mk (below_grown HB.out hg (fun k_ e_ => by injection e_ with e_; subst e_; exact GB42.out)); replace PH := Aside0.mk (PH.out.move (hg.block _ PH.out.lt (fun e_ => blk_ne PH.out.blk.choose_spec.1 B42.out (by decide) (by injection e_)))); replace B24 := Aside0.mk (blk_grown B24.out hg (fun e_ => by injection e_ with e_; exact NB24_B42.out e_)); replace K25 := Aside0.mk (blk_grown K25.out hg (fun e_ => by injection e_ with e_; exact NK25_B42.out e_)); replace K27 := Aside0.mk (blk_grown K27.out hg (fun e_ => by injection e_ with e_; exact NK27_B42.out e_)); replace K30 := Aside0.mk (blk_grown K30.out hg (fun e_ => by injection e_ with e_; exact NK30_B42.out e_)); replace AX := Aside0.mk (Kd.R_grown1 AX.out rfl hg (Kd.R_ne AX.out B42.out (by decide))); replace B40 := Aside0.mk (blk_grown B40.out hg (fun e_ => by injection e_ with e_; exact NB40_B42.out e_)); replace AY := Aside0.mk (Kd.R_grown1 AY.out rfl hg (Kd.R_ne AY.out B42.out (by decide))); replace B42 := Aside0.mk (hnew); clear hg hnew; clear qB240 qB241 qB242 qB243 qB400 qB401 qB402 qB403 qB420 qB421 qB422 qB423 fB420 fB421 fB422 fB423; have qB240 : z7.cell? ⟨g24, 0, none⟩ = some (.slice (some ⟨gv, 0, none⟩) lh.length cv) := (blk_cell B24.out 0).trans rfl; have qB241 : z7.cell? ⟨g24, 1, none⟩ = some (.int .i16 a1) := (blk_cell B24.out 1).trans rfl; have qB242 : z7.cell? ⟨g24, 2, none⟩ = some (.int .i8 a2) := (blk_cell B24.out 2).trans rfl; have qB243 : z7.cell? ⟨g24, 3, none⟩ = some (.int .i16 a3) := (blk_cell B24.out 3).trans rfl; have qB400 : z7.cell? ⟨g40, 0, none⟩ = some (.slice Aa lA.length ca) := (blk_cell B40.out 0).trans rfl; have qB401 : z7.cell? ⟨g40, 1, none⟩ = some (.int .i16 a1) := (blk_cell B40.out 1).trans rfl; have qB402 : z7.cell? ⟨g40, 2, none⟩ = some (.int .i8 a2) := (blk_cell B40.out 2).trans rfl; have qB403 : z7.cell? ⟨g40, 3, none⟩ = some (.int .i16 a3) := (blk_cell B40.out 3).trans rfl; have qB420 : z7.cell? ⟨g42, 0, none⟩ = some (.slice Ab lA.length cb) := (blk_cell B42.out 0).trans rfl; have qB421 : z7.cell? ⟨g42, 1, none⟩ = some (.int .i16 a1) := (blk_cell B42.out 1).trans rfl; have qB422 : z7.cell? ⟨g42, 2, none⟩ = some (.int .i8 a2) := (blk_cell B42.out 2).trans rfl; have qB423 : z7.cell? ⟨g42, 3, none⟩ = some (.int .i16 a3) := (blk_cell B42.out 3).trans rfl; clear ST10 s_; have ST11 := Aside0.mk True.intro))
     go_cut [336] from 307 to 335 (fun v336 wx => v336 = .bool false ∧ Aside0 (Below W.heap.size W wx) ∧ Aside0 (RowSt wx gv cv lh) ∧ Aside0 (wx.heap[g24]? = some (.cells #[.slice (some ⟨gv, 0, none⟩) lh.length cv, .int .i16 a1, .int .i8 a2, .int .i16 a3] 32 (0, 0))) ∧ Aside0 (wx.heap[g25]? = some (.cells (stC s0).toArray 55 (0, 0))))
     case first =>
      refine start_ (n := 30) (S := fun w' => w'.cell? ⟨g40, 0, none⟩ = some (.slice Aa lA.length ca) ∧ w'.cell? ⟨g40, 1, none⟩ = some (.int .i16 a1) ∧ w'.cell? ⟨g40, 2, none⟩ = some (.int .i8 a2) ∧ w'.cell? ⟨g40, 3, none⟩ = some (.int .i16 a3) ∧ w'.cell? ⟨g42, 0, none⟩ = some (.slice Ab lA.length cb) ∧ w'.cell? ⟨g42, 1, none⟩ = some (.int .i16 a1) ∧ w'.cell? ⟨g42, 2, none⟩ = some (.int .i8 a2) ∧ w'.cell? ⟨g42, 3, none⟩ = some (.int .i16 a3) ∧ w'.cell? ⟨g24, 0, none⟩ = some (.slice (some ⟨gv, 0, none⟩) lh.length cv) ∧ w'.cell? ⟨g24, 1, none⟩ = some (.int .i16 a1) ∧ w'.cell? ⟨g24, 2, none⟩ = some (.int .i8 a2) ∧ w'.cell? ⟨g24, 3, none⟩ = some (.int .i16 a3)) (ds := []) #[false, false, false, false, false, false, false, false, false, false, false, false, false, false, false, false, false, false, false, false, false, false, false, false, false, false, false, false, false, false] (by kernel_rfl) rfl rfl ⟨qB400, qB401, qB402, qB403, qB420, qB421, qB422, qB423, qB240, qB241, qB242, qB243⟩ (fun hHeld => ?_)
      have hb := (below_drew1 (Below.refl _ _) : Below z7.heap.size z7 z7.drew)
      replace HB := Aside0.mk (below_step HB.out hb)
      replace PH := Aside0.mk (PH.out.move (hb.block _ PH.out.lt))
      replace B24 := Aside0.mk (blk_below B24.out hb)
      replace K25 := Aside0.mk (blk_below K25.out hb)
      replace K27 := Aside0.mk (blk_below K27.out hb)
      replace K30 := Aside0.mk (blk_below K30.out hb)
      replace AX := Aside0.mk (Kd.R_below AX.out hb)
      replace B40 := Aside0.mk (blk_below B40.out hb)
      replace AY := Aside0.mk (Kd.R_below AY.out hb)
      replace B42 := Aside0.mk (blk_below B42.out hb)
      clear hb
      generalize z7.drew = z8 at HB PH B24 K25 K27 K30 AX B40 AY B42 hHeld ⊢
      clear qB240 qB241 qB242 qB243 qB400 qB401 qB402 qB403 qB420 qB421 qB422 qB423
      have qB240 : z8.cell? ⟨g24, 0, none⟩ = some (.slice (some ⟨gv, 0, none⟩) lh.length cv) := (blk_cell B24.out 0).trans rfl
      have qB241 : z8.cell? ⟨g24, 1, none⟩ = some (.int .i16 a1) := (blk_cell B24.out 1).trans rfl
      have qB242 : z8.cell? ⟨g24, 2, none⟩ = some (.int .i8 a2) := (blk_cell B24.out 2).trans rfl
      have qB243 : z8.cell? ⟨g24, 3, none⟩ = some (.int .i16 a3) := (blk_cell B24.out 3).trans rfl
      have qB400 : z8.cell? ⟨g40, 0, none⟩ = some (.slice Aa lA.length ca) := (blk_cell B40.out 0).trans rfl
      have qB401 : z8.cell? ⟨g40, 1, none⟩ = some (.int .i16 a1) := (blk_cell B40.out 1).trans rfl
      have qB402 : z8.cell? ⟨g40, 2, none⟩ = some (.int .i8 a2) := (blk_cell B40.out 2).trans rfl
      have qB403 : z8.cell? ⟨g40, 3, none⟩ = some (.int .i16 a3) := (blk_cell B40.out 3).trans rfl
      have qB420 : z8.cell? ⟨g42, 0, none⟩ = some (.slice Ab lA.length cb) := (blk_cell B42.out 0).trans rfl
      have qB421 : z8.cell? ⟨g42, 1, none⟩ = some (.int .i16 a1) := (blk_cell B42.out 1).trans rfl
      have qB422 : z8.cell? ⟨g42, 2, none⟩ = some (.int .i8 a2) := (blk_cell B42.out 2).trans rfl
      have qB423 : z8.cell? ⟨g42, 3, none⟩ = some (.int .i16 a3) := (blk_cell B42.out 3).trans rfl
      refine pure_ (i := 0) (N := some 307) (v := ?_) (a' := ?_) #[true, false, false, false, false, false, false, false, false, false, false, false, false, false, false, false, false, false, false, false, false, false, false, false, false, false, false, false, false, false] rfl rfl (by kernel_rfl) (fun _ _ _ h => h) (Or.inl ⟨by rfl, ?_⟩) ?_ ?_
      rotate_left
      · intro w'
        go_simp
        with_reducible rfl
      rotate_left
      · exact putB
      refine pure_ (i := 1) (N := some 308) (v := ?_) (a' := ?_) #[true, true, false, false, false, false, false, false, false, false, false, false, false, false, false, false, false, false, false, false, false, false, false, false, false, false, false, false, false, false] rfl rfl (by kernel_rfl) (fun _ _ _ h => h) (Or.inl ⟨by rfl, ?_⟩) ?_ ?_
      rotate_left
      · intro w'
        go_simp
        with_reducible rfl
      rotate_left
      · exact putB
      refine pure_ (i := 2) (N := some 309) (v := ?_) (a' := ?_) #[true, true, true, false, false, false, false, false, false, false, false, false, false, false, false, false, false, false, false, false, false, false, false, false, false, false, false, false, false, false] rfl rfl (by kernel_rfl) (fun _ _ _ h => h) (Or.inl ⟨by rfl, ?_⟩) ?_ ?_
      rotate_left
      · intro w'
        go_simp
        with_reducible rfl
      rotate_left
      · exact putB
      refine pure_ (i := 3) (N := some 310) (v := ?_) (a' := ?_) #[true, true, true, true, false, false, false, false, false, false, false, false, false, false, false, false, false, false, false, false, false, false, false, false, false, false, false, false, false, false] rfl rfl (by kernel_rfl) (fun _ _ _ h => h) (Or.inl ⟨by rfl, ?_⟩) ?_ ?_
      rotate_left
      · intro w'
        go_simp
        with_reducible rfl
      rotate_left
      · exact putB
      refine pure_ (i := 4) (N := some 311) (v := ?_) (a' := ?_) #[true, true, true, true, true, false, false, false, false, false, false, false, false, false, false, false, false, false, false, false, false, false, false, false, false, false, false, false, false, false] rfl rfl (by kernel_rfl) (fun _ _ _ h => h) (Or.inl ⟨by rfl, ?_⟩) ?_ ?_
      rotate_left
      · intro w'
        go_simp
        with_reducible rfl
      rotate_left
      · exact putB
      refine pure_ (i := 5) (N := some 312) (v := ?_) (a' := ?_) #[true, true, true, true, true, true, false, false, false, false, false, false, false, false, false, false, false, false, false, false, false, false, false, false, false, false, false, false, false, false] rfl rfl (by kernel_rfl) (fun _ _ _ h => h) (Or.inl ⟨by rfl, ?_⟩) ?_ ?_
      rotate_left
      · intro w'
        go_simp
        with_reducible rfl
      rotate_left
      · exact putB
      refine pure_ (i := 6) (N := some 313) (v := ?_) (a' := ?_) #[true, true, true, true, true, true, true, false, false, false, false, false, false, false, false, false, false, false, false, false, false, false, false, false, false, false, false, false, false, false] rfl rfl (by kernel_rfl) (fun _ _ _ h => h) (Or.inl ⟨by rfl, ?_⟩) ?_ ?_
      rotate_left
      · intro w'
        go_simp
        with_reducible rfl
      rotate_left
      · exact putB
      refine pure_ (i := 7) (N := some 314) (v := ?_) (a' := ?_) #[true, true, true, true, true, true, true, true, false, false, false, false, false, false, false, false, false, false, false, false, false, false, false, false, false, false, false, false, false, false] rfl rfl (by kernel_rfl) (fun _ _ _ h => h) (Or.inl ⟨by rfl, ?_⟩) ?_ ?_
      rotate_left
      · intro w'
        go_simp
        with_reducible rfl
      rotate_left
      · exact putB
      refine pure_ (i := 8) (N := some 315) (v := ?_) (a' := ?_) #[true, true, true, true, true, true, true, true, true, false, false, false, false, false, false, false, false, false, false, false, false, false, false, false, false, false, false, false, false, false] rfl rfl (by kernel_rfl) (fun _ _ _ h => h) (Or.inl ⟨by rfl, ?_⟩) ?_ ?_
      rotate_left
      · intro w'
        go_simp
        with_reducible rfl
      rotate_left
      · exact putB
      refine pure_ (i := 11) (N := some 318) (v := ?_) (a' := ?_) #[true, true, true, true, true, true, true, true, true, false, false, true, false, false, false, false, false, false, false, false, false, false, false, false, false, false, false, false, false, false] rfl rfl (by kernel_rfl) (fun _ _ _ h => h) (Or.inl ⟨by rfl, ?_⟩) ?_ ?_
      rotate_left
      · intro w'
        go_simp
        with_reducible rfl
      rotate_left
      · exact putB
      refine take_ (i := 9) (N := some 316) (v := ?_) (a' := ?_) #[true, true, true, true, true, true, true, true, true, true, false, true, false, false, false, false, false, false, false, false, false, false, false, false, false, false, false, false, false, false] rfl rfl (by kernel_rfl) (fun _ _ _ h => h) (Or.inl ⟨by rfl, ?_⟩) hHeld ?_ ?_
      rotate_left
      · rintro w' ⟨s0, s1, s2, s3, s4, s5, s6, s7, s8, s9, s10, s11⟩
        go_simp
        with_reducible rfl
      rotate_left
      · exact putB
      refine pure_ (i := 10) (N := some 317) (v := ?_) (a' := ?_) #[true, true, true, true, true, true, true, true, true, true, true, true, false, false, false, false, false, false, false, false, false, false, false, false, false, false, false, false, false, false] rfl rfl (by kernel_rfl) (fun _ _ _ h => h) (Or.inl ⟨by rfl, ?_⟩) ?_ ?_
      rotate_left
      · intro w'
        go_simp
        with_reducible rfl
      rotate_left
      · exact putB
      refine take_ (i := 12) (N := some 319) (v := ?_) (a' := ?_) #[true, true, true, true, true, true, true, true, true, true, true, true, true, false, false, false, false, false, false, false, false, false, false, false, false, false, false, false, false, false] rfl rfl (by kernel_rfl) (fun _ _ _ h => h) (Or.inl ⟨by rfl, ?_⟩) hHeld ?_ ?_
      rotate_left
      · rintro w' ⟨s0, s1, s2, s3, s4, s5, s6, s7, s8, s9, s10, s11⟩
        go_simp
        with_reducible rfl
      rotate_left
      · exact putB
      refine pure_ (i := 13) (N := some 320) (v := ?_) (a' := ?_) #[true, true, true, true, true, true, true, true, true, true, true, true, true, true, false, false, false, false, false, false, false, false, false, false, false, false, false, false, false, false] rfl rfl (by kernel_rfl) (fun _ _ _ h => h) (Or.inl ⟨by rfl, ?_⟩) ?_ ?_
      rotate_left
      · intro w'
        go_simp
        with_reducible rfl
      rotate_left
      · exact putB
      refine pure_ (i := 14) (N := some 321) (v := ?_) (a' := ?_) #[true, true, true, true, true, true, true, true, true, true, true, true, true, true, true, false, false, false, false, false, false, false, false, false, false, false, false, false, false, false] rfl rfl (by kernel_rfl) (fun _ _ _ h => h) (Or.inl ⟨by rfl, ?_⟩) ?_ ?_
      rotate_left
      · intro w'
        go_simp
        with_reducible rfl
      rotate_left
      · exact putB
      refine pure_ (i := 15) (N := some 322) (v := ?_) (a' := ?_) #[true, true, true, true, true, true, true, true, true, true, true, true, true, true, true, true, false, false, false, false, false, false, false, false, false, false, false, false, false, false] rfl rfl (by kernel_rfl) (fun _ _ _ h => h) (Or.inl ⟨by rfl, ?_⟩) ?_ ?_
      rotate_left
      · intro w'
        go_simp
        with_reducible rfl
      rotate_left
      · exact putB
      refine pure_ (i := 16) (N := some 323) (v := ?_) (a' := ?_) #[true, true, true, true, true, true, true, true, true, true, true, true, true, true, true, true, true, false, false, false, false, false, false, false, false, false, false, false, false, false] rfl rfl (by kernel_rfl) (fun _ _ _ h => h) (Or.inl ⟨by rfl, ?_⟩) ?_ ?_
      rotate_left
      · intro w'
        go_simp
        with_reducible rfl
      rotate_left
      · exact putB
      refine take_ (i := 17) (N := some 324) (v := ?_) (a' := ?_) #[true, true, true, true, true, true, true, true, true, true, true, true, true, true, true, true, true, true, false, false, false, false, false, false, false, false, false, false, false, false] rfl rfl (by kernel_rfl) (fun _ _ _ h => h) (Or.inl ⟨by rfl, ?_⟩) hHeld ?_ ?_
      rotate_left
      · rintro w' ⟨s0, s1, s2, s3, s4, s5, s6, s7, s8, s9, s10, s11⟩
        go_simp
        with_reducible rfl
      rotate_left
      · exact putB
      refine take_ (i := 18) (N := some 325) (v := ?_) (a' := ?_) #[true, true, true, true, true, true, true, true, true, true, true, true, true, true, true, true, true, true, true, false, false, false, false, false, false, false, false, false, false, false] rfl rfl (by kernel_rfl) (fun _ _ _ h => h) (Or.inl ⟨by rfl, ?_⟩) hHeld ?_ ?_
      rotate_left
      · rintro w' ⟨s0, s1, s2, s3, s4, s5, s6, s7, s8, s9, s10, s11⟩
        go_simp
        with_reducible rfl
      rotate_left
      · exact putB
      refine one_ (i := 19) (N := some 326) #[true, true, true, true, true, true, true, true, true, true, true, true, true, true, true, true, true, true, true, true, false, false, false, false, false, false, false, false, false, false] rfl rfl (by kernel_rfl) (by decide) (fun K hK => ?_)
      refine goes_ Try.func27 (by kernel_rfl) rfl #[.agg #[.slice Aa lA.length ca, .int .i16 a1, .int .i8 a2, .int .i16 a3], .agg #[.slice Ab lA.length cb, .int .i16 a1, .int .i8 a2, .int .i16 a3]] (by rfl) rfl rfl (by (try simp only [List.map_toArray, List.map_cons, List.map_nil]); first | done | rfl) ?_
      (with_reducible refine (HSH.out _ Aa Ab ca cb lA a1 a2 a3 (Kd.R_reads' AX.out).2.2 (Kd.R_reads' AY.out).2.2).mono ?_)
      rintro e z9 ⟨rfl, hb⟩
      refine ⟨_, rfl, ?_⟩
      replace HB := Aside0.mk (below_step HB.out hb)
      replace PH := Aside0.mk (PH.out.move (hb.block _ PH.out.lt))
      replace B24 := Aside0.mk (blk_below B24.out hb)
      replace K25 := Aside0.mk (blk_below K25.out hb)
      replace K27 := Aside0.mk (blk_below K27.out hb)
      replace K30 := Aside0.mk (blk_below K30.out hb)
      replace AX := Aside0.mk (Kd.R_below AX.out hb)
      replace B40 := Aside0.mk (blk_below B40.out hb)
      replace AY := Aside0.mk (Kd.R_below AY.out hb)
      replace B42 := Aside0.mk (blk_below B42.out hb)
      clear hb
      clear qB240 qB241 qB242 qB243 qB400 qB401 qB402 qB403 qB420 qB421 qB422 qB423
      have qB240 : z9.cell? ⟨g24, 0, none⟩ = some (.slice (some ⟨gv, 0, none⟩) lh.length cv) := (blk_cell B24.out 0).trans rfl
      have qB241 : z9.cell? ⟨g24, 1, none⟩ = some (.int .i16 a1) := (blk_cell B24.out 1).trans rfl
      have qB242 : z9.cell? ⟨g24, 2, none⟩ = some (.int .i8 a2) := (blk_cell B24.out 2).trans rfl
      have qB243 : z9.cell? ⟨g24, 3, none⟩ = some (.int .i16 a3) := (blk_cell B24.out 3).trans rfl
      have qB400 : z9.cell? ⟨g40, 0, none⟩ = some (.slice Aa lA.length ca) := (blk_cell B40.out 0).trans rfl
      have qB401 : z9.cell? ⟨g40, 1, none⟩ = some (.int .i16 a1) := (blk_cell B40.out 1).trans rfl
      have qB402 : z9.cell? ⟨g40, 2, none⟩ = some (.int .i8 a2) := (blk_cell B40.out 2).trans rfl
      have qB403 : z9.cell? ⟨g40, 3, none⟩ = some (.int .i16 a3) := (blk_cell B40.out 3).trans rfl
      have qB420 : z9.cell? ⟨g42, 0, none⟩ = some (.slice Ab lA.length cb) := (blk_cell B42.out 0).trans rfl
      have qB421 : z9.cell? ⟨g42, 1, none⟩ = some (.int .i16 a1) := (blk_cell B42.out 1).trans rfl
      have qB422 : z9.cell? ⟨g42, 2, none⟩ = some (.int .i8 a2) := (blk_cell B42.out 2).trans rfl
      have qB423 : z9.cell? ⟨g42, 3, none⟩ = some (.int .i16 a3) := (blk_cell B42.out 3).trans rfl
      refine hK.out _ _ ⟨qB400, qB401, qB402, qB403, qB420, qB421, qB422, qB423, qB240, qB241, qB242, qB243⟩ (fun hHeld => ?_)
      clear hK K
      refine norm_ (a' := ?_) ?_ ?_
      rotate_left
      · show Act.put _ (some 326) _ = _
        exact putB
      refine pure_ (i := 20) (N := some 327) (v := ?_) (a' := ?_) #[true, true, true, true, true, true, true, true, true, true, true, true, true, true, true, true, true, true, true, true, true, false, false, false, false, false, false, false, false, false] rfl rfl (by kernel_rfl) (fun _ _ _ h => h) (Or.inl ⟨by rfl, ?_⟩) ?_ ?_
      rotate_left
      · intro w'
        go_simp
        with_reducible rfl
      rotate_left
      · exact putB
      refine pure_ (i := 21) (N := some 328) (v := ?_) (a' := ?_) #[true, true, true, true, true, true, true, true, true, true, true, true, true, true, true, true, true, true, true, true, true, true, false, false, false, false, false, false, false, false] rfl rfl (by kernel_rfl) (fun _ _ _ h => h) (Or.inl ⟨by rfl, ?_⟩) ?_ ?_
      rotate_left
      · intro w'
        go_simp
        with_reducible rfl
      rotate_left
      · exact putB
      refine pure_ (i := 22) (N := some 329) (v := ?_) (a' := ?_) #[true, true, true, true, true, true, true, true, true, true, true, true, true, true, true, true, true, true, true, true, true, true, true, false, false, false, false, false, false, false] rfl rfl (by kernel_rfl) (fun _ _ _ h => h) (Or.inl ⟨by rfl, ?_⟩) ?_ ?_
      rotate_left
      · intro w'
        go_simp
        with_reducible rfl
      rotate_left
      · exact putB
      refine take_ (i := 23) (N := some 330) (v := ?_) (a' := ?_) #[true, true, true, true, true, true, true, true, true, true, true, true, true, true, true, true, true, true, true, true, true, true, true, true, false, false, false, false, false, false] rfl rfl (by kernel_rfl) (fun _ _ _ h => h) (Or.inl ⟨by rfl, ?_⟩) hHeld ?_ ?_
      rotate_left
      · rintro w' ⟨s0, s1, s2, s3, s4, s5, s6, s7, s8, s9, s10, s11⟩
        go_simp
        with_reducible rfl
      rotate_left
      · exact putB
      refine take_ (i := 25) (N := some 332) (v := ?_) (a' := ?_) #[true, true, true, true, true, true, true, true, true, true, true, true, true, true, true, true, true, true, true, true, true, true, true, true, false, true, false, false, false, false] rfl rfl (by kernel_rfl) (fun _ _ _ h => h) (Or.inl ⟨by rfl, ?_⟩) hHeld ?_ ?_
      rotate_left
      · rintro w' ⟨s0, s1, s2, s3, s4, s5, s6, s7, s8, s9, s10, s11⟩
        go_simp
        with_reducible rfl
      rotate_left
      · exact putB
      refine one_ (i := 24) (N := some 331) #[true, true, true, true, true, true, true, true, true, true, true, true, true, true, true, true, true, true, true, true, true, true, true, true, true, true, false, false, false, false] rfl rfl (by kernel_rfl) (by decide) (fun K hK => ?_)
      refine goes_ Try.func35 (by kernel_rfl) rfl #[.agg #[.slice Ab lA.length cb, .int .i16 a1, .int .i8 a2, .int .i16 a3]] (by rfl) rfl rfl (by (try simp only [List.map_toArray, List.map_cons, List.map_nil]); first | done | rfl) ?_
      (with_reducible refine (HO1.out _ Ab cb (rowAt_of_R AY.out)).mono ?_)
      rintro e z10 ⟨rfl, hb⟩
      refine ⟨_, rfl, ?_⟩
      replace HB := Aside0.mk (below_step HB.out hb)
      replace PH := Aside0.mk (PH.out.move (hb.block _ PH.out.lt))
      replace B24 := Aside0.mk (blk_below B24.out hb)
      replace K25 := Aside0.mk (blk_below K25.out hb)
      replace K27 := Aside0.mk (blk_below K27.out hb)
      replace K30 := Aside0.mk (blk_below K30.out hb)
      replace AX := Aside0.mk (Kd.R_below AX.out hb)
      replace B40 := Aside0.mk (blk_below B40.out hb)
      replace AY := Aside0.mk (Kd.R_below AY.out hb)
      replace B42 := Aside0.mk (blk_below B42.out hb)
      clear hb
      clear qB240 qB241 qB242 qB243 qB400 qB401 qB402 qB403 qB420 qB421 qB422 qB423
      have qB240 : z10.cell? ⟨g24, 0, none⟩ = some (.slice (some ⟨gv, 0, none⟩) lh.length cv) := (blk_cell B24.out 0).trans rfl
      have qB241 : z10.cell? ⟨g24, 1, none⟩ = some (.int .i16 a1) := (blk_cell B24.out 1).trans rfl
      have qB242 : z10.cell? ⟨g24, 2, none⟩ = some (.int .i8 a2) := (blk_cell B24.out 2).trans rfl
      have qB243 : z10.cell? ⟨g24, 3, none⟩ = some (.int .i16 a3) := (blk_cell B24.out 3).trans rfl
      have qB400 : z10.cell? ⟨g40, 0, none⟩ = some (.slice Aa lA.length ca) := (blk_cell B40.out 0).trans rfl
      have qB401 : z10.cell? ⟨g40, 1, none⟩ = some (.int .i16 a1) := (blk_cell B40.out 1).trans rfl
      have qB402 : z10.cell? ⟨g40, 2, none⟩ = some (.int .i8 a2) := (blk_cell B40.out 2).trans rfl
      have qB403 : z10.cell? ⟨g40, 3, none⟩ = some (.int .i16 a3) := (blk_cell B40.out 3).trans rfl
      have qB420 : z10.cell? ⟨g42, 0, none⟩ = some (.slice Ab lA.length cb) := (blk_cell B42.out 0).trans rfl
      have qB421 : z10.cell? ⟨g42, 1, none⟩ = some (.int .i16 a1) := (blk_cell B42.out 1).trans rfl
      have qB422 : z10.cell? ⟨g42, 2, none⟩ = some (.int .i8 a2) := (blk_cell B42.out 2).trans rfl
      have qB423 : z10.cell? ⟨g42, 3, none⟩ = some (.int .i16 a3) := (blk_cell B42.out 3).trans rfl
      refine hK.out _ _ ⟨qB400, qB401, qB402, qB403, qB420, qB421, qB422, qB423, qB240, qB241, qB242, qB243⟩ (fun hHeld => ?_)
      clear hK K
      refine norm_ (a' := ?_) ?_ ?_
      rotate_left
      · show Act.put _ (some 331) _ = _
        exact putB
      refine one_ (i := 26) (N := some 333) #[true, true, true, true, true, true, true, true, true, true, true, true, true, true, true, true, true, true, true, true, true, true, true, true, true, true, true, false, false, false] rfl rfl (by kernel_rfl) (by decide) (fun K hK => ?_)
      refine goes_ Try.func35 (by kernel_rfl) rfl #[.agg #[.slice (some ⟨gv, 0, none⟩) lh.length cv, .int .i16 a1, .int .i8 a2, .int .i16 a3]] (by rfl) rfl rfl (by (try simp only [List.map_toArray, List.map_cons, List.map_nil]); first | done | rfl) ?_
      (with_reducible refine (HO2.out _ PH.out).mono ?_)
      rintro e z11 ⟨rfl, hb⟩
      refine ⟨_, rfl, ?_⟩
      replace HB := Aside0.mk (below_step HB.out hb)
      replace PH := Aside0.mk (PH.out.move (hb.block _ PH.out.lt))
      replace B24 := Aside0.mk (blk_below B24.out hb)
      replace K25 := Aside0.mk (blk_below K25.out hb)
      replace K27 := Aside0.mk (blk_below K27.out hb)
      replace K30 := Aside0.mk (blk_below K30.out hb)
      replace AX := Aside0.mk (Kd.R_below AX.out hb)
      replace B40 := Aside0.mk (blk_below B40.out hb)
      replace AY := Aside0.mk (Kd.R_below AY.out hb)
      replace B42 := Aside0.mk (blk_below B42.out hb)
      clear hb
      clear qB240 qB241 qB242 qB243 qB400 qB401 qB402 qB403 qB420 qB421 qB422 qB423
      have qB240 : z11.cell? ⟨g24, 0, none⟩ = some (.slice (some ⟨gv, 0, none⟩) lh.length cv) := (blk_cell B24.out 0).trans rfl
      have qB241 : z11.cell? ⟨g24, 1, none⟩ = some (.int .i16 a1) := (blk_cell B24.out 1).trans rfl
      have qB242 : z11.cell? ⟨g24, 2, none⟩ = some (.int .i8 a2) := (blk_cell B24.out 2).trans rfl
      have qB243 : z11.cell? ⟨g24, 3, none⟩ = some (.int .i16 a3) := (blk_cell B24.out 3).trans rfl
      have qB400 : z11.cell? ⟨g40, 0, none⟩ = some (.slice Aa lA.length ca) := (blk_cell B40.out 0).trans rfl
      have qB401 : z11.cell? ⟨g40, 1, none⟩ = some (.int .i16 a1) := (blk_cell B40.out 1).trans rfl
      have qB402 : z11.cell? ⟨g40, 2, none⟩ = some (.int .i8 a2) := (blk_cell B40.out 2).trans rfl
      have qB403 : z11.cell? ⟨g40, 3, none⟩ = some (.int .i16 a3) := (blk_cell B40.out 3).trans rfl
      have qB420 : z11.cell? ⟨g42, 0, none⟩ = some (.slice Ab lA.length cb) := (blk_cell B42.out 0).trans rfl
      have qB421 : z11.cell? ⟨g42, 1, none⟩ = some (.int .i16 a1) := (blk_cell B42.out 1).trans rfl
      have qB422 : z11.cell? ⟨g42, 2, none⟩ = some (.int .i8 a2) := (blk_cell B42.out 2).trans rfl
      have qB423 : z11.cell? ⟨g42, 3, none⟩ = some (.int .i16 a3) := (blk_cell B42.out 3).trans rfl
      refine hK.out _ _ ⟨qB400, qB401, qB402, qB403, qB420, qB421, qB422, qB423, qB240, qB241, qB242, qB243⟩ (fun hHeld => ?_)
      clear hK K
      refine norm_ (a' := ?_) ?_ ?_
      rotate_left
      · show Act.put _ (some 333) _ = _
        exact putB
      refine pure_ (i := 27) (N := some 334) (v := ?_) (a' := ?_) #[true, true, true, true, true, true, true, true, true, true, true, true, true, true, true, true, true, true, true, true, true, true, true, true, true, true, true, true, false, false] rfl rfl (by kernel_rfl) (fun _ _ _ h => h) (Or.inl ⟨by rfl, ?_⟩) ?_ ?_
      rotate_left
      · intro w'
        go_simp
        with_reducible rfl
      rotate_left
      · exact putB
      refine pure_ (i := 28) (N := some 335) (v := ?_) (a' := ?_) #[true, true, true, true, true, true, true, true, true, true, true, true, true, true, true, true, true, true, true, true, true, true, true, true, true, true, true, true, true, false] rfl rfl (by kernel_rfl) (fun _ _ _ h => h) (Or.inl ⟨by rfl, ?_⟩) ?_ ?_
      rotate_left
      · intro w'
        go_simp
        with_reducible rfl
      rotate_left
      · exact putB
      refine pure_ (i := 29) (N := some 336) (v := ?_) (a' := ?_) #[true, true, true, true, true, true, true, true, true, true, true, true, true, true, true, true, true, true, true, true, true, true, true, true, true, true, true, true, true, true] rfl rfl (by kernel_rfl) (fun _ _ _ h => h) (Or.inl ⟨by rfl, ?_⟩) ?_ ?_
      rotate_left
      · intro w'
        go_simp
        with_reducible rfl
      rotate_left
      · exact putB
      refine done_ (by kernel_rfl) ?_
      go_wp2
      go_meet
      case rel => exact ⟨rfl, HB, PH, B24, K25⟩
     case rest =>
      rename_i zz0B zz1B zz2B zz3B zz4B zz5B zz6B zz7B zz8B zz9B zz10B zz11B zz12B zz13B zz14B
      revert W A0 A1 c0 c1 code more hu32 mixed xs KN days tub b E need u8 n6 P HPa HPb HPd HPe iP lP HSH HTE HU8 HN6 HNE zz0A w1 w2 w3 Ad cd w4 w5 w6 w7 w8 zz1A zz2A w9 Ah ch g12 w10 GB12 w11 w12 Al cl w13 Am cm g14 w14 GB14 NB12_B14 w15 w16 x1_ y1_ w17 zz0B ST17 zz1B zz2B u19 u20 u21 u22 u23 u24 u25 u26 u27 u28 u29 u30 u31 u32 u33 u34 u35 u36 u37 u38 u39 u40 u41 u42 u43 u44 u45 u46 u47 u48 u49 u50 u51 u52 u53 u54 u55 u56 u57 u58 u59 u60 u61 u62 u63 u64 u65 u66 u67 u68 u69 u70 u71 u72 u73 u74 u75 u76 u77 u78 u79 u80 u81 u82 u83 u84 u85 u86 u87 u88 u89 u90 u91 u92 u93 u94 u95 u96 u97 u98 u99 u100 u101 u102 u103 u104 u105 u106 u107 u108 u109 u110 u111 u112 u113 u114 u115 u116 u117 u118 u119 u120 u121 u122 u123 u124 u125 u126 u127 u128 u129 u130 u131 u132 u133 u134 u135 u136 u137 u138 u139 u140 u141 u142 u143 u144 u145 u146 u147 u148 u149 u150 u151 u152 u153 u154 u155 u156 u157 u158 u159 u160 u161 u162 u163 u164 u165 u166 u167 u168 u169 u170 u171 u172 u173 u174 u175 y1 lh a1 a2 a3 gv cv zz3B HGV HLH s0 HS0 u1 S M HSM HFU hposz g24 y2 GB24 y3 g25 y4 NPH_K25 GK25 NB24_K25 y5 y6 y7 g27 y8 NPH_K27 GK27 NB24_K27 NK25_K27 y9 y10 g30 y11 NPH_K30 GK30 NB24_K30 NK25_K30 NK27_K30 y12 y13 y14 ST19 zz4B gk wr u4 u208 u209 u210 u211 u212 u213 u214 u215 u216 u217 u218 u219 u220 u221 u222 u223 u224 u225 u226 u227 u228 u229 u230 u231 u232 u233 u234 u235 u236 u237 u238 u239 zz5B zz6B zz7B zz8B hu hgk C T R0 R1 DR NS Y m1 m2 m3 m4 m5 m6 m7 m8 m9 m10 HVS HFH HR0 s2 lA HA1 HA2 Q0 m11 m12 m13 HO1 HO2 zz9B zz10B z1 z2 Aa ca g40 z3 GB40 NB24_B40 NK25_B40 NK27_B40 NK30_B40 z4 z5 Ab cb g42 z6 GB42 NB24_B42 NK25_B42 NK27_B42 NK30_B42 NB40_B42 z7 HB PH B24 K25 K27 K30 AX B40 AY B42 qB240 qB241 qB242 qB243 qB400 qB401 qB402 qB403 qB420 qB421 qB422 qB423 ST11 zz11B zz12B zz13B zz14B wc u307 u308 u309 u310 u311 u312 u313 u314 u315 u316 u317 u318 u319 u320 u321 u322 u323 u324 u325 u326 u327 u328 u329 u330 u331 u332 u333 u334 u335 u336 hcut
      exact REST.out
end Go.Proofs.Ytggjdcijplgpdaa.H
