import Derived.Test.YtggjdcijplgpdaazFStocksEAddP
import Derived.Test.YtggjdcijplgpdaazFStocksEDAll
import Derived.Test.YtggjdcijplgpdaazFStocksELayG
import Derived.Test.YtggjdcijplgpdaazFStocksEDayOf
import Derived.Test.YtggjdcijplgpdaazFStocksEFresh
import Derived.Test.YtggjdcijplgpdaazFStocksEDrawnH
import Derived.Test.YtggjdcijplgpdaazFStocksEHOk
import Derived.Test.YtggjdcijplgpdaazFStocksEInH
import Derived.Test.YtggjdcijplgpdaazFStocksELasts
import Derived.Test.YtggjdcijplgpdaazFStocksEVHF
import Derived.Test.YtggjdcijplgpdaazFStocksELeast
import Derived.Test.YtggjdcijplgpdaazFStocksESNeeds
import Derived.Test.YtggjdcijplgpdaazFStocksENewH
import Derived.Test.YtggjdcijplgpdaazFStocksH12
import Derived.Test.YtggjdcijplgpdaazFStocksESLeast
import Derived.Test.YtggjdcijplgpdaazFStocksESPure
import Derived.Test.YtggjdcijplgpdaazFStocksESameH
import Derived.Test.YtggjdcijplgpdaazFStocksEShortOf
import Derived.Test.YtggjdcijplgpdaazFStocksESome
import Derived.Test.YtggjdcijplgpdaazFStocksEVStock
import Derived.Test.YtggjdcijplgpdaazFStocksECloneSt
import Derived.Test.YtggjdcijplgpdaazFStocksH14
import Derived.Test.YtggjdcijplgpdaazFStocksH15
import Derived.Test.YtggjdcijplgpdaazFStocksES0
import Derived.Test.YtggjdcijplgpdaazFStocksESC
import Derived.Shelf.Abstract
import Derived.Deep.QuietTactic
import Derived.BigQuiet
import Derived.Deep.CutRange
import Derived.Deep.DeepCutAuto
namespace Go.Proofs.Ytggjdcijplgpdaa.H
open Go.RowKit Go.Proofs.YtggjdcijplgpdaaW.PrintWords Go.Proofs.YtggjdcijplgpdaaW.PrintLast Go.Proofs.YtggjdcijplgpdaaW.PrintMore
attribute [local go_sem] max2_int min2_int max_two min_two max_three min_three max_four min_four
set_option linter.unusedVariables false
set_option linter.unusedSimpArgs false
set_option maxHeartbeats 8000000 in
set_option maxRecDepth 100000 in
theorem stocks_smallD : stocks_smallC.1 := by
 intro W A0 A1 c0 c1 code more hu32 mixed xs KN days tub b E need u8 n6 P HPa HPb HPd HPe iP lP HSH HTE HU8 HN6 HNE zz0A w1 w2 w3 Ad cd w4 w5 w6 w7 w8 zz1A zz2A w9 Ah ch g12 w10 GB12 w11 w12 Al cl w13 Am cm g14 w14 GB14 NB12_B14 w15 w16 x1_ y1_ w17 zz0B ST17 zz1B zz2B u19 u20 u21 u22 u23 u24 u25 u26 u27 u28 u29 u30 u31 u32 u33 u34 u35 u36 u37 u38 u39 u40 u41 u42 u43 u44 u45 u46 u47 u48 u49 u50 u51 u52 u53 u54 u55 u56 u57 u58 u59 u60 u61 u62 u63 u64 u65 u66 u67 u68 u69 u70 u71 u72 u73 u74 u75 u76 u77 u78 u79 u80 u81 u82 u83 u84 u85 u86 u87 u88 u89 u90 u91 u92 u93 u94 u95 u96 u97 u98 u99 u100 u101 u102 u103 u104 u105 u106 u107 u108 u109 u110 u111 u112 u113 u114 u115 u116 u117 u118 u119 u120 u121 u122 u123 u124 u125 u126 u127 u128 u129 u130 u131 u132 u133 u134 u135 u136 u137 u138 u139 u140 u141 u142 u143 u144 u145 u146 u147 u148 u149 u150 u151 u152 u153 u154 u155 u156 u157 u158 u159 u160 u161 u162 u163 u164 u165 u166 u167 u168 u169 u170 u171 u172 u173 u174 u175 y1 lh a1 a2 a3 gv cv zz3B HGV HLH s0 HS0 u1 S M HSM HFU hposz g24 y2 GB24 y3 g25 y4 NPH_K25 GK25 NB24_K25 y5 y6 y7 g27 y8 NPH_K27 GK27 NB24_K27 NK25_K27 y9 y10 g30 y11 NPH_K30 GK30 NB24_K30 NK25_K30 NK27_K30 y12 y13 y14 ST19 zz4B gk wr u4 u208 u209 u210 u211 u212 u213 u214 u215 u216 u217 u218 u219 u220 u221 u222 u223 u224 u225 u226 u227 u228 u229 u230 u231 u232 u233 u234 u235 u236 u237 u238 u239 zz5B zz6B zz7B zz8B hu hgk C T R0 R1 DR NS Y m1 m2 m3 m4 m5 m6 m7 m8 m9 m10 HVS HFH HR0 s2 lA HA1 HA2 Q0 m11 m12 m13 HO1 HO2 zz9B zz10B z1 z2 Aa ca g40 z3 GB40 NB24_B40 NK25_B40 NK27_B40 NK30_B40 z4 z5 Ab cb g42 z6 GB42 NB24_B42 NK25_B42 NK27_B42 NK30_B42 NB40_B42 z7 ST11 zz0C u307 u308 u309 u310 u311 u312 u313 u314 u315 u316 u317 u318 u319 u320 u321 u322 u323 u324 u325 u326 u327 u328 u329 u330 u331 u332 u333 u334 u335 uu U o1 lM mx my mz mc HM1 HM2 HC24 o2 o3 v1 HCD v2 Ao co g45 v3 GB45 NB24_B45 NK25_B45 v4 v5 Ap cp g47 v6 GB47 NB24_B47 NK25_B47 NB45_B47 v7 HB PH B24 K25 MX B45 MY B47 qB240 qB241 qB242 qB243 qB450 qB451 qB452 qB453 qB470 qB471 qB472 qB473 r0_ ST7 zz1C zz2C zz3C zz4C wc u352 u353 u354 u355 u356 u357 u358 u359 u360 u361 u362 u363 u364 u365 u366 u367 u368 u369 u370 u371 u372 u373 u374 u375 u376 u377 u378 u379 u380 u381 u382 u383 u384 u385 hcut
 clear HB PH B24 K25 MX MY B45 B47
 obtain ⟨rfl, HB, PH, B24⟩ := hcut
 have ST0 := Aside0.mk True.intro
 go_wp2_with (first
  | (have s_ := ST0; (with_reducible refine gate_dst (N := 386) rfl ?_); refine Kd.R_lit (Kd.int .i64) _ 2 ?hg (N := 386) ?hd (xs := ([] : List Int)) (inner := []) (ok := fun _ => True) (okp := fun _ => True) ?hr ?hp (fun _ hk => hk) trivial (Below.refl _ _) (Nat.le_refl _) (by simp) ?_; (case hd => rfl); (case hg => rfl); (case hr => first | (go_simp; done) | (go_simp; rfl)); (case hp => exact (Reps.none _ _)); intro v49_ x1 ho_ hb hg_ hnew_; clear hg_ hnew_; have HV := Aside0.mk (Kd.R_lower ho_ HB.out.size); replace HB := Aside0.mk (below_step HB.out hb); replace PH := Aside0.mk (PH.out.move (hb.block _ PH.out.lt)); replace B24 := Aside0.mk (blk_below B24.out hb); clear ho_ hb; clear ST0 s_; have ST1 := Aside0.mk True.intro))
 go_loopg [49, 50] lh.length (fun gk v49 v50 wr => ∃ (i : Nat) (TT : List Int), i ≤ lh.length ∧ lh.length - i ≤ gk ∧ v50 = .int .i64 i ∧ Aside0 (TT.length = i) ∧ Aside0 (∀ x ∈ TT, x = n6) ∧ Aside0 (Kd.R (Kd.int .i64) 2 wr W.heap.size (fun _ => True) v49 TT) ∧ Aside0 (Below W.heap.size W wr) ∧ Aside0 (RowSt wr gv cv lh) ∧ Aside0 (wr.heap[g24]? = some (.cells #[.slice (some ⟨gv, 0, none⟩) lh.length cv, .int .i16 a1, .int .i8 a2, .int .i16 a3] 32 (0, 0))))
 case atStart => exact ⟨0, [], by omega, by omega, rfl, ⟨rfl⟩, ⟨fun x h => by cases h⟩, HV, HB, PH, B24⟩
 case round =>
  clear HV HB PH B24
  obtain ⟨i, TT, hi, hgk, rfl, HTI, HTN, HV, HB, PH, B24⟩ := hrel
  obtain ⟨Av, cv2, ev⟩ := Kd.R_slice HV.out
  subst ev
  have q240 : wr.cell? ⟨g24, 0, none⟩ = some (.slice (some ⟨gv, 0, none⟩) lh.length cv) := (blk_cell B24.out 0).trans rfl
  by_cases hlt : i < lh.length
  · have hltz : (i : Int) < (lh.length : Int) := by omega
    have HTL := Aside0.mk (show TT.length ≤ 60 by have := HTI.out; have := HLH.out.three; omega)
    have HLT := Aside0.mk hlt
    clear hlt
    have ST0 := Aside0.mk True.intro
    go_wp2_with (first
     | (have s_ := ST0; go_at_call 21; (with_reducible refine (HPe.out _ HB.out).mono ?_); rintro e wa ⟨rfl, hb⟩; replace HB := Aside0.mk (below_step HB.out hb); replace PH := Aside0.mk (PH.out.move (hb.block _ PH.out.lt)); replace B24 := Aside0.mk (blk_below B24.out hb); replace HV := Aside0.mk (Kd.R_below HV.out hb); clear hb; clear q240; have qB240 : wa.cell? ⟨g24, 0, none⟩ = some (.slice (some ⟨gv, 0, none⟩) lh.length cv) := (blk_cell B24.out 0).trans rfl; have qB241 : wa.cell? ⟨g24, 1, none⟩ = some (.int .i16 a1) := (blk_cell B24.out 1).trans rfl; have qB242 : wa.cell? ⟨g24, 2, none⟩ = some (.int .i8 a2) := (blk_cell B24.out 2).trans rfl; have qB243 : wa.cell? ⟨g24, 3, none⟩ = some (.int .i16 a3) := (blk_cell B24.out 3).trans rfl; clear ST0 s_; have ST1 := Aside0.mk True.intro)
     | ((with_reducible refine gate_builtin (b := .append) (xs := #[.tmp 394, .tmp 397]) rfl ?_); at_builtin; refine Kd.R_append (Kd.int .i64) (w0 := W) W.heap.size rfl (.tmp 394) (.tmp 397) 49 2 (.int .i64 0) 8 rfl Try.underlying49 info2 rfl (by decide) (by omega) (.slice Av TT.length cv2) TT n6 [.int .i64 n6] (fun _ => True) (fun _ => False) rfl rfl ?aP (fun _ hk => hk.elim) ?aF ?aO ?aB ?aS ?aL ?_; (case aP => exact rfl); (case aB => exact HB.out); (case aF => exact (fun _ _ => trivial)); (case aO => exact HV.out); (case aS => exact HB.out.size); (case aL => have := HTL.out; omega); intro v9 wb ho hb hg hat; have HV2 := Aside0.mk ho; have n_PH := Aside0.mk (PH.out.move (hg.block _ PH.out.lt (Kd.R_ne HV.out PH.out.blk.choose_spec.1 (by decide)))); have n_B24 := Aside0.mk (blk_grown B24.out hg (Kd.R_ne HV.out B24.out (by decide))); clear HB HV ho hg hat PH B24; have HB := Aside0.mk hb; have PH := n_PH; have B24 := n_B24; clear hb n_PH n_B24))
    have hlt_ := HLT.out
    have hl3_ := HLH.out.three
    obtain ⟨TS, hTS⟩ : ∃ q, TT ++ [n6] = q := ⟨_, rfl⟩
    rw [hTS] at HV2
    go_roundg (lh.length - (i + 1))
    case measure => omega
    case rel => exact ⟨i + 1, TS, by omega, by omega, by have hw_ : wrap64 ((i : Int) + 1) = ((i + 1 : Nat) : Int) := (w64i (by omega) (by omega)).trans (by omega); first | rfl | rw [hw_] | (simp only [i64_w, hw_]) | go_num, ⟨by rw [← hTS, List.length_append, List.length_singleton, HTI.out]⟩, ⟨fun x hx => by rw [← hTS] at hx; rcases List.mem_append.mp hx with hx | hx; exact HTN.out x hx; exact List.mem_singleton.mp hx⟩, HV2, HB, PH, B24⟩
  · have hltz : ¬ (i : Int) < (lh.length : Int) := by omega
    obtain rfl : i = lh.length := by omega
    have hnl : NeedL TT := fun x hx => by have := HTN.out x hx; have := HN6.out; omega
    have htl := HTI.out
    have hF := HFH.out
    have hst := stD_fit (a2 := a2) hF.tub hF.st hnl htl
    obtain ⟨N, hN, hN0, hN60, hNb, hNt⟩ := lastF_at a1 a2 TT lh 60 0
    have hN' : lastF a1 a2 TT 60 lh 0 = (N : Int) := hN
    have HLF := Aside0.mk (fun (w' : World) (A : Option Addr) (c : Nat) (h : RowSt w' gv cv lh) (hr : Kd.C (Kd.int .i64) w' A TT.length TT) (hc : TT.length ≤ c) => (hN' ▸ lastsFor_calls w' (some ⟨gv, 0, none⟩) A cv c lh a1 a2 a3 TT (C_of_row h) (row_len h) (row_rowAt h) hF hr hc hnl htl : Calls Try.prog 38 #[.agg #[.slice (some ⟨gv, 0, none⟩) lh.length cv, .int .i16 a1, .int .i8 a2, .int .i16 a3], .slice A TT.length c] w' fun e w'' => e = .returned (.tuple #[.int .i64 N, .int .i64 0]) ∧ Below w'.heap.size w' w''))
    have HLS := Aside0.mk (fun (w' : World) (A : Option Addr) (c : Nat) (h : RowSt w' gv cv lh) (hr : Kd.C (Kd.int .i64) w' A TT.length TT) (hc : TT.length ≤ c) => (hN' ▸ specLastsFor_calls w' (some ⟨gv, 0, none⟩) A cv c lh a1 a2 a3 TT (C_of_row h) (row_len h) (row_rowAt h) hF hr hc hnl htl : Calls Try.prog 39 #[.agg #[.slice (some ⟨gv, 0, none⟩) lh.length cv, .int .i16 a1, .int .i8 a2, .int .i16 a3], .slice A TT.length c] w' fun e w'' => e = .returned (.tuple #[.int .i64 N, .int .i64 0]) ∧ Below w'.heap.size w' w''))
    have HDC := Aside0.mk (fun (k : Nat) (hk : k < 60) => show FitH (stD a1 a2 TT lh k) a1 a2 (k : Int) ∧ dayC (stD a1 a2 TT lh k) (k : Int) TT = 0 ∧ ((∀ x ∈ (dayOf (stD a1 a2 TT lh k) a1 a2 (k : Int) TT).2, 0 ≤ x ∧ x ≤ 500) ∧ (dayOf (stD a1 a2 TT lh k) a1 a2 (k : Int) TT).2.length = lh.length) by
     obtain ⟨h1, h2⟩ := hst k
     have hl := htl.trans h2.symm
     have hp := dayOf_pos (a1 := a1) (a2 := a2) (a3 := (k : Int)) h1 hnl hl
     refine ⟨⟨h1, by rw [h2]; exact hF.pos, by rw [h2]; exact hF.four, hF.tub, hF.every, by omega⟩, ?_, hp.1, hp.2.trans h2⟩
     unfold dayC
     rw [needOk_of hnl hl, decide_eq_true (show (k : Int) < 60 by omega)]
     rfl)
    have HNN := Aside0.mk (show N ≤ 60 ∧ ∀ k, k ≤ N → k < 60 → shortD a1 a2 TT lh k = decide (k = N) from ⟨by omega, fun k h1 h2 => by
     by_cases c : k = N
     · rw [decide_eq_true c, c]
       exact hNt (by omega)
     · rw [decide_eq_false c]
       exact hNb k (by omega) (by omega)⟩)
    have s1 : ((N : Int) != (N : Int)) = false := by simp
    have s2_ : decide ((N : Int) < 0) = false := decide_eq_false (by omega)
    have s3 : decide ((N : Int) > 60) = false := decide_eq_false (by omega)
    have s4 : decide ((60 : Int) < (N : Int)) = false := decide_eq_false (by omega)
    have s5 : decide (60 < N) = false := decide_eq_false (by omega)
    have s6 : ¬ 60 < N := by omega
    have q240 : wr.cell? ⟨g24, 0, none⟩ = some (.slice (some ⟨gv, 0, none⟩) lh.length cv) := (blk_cell B24.out 0).trans rfl
    have q241 : wr.cell? ⟨g24, 1, none⟩ = some (.int .i16 a1) := (blk_cell B24.out 1).trans rfl
    have q242 : wr.cell? ⟨g24, 2, none⟩ = some (.int .i8 a2) := (blk_cell B24.out 2).trans rfl
    have q243 : wr.cell? ⟨g24, 3, none⟩ = some (.int .i16 a3) := (blk_cell B24.out 3).trans rfl
    clear hnl htl hF hst hN hN' hN0 hN60 hNb hNt hi hgk
    clear q240
    have ST0 := Aside0.mk True.intro
    go_wp2_with (first
     | (have s_ := ST0; go_at_call 38; (with_reducible refine (HLF.out _ Av cv2 PH.out (Kd.R_reads' HV.out).2.2 (Kd.R_reads' HV.out).2.1).mono ?_); rintro e xa ⟨rfl, hb⟩; replace HB := Aside0.mk (below_step HB.out hb); replace PH := Aside0.mk (PH.out.move (hb.block _ PH.out.lt)); replace B24 := Aside0.mk (blk_below B24.out hb); replace HV := Aside0.mk (Kd.R_below HV.out hb); clear hb; clear q240 q241 q242 q243; have qB240 : xa.cell? ⟨g24, 0, none⟩ = some (.slice (some ⟨gv, 0, none⟩) lh.length cv) := (blk_cell B24.out 0).trans rfl; have qB241 : xa.cell? ⟨g24, 1, none⟩ = some (.int .i16 a1) := (blk_cell B24.out 1).trans rfl; have qB242 : xa.cell? ⟨g24, 2, none⟩ = some (.int .i8 a2) := (blk_cell B24.out 2).trans rfl; have qB243 : xa.cell? ⟨g24, 3, none⟩ = some (.int .i16 a3) := (blk_cell B24.out 3).trans rfl; clear ST0 s_; have ST1 := Aside0.mk True.intro)
     | (have s_ := ST1; go_at_call 39; (with_reducible refine (HLS.out _ Av cv2 PH.out (Kd.R_reads' HV.out).2.2 (Kd.R_reads' HV.out).2.1).mono ?_); rintro e xb ⟨rfl, hb⟩; replace HB := Aside0.mk (below_step HB.out hb); replace PH := Aside0.mk (PH.out.move (hb.block _ PH.out.lt)); replace B24 := Aside0.mk (blk_below B24.out hb); replace HV := Aside0.mk (Kd.R_below HV.out hb); clear hb; clear qB240 qB241 qB242 qB243; have qB240 : xb.cell? ⟨g24, 0, none⟩ = some (.slice (some ⟨gv, 0, none⟩) lh.length cv) := (blk_cell B24.out 0).trans rfl; have qB241 : xb.cell? ⟨g24, 1, none⟩ = some (.int .i16 a1) := (blk_cell B24.out 1).trans rfl; have qB242 : xb.cell? ⟨g24, 2, none⟩ = some (.int .i8 a2) := (blk_cell B24.out 2).trans rfl; have qB243 : xb.cell? ⟨g24, 3, none⟩ = some (.int .i16 a3) := (blk_cell B24.out 3).trans rfl; clear ST1 s_; have ST2 := Aside0.mk True.intro)
     | (have s_ := ST2; (with_reducible refine gate_dst (N := 55) rfl ?_); refine box_event ?hg (N := 55) ?hd (cs := #[.slice none 0 0, .int .i16 0, .int .i8 0, .int .i16 0]) (t := 32) ?hr ?_; (case hd => rfl); (case hg => rfl); (case hr => first | (go_simp; done) | (go_simp; rfl)); intro g55 hg_ xc hbox hb; have GB55 := Aside0.mk (by rw [hg_]; exact HB.out.size : W.heap.size ≤ g55); have NB24_B55 := Aside0.mk (by rw [hg_]; exact Nat.ne_of_lt (blk_lt B24.out) : g24 ≠ g55); replace HB := Aside0.mk (below_step HB.out hb); replace PH := Aside0.mk (PH.out.move (hb.block _ PH.out.lt)); replace B24 := Aside0.mk (blk_below B24.out hb); replace HV := Aside0.mk (Kd.R_below HV.out hb); have B55 := Aside0.mk hbox; clear hb hbox hg_; clear qB240 qB241 qB242 qB243; have qB240 : xc.cell? ⟨g24, 0, none⟩ = some (.slice (some ⟨gv, 0, none⟩) lh.length cv) := (blk_cell B24.out 0).trans rfl; have qB241 : xc.cell? ⟨g24, 1, none⟩ = some (.int .i16 a1) := (blk_cell B24.out 1).trans rfl; have qB242 : xc.cell? ⟨g24, 2, none⟩ = some (.int .i8 a2) := (blk_cell B24.out 2).trans rfl; have qB243 : xc.cell? ⟨g24, 3, none⟩ = some (.int .i16 a3) := (blk_cell B24.out 3).trans rfl; have qB550 : xc.cell? ⟨g55, 0, none⟩ = some (.slice none 0 0) := (blk_cell B55.out 0).trans rfl; have qB551 : xc.cell? ⟨g55, 1, none⟩ = some (.int .i16 0) := (blk_cell B55.out 1).trans rfl; have qB552 : xc.cell? ⟨g55, 2, none⟩ = some (.int .i8 0) := (blk_cell B55.out 2).trans rfl; have qB553 : xc.cell? ⟨g55, 3, none⟩ = some (.int .i16 0) := (blk_cell B55.out 3).trans rfl; have fB550 : xc.frozen? ⟨g55, 0, none⟩ = false := blk_frozen B55.out 0; have fB551 : xc.frozen? ⟨g55, 1, none⟩ = false := blk_frozen B55.out 1; have fB552 : xc.frozen? ⟨g55, 2, none⟩ = false := blk_frozen B55.out 2; have fB553 : xc.frozen? ⟨g55, 3, none⟩ = false := blk_frozen B55.out 3; clear ST2 s_; have ST3 := Aside0.mk True.intro)
     | (have s_ := ST3; (with_reducible refine gate_store (t := 32) (p := 55) rfl ?_); refine store_event (t := 32) (p := 55) (v := ?vo_xd) (w1 := ((((xc.setCell ⟨g55, 0, none⟩ (.slice (some ⟨gv, 0, none⟩) lh.length cv)).setCell ⟨g55, 1, none⟩ (.int .i16 a1)).setCell ⟨g55, 2, none⟩ (.int .i8 a2)).setCell ⟨g55, 3, none⟩ (.int .i16 a3))) ?hg ?ho ?hn ?hr ?_; (case ho => rfl); (case hg => rfl); (case hn => rfl); (case hr => first | (go_simp; done) | (go_simp; rfl)); intro xd hw; have hg : xc.grownBy xd (some g55) := (by rw [hw]; exact put4_grown True.intro True.intro); have hnew : xd.heap[g55]? = some (.cells #[.slice (some ⟨gv, 0, none⟩) lh.length cv, .int .i16 a1, .int .i8 a2, .int .i16 a3] 32 (0, 0)) := (by rw [hw]; exact put4_blk B55.out); clear hw; replace HB := Aside0.mk (below_grown HB.out hg (fun k_ e_ => by injection e_ with e_; subst e_; exact GB55.out)); replace PH := Aside0.mk (PH.out.move (hg.block _ PH.out.lt (fun e_ => blk_ne PH.out.blk.choose_spec.1 B55.out (by decide) (by injection e_)))); replace B24 := Aside0.mk (blk_grown B24.out hg (fun e_ => by injection e_ with e_; exact NB24_B55.out e_)); replace HV := Aside0.mk (Kd.R_grown1 HV.out rfl hg (Kd.R_ne HV.out B55.out (by decide))); replace B55 := Aside0.mk (hnew); clear hg hnew; clear qB240 qB241 qB242 qB243 qB550 qB551 qB552 qB553 fB550 fB551 fB552 fB553; have qB240 : xd.cell? ⟨g24, 0, none⟩ = some (.slice (some ⟨gv, 0, none⟩) lh.length cv) := (blk_cell B24.out 0).trans rfl; have qB241 : xd.cell? ⟨g24, 1, none⟩ = some (.int .i16 a1) := (blk_cell B24.out 1).trans rfl; have qB242 : xd.cell? ⟨g24, 2, none⟩ = some (.int .i8 a2) := (blk_cell B24.out 2).trans rfl; have qB243 : xd.cell? ⟨g24, 3, none⟩ = some (.int .i16 a3) := (blk_cell B24.out 3).trans rfl; have qB550 : xd.cell? ⟨g55, 0, none⟩ = some (.slice (some ⟨gv, 0, none⟩) lh.length cv) := (blk_cell B55.out 0).trans rfl; have qB551 : xd.cell? ⟨g55, 1, none⟩ = some (.int .i16 a1) := (blk_cell B55.out 1).trans rfl; have qB552 : xd.cell? ⟨g55, 2, none⟩ = some (.int .i8 a2) := (blk_cell B55.out 2).trans rfl; have qB553 : xd.cell? ⟨g55, 3, none⟩ = some (.int .i16 a3) := (blk_cell B55.out 3).trans rfl; have f3_ : xd.frozen? ⟨g55, 3, none⟩ = false := blk_frozen B55.out 3; clear ST3 s_; have ST4 := Aside0.mk True.intro))
    clear qB240 qB241 qB242 qB243 qB550 qB551 qB552 qB553 f3_ s1 s2_ s3 s4 s5 s6 HLF HLS
    have hg := set1_grown xd g55 3 (.int .i16 0)
    have n_HB := Aside0.mk (below_grown HB.out hg (fun k_ e_ => by injection e_ with e_; subst e_; exact GB55.out))
    have n_PH := Aside0.mk (PH.out.move (hg.block _ PH.out.lt (fun e_ => by injection e_ with e_; exact blk_ne PH.out.blk.choose_spec.1 B55.out (by decide) e_)))
    have n_HV := Aside0.mk (Kd.R_grown1 HV.out rfl hg (Kd.R_ne HV.out B55.out (by decide)))
    have n_B55 := Aside0.mk (blk_put B55.out 3 (.int .i16 0) rfl)
    clear hg HB PH HV B55 B24
    generalize xd.setCell ⟨g55, 3, none⟩ (.int .i16 0) = xe at n_HB n_PH n_HV n_B55 ⊢
    have HB := n_HB
    have PH := n_PH
    have HV := n_HV
    have B55 := n_B55
    clear n_HB n_PH n_HV n_B55
    have BE := Aside0.mk (Below.refl xe.heap.size xe)
    have HWE := Aside0.mk HB.out.size
    go_loopg [56] 61 (fun gk v56 wr => ∃ (k : Nat) (A : Option Addr) (c : Nat) (lk : List S55), k ≤ 60 ∧ k ≤ N + 1 ∧ 61 - k ≤ gk ∧ v56 = .int .i64 k ∧ Aside0 (stD a1 a2 TT lh k = lk) ∧ Aside0 (wr.heap[g55]? = some (.cells #[.slice A lk.length c, .int .i16 a1, .int .i8 a2, .int .i16 k] 32 (0, 0))) ∧ Aside0 (Kd.R k55 55 wr W.heap.size (fun _ => True) (.slice A lk.length c) lk) ∧ Aside0 (Kd.R (Kd.int .i64) 2 wr W.heap.size (fun _ => True) (.slice Av TT.length cv2) TT) ∧ Aside0 (Below W.heap.size W wr))
    case atStart => exact ⟨0, some ⟨gv, 0, none⟩, cv, lh, by omega, by omega, by omega, rfl, ⟨rfl⟩, B55, ⟨R_of_row PH.out HGV.out trivial⟩, HV, HB⟩
    case round =>
     clear HV HB PH B55 BE
     obtain ⟨k, A, c, lk, hk60, hkN, hgk, rfl, HLK, B55, HR, HV, HB⟩ := hrel
     by_cases hcont : k ≤ N ∧ k < 60
     · obtain ⟨hc1, hc2⟩ := hcont
       have e1 : decide ((k : Int) ≤ (N : Int)) = true := decide_eq_true (by omega)
       have e2 : decide ((k : Int) < 60) = true := decide_eq_true (by omega)
       have e1n : k ≤ N := hc1
       have e2n : k < 60 := hc2
       have e1m : decide (k ≤ N) = true := decide_eq_true hc1
       have e2m : decide (k < 60) = true := decide_eq_true hc2
       obtain ⟨hFk, hdk, hpk, hlk⟩ := HDC.out k hc2
       have hsh := HNN.out.2 k hc1 hc2
       obtain ⟨Bk, hBk⟩ : ∃ b, decide (k = N) = b := ⟨_, rfl⟩
       rw [hBk] at hsh
       have hnx : (dayOf lk a1 a2 (k : Int) TT).1 = stD a1 a2 TT lh (k + 1) := by rw [← HLK.out]; rfl
       unfold shortD at hsh
       rw [HLK.out] at hFk hdk hpk hlk hsh
       obtain ⟨l2, hl2⟩ : ∃ q, (dayOf lk a1 a2 (k : Int) TT).1 = q := ⟨_, rfl⟩
       obtain ⟨t2, ht2⟩ : ∃ q, (dayOf lk a1 a2 (k : Int) TT).2 = q := ⟨_, rfl⟩
       have HDO := Aside0.mk (fun (w' : World) (h : Kd.R k55 55 w' W.heap.size (fun _ => True) (.slice A lk.length c) lk) (hr : Kd.C (Kd.int .i64) w' Av TT.length TT) (hc : TT.length ≤ cv2) => show Calls Try.prog 40 #[.agg #[.slice A lk.length c, .int .i16 a1, .int .i8 a2, .int .i16 k], .slice Av TT.length cv2] w' (fun e w'' => ∃ v0 v1 : Value, e = .returned (.tuple #[.agg #[v0, .int .i16 a1, .int .i8 a2, .int .i16 ((k : Int) + 1)], v1, .int .i64 0]) ∧ Kd.R k55 55 w'' w'.heap.size (fun _ => True) v0 l2 ∧ Kd.R (Kd.int .i64) 2 w'' w'.heap.size (fun _ => True) v1 t2 ∧ Below w'.heap.size w' w'') by
        have h2 := dayOnce_calls w' A Av c cv2 lk a1 a2 (k : Int) TT (Kd.R_reads' h).2.2 (rowAt_of_R h) hFk hr hc hdk
        rw [hl2, ht2] at h2
        exact h2)
       rw [ht2] at hpk hlk hsh
       obtain ⟨Q, hQ⟩ : ∃ x, sumL t2 = x := ⟨_, rfl⟩
       obtain ⟨KQ, hKQ⟩ := Ev.get (sumOf_ev hpk (by have := HLH.out.three; omega))
       rw [hQ] at hKQ
       have HSO := Aside0.mk (fun (w' : World) (A' : Option Addr) (c' : Nat) (hr : Kd.C (Kd.int .i64) w' A' t2.length t2) (hc : t2.length ≤ c') => spec_SumOf.calls KQ A' c' t2 Q w' hr hc hKQ)
       have hQz := sumL_zero hpk
       have hQn := sumL_nonneg t2 (fun x hx => (hpk x hx).1)
       rw [hsh, hQ] at hQz
       rw [hQ] at hQn
       have f1 : decide (Q > 0) = Bk := by
        cases Bk with
        | true =>
         have h0 : ¬ Q = 0 := fun e => Bool.noConfusion (hQz.mp e)
         exact decide_eq_true (by omega)
        | false => exact decide_eq_false (by have := hQz.mpr rfl; omega)
       have f2 : decide (0 < Q) = Bk := f1
       have f3 : ((k : Int) == (N : Int)) = Bk := by rw [← hBk, Bool.eq_iff_iff, beq_iff_eq, decide_eq_true_iff]; omega
       have f4 : decide ((k : Int) = (N : Int)) = Bk := by rw [← hBk, Bool.eq_iff_iff, decide_eq_true_iff, decide_eq_true_iff]; omega
       have f5 : (k == N) = Bk := by rw [← hBk, Bool.eq_iff_iff, beq_iff_eq, decide_eq_true_iff]
       have f6 : (Bk != Bk) = false := by cases Bk <;> rfl
       have f7 : decide (k = N) = Bk := hBk
       have HNX := Aside0.mk (show stD a1 a2 TT lh (k + 1) = l2 by rw [← hnx, hl2])
       have HKN := Aside0.mk (show k ≤ N ∧ k < 60 ∧ 61 - k ≤ gk from ⟨hc1, hc2, hgk⟩)
       have e3 : wrap64 ((k : Int) + 1) = ((k + 1 : Nat) : Int) := (w64i (by omega) (by omega)).trans (by omega)
       have HE3 := Aside0.mk e3
       have n3_ := Aside0.mk (show (((k + 1 : Nat) : Int)) = (k : Int) + 1 by omega)
       have q550 : wr.cell? ⟨g55, 0, none⟩ = some (.slice A lk.length c) := (blk_cell B55.out 0).trans rfl
       have q551 : wr.cell? ⟨g55, 1, none⟩ = some (.int .i16 a1) := (blk_cell B55.out 1).trans rfl
       have q552 : wr.cell? ⟨g55, 2, none⟩ = some (.int .i8 a2) := (blk_cell B55.out 2).trans rfl
       have q553 : wr.cell? ⟨g55, 3, none⟩ = some (.int .i16 (k : Int)) := (blk_cell B55.out 3).trans rfl
       clear e3 hFk hdk hpk hlk hsh hBk hnx hl2 ht2 hQ hKQ hQz hQn hc1 hc2 hk60 hkN hgk
       have ST0 := Aside0.mk True.intro
       go_wp2_with (first
        | (have s_ := ST0; go_at_call 40; (with_reducible refine (HDO.out _ HR.out (Kd.R_reads' HV.out).2.2 (Kd.R_reads' HV.out).2.1).mono ?_); rintro e ua ⟨v0_, v1_, rfl, hR, hS, hb⟩; have HSZ := Aside0.mk HB.out.size; replace HB := Aside0.mk (below_step HB.out hb); replace B55 := Aside0.mk (blk_below B55.out hb); replace HV := Aside0.mk (Kd.R_below HV.out hb); clear HR; have HY := Aside0.mk (Kd.R_lower hR HSZ.out); have HZ := Aside0.mk (Kd.R_lower hS HSZ.out); clear hb hR hS HSZ; obtain ⟨Ay, cy, e_⟩ := Kd.R_slice HY.out; subst e_; obtain ⟨Az, cz, e_⟩ := Kd.R_slice HZ.out; subst e_; clear q550 q551 q552 q553; have qB550 : ua.cell? ⟨g55, 0, none⟩ = some (.slice A lk.length c) := (blk_cell B55.out 0).trans rfl; have qB551 : ua.cell? ⟨g55, 1, none⟩ = some (.int .i16 a1) := (blk_cell B55.out 1).trans rfl; have qB552 : ua.cell? ⟨g55, 2, none⟩ = some (.int .i8 a2) := (blk_cell B55.out 2).trans rfl; have qB553 : ua.cell? ⟨g55, 3, none⟩ = some (.int .i16 (k : Int)) := (blk_cell B55.out 3).trans rfl; clear ST0 s_; have ST1 := Aside0.mk True.intro)
        | (have s_ := ST1; (with_reducible refine gate_dst (N := 57) rfl ?_); refine box_event ?hg (N := 57) ?hd (cs := #[.slice none 0 0, .int .i16 0, .int .i8 0, .int .i16 0]) (t := 32) ?hr ?_; (case hd => rfl); (case hg => rfl); (case hr => first | (go_simp; done) | (go_simp; rfl)); intro g57 hg_ ub hbox hb; have GB57 := Aside0.mk (by rw [hg_]; exact HB.out.size : W.heap.size ≤ g57); have NB55_B57 := Aside0.mk (by rw [hg_]; exact Nat.ne_of_lt (blk_lt B55.out) : g55 ≠ g57); replace HB := Aside0.mk (below_step HB.out hb); replace B55 := Aside0.mk (blk_below B55.out hb); replace HV := Aside0.mk (Kd.R_below HV.out hb); replace HY := Aside0.mk (Kd.R_below HY.out hb); replace HZ := Aside0.mk (Kd.R_below HZ.out hb); have B57 := Aside0.mk hbox; clear hb hbox hg_; clear qB550 qB551 qB552 qB553; have qB550 : ub.cell? ⟨g55, 0, none⟩ = some (.slice A lk.length c) := (blk_cell B55.out 0).trans rfl; have qB551 : ub.cell? ⟨g55, 1, none⟩ = some (.int .i16 a1) := (blk_cell B55.out 1).trans rfl; have qB552 : ub.cell? ⟨g55, 2, none⟩ = some (.int .i8 a2) := (blk_cell B55.out 2).trans rfl; have qB553 : ub.cell? ⟨g55, 3, none⟩ = some (.int .i16 (k : Int)) := (blk_cell B55.out 3).trans rfl; have qB570 : ub.cell? ⟨g57, 0, none⟩ = some (.slice none 0 0) := (blk_cell B57.out 0).trans rfl; have qB571 : ub.cell? ⟨g57, 1, none⟩ = some (.int .i16 0) := (blk_cell B57.out 1).trans rfl; have qB572 : ub.cell? ⟨g57, 2, none⟩ = some (.int .i8 0) := (blk_cell B57.out 2).trans rfl; have qB573 : ub.cell? ⟨g57, 3, none⟩ = some (.int .i16 0) := (blk_cell B57.out 3).trans rfl; have fB570 : ub.frozen? ⟨g57, 0, none⟩ = false := blk_frozen B57.out 0; have fB571 : ub.frozen? ⟨g57, 1, none⟩ = false := blk_frozen B57.out 1; have fB572 : ub.frozen? ⟨g57, 2, none⟩ = false := blk_frozen B57.out 2; have fB573 : ub.frozen? ⟨g57, 3, none⟩ = false := blk_frozen B57.out 3; clear ST1 s_; have ST2 := Aside0.mk True.intro)
        | (have s_ := ST2; (with_reducible refine gate_store (t := 32) (p := 57) rfl ?_); refine store_event (t := 32) (p := 57) (v := ?vo_uc) (w1 := ((((ub.setCell ⟨g57, 0, none⟩ (.slice Ay l2.length cy)).setCell ⟨g57, 1, none⟩ (.int .i16 a1)).setCell ⟨g57, 2, none⟩ (.int .i8 a2)).setCell ⟨g57, 3, none⟩ (.int .i16 ((k : Int) + 1)))) ?hg ?ho ?hn ?hr ?_; (case ho => rfl); (case hg => rfl); (case hn => rfl); (case hr => first | (go_simp; done) | (go_simp; rfl)); intro uc hw; have hg : ub.grownBy uc (some g57) := (by rw [hw]; exact put4_grown True.intro True.intro); have hnew : uc.heap[g57]? = some (.cells #[.slice Ay l2.length cy, .int .i16 a1, .int .i8 a2, .int .i16 ((k : Int) + 1)] 32 (0, 0)) := (by rw [hw]; exact put4_blk B57.out); clear hw; replace HB := Aside0.mk (below_grown HB.out hg (fun k_ e_ => by injection e_ with e_; subst e_; exact GB57.out)); replace B55 := Aside0.mk (blk_grown B55.out hg (fun e_ => by injection e_ with e_; exact NB55_B57.out e_)); replace HV := Aside0.mk (Kd.R_grown1 HV.out rfl hg (Kd.R_ne HV.out B57.out (by decide))); replace HY := Aside0.mk (Kd.R_grown1 HY.out rfl hg (Kd.R_ne HY.out B57.out (by decide))); replace HZ := Aside0.mk (Kd.R_grown1 HZ.out rfl hg (Kd.R_ne HZ.out B57.out (by decide))); replace B57 := Aside0.mk (hnew); clear hg hnew; clear qB550 qB551 qB552 qB553 qB570 qB571 qB572 qB573 fB570 fB571 fB572 fB573; have qB550 : uc.cell? ⟨g55, 0, none⟩ = some (.slice A lk.length c) := (blk_cell B55.out 0).trans rfl; have qB551 : uc.cell? ⟨g55, 1, none⟩ = some (.int .i16 a1) := (blk_cell B55.out 1).trans rfl; have qB552 : uc.cell? ⟨g55, 2, none⟩ = some (.int .i8 a2) := (blk_cell B55.out 2).trans rfl; have qB553 : uc.cell? ⟨g55, 3, none⟩ = some (.int .i16 (k : Int)) := (blk_cell B55.out 3).trans rfl; have qB570 : uc.cell? ⟨g57, 0, none⟩ = some (.slice Ay l2.length cy) := (blk_cell B57.out 0).trans rfl; have qB571 : uc.cell? ⟨g57, 1, none⟩ = some (.int .i16 a1) := (blk_cell B57.out 1).trans rfl; have qB572 : uc.cell? ⟨g57, 2, none⟩ = some (.int .i8 a2) := (blk_cell B57.out 2).trans rfl; have qB573 : uc.cell? ⟨g57, 3, none⟩ = some (.int .i16 ((k : Int) + 1)) := (blk_cell B57.out 3).trans rfl; clear ST2 s_; have ST3 := Aside0.mk True.intro)
        | (have s_ := ST3; go_at_call 41; (with_reducible refine (HSO.out _ Az cz (Kd.R_reads' HZ.out).2.2 (Kd.R_reads' HZ.out).2.1).mono ?_); rintro e ud ⟨rfl, hd⟩; have hb := hd.below; replace HB := Aside0.mk (below_step HB.out hb); replace B55 := Aside0.mk (blk_below B55.out hb); replace HV := Aside0.mk (Kd.R_below HV.out hb); replace HY := Aside0.mk (Kd.R_below HY.out hb); replace HZ := Aside0.mk (Kd.R_below HZ.out hb); replace B57 := Aside0.mk (blk_below B57.out hb); clear hb hd; clear qB550 qB551 qB552 qB553 qB570 qB571 qB572 qB573; have qB550 : ud.cell? ⟨g55, 0, none⟩ = some (.slice A lk.length c) := (blk_cell B55.out 0).trans rfl; have qB551 : ud.cell? ⟨g55, 1, none⟩ = some (.int .i16 a1) := (blk_cell B55.out 1).trans rfl; have qB552 : ud.cell? ⟨g55, 2, none⟩ = some (.int .i8 a2) := (blk_cell B55.out 2).trans rfl; have qB553 : ud.cell? ⟨g55, 3, none⟩ = some (.int .i16 (k : Int)) := (blk_cell B55.out 3).trans rfl; have fB550 : ud.frozen? ⟨g55, 0, none⟩ = false := blk_frozen B55.out 0; have fB551 : ud.frozen? ⟨g55, 1, none⟩ = false := blk_frozen B55.out 1; have fB552 : ud.frozen? ⟨g55, 2, none⟩ = false := blk_frozen B55.out 2; have fB553 : ud.frozen? ⟨g55, 3, none⟩ = false := blk_frozen B55.out 3; have qB570 : ud.cell? ⟨g57, 0, none⟩ = some (.slice Ay l2.length cy) := (blk_cell B57.out 0).trans rfl; have qB571 : ud.cell? ⟨g57, 1, none⟩ = some (.int .i16 a1) := (blk_cell B57.out 1).trans rfl; have qB572 : ud.cell? ⟨g57, 2, none⟩ = some (.int .i8 a2) := (blk_cell B57.out 2).trans rfl; have qB573 : ud.cell? ⟨g57, 3, none⟩ = some (.int .i16 ((k : Int) + 1)) := (blk_cell B57.out 3).trans rfl; clear ST3 s_; have ST4 := Aside0.mk True.intro)
        | (have s_ := ST4; (with_reducible refine gate_store (t := 32) (p := 55) rfl ?_); refine store_event (t := 32) (p := 55) (v := ?vo_ue) (w1 := ((((ud.setCell ⟨g55, 0, none⟩ (.slice Ay l2.length cy)).setCell ⟨g55, 1, none⟩ (.int .i16 a1)).setCell ⟨g55, 2, none⟩ (.int .i8 a2)).setCell ⟨g55, 3, none⟩ (.int .i16 ((k : Int) + 1)))) ?hg ?ho ?hn ?hr ?_; (case ho => rfl); (case hg => rfl); (case hn => rfl); (case hr => first | (go_simp; done) | (go_simp; rfl)); intro ue hw; have hg : ud.grownBy ue (some g55) := (by rw [hw]; exact put4_grown True.intro True.intro); have hnew : ue.heap[g55]? = some (.cells #[.slice Ay l2.length cy, .int .i16 a1, .int .i8 a2, .int .i16 ((k : Int) + 1)] 32 (0, 0)) := (by rw [hw]; exact put4_blk B55.out); clear hw; replace HB := Aside0.mk (below_grown HB.out hg (fun k_ e_ => by injection e_ with e_; subst e_; exact GB55.out)); replace HV := Aside0.mk (Kd.R_grown1 HV.out rfl hg (Kd.R_ne HV.out B55.out (by decide))); replace HY := Aside0.mk (Kd.R_grown1 HY.out rfl hg (Kd.R_ne HY.out B55.out (by decide))); replace HZ := Aside0.mk (Kd.R_grown1 HZ.out rfl hg (Kd.R_ne HZ.out B55.out (by decide))); replace B55 := Aside0.mk (hnew); replace B57 := Aside0.mk (blk_grown B57.out hg (fun e_ => by injection e_ with e_; exact (fun e2_ => NB55_B57.out e2_.symm) e_)); clear hg hnew; clear qB550 qB551 qB552 qB553 qB570 qB571 qB572 qB573 fB550 fB551 fB552 fB553; have qB550 : ue.cell? ⟨g55, 0, none⟩ = some (.slice Ay l2.length cy) := (blk_cell B55.out 0).trans rfl; have qB551 : ue.cell? ⟨g55, 1, none⟩ = some (.int .i16 a1) := (blk_cell B55.out 1).trans rfl; have qB552 : ue.cell? ⟨g55, 2, none⟩ = some (.int .i8 a2) := (blk_cell B55.out 2).trans rfl; have qB553 : ue.cell? ⟨g55, 3, none⟩ = some (.int .i16 ((k : Int) + 1)) := (blk_cell B55.out 3).trans rfl; have qB570 : ue.cell? ⟨g57, 0, none⟩ = some (.slice Ay l2.length cy) := (blk_cell B57.out 0).trans rfl; have qB571 : ue.cell? ⟨g57, 1, none⟩ = some (.int .i16 a1) := (blk_cell B57.out 1).trans rfl; have qB572 : ue.cell? ⟨g57, 2, none⟩ = some (.int .i8 a2) := (blk_cell B57.out 2).trans rfl; have qB573 : ue.cell? ⟨g57, 3, none⟩ = some (.int .i16 ((k : Int) + 1)) := (blk_cell B57.out 3).trans rfl; clear ST4 s_; have ST5 := Aside0.mk True.intro))
       clear qB550 qB551 qB552 qB553 qB570 qB571 qB572 qB573
       have hkn_ := HKN.out
       go_roundg (61 - (k + 1))
       case measure => omega
       case rel => exact ⟨k + 1, Ay, cy, l2, by omega, by omega, by omega, by first | rfl | rw [HE3.out] | (simp only [i64_w, HE3.out]) | go_num, HNX, ⟨by rw [n3_.out]; exact B55.out⟩, HY, HV, HB⟩
     · by_cases hkN2 : k ≤ N
       · have e1 : decide ((k : Int) ≤ (N : Int)) = true := decide_eq_true (by omega)
         have e2 : decide ((k : Int) < 60) = false := decide_eq_false (by omega)
         have e4 : k ≤ N := hkN2
         have e5 : ¬ (k : Int) < 60 := by omega
         have e6 : ¬ k < 60 := by omega
         go_wp2
         go_ret
         exact ⟨rfl, HB.out⟩
       · have e1 : decide ((k : Int) ≤ (N : Int)) = false := decide_eq_false (by omega)
         have e4 : ¬ (k : Int) ≤ (N : Int) := by omega
         have e4n : ¬ k ≤ N := hkN2
         have e4m : decide (k ≤ N) = false := decide_eq_false hkN2
         go_wp2
         go_ret
         exact ⟨rfl, HB.out⟩
theorem stocks_small (W : World) (A0 A1 : Option Addr) (c0 c1 : Nat) (code more : List Int) (hB0 : Bytes code) (hB1 : Bytes more) (hr0 : Kd.C (Kd.int .u8) W A0 code.length code) (hc0 : code.length ≤ c0) (hr1 : Kd.C (Kd.int .u8) W A1 more.length more) (hc1 : more.length ≤ c1) (hz0 : code.length ≤ 4096) (hz1 : more.length ≤ 4096) :
 Calls Try.prog 4 #[.slice A0 code.length c0, .slice A1 more.length c1] W fun e w' => e = .returned (.bool true) ∧ Below W.heap.size W w' :=
 stocks_smallA.2 ⟨(stocks_smallB.2 ⟨(stocks_smallC.2 ⟨stocks_smallD⟩)⟩)⟩ W A0 A1 c0 c1 code more hB0 hB1 hr0 hc0 hr1 hc1 hz0 hz1
end Go.Proofs.Ytggjdcijplgpdaa.H
