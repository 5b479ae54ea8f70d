import Derived.Test.YtggjdcijplgpdaazFStocksEAddP
import Derived.Test.YtggjdcijplgpdaazFStocksEDAll
import Derived.Test.YtggjdcijplgpdaazFStocksELayG
import Derived.Test.YtggjdcijplgpdaazFStocksEDayOf
import Derived.Test.YtggjdcijplgpdaazFStocksEFresh
import Derived.Test.YtggjdcijplgpdaazFStocksEDrawnH
import Derived.Test.YtggjdcijplgpdaazFStocksEHOk
import Derived.Test.YtggjdcijplgpdaazFStocksEInH
import Derived.Test.YtggjdcijplgpdaazFStocksELasts
import Derived.Test.YtggjdcijplgpdaazFStocksEVHF
import Derived.Test.YtggjdcijplgpdaazFStocksELeast
import Derived.Test.YtggjdcijplgpdaazFStocksESNeeds
import Derived.Test.YtggjdcijplgpdaazFStocksENewH
import Derived.Test.YtggjdcijplgpdaazFStocksH12
import Derived.Test.YtggjdcijplgpdaazFStocksESLeast
import Derived.Test.YtggjdcijplgpdaazFStocksESPure
import Derived.Test.YtggjdcijplgpdaazFStocksESameH
import Derived.Test.YtggjdcijplgpdaazFStocksEShortOf
import Derived.Test.YtggjdcijplgpdaazFStocksESome
import Derived.Test.YtggjdcijplgpdaazFStocksEVStock
import Derived.Test.YtggjdcijplgpdaazFStocksECloneSt
import Derived.Test.YtggjdcijplgpdaazFStocksH14
import Derived.Test.YtggjdcijplgpdaazFStocksH15
import Derived.Test.YtggjdcijplgpdaazFStocksES0
import Derived.Shelf.Abstract
import Derived.Deep.QuietTactic
import Derived.BigQuiet
import Derived.Deep.CutRange
import Derived.Deep.DeepCutAuto
namespace Go.Proofs.Ytggjdcijplgpdaa.H
open Go.RowKit Go.Proofs.YtggjdcijplgpdaaW.PrintWords Go.Proofs.YtggjdcijplgpdaaW.PrintLast Go.Proofs.YtggjdcijplgpdaaW.PrintMore
attribute [local go_sem] max2_int min2_int max_two min_two max_three min_three max_four min_four
set_option linter.unusedVariables false
set_option linter.unusedSimpArgs false
set_option maxHeartbeats 8000000 in
set_option maxRecDepth 100000 in
def stocks_smallA : PSigma fun P : Prop => Aside0 P → (∀ (W : World) (A0 A1 : Option Addr) (c0 c1 : Nat) (code more : List Int) (hB0 : Bytes code) (hB1 : Bytes more) (hr0 : Kd.C (Kd.int .u8) W A0 code.length code) (hc0 : code.length ≤ c0) (hr1 : Kd.C (Kd.int .u8) W A1 more.length more) (hc1 : more.length ≤ c1) (hz0 : code.length ≤ 4096) (hz1 : more.length ≤ 4096), Calls Try.prog 4 #[.slice A0 code.length c0, .slice A1 more.length c1] W fun e w' => e = .returned (.bool true) ∧ Below W.heap.size W w') := by
 apply PSigma.mk
 case snd =>
  intro REST W A0 A1 c0 c1 code more hB0 hB1 hr0 hc0 hr1 hc1 hz0 hz1
  have hu32 := Try.underlying32
  have mixed : Try.prog.follows .mixedOrders = true := by kernel_rfl
  obtain ⟨xs, hxe, hxl, hx6⟩ := p6needs hB1
  obtain ⟨KN, hxk⟩ := Ev.get hxe
  obtain ⟨days, hdays⟩ : ∃ d, (xs.map fun x => [x]) = d := ⟨_, rfl⟩
  rw [hdays] at hxk
  obtain ⟨tub, hta, ta0, ta1⟩ := p6pick hB0 20 (by decide) (by decide)
  obtain ⟨b, htb, tb0, tb1⟩ := p6pick hB1 4 (by decide) (by decide)
  obtain ⟨E, hE⟩ : ∃ E, 1 + b = E := ⟨_, rfl⟩
  have hwE : wrap64 (1 + b) = E := (w64i (by omega) (by omega)).trans hE
  obtain ⟨need, htc, tc0, tc1⟩ := p6pick hB1 40 (by decide) (by decide)
  obtain ⟨u8, htd, td0, td1⟩ := p6pick hB0 8 (by decide) (by decide)
  obtain ⟨n6, hte, te0, te1⟩ := p6pick hB1 6 (by decide) (by decide)
  have htub : 0 ≤ tub ∧ tub ≤ 1000 := by omega
  have hev : 1 ≤ E ∧ E ≤ 7 := by omega
  have hx5 : ∀ x ∈ xs, 0 ≤ x ∧ x ≤ 500 := fun x hx => by have := hx6 x hx; omega
  obtain ⟨P, hP5, hPs, hPm⟩ := least_stock tub E xs htub hx6 hxl
  have hdl : days.length = xs.length := by rw [← hdays, List.length_map]
  have HG0 := Aside0.mk (fun (w' : World) (hb : Below W.heap.size W w') => laws_f6big.calls A0 c0 code false w' (Kd.C_below hr0 hb) hc0 (by unfold laws_f6big.f; rw [decide_eq_false (by omega)]))
  have HG1 := Aside0.mk (fun (w' : World) (hb : Below W.heap.size W w') => laws_f6big.calls A1 c1 more false w' (Kd.C_below hr1 hb) hc1 (by unfold laws_f6big.f; rw [decide_eq_false (by omega)]))
  have HPN := Aside0.mk (fun (w' : World) (hb : Below W.heap.size W w') => spec_P6Needs.calls KN A1 c1 more 1 days w' (Kd.C_below hr1 hb) hc1 hxk)
  have HPa := Aside0.mk (fun (w' : World) (hb : Below W.heap.size W w') => spec_P6Pick.calls A0 c0 code 20 tub w' (Kd.C_below hr0 hb) hc0 hta)
  have HPb := Aside0.mk (fun (w' : World) (hb : Below W.heap.size W w') => spec_P6Pick.calls A1 c1 more 4 b w' (Kd.C_below hr1 hb) hc1 htb)
  have HPc := Aside0.mk (fun (w' : World) (hb : Below W.heap.size W w') => spec_P6Pick.calls A1 c1 more 40 need w' (Kd.C_below hr1 hb) hc1 htc)
  have HPd := Aside0.mk (fun (w' : World) (hb : Below W.heap.size W w') => spec_P6Pick.calls A0 c0 code 8 u8 w' (Kd.C_below hr0 hb) hc0 htd)
  have HPe := Aside0.mk (fun (w' : World) (hb : Below W.heap.size W w') => spec_P6Pick.calls A1 c1 more 6 n6 w' (Kd.C_below hr1 hb) hc1 hte)
  have HPH := Aside0.mk (fun (w' : World) (hb : Below W.heap.size W w') => p6House_calls w' A0 c0 code hB0 (Kd.C_below hr0 hb) hc0)
  have HL1 := Aside0.mk (fun (w' : World) (A : Option Addr) (c : Nat) (hr : Kd.C (Kd.slice 2 (Kd.int .i64)) w' A days.length days) => least_calls w' A c tub E xs days hdays hr htub hev hx5 (by omega) P hP5 hPs hPm)
  have HL2 := Aside0.mk (fun (w' : World) (A : Option Addr) (c : Nat) (hr : Kd.C (Kd.slice 2 (Kd.int .i64)) w' A days.length days) => specLeast_calls w' A c tub E xs days hdays hr htub hev hx5 (by omega) P hP5 hPs hPm)
  obtain ⟨iP, hiP⟩ : ∃ q, ([(P : Int)] : List Int) = q := ⟨_, rfl⟩
  obtain ⟨lP, hlP⟩ : ∃ q, ([freshS (P : Int)] : List S55) = q := ⟨_, rfl⟩
  have HN1 := Aside0.mk (fun (w' : World) (A : Option Addr) (c : Nat) (hr : Kd.C (Kd.int .i64) w' A iP.length iP) (hc : iP.length ≤ c) => show Calls Try.prog 24 #[.slice A iP.length c, .int .i64 tub, .int .i64 E] w' (fun e w'' => ∃ v0 : Value, e = .returned (.tuple #[.agg #[v0, .int .i16 tub, .int .i8 E, .int .i16 0], .int .i64 0]) ∧ Kd.R k55 55 w'' w'.heap.size (fun _ => True) v0 lP ∧ Below w'.heap.size w' w'') by
   subst hiP hlP
   exact newHouse_calls w' A c (P : Int) tub E hr hc (by omega) htub hev)
  have HN2 := Aside0.mk (fun (w' : World) (A : Option Addr) (c : Nat) (hr : Kd.C (Kd.int .i64) w' A iP.length iP) (hc : iP.length ≤ c) => show Calls Try.prog 25 #[.slice A iP.length c, .int .i64 tub, .int .i64 E] w' (fun e w'' => ∃ v0 : Value, e = .returned (.tuple #[.agg #[v0, .int .i16 tub, .int .i8 E, .int .i16 0], .int .i64 0]) ∧ Kd.R k55 55 w'' w'.heap.size (fun _ => True) v0 lP ∧ Below w'.heap.size w' w'') by
   subst hiP hlP
   exact specNewHouse_calls w' A c (P : Int) tub E hr hc (by omega) htub hev)
  have HFS := Aside0.mk (fun (w' : World) (A A' : Option Addr) (c c' : Nat) (hr : Kd.C k55 w' A lP.length lP) (hc : lP.length ≤ c) (hr1 : Kd.C (Kd.slice 2 (Kd.int .i64)) w' A' days.length days) (hc1 : days.length ≤ c') => show Calls Try.prog 26 #[.agg #[.slice A lP.length c, .int .i16 tub, .int .i8 E, .int .i16 0], .slice A' days.length c'] w' (fun e w'' => ∃ x y : Int, e = .returned (.tuple #[.int .i64 x, .int .i64 y, .int .i64 6]) ∧ Below w'.heap.size w' w'') by
   have h := shortOf_calls w' A A' c c' (P : Int) tub E xs days hdays (hlP ▸ hr) (hlP ▸ hc) hr1 hc1 (by omega) htub hev hx5 (by omega)
   rw [hPs] at h
   exact hlP ▸ h)
  have HSH := Aside0.mk (fun (w' : World) (A A' : Option Addr) (c c' : Nat) (l : List S55) (x y z : Int) (hr0 : Kd.C k55 w' A l.length l) (hr1 : Kd.C k55 w' A' l.length l) => sameHouse_calls w' A A' c c' l x y z hr0 hr1)
  have HIP := Aside0.mk hiP
  have HPM := Aside0.mk hPm
  have HTE := Aside0.mk (⟨htub, hev⟩ : (0 ≤ tub ∧ tub ≤ 1000) ∧ (1 ≤ E ∧ E ≤ 7))
  have HX5 := Aside0.mk (⟨hx5, by omega⟩ : (∀ x ∈ xs, 0 ≤ x ∧ x ≤ 500) ∧ xs.length ≤ 60)
  have HDY := Aside0.mk hdays
  have HP5 := Aside0.mk hP5
  have HU8 := Aside0.mk (show 0 ≤ u8 ∧ u8 < 8 from ⟨td0, td1⟩)
  have HN6 := Aside0.mk (show 0 ≤ n6 ∧ n6 < 6 from ⟨te0, te1⟩)
  have HNE := Aside0.mk (show 0 ≤ need ∧ need ≤ 500 by omega)
  have n1 : ((P : Int) != (P : Int)) = false := by simp
  have n2 : decide ((P : Int) < 0) = false := decide_eq_false (by omega)
  have n3 : ((lP.length : Int) != (lP.length : Int)) = false := by simp
  have HB := Aside0.mk (Below.refl W.heap.size W)
  clear hP5 hxe hxk hta htb htc htd hte hPs hPm hx5 hx6 hdays hiP hlP hE hB0 hB1 hr0 hc0 hr1 hc1 hz0 hz1 ta0 ta1 tb0 tb1 tc0 tc1 td0 td1 te0 te1 htub hev hxl hdl
  go_enter Try.func4, Try.ntmps4
  have ST0 := Aside0.mk True.intro
  go_upto_if 153 with (first
   | (have s_ := ST0; go_at_call 19; (with_reducible refine (HG0.out _ HB.out).mono ?_); rintro e w1 ⟨rfl, hd⟩; have hb := hd.below; replace HB := Aside0.mk (below_step HB.out hb); clear hb hd; clear ST0 s_; have ST1 := Aside0.mk True.intro)
   | (have s_ := ST1; go_at_call 19; (with_reducible refine (HG1.out _ HB.out).mono ?_); rintro e w2 ⟨rfl, hd⟩; have hb := hd.below; replace HB := Aside0.mk (below_step HB.out hb); clear hb hd; clear ST1 s_; have ST2 := Aside0.mk True.intro)
   | (have s_ := ST2; go_at_call 20; (with_reducible refine (HPN.out _ HB.out).mono ?_); rintro e w3 ⟨v_, rfl, hS, hb⟩; replace HB := Aside0.mk (below_step HB.out hb); have XD := Aside0.mk hS; clear hb hS; obtain ⟨Ad, cd, e_⟩ := Kd.S_slice XD.out; subst e_; clear ST2 s_; have ST3 := Aside0.mk True.intro)
   | (have s_ := ST3; go_at_call 21; (with_reducible refine (HPa.out _ HB.out).mono ?_); rintro e w4 ⟨rfl, hb⟩; replace HB := Aside0.mk (below_step HB.out hb); replace XD := Aside0.mk (Kd.S_below XD.out hb); clear hb; clear ST3 s_; have ST4 := Aside0.mk True.intro)
   | (have s_ := ST4; go_at_call 21; (with_reducible refine (HPb.out _ HB.out).mono ?_); rintro e w5 ⟨rfl, hb⟩; replace HB := Aside0.mk (below_step HB.out hb); replace XD := Aside0.mk (Kd.S_below XD.out hb); clear hb; clear ST4 s_; have ST5 := Aside0.mk True.intro)
   | (have s_ := ST5; go_at_call 22; (with_reducible refine (HL1.out _ Ad cd (Kd.S_reads' XD.out).2.2).mono ?_); rintro e w6 ⟨rfl, hb⟩; replace HB := Aside0.mk (below_step HB.out hb); replace XD := Aside0.mk (Kd.S_below XD.out hb); clear hb; clear ST5 s_; have ST6 := Aside0.mk True.intro)
   | (have s_ := ST6; go_at_call 23; (with_reducible refine (HL2.out _ Ad cd (Kd.S_reads' XD.out).2.2).mono ?_); rintro e w7 ⟨rfl, hb⟩; replace HB := Aside0.mk (below_step HB.out hb); replace XD := Aside0.mk (Kd.S_below XD.out hb); clear hb; clear ST6 s_; have ST7 := Aside0.mk True.intro)
   | (have s_ := ST7; (with_reducible refine gate_dst (N := 105) rfl ?_); refine Kd.R_lit (Kd.int .i64) _ 2 ?hg (N := 105) ?hd (xs := ([P] : List Int)) (inner := [.int .i64 P]) (ok := fun _ => True) (okp := fun _ => True) ?hr ?hp (fun _ hk => hk) trivial (Below.refl _ _) (Nat.le_refl _) (by simp) ?_; (case hd => rfl); (case hg => rfl); (case hr => first | (go_simp; done) | (go_simp; rfl)); (case hp => exact (Reps.one (show Kd.M (Kd.int .i64) _ _ _ (P : Int) [.int .i64 P] from rfl) (Reps.none _ _))); intro v_ w8 ho_ hb hg_ hnew_; clear hg_ hnew_; replace HB := Aside0.mk (below_step HB.out hb); replace XD := Aside0.mk (Kd.S_below XD.out hb); have HL := Aside0.mk ho_; clear ho_ hb; rw [HIP.out] at HL; obtain ⟨Al, cl, el⟩ := Kd.R_slice HL.out; subst el; clear ST7 s_; have ST8 := Aside0.mk True.intro)
   | (have s_ := ST8; go_at_call 24; (with_reducible refine (HN1.out _ Al cl (Kd.R_reads' HL.out).2.2 (Kd.R_reads' HL.out).2.1).mono ?_); rintro e w9 ⟨v_, rfl, hR, hb⟩; replace HB := Aside0.mk (below_step HB.out hb); replace XD := Aside0.mk (Kd.S_below XD.out hb); have HX := Aside0.mk hR; clear hb hR HL; obtain ⟨Ah, ch, e_⟩ := Kd.R_slice HX.out; subst e_; clear ST8 s_; have ST9 := Aside0.mk True.intro)
   | (have s_ := ST9; (with_reducible refine gate_dst (N := 12) rfl ?_); refine box_event ?hg (N := 12) ?hd (cs := #[.slice none 0 0, .int .i16 0, .int .i8 0, .int .i16 0]) (t := 32) ?hr ?_; (case hd => rfl); (case hg => rfl); (case hr => first | (go_simp; done) | (go_simp; rfl)); intro g12 hg_ w10 hbox hb; have GB12 := Aside0.mk (by rw [hg_]; exact HB.out.size : W.heap.size ≤ g12); replace HB := Aside0.mk (below_step HB.out hb); replace XD := Aside0.mk (Kd.S_below XD.out hb); replace HX := Aside0.mk (Kd.R_below HX.out hb); have B12 := Aside0.mk hbox; clear hb hbox hg_; have qB120 : w10.cell? ⟨g12, 0, none⟩ = some (.slice none 0 0) := (blk_cell B12.out 0).trans rfl; have qB121 : w10.cell? ⟨g12, 1, none⟩ = some (.int .i16 0) := (blk_cell B12.out 1).trans rfl; have qB122 : w10.cell? ⟨g12, 2, none⟩ = some (.int .i8 0) := (blk_cell B12.out 2).trans rfl; have qB123 : w10.cell? ⟨g12, 3, none⟩ = some (.int .i16 0) := (blk_cell B12.out 3).trans rfl; have fB120 : w10.frozen? ⟨g12, 0, none⟩ = false := blk_frozen B12.out 0; have fB121 : w10.frozen? ⟨g12, 1, none⟩ = false := blk_frozen B12.out 1; have fB122 : w10.frozen? ⟨g12, 2, none⟩ = false := blk_frozen B12.out 2; have fB123 : w10.frozen? ⟨g12, 3, none⟩ = false := blk_frozen B12.out 3; clear ST9 s_; have ST10 := Aside0.mk True.intro)
   | (have s_ := ST10; (with_reducible refine gate_store (t := 32) (p := 12) rfl ?_); refine store_event (t := 32) (p := 12) (v := ?vo_w11) (w1 := ((((w10.setCell ⟨g12, 0, none⟩ (.slice Ah lP.length ch)).setCell ⟨g12, 1, none⟩ (.int .i16 tub)).setCell ⟨g12, 2, none⟩ (.int .i8 E)).setCell ⟨g12, 3, none⟩ (.int .i16 0))) ?hg ?ho ?hn ?hr ?_; (case ho => rfl); (case hg => rfl); (case hn => rfl); (case hr => first | (go_simp; done) | (go_simp; rfl)); intro w11 hw; have hg : w10.grownBy w11 (some g12) := (by rw [hw]; exact put4_grown True.intro True.intro); have hnew : w11.heap[g12]? = some (.cells #[.slice Ah lP.length ch, .int .i16 tub, .int .i8 E, .int .i16 0] 32 (0, 0)) := (by rw [hw]; exact put4_blk B12.out); clear hw; replace HB := Aside0.mk (below_grown HB.out hg (fun k_ e_ => by injection e_ with e_; subst e_; exact GB12.out)); replace XD := Aside0.mk (Kd.S_mono (Kd.S_grown (Kd.S_types XD.out B12.out (by decide)) hg (fun k_ hk e_ => by injection e_ with e_; exact hk.2 e_)) (fun _ hk => hk.1)); replace HX := Aside0.mk (Kd.R_grown1 HX.out rfl hg (Kd.R_ne HX.out B12.out (by decide))); replace B12 := Aside0.mk (hnew); clear hg hnew; clear qB120 qB121 qB122 qB123 fB120 fB121 fB122 fB123; have qB120 : w11.cell? ⟨g12, 0, none⟩ = some (.slice Ah lP.length ch) := (blk_cell B12.out 0).trans rfl; have qB121 : w11.cell? ⟨g12, 1, none⟩ = some (.int .i16 tub) := (blk_cell B12.out 1).trans rfl; have qB122 : w11.cell? ⟨g12, 2, none⟩ = some (.int .i8 E) := (blk_cell B12.out 2).trans rfl; have qB123 : w11.cell? ⟨g12, 3, none⟩ = some (.int .i16 0) := (blk_cell B12.out 3).trans rfl; clear ST10 s_; have ST11 := Aside0.mk True.intro)
   | (have s_ := ST11; (with_reducible refine gate_dst (N := 113) rfl ?_); refine Kd.R_lit (Kd.int .i64) _ 2 ?hg (N := 113) ?hd (xs := ([P] : List Int)) (inner := [.int .i64 P]) (ok := fun _ => True) (okp := fun _ => True) ?hr ?hp (fun _ hk => hk) trivial (Below.refl _ _) (Nat.le_refl _) (by simp) ?_; (case hd => rfl); (case hg => rfl); (case hr => first | (go_simp; done) | (go_simp; rfl)); (case hp => exact (Reps.one (show Kd.M (Kd.int .i64) _ _ _ (P : Int) [.int .i64 P] from rfl) (Reps.none _ _))); intro v_ w12 ho_ hb hg_ hnew_; clear hg_ hnew_; replace HB := Aside0.mk (below_step HB.out hb); replace XD := Aside0.mk (Kd.S_below XD.out hb); replace HX := Aside0.mk (Kd.R_below HX.out hb); replace B12 := Aside0.mk (blk_below B12.out hb); have HL := Aside0.mk ho_; clear ho_ hb; rw [HIP.out] at HL; obtain ⟨Al, cl, el⟩ := Kd.R_slice HL.out; subst el; clear qB120 qB121 qB122 qB123; have qB120 : w12.cell? ⟨g12, 0, none⟩ = some (.slice Ah lP.length ch) := (blk_cell B12.out 0).trans rfl; have qB121 : w12.cell? ⟨g12, 1, none⟩ = some (.int .i16 tub) := (blk_cell B12.out 1).trans rfl; have qB122 : w12.cell? ⟨g12, 2, none⟩ = some (.int .i8 E) := (blk_cell B12.out 2).trans rfl; have qB123 : w12.cell? ⟨g12, 3, none⟩ = some (.int .i16 0) := (blk_cell B12.out 3).trans rfl; clear ST11 s_; have ST12 := Aside0.mk True.intro)
   | (have s_ := ST12; go_at_call 25; (with_reducible refine (HN2.out _ Al cl (Kd.R_reads' HL.out).2.2 (Kd.R_reads' HL.out).2.1).mono ?_); rintro e w13 ⟨v_, rfl, hR, hb⟩; replace HB := Aside0.mk (below_step HB.out hb); replace XD := Aside0.mk (Kd.S_below XD.out hb); replace HX := Aside0.mk (Kd.R_below HX.out hb); replace B12 := Aside0.mk (blk_below B12.out hb); have MX := Aside0.mk hR; clear hb hR HL; obtain ⟨Am, cm, e_⟩ := Kd.R_slice MX.out; subst e_; clear qB120 qB121 qB122 qB123; have qB120 : w13.cell? ⟨g12, 0, none⟩ = some (.slice Ah lP.length ch) := (blk_cell B12.out 0).trans rfl; have qB121 : w13.cell? ⟨g12, 1, none⟩ = some (.int .i16 tub) := (blk_cell B12.out 1).trans rfl; have qB122 : w13.cell? ⟨g12, 2, none⟩ = some (.int .i8 E) := (blk_cell B12.out 2).trans rfl; have qB123 : w13.cell? ⟨g12, 3, none⟩ = some (.int .i16 0) := (blk_cell B12.out 3).trans rfl; clear ST12 s_; have ST13 := Aside0.mk True.intro)
   | (have s_ := ST13; (with_reducible refine gate_dst (N := 14) rfl ?_); refine box_event ?hg (N := 14) ?hd (cs := #[.slice none 0 0, .int .i16 0, .int .i8 0, .int .i16 0]) (t := 32) ?hr ?_; (case hd => rfl); (case hg => rfl); (case hr => first | (go_simp; done) | (go_simp; rfl)); intro g14 hg_ w14 hbox hb; have GB14 := Aside0.mk (by rw [hg_]; exact HB.out.size : W.heap.size ≤ g14); have NB12_B14 := Aside0.mk (by rw [hg_]; exact Nat.ne_of_lt (blk_lt B12.out) : g12 ≠ g14); replace HB := Aside0.mk (below_step HB.out hb); replace XD := Aside0.mk (Kd.S_below XD.out hb); replace HX := Aside0.mk (Kd.R_below HX.out hb); replace B12 := Aside0.mk (blk_below B12.out hb); replace MX := Aside0.mk (Kd.R_below MX.out hb); have B14 := Aside0.mk hbox; clear hb hbox hg_; clear qB120 qB121 qB122 qB123; have qB120 : w14.cell? ⟨g12, 0, none⟩ = some (.slice Ah lP.length ch) := (blk_cell B12.out 0).trans rfl; have qB121 : w14.cell? ⟨g12, 1, none⟩ = some (.int .i16 tub) := (blk_cell B12.out 1).trans rfl; have qB122 : w14.cell? ⟨g12, 2, none⟩ = some (.int .i8 E) := (blk_cell B12.out 2).trans rfl; have qB123 : w14.cell? ⟨g12, 3, none⟩ = some (.int .i16 0) := (blk_cell B12.out 3).trans rfl; have qB140 : w14.cell? ⟨g14, 0, none⟩ = some (.slice none 0 0) := (blk_cell B14.out 0).trans rfl; have qB141 : w14.cell? ⟨g14, 1, none⟩ = some (.int .i16 0) := (blk_cell B14.out 1).trans rfl; have qB142 : w14.cell? ⟨g14, 2, none⟩ = some (.int .i8 0) := (blk_cell B14.out 2).trans rfl; have qB143 : w14.cell? ⟨g14, 3, none⟩ = some (.int .i16 0) := (blk_cell B14.out 3).trans rfl; have fB140 : w14.frozen? ⟨g14, 0, none⟩ = false := blk_frozen B14.out 0; have fB141 : w14.frozen? ⟨g14, 1, none⟩ = false := blk_frozen B14.out 1; have fB142 : w14.frozen? ⟨g14, 2, none⟩ = false := blk_frozen B14.out 2; have fB143 : w14.frozen? ⟨g14, 3, none⟩ = false := blk_frozen B14.out 3; clear ST13 s_; have ST14 := Aside0.mk True.intro)
   | (have s_ := ST14; (with_reducible refine gate_store (t := 32) (p := 14) rfl ?_); refine store_event (t := 32) (p := 14) (v := ?vo_w15) (w1 := ((((w14.setCell ⟨g14, 0, none⟩ (.slice Am lP.length cm)).setCell ⟨g14, 1, none⟩ (.int .i16 tub)).setCell ⟨g14, 2, none⟩ (.int .i8 E)).setCell ⟨g14, 3, none⟩ (.int .i16 0))) ?hg ?ho ?hn ?hr ?_; (case ho => rfl); (case hg => rfl); (case hn => rfl); (case hr => first | (go_simp; done) | (go_simp; rfl)); intro w15 hw; have hg : w14.grownBy w15 (some g14) := (by rw [hw]; exact put4_grown True.intro True.intro); have hnew : w15.heap[g14]? = some (.cells #[.slice Am lP.length cm, .int .i16 tub, .int .i8 E, .int .i16 0] 32 (0, 0)) := (by rw [hw]; exact put4_blk B14.out); clear hw; replace HB := Aside0.mk (below_grown HB.out hg (fun k_ e_ => by injection e_ with e_; subst e_; exact GB14.out)); replace XD := Aside0.mk (Kd.S_mono (Kd.S_grown (Kd.S_types XD.out B14.out (by decide)) hg (fun k_ hk e_ => by injection e_ with e_; exact hk.2 e_)) (fun _ hk => hk.1)); replace HX := Aside0.mk (Kd.R_grown1 HX.out rfl hg (Kd.R_ne HX.out B14.out (by decide))); replace B12 := Aside0.mk (blk_grown B12.out hg (fun e_ => by injection e_ with e_; exact NB12_B14.out e_)); replace MX := Aside0.mk (Kd.R_grown1 MX.out rfl hg (Kd.R_ne MX.out B14.out (by decide))); replace B14 := Aside0.mk (hnew); clear hg hnew; clear qB120 qB121 qB122 qB123 qB140 qB141 qB142 qB143 fB140 fB141 fB142 fB143; have qB120 : w15.cell? ⟨g12, 0, none⟩ = some (.slice Ah lP.length ch) := (blk_cell B12.out 0).trans rfl; have qB121 : w15.cell? ⟨g12, 1, none⟩ = some (.int .i16 tub) := (blk_cell B12.out 1).trans rfl; have qB122 : w15.cell? ⟨g12, 2, none⟩ = some (.int .i8 E) := (blk_cell B12.out 2).trans rfl; have qB123 : w15.cell? ⟨g12, 3, none⟩ = some (.int .i16 0) := (blk_cell B12.out 3).trans rfl; have qB140 : w15.cell? ⟨g14, 0, none⟩ = some (.slice Am lP.length cm) := (blk_cell B14.out 0).trans rfl; have qB141 : w15.cell? ⟨g14, 1, none⟩ = some (.int .i16 tub) := (blk_cell B14.out 1).trans rfl; have qB142 : w15.cell? ⟨g14, 2, none⟩ = some (.int .i8 E) := (blk_cell B14.out 2).trans rfl; have qB143 : w15.cell? ⟨g14, 3, none⟩ = some (.int .i16 0) := (blk_cell B14.out 3).trans rfl; clear ST14 s_; have ST15 := Aside0.mk True.intro)
   | (have s_ := ST15; go_at_call 26; (with_reducible refine (HFS.out _ Am Ad cm cd (Kd.R_reads' MX.out).2.2 (Kd.R_reads' MX.out).2.1 (Kd.S_reads' XD.out).2.2 (Kd.S_reads' XD.out).2.1).mono ?_); rintro e w16 ⟨x1_, y1_, rfl, hb⟩; replace HB := Aside0.mk (below_step HB.out hb); replace XD := Aside0.mk (Kd.S_below XD.out hb); replace HX := Aside0.mk (Kd.R_below HX.out hb); replace B12 := Aside0.mk (blk_below B12.out hb); replace MX := Aside0.mk (Kd.R_below MX.out hb); replace B14 := Aside0.mk (blk_below B14.out hb); clear hb; clear qB120 qB121 qB122 qB123 qB140 qB141 qB142 qB143; have qB120 : w16.cell? ⟨g12, 0, none⟩ = some (.slice Ah lP.length ch) := (blk_cell B12.out 0).trans rfl; have qB121 : w16.cell? ⟨g12, 1, none⟩ = some (.int .i16 tub) := (blk_cell B12.out 1).trans rfl; have qB122 : w16.cell? ⟨g12, 2, none⟩ = some (.int .i8 E) := (blk_cell B12.out 2).trans rfl; have qB123 : w16.cell? ⟨g12, 3, none⟩ = some (.int .i16 0) := (blk_cell B12.out 3).trans rfl; have qB140 : w16.cell? ⟨g14, 0, none⟩ = some (.slice Am lP.length cm) := (blk_cell B14.out 0).trans rfl; have qB141 : w16.cell? ⟨g14, 1, none⟩ = some (.int .i16 tub) := (blk_cell B14.out 1).trans rfl; have qB142 : w16.cell? ⟨g14, 2, none⟩ = some (.int .i8 E) := (blk_cell B14.out 2).trans rfl; have qB143 : w16.cell? ⟨g14, 3, none⟩ = some (.int .i16 0) := (blk_cell B14.out 3).trans rfl; clear ST15 s_; have ST16 := Aside0.mk True.intro)
   | (have s_ := ST16; go_at_call 27; (with_reducible refine (HSH.out _ Ah Am ch cm lP tub E 0 (Kd.R_reads' HX.out).2.2 (Kd.R_reads' MX.out).2.2).mono ?_); rintro e w17 ⟨rfl, hb⟩; replace HB := Aside0.mk (below_step HB.out hb); replace XD := Aside0.mk (Kd.S_below XD.out hb); replace HX := Aside0.mk (Kd.R_below HX.out hb); replace B12 := Aside0.mk (blk_below B12.out hb); replace MX := Aside0.mk (Kd.R_below MX.out hb); replace B14 := Aside0.mk (blk_below B14.out hb); clear hb; clear qB120 qB121 qB122 qB123 qB140 qB141 qB142 qB143; have qB120 : w17.cell? ⟨g12, 0, none⟩ = some (.slice Ah lP.length ch) := (blk_cell B12.out 0).trans rfl; have qB121 : w17.cell? ⟨g12, 1, none⟩ = some (.int .i16 tub) := (blk_cell B12.out 1).trans rfl; have qB122 : w17.cell? ⟨g12, 2, none⟩ = some (.int .i8 E) := (blk_cell B12.out 2).trans rfl; have qB123 : w17.cell? ⟨g12, 3, none⟩ = some (.int .i16 0) := (blk_cell B12.out 3).trans rfl; have qB140 : w17.cell? ⟨g14, 0, none⟩ = some (.slice Am lP.length cm) := (blk_cell B14.out 0).trans rfl; have qB141 : w17.cell? ⟨g14, 1, none⟩ = some (.int .i16 tub) := (blk_cell B14.out 1).trans rfl; have qB142 : w17.cell? ⟨g14, 2, none⟩ = some (.int .i8 E) := (blk_cell B14.out 2).trans rfl; have qB143 : w17.cell? ⟨g14, 3, none⟩ = some (.int .i16 0) := (blk_cell B14.out 3).trans rfl; clear ST16 s_; have ST17 := Aside0.mk True.intro))
  clear B12 B14 HX MX qB120 qB121 qB122 qB123 qB140 qB141 qB142 qB143
  go_cut [] from 19 to 175 (fun wx => Aside0 (Below W.heap.size W wx))
  case first =>
   by_cases hp0 : P = 0
   · have hpb : decide ((P : Int) > 0) = false := decide_eq_false (by omega)
     have hpb' : decide ((0 : Int) < (P : Int)) = false := decide_eq_false (by omega)
     go_wp2
     go_meet
     case rel => exact HB
   · obtain ⟨p, hp⟩ : ∃ p : Nat, P = p + 1 := ⟨P - 1, by omega⟩
     have hpb : decide ((P : Int) > 0) = true := decide_eq_true (by omega)
     have hpb' : decide ((0 : Int) < (P : Int)) = true := decide_eq_true (by omega)
     have hpn : 0 < P := by omega
     have hpn' : decide (0 < P) = true := decide_eq_true hpn
     have hP5 := HP5.out
     have hwp : wrap64 ((P : Int) - 1) = (p : Int) := (w64i (by omega) (by omega)).trans (by omega)
     have hsp := HPM.out p (by omega)
     have hdays := HDY.out
     obtain ⟨htub, hev⟩ := HTE.out
     obtain ⟨hx5, hxl⟩ := HX5.out
     obtain ⟨iQ, hiQ⟩ : ∃ q, ([(p : Int)] : List Int) = q := ⟨_, rfl⟩
     obtain ⟨lQ, hlQ⟩ : ∃ q, ([freshS (p : Int)] : List S55) = q := ⟨_, rfl⟩
     have HIQ := Aside0.mk hiQ
     have HNQ := Aside0.mk (fun (w' : World) (A : Option Addr) (c : Nat) (hr : Kd.C (Kd.int .i64) w' A iQ.length iQ) (hc : iQ.length ≤ c) => show Calls Try.prog 25 #[.slice A iQ.length c, .int .i64 tub, .int .i64 E] w' (fun e w'' => ∃ v0 : Value, e = .returned (.tuple #[.agg #[v0, .int .i16 tub, .int .i8 E, .int .i16 0], .int .i64 0]) ∧ Kd.R k55 55 w'' w'.heap.size (fun _ => True) v0 lQ ∧ Below w'.heap.size w' w'') by
      subst hiQ hlQ
      exact specNewHouse_calls w' A c (p : Int) tub E hr hc (by omega) htub hev)
     have HFQ := Aside0.mk (fun (w' : World) (A A' : Option Addr) (c c' : Nat) (hr : Kd.C k55 w' A lQ.length lQ) (hc : lQ.length ≤ c) (hr1 : Kd.C (Kd.slice 2 (Kd.int .i64)) w' A' days.length days) (hc1 : days.length ≤ c') => show Calls Try.prog 26 #[.agg #[.slice A lQ.length c, .int .i16 tub, .int .i8 E, .int .i16 0], .slice A' days.length c'] w' (fun e w'' => ∃ x y : Int, e = .returned (.tuple #[.int .i64 x, .int .i64 y, .int .i64 0]) ∧ Below w'.heap.size w' w'') by
      have h := shortOf_calls w' A A' c c' (p : Int) tub E xs days hdays (hlQ ▸ hr) (hlQ ▸ hc) hr1 hc1 (by omega) htub hev hx5 hxl
      rw [hsp] at h
      exact hlQ ▸ h)
     clear hsp hdays htub hev hx5 hxl hiQ hlQ hp hP5 hp0
     have ST17 := Aside0.mk True.intro
     go_wp2_with (first
      | (have s_ := ST17; (with_reducible refine gate_dst (N := 157) rfl ?_); refine Kd.R_lit (Kd.int .i64) _ 2 ?hg (N := 157) ?hd (xs := ([p] : List Int)) (inner := [.int .i64 p]) (ok := fun _ => True) (okp := fun _ => True) ?hr ?hp (fun _ hk => hk) trivial (Below.refl _ _) (Nat.le_refl _) (by simp) ?_; (case hd => rfl); (case hg => rfl); (case hr => first | (go_simp; done) | (go_simp; rfl)); (case hp => exact (Reps.one (show Kd.M (Kd.int .i64) _ _ _ (p : Int) [.int .i64 p] from rfl) (Reps.none _ _))); intro v_ w18 ho_ hb hg_ hnew_; clear hg_ hnew_; replace HB := Aside0.mk (below_step HB.out hb); replace XD := Aside0.mk (Kd.S_below XD.out hb); have HL := Aside0.mk ho_; clear ho_ hb; rw [HIQ.out] at HL; obtain ⟨Al, cl, el⟩ := Kd.R_slice HL.out; subst el; clear ST17 s_; have ST18 := Aside0.mk True.intro)
      | (have s_ := ST18; go_at_call 25; (with_reducible refine (HNQ.out _ Al cl (Kd.R_reads' HL.out).2.2 (Kd.R_reads' HL.out).2.1).mono ?_); rintro e w19 ⟨v_, rfl, hR, hb⟩; replace HB := Aside0.mk (below_step HB.out hb); replace XD := Aside0.mk (Kd.S_below XD.out hb); have LX := Aside0.mk hR; clear hb hR HL; obtain ⟨Ax, cx, e_⟩ := Kd.R_slice LX.out; subst e_; clear ST18 s_; have ST19 := Aside0.mk True.intro)
      | (have s_ := ST19; (with_reducible refine gate_dst (N := 19) rfl ?_); refine box_event ?hg (N := 19) ?hd (cs := #[.slice none 0 0, .int .i16 0, .int .i8 0, .int .i16 0]) (t := 32) ?hr ?_; (case hd => rfl); (case hg => rfl); (case hr => first | (go_simp; done) | (go_simp; rfl)); intro g19 hg_ w20 hbox hb; have GB19 := Aside0.mk (by rw [hg_]; exact HB.out.size : W.heap.size ≤ g19); replace HB := Aside0.mk (below_step HB.out hb); replace XD := Aside0.mk (Kd.S_below XD.out hb); replace LX := Aside0.mk (Kd.R_below LX.out hb); have B19 := Aside0.mk hbox; clear hb hbox hg_; have qB190 : w20.cell? ⟨g19, 0, none⟩ = some (.slice none 0 0) := (blk_cell B19.out 0).trans rfl; have qB191 : w20.cell? ⟨g19, 1, none⟩ = some (.int .i16 0) := (blk_cell B19.out 1).trans rfl; have qB192 : w20.cell? ⟨g19, 2, none⟩ = some (.int .i8 0) := (blk_cell B19.out 2).trans rfl; have qB193 : w20.cell? ⟨g19, 3, none⟩ = some (.int .i16 0) := (blk_cell B19.out 3).trans rfl; have fB190 : w20.frozen? ⟨g19, 0, none⟩ = false := blk_frozen B19.out 0; have fB191 : w20.frozen? ⟨g19, 1, none⟩ = false := blk_frozen B19.out 1; have fB192 : w20.frozen? ⟨g19, 2, none⟩ = false := blk_frozen B19.out 2; have fB193 : w20.frozen? ⟨g19, 3, none⟩ = false := blk_frozen B19.out 3; clear ST19 s_; have ST20 := Aside0.mk True.intro)
      | (have s_ := ST20; (with_reducible refine gate_store (t := 32) (p := 19) rfl ?_); refine store_event (t := 32) (p := 19) (v := ?vo_w21) (w1 := ((((w20.setCell ⟨g19, 0, none⟩ (.slice Ax lQ.length cx)).setCell ⟨g19, 1, none⟩ (.int .i16 tub)).setCell ⟨g19, 2, none⟩ (.int .i8 E)).setCell ⟨g19, 3, none⟩ (.int .i16 0))) ?hg ?ho ?hn ?hr ?_; (case ho => rfl); (case hg => rfl); (case hn => rfl); (case hr => first | (go_simp; done) | (go_simp; rfl)); intro w21 hw; have hg : w20.grownBy w21 (some g19) := (by rw [hw]; exact put4_grown True.intro True.intro); have hnew : w21.heap[g19]? = some (.cells #[.slice Ax lQ.length cx, .int .i16 tub, .int .i8 E, .int .i16 0] 32 (0, 0)) := (by rw [hw]; exact put4_blk B19.out); clear hw; replace HB := Aside0.mk (below_grown HB.out hg (fun k_ e_ => by injection e_ with e_; subst e_; exact GB19.out)); replace XD := Aside0.mk (Kd.S_mono (Kd.S_grown (Kd.S_types XD.out B19.out (by decide)) hg (fun k_ hk e_ => by injection e_ with e_; exact hk.2 e_)) (fun _ hk => hk.1)); replace LX := Aside0.mk (Kd.R_grown1 LX.out rfl hg (Kd.R_ne LX.out B19.out (by decide))); replace B19 := Aside0.mk (hnew); clear hg hnew; clear qB190 qB191 qB192 qB193 fB190 fB191 fB192 fB193; have qB190 : w21.cell? ⟨g19, 0, none⟩ = some (.slice Ax lQ.length cx) := (blk_cell B19.out 0).trans rfl; have qB191 : w21.cell? ⟨g19, 1, none⟩ = some (.int .i16 tub) := (blk_cell B19.out 1).trans rfl; have qB192 : w21.cell? ⟨g19, 2, none⟩ = some (.int .i8 E) := (blk_cell B19.out 2).trans rfl; have qB193 : w21.cell? ⟨g19, 3, none⟩ = some (.int .i16 0) := (blk_cell B19.out 3).trans rfl; clear ST20 s_; have ST21 := Aside0.mk True.intro)
      | (have s_ := ST21; go_at_call 26; (with_reducible refine (HFQ.out _ Ax Ad cx cd (Kd.R_reads' LX.out).2.2 (Kd.R_reads' LX.out).2.1 (Kd.S_reads' XD.out).2.2 (Kd.S_reads' XD.out).2.1).mono ?_); rintro e w22 ⟨x2_, y2_, rfl, hb⟩; replace HB := Aside0.mk (below_step HB.out hb); replace XD := Aside0.mk (Kd.S_below XD.out hb); replace LX := Aside0.mk (Kd.R_below LX.out hb); replace B19 := Aside0.mk (blk_below B19.out hb); clear hb; clear qB190 qB191 qB192 qB193; have qB190 : w22.cell? ⟨g19, 0, none⟩ = some (.slice Ax lQ.length cx) := (blk_cell B19.out 0).trans rfl; have qB191 : w22.cell? ⟨g19, 1, none⟩ = some (.int .i16 tub) := (blk_cell B19.out 1).trans rfl; have qB192 : w22.cell? ⟨g19, 2, none⟩ = some (.int .i8 E) := (blk_cell B19.out 2).trans rfl; have qB193 : w22.cell? ⟨g19, 3, none⟩ = some (.int .i16 0) := (blk_cell B19.out 3).trans rfl; clear ST21 s_; have ST22 := Aside0.mk True.intro))
     go_wp2
     go_meet
     case rel => exact HB
  case rest =>
   rename_i zz0A zz1A zz2A zz3A zz4A
   revert W A0 A1 c0 c1 code more hu32 mixed xs KN days tub b E hwE need u8 n6 P HG0 HG1 HPN HPa HPb HPc HPd HPe HPH HL1 HL2 iP lP HN1 HN2 HFS HSH HIP HPM HTE HX5 HDY HP5 HU8 HN6 HNE n1 n2 n3 zz0A w1 w2 w3 Ad cd w4 w5 w6 w7 w8 zz1A zz2A w9 Ah ch g12 w10 GB12 w11 w12 Al cl w13 Am cm g14 w14 GB14 NB12_B14 w15 w16 x1_ y1_ w17 HB XD ST17 zz3A zz4A wc u4 u19 u20 u21 u22 u23 u24 u25 u26 u27 u28 u29 u30 u31 u32 u33 u34 u35 u36 u37 u38 u39 u40 u41 u42 u43 u44 u45 u46 u47 u48 u49 u50 u51 u52 u53 u54 u55 u56 u57 u58 u59 u60 u61 u62 u63 u64 u65 u66 u67 u68 u69 u70 u71 u72 u73 u74 u75 u76 u77 u78 u79 u80 u81 u82 u83 u84 u85 u86 u87 u88 u89 u90 u91 u92 u93 u94 u95 u96 u97 u98 u99 u100 u101 u102 u103 u104 u105 u106 u107 u108 u109 u110 u111 u112 u113 u114 u115 u116 u117 u118 u119 u120 u121 u122 u123 u124 u125 u126 u127 u128 u129 u130 u131 u132 u133 u134 u135 u136 u137 u138 u139 u140 u141 u142 u143 u144 u145 u146 u147 u148 u149 u150 u151 u152 u153 u154 u155 u156 u157 u158 u159 u160 u161 u162 u163 u164 u165 u166 u167 u168 u169 u170 u171 u172 u173 u174 u175 hcut
   exact REST.out
end Go.Proofs.Ytggjdcijplgpdaa.H
