import Derived.Test.YtggjdcijplgpdaazFStocksEPutB
import Derived.Test.YtggjdcijplgpdaazFStocksEAddP
import Derived.Test.YtggjdcijplgpdaazFStocksENeedC
import Derived.Test.YtggjdcijplgpdaazFStocksEDAll
import Derived.Test.YtggjdcijplgpdaazFStocksEDay2
import Derived.Test.YtggjdcijplgpdaazFStocksELayG
import Derived.Test.YtggjdcijplgpdaazFStocksEHOk
import Derived.Test.YtggjdcijplgpdaazFStocksEInH
import Derived.Test.YtggjdcijplgpdaazFStocksEKCode
import Derived.Test.YtggjdcijplgpdaazFStocksEVHF
import Derived.Test.YtggjdcijplgpdaazFStocksEMarkSt
import Derived.Test.YtggjdcijplgpdaazFStocksH12
import Derived.Test.YtggjdcijplgpdaazFStocksEDayOf
import Derived.Test.YtggjdcijplgpdaazFStocksECloneSt
import Derived.Test.YtggjdcijplgpdaazFStocksH1
import Derived.Test.YtggjdcijplgpdaazFStocksH19
import Derived.Shelf.Abstract
import Derived.Deep.QuietTactic
import Derived.BigQuiet
namespace Go.Proofs.Ytggjdcijplgpdaa.H
open Go.RowKit Go.Proofs.YtggjdcijplgpdaaW.PrintWords Go.Proofs.YtggjdcijplgpdaaW.PrintLast Go.Proofs.YtggjdcijplgpdaaW.PrintMore
attribute [local go_sem] max2_int min2_int max_two min_two max_three min_three max_four min_four
set_option linter.unusedVariables false
set_option linter.unusedSimpArgs false
theorem row_free {W : World} {g cap : Nat} {l : List S55} (h : RowSt W g cap l) (i : Nat) : W.frozen? ⟨g, i, none⟩ = false := by
 obtain ⟨cs, hh, _⟩ := h.blk
 exact blk_frozen hh i
set_option maxHeartbeats 8000000 in
set_option maxRecDepth 100000 in
theorem mendRags_no (w : World) (A0 : Option Addr) (c0 : Nat) (l : List S55) (a1 a2 a3 : Int) (hr : Kd.C k55 w A0 l.length l) (hc : l.length ≤ c0) (hrow : RowAt w A0 l) (h : FitH l a1 a2 a3) (u : Nat) (hu : u < 8) (hR : ¬ 1 ≤ (l.getD 0 z55).at_ 24) :
 Calls Try.prog 36 #[.agg #[.slice A0 l.length c0, .int .i16 a1, .int .i8 a2, .int .i16 a3], .int .i64 0, .int .i64 1, .int .i64 ((u : Int) + 1)] w fun e w' => e = .returned (.tuple #[.agg #[.slice none 0 0, .int .i16 0, .int .i8 0, .int .i16 0], .int .i64 4]) ∧ Below w.heap.size w w' := by
 have hu32 := Try.underlying32
 have hu53 := Try.underlying53
 have hu55 := Try.underlying55
 have mixed : Try.prog.follows .mixedOrders = true := by kernel_rfl
 have HP := Aside0.mk h.pos
 have HK := Aside0.mk (fun (w' : World) (hb : Below w.heap.size w w') => impl_kindCode.calls 3 A0 c0 l a1 a2 a3 0 1 0 w' (Kd.C_below hr hb) hc (kindCode_ok h (by omega)))
 have HI := Aside0.mk (fun (w : World) => impl_within.calls ((u : Int) + 1) 1 8 true w (by rw [within_B, inB_of (by omega)]))
 have HN := Aside0.mk (fun (w : World) => impl_unless.calls true 2 0 w rfl)
 have HF1 := Aside0.mk (fun (A : Option Addr) (c : Nat) (w : World) (hr : Kd.C (Kd.int .i64) w A ([0, 0] : List Int).length [0, 0]) (hc : ([0, 0] : List Int).length ≤ c) => impl_firstOf.calls 3 A c [0, 0] 0 w hr hc (firstOf_two 0 0))
 have HO := Aside0.mk (fun (w' : World) (hb : Below w.heap.size w w') => impl_House_own.calls A0 c0 l a1 a2 a3 l a1 a2 a3 w' (Kd.C_below hr hb) hc (own_ok h))
 obtain ⟨s, hs⟩ : ∃ s, l.getD 0 z55 = s := ⟨_, rfl⟩
 have hfs : FitSt s := by rw [← hs]; exact h.st.at_ h.pos
 rw [hs] at hR
 obtain ⟨R, hR24⟩ : ∃ R, s.at_ 24 = R := ⟨_, rfl⟩
 have b3 := at_pos hfs 24
 have b4 := at_le hfs 24
 rw [hR24] at hR b3 b4
 have hwr : wrap64 R = R := w64i (by omega) (by omega)
 have HS := Aside0.mk hs
 have HR24 := Aside0.mk hR24
 have hlt : R < 1 := by omega
 have hltb : decide (R < 1) = true := decide_eq_true hlt
 clear hr hc h hfs b3 b4 hs hR24 hR
 clear hrow
 have hpos := HP.out
 have hposz : 0 < (l.length : Int) := by omega
 go_enter Try.func36, Try.ntmps36
 have ST0 := Aside0.mk True.intro
 go_wp2_with (first
  | (have s_ := ST0; (with_reducible refine gate_dst (N := 4) rfl ?_); refine box_event ?hg (N := 4) ?hd (cs := #[.slice A0 l.length c0, .int .i16 a1, .int .i8 a2, .int .i16 a3]) (t := 32) ?hr ?_; (case hd => rfl); (case hg => rfl); (case hr => first | (go_simp; done) | (go_simp; rfl)); intro gh hg_ w1 hbox hb; have GBH := Aside0.mk (by rw [hg_]; exact Nat.le_refl _ : w.heap.size ≤ gh); have HB := Aside0.mk hb; have BH := Aside0.mk hbox; clear hb hbox hg_; have qBH0 : w1.cell? ⟨gh, 0, none⟩ = some (.slice A0 l.length c0) := (blk_cell BH.out 0).trans rfl; have qBH1 : w1.cell? ⟨gh, 1, none⟩ = some (.int .i16 a1) := (blk_cell BH.out 1).trans rfl; have qBH2 : w1.cell? ⟨gh, 2, none⟩ = some (.int .i8 a2) := (blk_cell BH.out 2).trans rfl; have qBH3 : w1.cell? ⟨gh, 3, none⟩ = some (.int .i16 a3) := (blk_cell BH.out 3).trans rfl; clear ST0 s_; have ST1 := Aside0.mk True.intro)
  | (have s_ := ST1; (with_reducible refine gate_dst (N := 8) rfl ?_); refine box_event ?hg (N := 8) ?hd (cs := #[.slice none 0 0, .int .i16 0, .int .i8 0, .int .i16 0]) (t := 32) ?hr ?_; (case hd => rfl); (case hg => rfl); (case hr => first | (go_simp; done) | (go_simp; rfl)); intro gr hg_ w2 hbox hb; have GBR := Aside0.mk (by rw [hg_]; exact HB.out.size : w.heap.size ≤ gr); have NBH_BR := Aside0.mk (by rw [hg_]; exact Nat.ne_of_lt (blk_lt BH.out) : gh ≠ gr); replace HB := Aside0.mk (below_step HB.out hb); replace BH := Aside0.mk (blk_below BH.out hb); have BR := Aside0.mk hbox; clear hb hbox hg_; clear qBH0 qBH1 qBH2 qBH3; have qBH0 : w2.cell? ⟨gh, 0, none⟩ = some (.slice A0 l.length c0) := (blk_cell BH.out 0).trans rfl; have qBH1 : w2.cell? ⟨gh, 1, none⟩ = some (.int .i16 a1) := (blk_cell BH.out 1).trans rfl; have qBH2 : w2.cell? ⟨gh, 2, none⟩ = some (.int .i8 a2) := (blk_cell BH.out 2).trans rfl; have qBH3 : w2.cell? ⟨gh, 3, none⟩ = some (.int .i16 a3) := (blk_cell BH.out 3).trans rfl; have qBR0 : w2.cell? ⟨gr, 0, none⟩ = some (.slice none 0 0) := (blk_cell BR.out 0).trans rfl; have qBR1 : w2.cell? ⟨gr, 1, none⟩ = some (.int .i16 0) := (blk_cell BR.out 1).trans rfl; have qBR2 : w2.cell? ⟨gr, 2, none⟩ = some (.int .i8 0) := (blk_cell BR.out 2).trans rfl; have qBR3 : w2.cell? ⟨gr, 3, none⟩ = some (.int .i16 0) := (blk_cell BR.out 3).trans rfl; clear ST1 s_; have ST2 := Aside0.mk True.intro)
  | (have s_ := ST2; go_at_call 93; (with_reducible refine (HK.out _ HB.out).mono ?_); rintro e w3 ⟨rfl, hb⟩; replace HB := Aside0.mk (below_step HB.out hb); replace BH := Aside0.mk (blk_below BH.out hb); replace BR := Aside0.mk (blk_below BR.out hb); clear hb; clear qBH0 qBH1 qBH2 qBH3 qBR0 qBR1 qBR2 qBR3; have qBH0 : w3.cell? ⟨gh, 0, none⟩ = some (.slice A0 l.length c0) := (blk_cell BH.out 0).trans rfl; have qBH1 : w3.cell? ⟨gh, 1, none⟩ = some (.int .i16 a1) := (blk_cell BH.out 1).trans rfl; have qBH2 : w3.cell? ⟨gh, 2, none⟩ = some (.int .i8 a2) := (blk_cell BH.out 2).trans rfl; have qBH3 : w3.cell? ⟨gh, 3, none⟩ = some (.int .i16 a3) := (blk_cell BH.out 3).trans rfl; have qBR0 : w3.cell? ⟨gr, 0, none⟩ = some (.slice none 0 0) := (blk_cell BR.out 0).trans rfl; have qBR1 : w3.cell? ⟨gr, 1, none⟩ = some (.int .i16 0) := (blk_cell BR.out 1).trans rfl; have qBR2 : w3.cell? ⟨gr, 2, none⟩ = some (.int .i8 0) := (blk_cell BR.out 2).trans rfl; have qBR3 : w3.cell? ⟨gr, 3, none⟩ = some (.int .i16 0) := (blk_cell BR.out 3).trans rfl; clear ST2 s_; have ST3 := Aside0.mk True.intro)
  | (have s_ := ST3; go_at_call 72; (with_reducible refine (HI.out _).mono ?_); rintro e w4 ⟨rfl, hd⟩; have hb := hd.below; replace HB := Aside0.mk (below_step HB.out hb); replace BH := Aside0.mk (blk_below BH.out hb); replace BR := Aside0.mk (blk_below BR.out hb); clear hb hd; clear qBH0 qBH1 qBH2 qBH3 qBR0 qBR1 qBR2 qBR3; have qBH0 : w4.cell? ⟨gh, 0, none⟩ = some (.slice A0 l.length c0) := (blk_cell BH.out 0).trans rfl; have qBH1 : w4.cell? ⟨gh, 1, none⟩ = some (.int .i16 a1) := (blk_cell BH.out 1).trans rfl; have qBH2 : w4.cell? ⟨gh, 2, none⟩ = some (.int .i8 a2) := (blk_cell BH.out 2).trans rfl; have qBH3 : w4.cell? ⟨gh, 3, none⟩ = some (.int .i16 a3) := (blk_cell BH.out 3).trans rfl; have qBR0 : w4.cell? ⟨gr, 0, none⟩ = some (.slice none 0 0) := (blk_cell BR.out 0).trans rfl; have qBR1 : w4.cell? ⟨gr, 1, none⟩ = some (.int .i16 0) := (blk_cell BR.out 1).trans rfl; have qBR2 : w4.cell? ⟨gr, 2, none⟩ = some (.int .i8 0) := (blk_cell BR.out 2).trans rfl; have qBR3 : w4.cell? ⟨gr, 3, none⟩ = some (.int .i16 0) := (blk_cell BR.out 3).trans rfl; clear ST3 s_; have ST4 := Aside0.mk True.intro)
  | (have s_ := ST4; go_at_call 62; (with_reducible refine (HN.out _).mono ?_); rintro e w5 ⟨rfl, hd⟩; have hb := hd.below; replace HB := Aside0.mk (below_step HB.out hb); replace BH := Aside0.mk (blk_below BH.out hb); replace BR := Aside0.mk (blk_below BR.out hb); clear hb hd; clear qBH0 qBH1 qBH2 qBH3 qBR0 qBR1 qBR2 qBR3; have qBH0 : w5.cell? ⟨gh, 0, none⟩ = some (.slice A0 l.length c0) := (blk_cell BH.out 0).trans rfl; have qBH1 : w5.cell? ⟨gh, 1, none⟩ = some (.int .i16 a1) := (blk_cell BH.out 1).trans rfl; have qBH2 : w5.cell? ⟨gh, 2, none⟩ = some (.int .i8 a2) := (blk_cell BH.out 2).trans rfl; have qBH3 : w5.cell? ⟨gh, 3, none⟩ = some (.int .i16 a3) := (blk_cell BH.out 3).trans rfl; have qBR0 : w5.cell? ⟨gr, 0, none⟩ = some (.slice none 0 0) := (blk_cell BR.out 0).trans rfl; have qBR1 : w5.cell? ⟨gr, 1, none⟩ = some (.int .i16 0) := (blk_cell BR.out 1).trans rfl; have qBR2 : w5.cell? ⟨gr, 2, none⟩ = some (.int .i8 0) := (blk_cell BR.out 2).trans rfl; have qBR3 : w5.cell? ⟨gr, 3, none⟩ = some (.int .i16 0) := (blk_cell BR.out 3).trans rfl; clear ST4 s_; have ST5 := Aside0.mk True.intro)
  | (have s_ := ST5; (with_reducible refine gate_dst (N := 20) rfl ?_); refine Kd.R_lit (Kd.int .i64) _ 2 ?hg (N := 20) ?hd (xs := ([0, 0] : List Int)) (inner := [.int .i64 0, .int .i64 0]) (ok := fun _ => True) (okp := fun _ => True) ?hr ?hp (fun _ hk => hk) trivial (Below.refl _ _) (Nat.le_refl _) (by simp) ?_; (case hd => rfl); (case hg => rfl); (case hr => first | (go_simp; done) | (go_simp; rfl)); (case hp => exact (Reps.one (show Kd.M (Kd.int .i64) _ _ _ 0 [.int .i64 0] from rfl) (Reps.one (show Kd.M (Kd.int .i64) _ _ _ 0 [.int .i64 0] from rfl) (Reps.none _ _)))); intro v_ w6 ho_ hb hg_ hnew_; clear hg_ hnew_; replace HB := Aside0.mk (below_step HB.out hb); replace BH := Aside0.mk (blk_below BH.out hb); replace BR := Aside0.mk (blk_below BR.out hb); have HL := Aside0.mk ho_; clear ho_ hb; obtain ⟨Al, cl, el⟩ := Kd.R_slice HL.out; subst el; clear qBH0 qBH1 qBH2 qBH3 qBR0 qBR1 qBR2 qBR3; have qBH0 : w6.cell? ⟨gh, 0, none⟩ = some (.slice A0 l.length c0) := (blk_cell BH.out 0).trans rfl; have qBH1 : w6.cell? ⟨gh, 1, none⟩ = some (.int .i16 a1) := (blk_cell BH.out 1).trans rfl; have qBH2 : w6.cell? ⟨gh, 2, none⟩ = some (.int .i8 a2) := (blk_cell BH.out 2).trans rfl; have qBH3 : w6.cell? ⟨gh, 3, none⟩ = some (.int .i16 a3) := (blk_cell BH.out 3).trans rfl; have qBR0 : w6.cell? ⟨gr, 0, none⟩ = some (.slice none 0 0) := (blk_cell BR.out 0).trans rfl; have qBR1 : w6.cell? ⟨gr, 1, none⟩ = some (.int .i16 0) := (blk_cell BR.out 1).trans rfl; have qBR2 : w6.cell? ⟨gr, 2, none⟩ = some (.int .i8 0) := (blk_cell BR.out 2).trans rfl; have qBR3 : w6.cell? ⟨gr, 3, none⟩ = some (.int .i16 0) := (blk_cell BR.out 3).trans rfl; clear ST5 s_; have ST6 := Aside0.mk True.intro)
  | (have s_ := ST6; go_at_call 61; refine (HF1.out Al cl _ (Kd.R_reads' HL.out).2.2 (Kd.R_reads' HL.out).2.1).mono ?_; rintro e w7 ⟨rfl, hd⟩; have hb := hd.below; replace HB := Aside0.mk (below_step HB.out hb); replace BH := Aside0.mk (blk_below BH.out hb); replace BR := Aside0.mk (blk_below BR.out hb); clear hb hd; clear HL; clear qBH0 qBH1 qBH2 qBH3 qBR0 qBR1 qBR2 qBR3; have qBH0 : w7.cell? ⟨gh, 0, none⟩ = some (.slice A0 l.length c0) := (blk_cell BH.out 0).trans rfl; have qBH1 : w7.cell? ⟨gh, 1, none⟩ = some (.int .i16 a1) := (blk_cell BH.out 1).trans rfl; have qBH2 : w7.cell? ⟨gh, 2, none⟩ = some (.int .i8 a2) := (blk_cell BH.out 2).trans rfl; have qBH3 : w7.cell? ⟨gh, 3, none⟩ = some (.int .i16 a3) := (blk_cell BH.out 3).trans rfl; have qBR0 : w7.cell? ⟨gr, 0, none⟩ = some (.slice none 0 0) := (blk_cell BR.out 0).trans rfl; have qBR1 : w7.cell? ⟨gr, 1, none⟩ = some (.int .i16 0) := (blk_cell BR.out 1).trans rfl; have qBR2 : w7.cell? ⟨gr, 2, none⟩ = some (.int .i8 0) := (blk_cell BR.out 2).trans rfl; have qBR3 : w7.cell? ⟨gr, 3, none⟩ = some (.int .i16 0) := (blk_cell BR.out 3).trans rfl; clear ST6 s_; have ST7 := Aside0.mk True.intro)
  | (have s_ := ST7; go_at_call 64; (with_reducible refine (HO.out _ HB.out).mono ?_); rintro e w8 ⟨v8, rfl, hR, hb⟩; have RW := Aside0.mk (Kd.R_lower hR HB.out.size); replace HB := Aside0.mk (below_step HB.out hb); replace BH := Aside0.mk (blk_below BH.out hb); replace BR := Aside0.mk (blk_below BR.out hb); clear hb hR; obtain ⟨g2, cap, e8, hg2, _, hrow⟩ := row_of_R RW.out HP.out; subst e8; have RS := Aside0.mk hrow; have G2 := Aside0.mk hg2; clear hrow hg2 RW; clear qBH0 qBH1 qBH2 qBH3 qBR0 qBR1 qBR2 qBR3; have qBH0 : w8.cell? ⟨gh, 0, none⟩ = some (.slice A0 l.length c0) := (blk_cell BH.out 0).trans rfl; have qBH1 : w8.cell? ⟨gh, 1, none⟩ = some (.int .i16 a1) := (blk_cell BH.out 1).trans rfl; have qBH2 : w8.cell? ⟨gh, 2, none⟩ = some (.int .i8 a2) := (blk_cell BH.out 2).trans rfl; have qBH3 : w8.cell? ⟨gh, 3, none⟩ = some (.int .i16 a3) := (blk_cell BH.out 3).trans rfl; have qBR0 : w8.cell? ⟨gr, 0, none⟩ = some (.slice none 0 0) := (blk_cell BR.out 0).trans rfl; have qBR1 : w8.cell? ⟨gr, 1, none⟩ = some (.int .i16 0) := (blk_cell BR.out 1).trans rfl; have qBR2 : w8.cell? ⟨gr, 2, none⟩ = some (.int .i8 0) := (blk_cell BR.out 2).trans rfl; have qBR3 : w8.cell? ⟨gr, 3, none⟩ = some (.int .i16 0) := (blk_cell BR.out 3).trans rfl; clear ST7 s_; have ST8 := Aside0.mk True.intro)
  | (have s_ := ST8; (with_reducible refine gate_dst (N := 11) rfl ?_); refine box_event ?hg (N := 11) ?hd (cs := #[.slice none 0 0, .int .i16 0, .int .i8 0, .int .i16 0]) (t := 32) ?hr ?_; (case hd => rfl); (case hg => rfl); (case hr => first | (go_simp; done) | (go_simp; rfl)); intro go hg_ w9 hbox hb; have GBO := Aside0.mk (by rw [hg_]; exact HB.out.size : w.heap.size ≤ go); have NBH_BO := Aside0.mk (by rw [hg_]; exact Nat.ne_of_lt (blk_lt BH.out) : gh ≠ go); have NBR_BO := Aside0.mk (by rw [hg_]; exact Nat.ne_of_lt (blk_lt BR.out) : gr ≠ go); replace HB := Aside0.mk (below_step HB.out hb); replace BH := Aside0.mk (blk_below BH.out hb); replace BR := Aside0.mk (blk_below BR.out hb); replace RS := Aside0.mk (RS.out.move (hb.block _ RS.out.lt)); have BO := Aside0.mk hbox; clear hb hbox hg_; clear qBH0 qBH1 qBH2 qBH3 qBR0 qBR1 qBR2 qBR3; have qBH0 : w9.cell? ⟨gh, 0, none⟩ = some (.slice A0 l.length c0) := (blk_cell BH.out 0).trans rfl; have qBH1 : w9.cell? ⟨gh, 1, none⟩ = some (.int .i16 a1) := (blk_cell BH.out 1).trans rfl; have qBH2 : w9.cell? ⟨gh, 2, none⟩ = some (.int .i8 a2) := (blk_cell BH.out 2).trans rfl; have qBH3 : w9.cell? ⟨gh, 3, none⟩ = some (.int .i16 a3) := (blk_cell BH.out 3).trans rfl; have qBR0 : w9.cell? ⟨gr, 0, none⟩ = some (.slice none 0 0) := (blk_cell BR.out 0).trans rfl; have qBR1 : w9.cell? ⟨gr, 1, none⟩ = some (.int .i16 0) := (blk_cell BR.out 1).trans rfl; have qBR2 : w9.cell? ⟨gr, 2, none⟩ = some (.int .i8 0) := (blk_cell BR.out 2).trans rfl; have qBR3 : w9.cell? ⟨gr, 3, none⟩ = some (.int .i16 0) := (blk_cell BR.out 3).trans rfl; have qBO0 : w9.cell? ⟨go, 0, none⟩ = some (.slice none 0 0) := (blk_cell BO.out 0).trans rfl; have qBO1 : w9.cell? ⟨go, 1, none⟩ = some (.int .i16 0) := (blk_cell BO.out 1).trans rfl; have qBO2 : w9.cell? ⟨go, 2, none⟩ = some (.int .i8 0) := (blk_cell BO.out 2).trans rfl; have qBO3 : w9.cell? ⟨go, 3, none⟩ = some (.int .i16 0) := (blk_cell BO.out 3).trans rfl; have fBO0 : w9.frozen? ⟨go, 0, none⟩ = false := blk_frozen BO.out 0; have fBO1 : w9.frozen? ⟨go, 1, none⟩ = false := blk_frozen BO.out 1; have fBO2 : w9.frozen? ⟨go, 2, none⟩ = false := blk_frozen BO.out 2; have fBO3 : w9.frozen? ⟨go, 3, none⟩ = false := blk_frozen BO.out 3; clear ST8 s_; have ST9 := Aside0.mk True.intro)
  | (have s_ := ST9; (with_reducible refine gate_store (t := 32) (p := 11) rfl ?_); refine store_event (t := 32) (p := 11) (v := ?vo_w10) (w1 := ((((w9.setCell ⟨go, 0, none⟩ (.slice (some ⟨g2, 0, none⟩) l.length cap)).setCell ⟨go, 1, none⟩ (.int .i16 a1)).setCell ⟨go, 2, none⟩ (.int .i8 a2)).setCell ⟨go, 3, none⟩ (.int .i16 a3))) ?hg ?ho ?hn ?hr ?_; (case ho => rfl); (case hg => rfl); (case hn => rfl); (case hr => first | (go_simp; done) | (go_simp; rfl)); intro w10 hw; have hg : w9.grownBy w10 (some go) := (by rw [hw]; exact put4_grown True.intro True.intro); have hnew : w10.heap[go]? = some (.cells #[.slice (some ⟨g2, 0, none⟩) l.length cap, .int .i16 a1, .int .i8 a2, .int .i16 a3] 32 (0, 0)) := (by rw [hw]; exact put4_blk BO.out); clear hw; replace HB := Aside0.mk (below_grown HB.out hg (fun k_ e_ => by injection e_ with e_; subst e_; exact GBO.out)); replace BH := Aside0.mk (blk_grown BH.out hg (fun e_ => by injection e_ with e_; exact NBH_BO.out e_)); replace BR := Aside0.mk (blk_grown BR.out hg (fun e_ => by injection e_ with e_; exact NBR_BO.out e_)); replace RS := Aside0.mk (RS.out.move (hg.block _ RS.out.lt (fun e_ => blk_ne RS.out.blk.choose_spec.1 BO.out (by decide) (by injection e_)))); replace BO := Aside0.mk (hnew); clear hg hnew; clear qBH0 qBH1 qBH2 qBH3 qBR0 qBR1 qBR2 qBR3 qBO0 qBO1 qBO2 qBO3 fBO0 fBO1 fBO2 fBO3; have qBH0 : w10.cell? ⟨gh, 0, none⟩ = some (.slice A0 l.length c0) := (blk_cell BH.out 0).trans rfl; have qBH1 : w10.cell? ⟨gh, 1, none⟩ = some (.int .i16 a1) := (blk_cell BH.out 1).trans rfl; have qBH2 : w10.cell? ⟨gh, 2, none⟩ = some (.int .i8 a2) := (blk_cell BH.out 2).trans rfl; have qBH3 : w10.cell? ⟨gh, 3, none⟩ = some (.int .i16 a3) := (blk_cell BH.out 3).trans rfl; have qBR0 : w10.cell? ⟨gr, 0, none⟩ = some (.slice none 0 0) := (blk_cell BR.out 0).trans rfl; have qBR1 : w10.cell? ⟨gr, 1, none⟩ = some (.int .i16 0) := (blk_cell BR.out 1).trans rfl; have qBR2 : w10.cell? ⟨gr, 2, none⟩ = some (.int .i8 0) := (blk_cell BR.out 2).trans rfl; have qBR3 : w10.cell? ⟨gr, 3, none⟩ = some (.int .i16 0) := (blk_cell BR.out 3).trans rfl; have qBO0 : w10.cell? ⟨go, 0, none⟩ = some (.slice (some ⟨g2, 0, none⟩) l.length cap) := (blk_cell BO.out 0).trans rfl; have qBO1 : w10.cell? ⟨go, 1, none⟩ = some (.int .i16 a1) := (blk_cell BO.out 1).trans rfl; have qBO2 : w10.cell? ⟨go, 2, none⟩ = some (.int .i8 a2) := (blk_cell BO.out 2).trans rfl; have qBO3 : w10.cell? ⟨go, 3, none⟩ = some (.int .i16 a3) := (blk_cell BO.out 3).trans rfl; have E24 := elem0 RS.out HP.out HS.out 24 (by decide); have cr_ : w10.cell? ⟨g2, 24, none⟩ = some (.int .i32 R) := (by rw [HR24.out] at E24; exact E24); clear E24; have fr0 : w10.frozen? ⟨gr, 0, none⟩ = false := blk_frozen BR.out 0; have fr1 : w10.frozen? ⟨gr, 1, none⟩ = false := blk_frozen BR.out 1; have fr2 : w10.frozen? ⟨gr, 2, none⟩ = false := blk_frozen BR.out 2; have fr3 : w10.frozen? ⟨gr, 3, none⟩ = false := blk_frozen BR.out 3; clear ST9 s_; have ST10 := Aside0.mk True.intro))
 refine bodyPost_ret (results_ct rfl _ _ gr 32 #[.slice none 0 0, .int .i16 0, .int .i8 0, .int .i16 0] (0, 0) _ rfl (put4_blk BR.out) Try.underlying32 rfl (by kernel_rfl)) rfl ?_
 exact ⟨rfl, put4_below HB.out GBR.out⟩
set_option maxHeartbeats 8000000 in
set_option maxRecDepth 100000 in
theorem mendRags_ok (w : World) (A0 : Option Addr) (c0 : Nat) (l : List S55) (a1 a2 a3 : Int) (hr : Kd.C k55 w A0 l.length l) (hc : l.length ≤ c0) (hrow : RowAt w A0 l) (h : FitH l a1 a2 a3) (u : Nat) (hu : u < 8) (hR : 1 ≤ (l.getD 0 z55).at_ 24) (s2 : S55) (hs2 : (((l.getD 0 z55).put 24 ((l.getD 0 z55).at_ 24 - 1)).put u (((l.getD 0 z55).put 24 ((l.getD 0 z55).at_ 24 - 1)).at_ u + 1)) = s2) :
 Calls Try.prog 36 #[.agg #[.slice A0 l.length c0, .int .i16 a1, .int .i8 a2, .int .i16 a3], .int .i64 0, .int .i64 1, .int .i64 ((u : Int) + 1)] w fun e w' => ∃ v0 : Value, e = .returned (.tuple #[.agg #[v0, .int .i16 a1, .int .i8 a2, .int .i16 a3], .int .i64 0]) ∧ Kd.R k55 55 w' w.heap.size (fun _ => True) v0 (l.set 0 s2) ∧ Below w.heap.size w w' := by
 have hu32 := Try.underlying32
 have hu53 := Try.underlying53
 have hu55 := Try.underlying55
 have mixed : Try.prog.follows .mixedOrders = true := by kernel_rfl
 have HP := Aside0.mk h.pos
 have HK := Aside0.mk (fun (w' : World) (hb : Below w.heap.size w w') => impl_kindCode.calls 3 A0 c0 l a1 a2 a3 0 1 0 w' (Kd.C_below hr hb) hc (kindCode_ok h (by omega)))
 have HI := Aside0.mk (fun (w : World) => impl_within.calls ((u : Int) + 1) 1 8 true w (by rw [within_B, inB_of (by omega)]))
 have HN := Aside0.mk (fun (w : World) => impl_unless.calls true 2 0 w rfl)
 have HF1 := Aside0.mk (fun (A : Option Addr) (c : Nat) (w : World) (hr : Kd.C (Kd.int .i64) w A ([0, 0] : List Int).length [0, 0]) (hc : ([0, 0] : List Int).length ≤ c) => impl_firstOf.calls 3 A c [0, 0] 0 w hr hc (firstOf_two 0 0))
 have HO := Aside0.mk (fun (w' : World) (hb : Below w.heap.size w w') => impl_House_own.calls A0 c0 l a1 a2 a3 l a1 a2 a3 w' (Kd.C_below hr hb) hc (own_ok h))
 obtain ⟨s, hs⟩ : ∃ s, l.getD 0 z55 = s := ⟨_, rfl⟩
 have hfs : FitSt s := by rw [← hs]; exact h.st.at_ h.pos
 rw [hs] at hR hs2
 obtain ⟨R, hR24⟩ : ∃ R, s.at_ 24 = R := ⟨_, rfl⟩
 have b3 := at_pos hfs 24
 have b4 := at_le hfs 24
 rw [hR24] at hR b3 b4 hs2
 have hwr : wrap64 R = R := w64i (by omega) (by omega)
 have HS := Aside0.mk hs
 have HR24 := Aside0.mk hR24
 obtain ⟨s1, hs1⟩ : ∃ s1, s.put 24 (R - 1) = s1 := ⟨_, rfl⟩
 rw [hs1] at hs2
 obtain ⟨C, hCu⟩ : ∃ C, s1.at_ u = C := ⟨_, rfl⟩
 rw [hCu] at hs2
 have hsu : s1.at_ u = s.at_ u := by rw [← hs1, S55.put_at _ _ _ _ (by decide), if_neg (by omega)]
 have b1 := at_pos hfs u
 have b2 := at_le hfs u
 rw [← hsu, hCu] at b1 b2
 have hlt : ¬ R < 1 := by omega
 have hltb : decide (R < 1) = false := decide_eq_false hlt
 have hw1 : IntKind.i16.wrap 1 = 1 := wrap16_id (by omega) (by omega)
 have hw2 : IntKind.i16.wrap (C + 1) = C + 1 := wrap16_id (by omega) (by omega)
 have hw3 : IntKind.i32.wrap 1 = 1 := wrap32_id (by omega) (by omega)
 have hw4 : IntKind.i32.wrap (R - 1) = R - 1 := wrap32_id (by omega) (by omega)
 have hw3' : wrap32 1 = 1 := (i32_w _).symm.trans hw3
 have hw4' : wrap32 (R - 1) = R - 1 := (i32_w _).symm.trans hw4
 have hw5 : wrap64 ((u : Int) + 1 - 1) = (u : Int) := (w64i (by omega) (by omega)).trans (by omega)
 have hw6 : wrap64 (u : Int) = (u : Int) := w64i (by omega) (by omega)
 have HS1 := Aside0.mk hs1
 have HS2 := Aside0.mk hs2
 have HCU := Aside0.mk hCu
 have HU := Aside0.mk hu
 clear hr hc h hfs hs2 hsu b1 b2 b3 b4 hs1 hCu hs hR24 hR
 clear hrow
 have hpos := HP.out
 have hposz : 0 < (l.length : Int) := by omega
 go_enter Try.func36, Try.ntmps36
 have ST0 := Aside0.mk True.intro
 go_wp2_with (first
  | (have s_ := ST0; (with_reducible refine gate_dst (N := 4) rfl ?_); refine box_event ?hg (N := 4) ?hd (cs := #[.slice A0 l.length c0, .int .i16 a1, .int .i8 a2, .int .i16 a3]) (t := 32) ?hr ?_; (case hd => rfl); (case hg => rfl); (case hr => first | (go_simp; done) | (go_simp; rfl)); intro gh hg_ w1 hbox hb; have GBH := Aside0.mk (by rw [hg_]; exact Nat.le_refl _ : w.heap.size ≤ gh); have HB := Aside0.mk hb; have BH := Aside0.mk hbox; clear hb hbox hg_; have qBH0 : w1.cell? ⟨gh, 0, none⟩ = some (.slice A0 l.length c0) := (blk_cell BH.out 0).trans rfl; have qBH1 : w1.cell? ⟨gh, 1, none⟩ = some (.int .i16 a1) := (blk_cell BH.out 1).trans rfl; have qBH2 : w1.cell? ⟨gh, 2, none⟩ = some (.int .i8 a2) := (blk_cell BH.out 2).trans rfl; have qBH3 : w1.cell? ⟨gh, 3, none⟩ = some (.int .i16 a3) := (blk_cell BH.out 3).trans rfl; clear ST0 s_; have ST1 := Aside0.mk True.intro)
  | (have s_ := ST1; (with_reducible refine gate_dst (N := 8) rfl ?_); refine box_event ?hg (N := 8) ?hd (cs := #[.slice none 0 0, .int .i16 0, .int .i8 0, .int .i16 0]) (t := 32) ?hr ?_; (case hd => rfl); (case hg => rfl); (case hr => first | (go_simp; done) | (go_simp; rfl)); intro gr hg_ w2 hbox hb; have GBR := Aside0.mk (by rw [hg_]; exact HB.out.size : w.heap.size ≤ gr); have NBH_BR := Aside0.mk (by rw [hg_]; exact Nat.ne_of_lt (blk_lt BH.out) : gh ≠ gr); replace HB := Aside0.mk (below_step HB.out hb); replace BH := Aside0.mk (blk_below BH.out hb); have BR := Aside0.mk hbox; clear hb hbox hg_; clear qBH0 qBH1 qBH2 qBH3; have qBH0 : w2.cell? ⟨gh, 0, none⟩ = some (.slice A0 l.length c0) := (blk_cell BH.out 0).trans rfl; have qBH1 : w2.cell? ⟨gh, 1, none⟩ = some (.int .i16 a1) := (blk_cell BH.out 1).trans rfl; have qBH2 : w2.cell? ⟨gh, 2, none⟩ = some (.int .i8 a2) := (blk_cell BH.out 2).trans rfl; have qBH3 : w2.cell? ⟨gh, 3, none⟩ = some (.int .i16 a3) := (blk_cell BH.out 3).trans rfl; have qBR0 : w2.cell? ⟨gr, 0, none⟩ = some (.slice none 0 0) := (blk_cell BR.out 0).trans rfl; have qBR1 : w2.cell? ⟨gr, 1, none⟩ = some (.int .i16 0) := (blk_cell BR.out 1).trans rfl; have qBR2 : w2.cell? ⟨gr, 2, none⟩ = some (.int .i8 0) := (blk_cell BR.out 2).trans rfl; have qBR3 : w2.cell? ⟨gr, 3, none⟩ = some (.int .i16 0) := (blk_cell BR.out 3).trans rfl; clear ST1 s_; have ST2 := Aside0.mk True.intro)
  | (have s_ := ST2; go_at_call 93; (with_reducible refine (HK.out _ HB.out).mono ?_); rintro e w3 ⟨rfl, hb⟩; replace HB := Aside0.mk (below_step HB.out hb); replace BH := Aside0.mk (blk_below BH.out hb); replace BR := Aside0.mk (blk_below BR.out hb); clear hb; clear qBH0 qBH1 qBH2 qBH3 qBR0 qBR1 qBR2 qBR3; have qBH0 : w3.cell? ⟨gh, 0, none⟩ = some (.slice A0 l.length c0) := (blk_cell BH.out 0).trans rfl; have qBH1 : w3.cell? ⟨gh, 1, none⟩ = some (.int .i16 a1) := (blk_cell BH.out 1).trans rfl; have qBH2 : w3.cell? ⟨gh, 2, none⟩ = some (.int .i8 a2) := (blk_cell BH.out 2).trans rfl; have qBH3 : w3.cell? ⟨gh, 3, none⟩ = some (.int .i16 a3) := (blk_cell BH.out 3).trans rfl; have qBR0 : w3.cell? ⟨gr, 0, none⟩ = some (.slice none 0 0) := (blk_cell BR.out 0).trans rfl; have qBR1 : w3.cell? ⟨gr, 1, none⟩ = some (.int .i16 0) := (blk_cell BR.out 1).trans rfl; have qBR2 : w3.cell? ⟨gr, 2, none⟩ = some (.int .i8 0) := (blk_cell BR.out 2).trans rfl; have qBR3 : w3.cell? ⟨gr, 3, none⟩ = some (.int .i16 0) := (blk_cell BR.out 3).trans rfl; clear ST2 s_; have ST3 := Aside0.mk True.intro)
  | (have s_ := ST3; go_at_call 72; (with_reducible refine (HI.out _).mono ?_); rintro e w4 ⟨rfl, hd⟩; have hb := hd.below; replace HB := Aside0.mk (below_step HB.out hb); replace BH := Aside0.mk (blk_below BH.out hb); replace BR := Aside0.mk (blk_below BR.out hb); clear hb hd; clear qBH0 qBH1 qBH2 qBH3 qBR0 qBR1 qBR2 qBR3; have qBH0 : w4.cell? ⟨gh, 0, none⟩ = some (.slice A0 l.length c0) := (blk_cell BH.out 0).trans rfl; have qBH1 : w4.cell? ⟨gh, 1, none⟩ = some (.int .i16 a1) := (blk_cell BH.out 1).trans rfl; have qBH2 : w4.cell? ⟨gh, 2, none⟩ = some (.int .i8 a2) := (blk_cell BH.out 2).trans rfl; have qBH3 : w4.cell? ⟨gh, 3, none⟩ = some (.int .i16 a3) := (blk_cell BH.out 3).trans rfl; have qBR0 : w4.cell? ⟨gr, 0, none⟩ = some (.slice none 0 0) := (blk_cell BR.out 0).trans rfl; have qBR1 : w4.cell? ⟨gr, 1, none⟩ = some (.int .i16 0) := (blk_cell BR.out 1).trans rfl; have qBR2 : w4.cell? ⟨gr, 2, none⟩ = some (.int .i8 0) := (blk_cell BR.out 2).trans rfl; have qBR3 : w4.cell? ⟨gr, 3, none⟩ = some (.int .i16 0) := (blk_cell BR.out 3).trans rfl; clear ST3 s_; have ST4 := Aside0.mk True.intro)
  | (have s_ := ST4; go_at_call 62; (with_reducible refine (HN.out _).mono ?_); rintro e w5 ⟨rfl, hd⟩; have hb := hd.below; replace HB := Aside0.mk (below_step HB.out hb); replace BH := Aside0.mk (blk_below BH.out hb); replace BR := Aside0.mk (blk_below BR.out hb); clear hb hd; clear qBH0 qBH1 qBH2 qBH3 qBR0 qBR1 qBR2 qBR3; have qBH0 : w5.cell? ⟨gh, 0, none⟩ = some (.slice A0 l.length c0) := (blk_cell BH.out 0).trans rfl; have qBH1 : w5.cell? ⟨gh, 1, none⟩ = some (.int .i16 a1) := (blk_cell BH.out 1).trans rfl; have qBH2 : w5.cell? ⟨gh, 2, none⟩ = some (.int .i8 a2) := (blk_cell BH.out 2).trans rfl; have qBH3 : w5.cell? ⟨gh, 3, none⟩ = some (.int .i16 a3) := (blk_cell BH.out 3).trans rfl; have qBR0 : w5.cell? ⟨gr, 0, none⟩ = some (.slice none 0 0) := (blk_cell BR.out 0).trans rfl; have qBR1 : w5.cell? ⟨gr, 1, none⟩ = some (.int .i16 0) := (blk_cell BR.out 1).trans rfl; have qBR2 : w5.cell? ⟨gr, 2, none⟩ = some (.int .i8 0) := (blk_cell BR.out 2).trans rfl; have qBR3 : w5.cell? ⟨gr, 3, none⟩ = some (.int .i16 0) := (blk_cell BR.out 3).trans rfl; clear ST4 s_; have ST5 := Aside0.mk True.intro)
  | (have s_ := ST5; (with_reducible refine gate_dst (N := 20) rfl ?_); refine Kd.R_lit (Kd.int .i64) _ 2 ?hg (N := 20) ?hd (xs := ([0, 0] : List Int)) (inner := [.int .i64 0, .int .i64 0]) (ok := fun _ => True) (okp := fun _ => True) ?hr ?hp (fun _ hk => hk) trivial (Below.refl _ _) (Nat.le_refl _) (by simp) ?_; (case hd => rfl); (case hg => rfl); (case hr => first | (go_simp; done) | (go_simp; rfl)); (case hp => exact (Reps.one (show Kd.M (Kd.int .i64) _ _ _ 0 [.int .i64 0] from rfl) (Reps.one (show Kd.M (Kd.int .i64) _ _ _ 0 [.int .i64 0] from rfl) (Reps.none _ _)))); intro v_ w6 ho_ hb hg_ hnew_; clear hg_ hnew_; replace HB := Aside0.mk (below_step HB.out hb); replace BH := Aside0.mk (blk_below BH.out hb); replace BR := Aside0.mk (blk_below BR.out hb); have HL := Aside0.mk ho_; clear ho_ hb; obtain ⟨Al, cl, el⟩ := Kd.R_slice HL.out; subst el; clear qBH0 qBH1 qBH2 qBH3 qBR0 qBR1 qBR2 qBR3; have qBH0 : w6.cell? ⟨gh, 0, none⟩ = some (.slice A0 l.length c0) := (blk_cell BH.out 0).trans rfl; have qBH1 : w6.cell? ⟨gh, 1, none⟩ = some (.int .i16 a1) := (blk_cell BH.out 1).trans rfl; have qBH2 : w6.cell? ⟨gh, 2, none⟩ = some (.int .i8 a2) := (blk_cell BH.out 2).trans rfl; have qBH3 : w6.cell? ⟨gh, 3, none⟩ = some (.int .i16 a3) := (blk_cell BH.out 3).trans rfl; have qBR0 : w6.cell? ⟨gr, 0, none⟩ = some (.slice none 0 0) := (blk_cell BR.out 0).trans rfl; have qBR1 : w6.cell? ⟨gr, 1, none⟩ = some (.int .i16 0) := (blk_cell BR.out 1).trans rfl; have qBR2 : w6.cell? ⟨gr, 2, none⟩ = some (.int .i8 0) := (blk_cell BR.out 2).trans rfl; have qBR3 : w6.cell? ⟨gr, 3, none⟩ = some (.int .i16 0) := (blk_cell BR.out 3).trans rfl; clear ST5 s_; have ST6 := Aside0.mk True.intro)
  | (have s_ := ST6; go_at_call 61; refine (HF1.out Al cl _ (Kd.R_reads' HL.out).2.2 (Kd.R_reads' HL.out).2.1).mono ?_; rintro e w7 ⟨rfl, hd⟩; have hb := hd.below; replace HB := Aside0.mk (below_step HB.out hb); replace BH := Aside0.mk (blk_below BH.out hb); replace BR := Aside0.mk (blk_below BR.out hb); clear hb hd; clear HL; clear qBH0 qBH1 qBH2 qBH3 qBR0 qBR1 qBR2 qBR3; have qBH0 : w7.cell? ⟨gh, 0, none⟩ = some (.slice A0 l.length c0) := (blk_cell BH.out 0).trans rfl; have qBH1 : w7.cell? ⟨gh, 1, none⟩ = some (.int .i16 a1) := (blk_cell BH.out 1).trans rfl; have qBH2 : w7.cell? ⟨gh, 2, none⟩ = some (.int .i8 a2) := (blk_cell BH.out 2).trans rfl; have qBH3 : w7.cell? ⟨gh, 3, none⟩ = some (.int .i16 a3) := (blk_cell BH.out 3).trans rfl; have qBR0 : w7.cell? ⟨gr, 0, none⟩ = some (.slice none 0 0) := (blk_cell BR.out 0).trans rfl; have qBR1 : w7.cell? ⟨gr, 1, none⟩ = some (.int .i16 0) := (blk_cell BR.out 1).trans rfl; have qBR2 : w7.cell? ⟨gr, 2, none⟩ = some (.int .i8 0) := (blk_cell BR.out 2).trans rfl; have qBR3 : w7.cell? ⟨gr, 3, none⟩ = some (.int .i16 0) := (blk_cell BR.out 3).trans rfl; clear ST6 s_; have ST7 := Aside0.mk True.intro)
  | (have s_ := ST7; go_at_call 64; (with_reducible refine (HO.out _ HB.out).mono ?_); rintro e w8 ⟨v8, rfl, hR, hb⟩; have RW := Aside0.mk (Kd.R_lower hR HB.out.size); replace HB := Aside0.mk (below_step HB.out hb); replace BH := Aside0.mk (blk_below BH.out hb); replace BR := Aside0.mk (blk_below BR.out hb); clear hb hR; obtain ⟨g2, cap, e8, hg2, _, hrow⟩ := row_of_R RW.out HP.out; subst e8; have RS := Aside0.mk hrow; have G2 := Aside0.mk hg2; clear hrow hg2 RW; clear qBH0 qBH1 qBH2 qBH3 qBR0 qBR1 qBR2 qBR3; have qBH0 : w8.cell? ⟨gh, 0, none⟩ = some (.slice A0 l.length c0) := (blk_cell BH.out 0).trans rfl; have qBH1 : w8.cell? ⟨gh, 1, none⟩ = some (.int .i16 a1) := (blk_cell BH.out 1).trans rfl; have qBH2 : w8.cell? ⟨gh, 2, none⟩ = some (.int .i8 a2) := (blk_cell BH.out 2).trans rfl; have qBH3 : w8.cell? ⟨gh, 3, none⟩ = some (.int .i16 a3) := (blk_cell BH.out 3).trans rfl; have qBR0 : w8.cell? ⟨gr, 0, none⟩ = some (.slice none 0 0) := (blk_cell BR.out 0).trans rfl; have qBR1 : w8.cell? ⟨gr, 1, none⟩ = some (.int .i16 0) := (blk_cell BR.out 1).trans rfl; have qBR2 : w8.cell? ⟨gr, 2, none⟩ = some (.int .i8 0) := (blk_cell BR.out 2).trans rfl; have qBR3 : w8.cell? ⟨gr, 3, none⟩ = some (.int .i16 0) := (blk_cell BR.out 3).trans rfl; clear ST7 s_; have ST8 := Aside0.mk True.intro)
  | (have s_ := ST8; (with_reducible refine gate_dst (N := 11) rfl ?_); refine box_event ?hg (N := 11) ?hd (cs := #[.slice none 0 0, .int .i16 0, .int .i8 0, .int .i16 0]) (t := 32) ?hr ?_; (case hd => rfl); (case hg => rfl); (case hr => first | (go_simp; done) | (go_simp; rfl)); intro go hg_ w9 hbox hb; have GBO := Aside0.mk (by rw [hg_]; exact HB.out.size : w.heap.size ≤ go); have NBH_BO := Aside0.mk (by rw [hg_]; exact Nat.ne_of_lt (blk_lt BH.out) : gh ≠ go); have NBR_BO := Aside0.mk (by rw [hg_]; exact Nat.ne_of_lt (blk_lt BR.out) : gr ≠ go); replace HB := Aside0.mk (below_step HB.out hb); replace BH := Aside0.mk (blk_below BH.out hb); replace BR := Aside0.mk (blk_below BR.out hb); replace RS := Aside0.mk (RS.out.move (hb.block _ RS.out.lt)); have BO := Aside0.mk hbox; clear hb hbox hg_; clear qBH0 qBH1 qBH2 qBH3 qBR0 qBR1 qBR2 qBR3; have qBH0 : w9.cell? ⟨gh, 0, none⟩ = some (.slice A0 l.length c0) := (blk_cell BH.out 0).trans rfl; have qBH1 : w9.cell? ⟨gh, 1, none⟩ = some (.int .i16 a1) := (blk_cell BH.out 1).trans rfl; have qBH2 : w9.cell? ⟨gh, 2, none⟩ = some (.int .i8 a2) := (blk_cell BH.out 2).trans rfl; have qBH3 : w9.cell? ⟨gh, 3, none⟩ = some (.int .i16 a3) := (blk_cell BH.out 3).trans rfl; have qBR0 : w9.cell? ⟨gr, 0, none⟩ = some (.slice none 0 0) := (blk_cell BR.out 0).trans rfl; have qBR1 : w9.cell? ⟨gr, 1, none⟩ = some (.int .i16 0) := (blk_cell BR.out 1).trans rfl; have qBR2 : w9.cell? ⟨gr, 2, none⟩ = some (.int .i8 0) := (blk_cell BR.out 2).trans rfl; have qBR3 : w9.cell? ⟨gr, 3, none⟩ = some (.int .i16 0) := (blk_cell BR.out 3).trans rfl; have qBO0 : w9.cell? ⟨go, 0, none⟩ = some (.slice none 0 0) := (blk_cell BO.out 0).trans rfl; have qBO1 : w9.cell? ⟨go, 1, none⟩ = some (.int .i16 0) := (blk_cell BO.out 1).trans rfl; have qBO2 : w9.cell? ⟨go, 2, none⟩ = some (.int .i8 0) := (blk_cell BO.out 2).trans rfl; have qBO3 : w9.cell? ⟨go, 3, none⟩ = some (.int .i16 0) := (blk_cell BO.out 3).trans rfl; have fBO0 : w9.frozen? ⟨go, 0, none⟩ = false := blk_frozen BO.out 0; have fBO1 : w9.frozen? ⟨go, 1, none⟩ = false := blk_frozen BO.out 1; have fBO2 : w9.frozen? ⟨go, 2, none⟩ = false := blk_frozen BO.out 2; have fBO3 : w9.frozen? ⟨go, 3, none⟩ = false := blk_frozen BO.out 3; clear ST8 s_; have ST9 := Aside0.mk True.intro)
  | (have s_ := ST9; (with_reducible refine gate_store (t := 32) (p := 11) rfl ?_); refine store_event (t := 32) (p := 11) (v := ?vo_w10) (w1 := ((((w9.setCell ⟨go, 0, none⟩ (.slice (some ⟨g2, 0, none⟩) l.length cap)).setCell ⟨go, 1, none⟩ (.int .i16 a1)).setCell ⟨go, 2, none⟩ (.int .i8 a2)).setCell ⟨go, 3, none⟩ (.int .i16 a3))) ?hg ?ho ?hn ?hr ?_; (case ho => rfl); (case hg => rfl); (case hn => rfl); (case hr => first | (go_simp; done) | (go_simp; rfl)); intro w10 hw; have hg : w9.grownBy w10 (some go) := (by rw [hw]; exact put4_grown True.intro True.intro); have hnew : w10.heap[go]? = some (.cells #[.slice (some ⟨g2, 0, none⟩) l.length cap, .int .i16 a1, .int .i8 a2, .int .i16 a3] 32 (0, 0)) := (by rw [hw]; exact put4_blk BO.out); clear hw; replace HB := Aside0.mk (below_grown HB.out hg (fun k_ e_ => by injection e_ with e_; subst e_; exact GBO.out)); replace BH := Aside0.mk (blk_grown BH.out hg (fun e_ => by injection e_ with e_; exact NBH_BO.out e_)); replace BR := Aside0.mk (blk_grown BR.out hg (fun e_ => by injection e_ with e_; exact NBR_BO.out e_)); replace RS := Aside0.mk (RS.out.move (hg.block _ RS.out.lt (fun e_ => blk_ne RS.out.blk.choose_spec.1 BO.out (by decide) (by injection e_)))); replace BO := Aside0.mk (hnew); clear hg hnew; clear qBH0 qBH1 qBH2 qBH3 qBR0 qBR1 qBR2 qBR3 qBO0 qBO1 qBO2 qBO3 fBO0 fBO1 fBO2 fBO3; have qBH0 : w10.cell? ⟨gh, 0, none⟩ = some (.slice A0 l.length c0) := (blk_cell BH.out 0).trans rfl; have qBH1 : w10.cell? ⟨gh, 1, none⟩ = some (.int .i16 a1) := (blk_cell BH.out 1).trans rfl; have qBH2 : w10.cell? ⟨gh, 2, none⟩ = some (.int .i8 a2) := (blk_cell BH.out 2).trans rfl; have qBH3 : w10.cell? ⟨gh, 3, none⟩ = some (.int .i16 a3) := (blk_cell BH.out 3).trans rfl; have qBR0 : w10.cell? ⟨gr, 0, none⟩ = some (.slice none 0 0) := (blk_cell BR.out 0).trans rfl; have qBR1 : w10.cell? ⟨gr, 1, none⟩ = some (.int .i16 0) := (blk_cell BR.out 1).trans rfl; have qBR2 : w10.cell? ⟨gr, 2, none⟩ = some (.int .i8 0) := (blk_cell BR.out 2).trans rfl; have qBR3 : w10.cell? ⟨gr, 3, none⟩ = some (.int .i16 0) := (blk_cell BR.out 3).trans rfl; have qBO0 : w10.cell? ⟨go, 0, none⟩ = some (.slice (some ⟨g2, 0, none⟩) l.length cap) := (blk_cell BO.out 0).trans rfl; have qBO1 : w10.cell? ⟨go, 1, none⟩ = some (.int .i16 a1) := (blk_cell BO.out 1).trans rfl; have qBO2 : w10.cell? ⟨go, 2, none⟩ = some (.int .i8 a2) := (blk_cell BO.out 2).trans rfl; have qBO3 : w10.cell? ⟨go, 3, none⟩ = some (.int .i16 a3) := (blk_cell BO.out 3).trans rfl; have E24 := elem0 RS.out HP.out HS.out 24 (by decide); have cr_ : w10.cell? ⟨g2, 24, none⟩ = some (.int .i32 R) := (by rw [HR24.out] at E24; exact E24); clear E24; have fr_ : w10.frozen? ⟨g2, 24, none⟩ = false := row_free RS.out _; clear ST9 s_; have ST10 := Aside0.mk True.intro))
 have H0 := Aside0.mk (InH.made BO.out RS.out HB.out)
 have HG1 := Aside0.mk (show (l.set 0 s1).getD 0 z55 = s1 by rw [List.getD_eq_getElem?_getD, List.getElem?_set_self HP.out]; rfl)
 obtain ⟨cs, hC, E0⟩ := elem_of_row H0.out.row HP.out
 rw [HS.out] at E0
 have H := Aside0.mk (show InH w go g2 cap (l.set 0 s1) a1 a2 a3 (w10.setCell ⟨g2, 24, none⟩ (.int .i32 (R - 1))) from H0.out.put_elem hC HP.out (show InSt w10 g2 (0 * 25) 55 cs s1 (w10.setCell ⟨g2, 24, none⟩ (.int .i32 (R - 1))) from HS1.out ▸ E0.put 24 (by decide) (R - 1)))
 have BR2 := Aside0.mk (blk_far (p := ⟨g2, 24, none⟩) BR.out (blk_ne H0.out.row.blk.choose_spec.1 BR.out (by decide)).symm (.int .i32 (R - 1)))
 clear HB BH BO RS H0 BR hC E0 cr_ fr_ hw4 hw4' qBH0 qBH1 qBH2 qBH3 qBR0 qBR1 qBR2 qBR3 qBO0 qBO1 qBO2 qBO3
 generalize w10.setCell ⟨g2, 24, none⟩ (.int .i32 (R - 1)) = wm at H BR2 ⊢
 have BR := BR2
 clear BR2
 have cu : wm.cell? ⟨g2, u, none⟩ = some (.int .i16 C) := by
  have := elem0 H.out.row (by rw [List.length_set]; exact HP.out) HG1.out u (by have := HU.out; omega)
  rw [HCU.out, Nat.zero_add, show encSt u C = .int .i16 C by unfold encSt; rw [if_pos (by have := HU.out; omega)]] at this
  exact this
 have hu0 : 0 ≤ (u : Int) := by omega
 have hu8 : (u : Int) < 8 := by have := HU.out; omega
 refine start_ (n := 14) (S := fun w' => w'.cell? ⟨g2, u, none⟩ = some (.int .i16 C)) (ds := [13]) #[false, false, false, false, false, false, false, false, false, false, false, false, false, false] (by kernel_rfl) rfl rfl (cu) (fun hHeld => ?_)
 have H2 := Aside0.mk (H.out.step (below_drew1 (Below.refl _ _)))
 have BR2 := Aside0.mk (blk_drew BR.out)
 clear H BR cu
 generalize wm.drew = wd at H2 BR2 hHeld ⊢
 have H := H2
 have BR := BR2
 clear H2 BR2
 obtain ⟨cs, hC, E0⟩ := elem_of_row H.out.row (show 0 < (l.set 0 s1).length by rw [List.length_set]; exact HP.out)
 rw [HG1.out] at E0
 have HCS := Aside0.mk hC
 have E := Aside0.mk (show InSt wd g2 0 55 cs s1 wd from E0)
 clear hC E0
 have cu : wd.cell? ⟨g2, u, none⟩ = some (.int .i16 C) := hHeld
 refine pure_ (i := 0) (N := some 49) (v := ?_) (a' := ?_) #[true, false, false, false, false, false, false, false, false, false, false, false, false, false] rfl rfl (by kernel_rfl) (fun _ _ _ h => h) (Or.inl ⟨by rfl, ?_⟩) ?_ ?_
 rotate_left
 · intro w'
   go_simp
   with_reducible rfl
 rotate_left
 · exact putB
 refine pure_ (i := 1) (N := some 50) (v := ?_) (a' := ?_) #[true, true, false, false, false, false, false, false, false, false, false, false, false, false] rfl rfl (by kernel_rfl) (fun _ _ _ h => h) (Or.inl ⟨by rfl, ?_⟩) ?_ ?_
 rotate_left
 · intro w'
   go_simp
   with_reducible rfl
 rotate_left
 · exact putB
 refine pure_ (i := 2) (N := some 51) (v := ?_) (a' := ?_) #[true, true, true, false, false, false, false, false, false, false, false, false, false, false] rfl rfl (by kernel_rfl) (fun _ _ _ h => h) (Or.inl ⟨by rfl, ?_⟩) ?_ ?_
 rotate_left
 · intro w'
   go_simp
   with_reducible rfl
 rotate_left
 · exact putB
 refine pure_ (i := 3) (N := some 52) (v := ?_) (a' := ?_) #[true, true, true, true, false, false, false, false, false, false, false, false, false, false] rfl rfl (by kernel_rfl) (fun _ _ _ h => h) (Or.inl ⟨by rfl, ?_⟩) ?_ ?_
 rotate_left
 · intro w'
   go_simp
   with_reducible rfl
 rotate_left
 · exact putB
 refine pure_ (i := 4) (N := some 53) (v := ?_) (a' := ?_) #[true, true, true, true, true, false, false, false, false, false, false, false, false, false] rfl rfl (by kernel_rfl) (fun _ _ _ h => h) (Or.inl ⟨by rfl, ?_⟩) ?_ ?_
 rotate_left
 · intro w'
   go_simp
   with_reducible rfl
 rotate_left
 · exact putB
 refine pure_ (i := 5) (N := some 54) (v := ?_) (a' := ?_) #[true, true, true, true, true, true, false, false, false, false, false, false, false, false] rfl rfl (by kernel_rfl) (fun _ _ _ h => h) (Or.inl ⟨by rfl, ?_⟩) ?_ ?_
 rotate_left
 · intro w'
   go_simp
   with_reducible rfl
 rotate_left
 · exact putB
 refine pure_ (i := 7) (N := some 56) (v := ?_) (a' := ?_) #[true, true, true, true, true, true, false, true, false, false, false, false, false, false] rfl rfl (by kernel_rfl) (fun _ _ _ h => h) (Or.inl ⟨by rfl, ?_⟩) ?_ ?_
 rotate_left
 · intro w'
   go_simp
   with_reducible rfl
 rotate_left
 · exact putB
 refine pure_ (i := 8) (N := some 57) (v := ?_) (a' := ?_) #[true, true, true, true, true, true, false, true, true, false, false, false, false, false] rfl rfl (by kernel_rfl) (fun _ _ _ h => h) (Or.inl ⟨by rfl, ?_⟩) ?_ ?_
 rotate_left
 · intro w'
   go_simp
   with_reducible rfl
 rotate_left
 · exact putB
 refine pure_ (i := 10) (N := some 59) (v := ?_) (a' := ?_) #[true, true, true, true, true, true, false, true, true, false, true, false, false, false] rfl rfl (by kernel_rfl) (fun _ _ _ h => h) (Or.inl ⟨by rfl, ?_⟩) ?_ ?_
 rotate_left
 · intro w'
   go_simp
   with_reducible rfl
 rotate_left
 · exact putB
 refine pure_ (i := 11) (N := some 60) (v := ?_) (a' := ?_) #[true, true, true, true, true, true, false, true, true, false, true, true, false, false] rfl rfl (by kernel_rfl) (fun _ _ _ h => h) (Or.inl ⟨by rfl, ?_⟩) ?_ ?_
 rotate_left
 · intro w'
   go_simp
   with_reducible rfl
 rotate_left
 · exact putB
 refine take_ (i := 6) (N := some 55) (v := ?_) (a' := ?_) #[true, true, true, true, true, true, true, true, true, false, true, true, false, false] rfl rfl (by kernel_rfl) (fun _ _ _ h => h) (Or.inl ⟨by rfl, ?_⟩) hHeld ?_ ?_
 rotate_left
 · intro w' s0
   go_simp
   with_reducible rfl
 rotate_left
 · exact putB
 refine pure_ (i := 9) (N := some 58) (v := ?_) (a' := ?_) #[true, true, true, true, true, true, true, true, true, true, true, true, false, false] rfl rfl (by kernel_rfl) (fun _ _ _ h => h) (Or.inl ⟨by rfl, ?_⟩) ?_ ?_
 rotate_left
 · intro w'
   go_simp
   with_reducible rfl
 rotate_left
 · exact putB
 refine pure_ (i := 12) (N := some 61) (v := ?_) (a' := ?_) #[true, true, true, true, true, true, true, true, true, true, true, true, true, false] rfl rfl (by kernel_rfl) (fun _ _ _ h => h) (Or.inl ⟨by rfl, ?_⟩) ?_ ?_
 rotate_left
 · intro w'
   go_simp
   with_reducible rfl
 rotate_left
 · exact putB
 refine last_ (i := 13) (N := none) #[true, true, true, true, true, true, true, true, true, true, true, true, true, true] rfl rfl (by kernel_rfl) (by decide) (fun K hK => ?_)
 have hfn : wd.frozen? ⟨g2, u, none⟩ = false := E.out.free _
 have hcn := hHeld
 refine skip_ (w1 := ?_) (by rfl) rfl ?_ ?_
 rotate_left
 · go_simp
   rfl
 refine hK.out _ _ ?_
 clear hK K
 refine done_ (by kernel_rfl) ?_
 have H2 := Aside0.mk (show InH w go g2 cap (l.set 0 s2) a1 a2 a3 (wd.setCell ⟨g2, u, none⟩ (.int .i16 (C + 1))) by
  have hp := E.out.put u (by have := HU.out; omega) (C + 1)
  rw [HS2.out, Nat.zero_add, show encSt u (C + 1) = .int .i16 (C + 1) by unfold encSt; rw [if_pos (by have := HU.out; omega)]] at hp
  have hq := H.out.put_elem (k := 0) HCS.out (by rw [List.length_set]; exact HP.out) (show InSt wd g2 (0 * 25) 55 cs s2 _ from hp)
  rw [List.set_set] at hq
  exact hq)
 have BR2 := Aside0.mk (blk_far (p := ⟨g2, u, none⟩) BR.out (blk_ne H.out.row.blk.choose_spec.1 BR.out (by decide)).symm (.int .i16 (C + 1)))
 clear H E BR hHeld hcn hfn cu hw2 hw5 hw6
 generalize wd.setCell ⟨g2, u, none⟩ (.int .i16 (C + 1)) = we at H2 BR2 ⊢
 have H := H2
 have BR := BR2
 clear H2 BR2
 have d0 : we.cell? ⟨go, 0, none⟩ = some (.slice (some ⟨g2, 0, none⟩) l.length cap) := (H.out.cell 0).trans (by first | rfl | (rw [List.length_set]; rfl))
 have e0 : we.cell? ⟨gr, 0, none⟩ = some (.slice none 0 0) := (blk_cell BR.out 0).trans rfl
 have f0 : we.frozen? ⟨gr, 0, none⟩ = false := blk_frozen BR.out 0
 have d1 : we.cell? ⟨go, 1, none⟩ = some (.int .i16 a1) := (H.out.cell 1).trans (by first | rfl | (rw [List.length_set]; rfl))
 have e1 : we.cell? ⟨gr, 1, none⟩ = some (.int .i16 0) := (blk_cell BR.out 1).trans rfl
 have f1 : we.frozen? ⟨gr, 1, none⟩ = false := blk_frozen BR.out 1
 have d2 : we.cell? ⟨go, 2, none⟩ = some (.int .i8 a2) := (H.out.cell 2).trans (by first | rfl | (rw [List.length_set]; rfl))
 have e2 : we.cell? ⟨gr, 2, none⟩ = some (.int .i8 0) := (blk_cell BR.out 2).trans rfl
 have f2 : we.frozen? ⟨gr, 2, none⟩ = false := blk_frozen BR.out 2
 have d3 : we.cell? ⟨go, 3, none⟩ = some (.int .i16 a3) := (H.out.cell 3).trans (by first | rfl | (rw [List.length_set]; rfl))
 have e3 : we.cell? ⟨gr, 3, none⟩ = some (.int .i16 0) := (blk_cell BR.out 3).trans rfl
 have f3 : we.frozen? ⟨gr, 3, none⟩ = false := blk_frozen BR.out 3
 go_wp2
 refine bodyPost_ret (results_ct rfl _ _ gr 32 #[.slice (some ⟨g2, 0, none⟩) l.length cap, .int .i16 a1, .int .i8 a2, .int .i16 a3] (0, 0) _ rfl (put4_blk BR.out) Try.underlying32 rfl (by kernel_rfl)) rfl ?_
 refine ⟨_, rfl, ?_, put4_below (H.out.below (Below.refl _ _) GBO.out G2.out) GBR.out⟩
 have hR := R_of_row (base := w.heap.size) (ok := fun _ => True) (H.out.row.move (put4_block (g := gr) (x0 := .slice (some ⟨g2, 0, none⟩) l.length cap) (x1 := .int .i16 a1) (x2 := .int .i8 a2) (x3 := .int .i16 a3) _ (blk_ne H.out.row.blk.choose_spec.1 BR.out (by decide)))) G2.out trivial
 rw [List.length_set] at hR
 exact hR
set_option maxHeartbeats 8000000 in
set_option maxRecDepth 100000 in
theorem specMendRags_no (w : World) (A0 : Option Addr) (c0 : Nat) (l : List S55) (a1 a2 a3 : Int) (hr : Kd.C k55 w A0 l.length l) (hc : l.length ≤ c0) (hrow : RowAt w A0 l) (h : FitH l a1 a2 a3) (u : Nat) (hu : u < 8) (hR : ¬ 1 ≤ (l.getD 0 z55).at_ 24) :
 Calls Try.prog 37 #[.agg #[.slice A0 l.length c0, .int .i16 a1, .int .i8 a2, .int .i16 a3], .int .i64 0, .int .i64 1, .int .i64 ((u : Int) + 1)] w fun e w' => e = .returned (.tuple #[.agg #[.slice none 0 0, .int .i16 0, .int .i8 0, .int .i16 0], .int .i64 4]) ∧ Below w.heap.size w w' := by
 have hu32 := Try.underlying32
 have hu53 := Try.underlying53
 have hu55 := Try.underlying55
 have mixed : Try.prog.follows .mixedOrders = true := by kernel_rfl
 have HP := Aside0.mk h.pos
 have HC := Aside0.mk (fun (w : World) => spec_l05Count.calls 1 true w (by rw [l05Count_B, inB_of (by omega)]))
 have HI := Aside0.mk (fun (w : World) => spec_l00In.calls ((u : Int) + 1) 1 8 true w (by rw [l00In_B, inB_of (by omega)]))
 have HK := Aside0.mk (fun (w' : World) (g : Nat) (hb : Below w.heap.size w w') (hs : w'.heap[g]? = some (.cells #[.slice A0 l.length c0, .int .i16 a1, .int .i8 a2, .int .i16 a3] 32 (0, 0))) => asked_walk w' g A0 c0 l a1 a2 a3 hs (hrow.below hb) h)
 have HO := Aside0.mk (fun (w' : World) (g : Nat) (hb : Below w.heap.size w w') (hs : w'.heap[g]? = some (.cells #[.slice A0 l.length c0, .int .i16 a1, .int .i8 a2, .int .i16 a3] 32 (0, 0))) => l05Own_walk w' g A0 c0 l a1 a2 a3 hs (Kd.C_below hr hb) h.four)
 obtain ⟨s, hs⟩ : ∃ s, l.getD 0 z55 = s := ⟨_, rfl⟩
 have hfs : FitSt s := by rw [← hs]; exact h.st.at_ h.pos
 rw [hs] at hR
 obtain ⟨R, hR24⟩ : ∃ R, s.at_ 24 = R := ⟨_, rfl⟩
 have b3 := at_pos hfs 24
 have b4 := at_le hfs 24
 rw [hR24] at hR b3 b4
 have hwr : wrap64 R = R := w64i (by omega) (by omega)
 have HS := Aside0.mk hs
 have HR24 := Aside0.mk hR24
 obtain ⟨g0, cap0, eA, hrow0⟩ := hrow h.pos
 have HCR := Aside0.mk (fun (w' : World) (hb : Below w.heap.size w w') => show w'.cell? ⟨g0, 24, none⟩ = some (.int .i32 R) by
  have := elem0 (hrow0.move (hb.block _ hrow0.lt)) h.pos hs 24 (by decide)
  rw [hR24] at this
  exact this)
 clear hrow hrow0
 subst eA
 have hlt : R < 1 := by omega
 have hltb : decide (R < 1) = true := decide_eq_true hlt
 clear hr hc h hfs b3 b4 hs hR24 hR
 have hpos := HP.out
 have hposz : 0 < (l.length : Int) := by omega
 go_enter Try.func37, Try.ntmps37
 have ST0 := Aside0.mk True.intro
 go_wp2_with (first
  | (have s_ := ST0; (with_reducible refine gate_dst (N := 4) rfl ?_); refine box_event ?hg (N := 4) ?hd (cs := #[.slice (some ⟨g0, 0, none⟩) l.length c0, .int .i16 a1, .int .i8 a2, .int .i16 a3]) (t := 32) ?hr ?_; (case hd => rfl); (case hg => rfl); (case hr => first | (go_simp; done) | (go_simp; rfl)); intro gh hg_ w1 hbox hb; have GBH := Aside0.mk (by rw [hg_]; exact Nat.le_refl _ : w.heap.size ≤ gh); have HB := Aside0.mk hb; have BH := Aside0.mk hbox; clear hb hbox hg_; have qBH0 : w1.cell? ⟨gh, 0, none⟩ = some (.slice (some ⟨g0, 0, none⟩) l.length c0) := (blk_cell BH.out 0).trans rfl; have qBH1 : w1.cell? ⟨gh, 1, none⟩ = some (.int .i16 a1) := (blk_cell BH.out 1).trans rfl; have qBH2 : w1.cell? ⟨gh, 2, none⟩ = some (.int .i8 a2) := (blk_cell BH.out 2).trans rfl; have qBH3 : w1.cell? ⟨gh, 3, none⟩ = some (.int .i16 a3) := (blk_cell BH.out 3).trans rfl; clear ST0 s_; have ST1 := Aside0.mk True.intro)
  | (have s_ := ST1; (with_reducible refine gate_dst (N := 8) rfl ?_); refine box_event ?hg (N := 8) ?hd (cs := #[.slice none 0 0, .int .i16 0, .int .i8 0, .int .i16 0]) (t := 32) ?hr ?_; (case hd => rfl); (case hg => rfl); (case hr => first | (go_simp; done) | (go_simp; rfl)); intro gr hg_ w2 hbox hb; have GBR := Aside0.mk (by rw [hg_]; exact HB.out.size : w.heap.size ≤ gr); have NBH_BR := Aside0.mk (by rw [hg_]; exact Nat.ne_of_lt (blk_lt BH.out) : gh ≠ gr); replace HB := Aside0.mk (below_step HB.out hb); replace BH := Aside0.mk (blk_below BH.out hb); have BR := Aside0.mk hbox; clear hb hbox hg_; clear qBH0 qBH1 qBH2 qBH3; have qBH0 : w2.cell? ⟨gh, 0, none⟩ = some (.slice (some ⟨g0, 0, none⟩) l.length c0) := (blk_cell BH.out 0).trans rfl; have qBH1 : w2.cell? ⟨gh, 1, none⟩ = some (.int .i16 a1) := (blk_cell BH.out 1).trans rfl; have qBH2 : w2.cell? ⟨gh, 2, none⟩ = some (.int .i8 a2) := (blk_cell BH.out 2).trans rfl; have qBH3 : w2.cell? ⟨gh, 3, none⟩ = some (.int .i16 a3) := (blk_cell BH.out 3).trans rfl; have qBR0 : w2.cell? ⟨gr, 0, none⟩ = some (.slice none 0 0) := (blk_cell BR.out 0).trans rfl; have qBR1 : w2.cell? ⟨gr, 1, none⟩ = some (.int .i16 0) := (blk_cell BR.out 1).trans rfl; have qBR2 : w2.cell? ⟨gr, 2, none⟩ = some (.int .i8 0) := (blk_cell BR.out 2).trans rfl; have qBR3 : w2.cell? ⟨gr, 3, none⟩ = some (.int .i16 0) := (blk_cell BR.out 3).trans rfl; clear ST1 s_; have ST2 := Aside0.mk True.intro)
  | (have s_ := ST2; go_at_call 81; (with_reducible refine (HC.out _).mono ?_); rintro e w3 ⟨rfl, hd⟩; have hb := hd.below; replace HB := Aside0.mk (below_step HB.out hb); replace BH := Aside0.mk (blk_below BH.out hb); replace BR := Aside0.mk (blk_below BR.out hb); clear hb hd; clear qBH0 qBH1 qBH2 qBH3 qBR0 qBR1 qBR2 qBR3; have qBH0 : w3.cell? ⟨gh, 0, none⟩ = some (.slice (some ⟨g0, 0, none⟩) l.length c0) := (blk_cell BH.out 0).trans rfl; have qBH1 : w3.cell? ⟨gh, 1, none⟩ = some (.int .i16 a1) := (blk_cell BH.out 1).trans rfl; have qBH2 : w3.cell? ⟨gh, 2, none⟩ = some (.int .i8 a2) := (blk_cell BH.out 2).trans rfl; have qBH3 : w3.cell? ⟨gh, 3, none⟩ = some (.int .i16 a3) := (blk_cell BH.out 3).trans rfl; have qBR0 : w3.cell? ⟨gr, 0, none⟩ = some (.slice none 0 0) := (blk_cell BR.out 0).trans rfl; have qBR1 : w3.cell? ⟨gr, 1, none⟩ = some (.int .i16 0) := (blk_cell BR.out 1).trans rfl; have qBR2 : w3.cell? ⟨gr, 2, none⟩ = some (.int .i8 0) := (blk_cell BR.out 2).trans rfl; have qBR3 : w3.cell? ⟨gr, 3, none⟩ = some (.int .i16 0) := (blk_cell BR.out 3).trans rfl; clear ST2 s_; have ST3 := Aside0.mk True.intro)
  | (have s_ := ST3; go_at_call 79; (with_reducible refine (HI.out _).mono ?_); rintro e w4 ⟨rfl, hd⟩; have hb := hd.below; replace HB := Aside0.mk (below_step HB.out hb); replace BH := Aside0.mk (blk_below BH.out hb); replace BR := Aside0.mk (blk_below BR.out hb); clear hb hd; clear qBH0 qBH1 qBH2 qBH3 qBR0 qBR1 qBR2 qBR3; have qBH0 : w4.cell? ⟨gh, 0, none⟩ = some (.slice (some ⟨g0, 0, none⟩) l.length c0) := (blk_cell BH.out 0).trans rfl; have qBH1 : w4.cell? ⟨gh, 1, none⟩ = some (.int .i16 a1) := (blk_cell BH.out 1).trans rfl; have qBH2 : w4.cell? ⟨gh, 2, none⟩ = some (.int .i8 a2) := (blk_cell BH.out 2).trans rfl; have qBH3 : w4.cell? ⟨gh, 3, none⟩ = some (.int .i16 a3) := (blk_cell BH.out 3).trans rfl; have qBR0 : w4.cell? ⟨gr, 0, none⟩ = some (.slice none 0 0) := (blk_cell BR.out 0).trans rfl; have qBR1 : w4.cell? ⟨gr, 1, none⟩ = some (.int .i16 0) := (blk_cell BR.out 1).trans rfl; have qBR2 : w4.cell? ⟨gr, 2, none⟩ = some (.int .i8 0) := (blk_cell BR.out 2).trans rfl; have qBR3 : w4.cell? ⟨gr, 3, none⟩ = some (.int .i16 0) := (blk_cell BR.out 3).trans rfl; clear ST3 s_; have ST4 := Aside0.mk True.intro)
  | (have s_ := ST4; go_at_call 94; (with_reducible refine (HK.out _ gh HB.out BH.out).mono ?_); rintro e w5 ⟨rfl, hb⟩; replace HB := Aside0.mk (below_step HB.out hb); replace BH := Aside0.mk (blk_below BH.out hb); replace BR := Aside0.mk (blk_below BR.out hb); clear hb; clear qBH0 qBH1 qBH2 qBH3 qBR0 qBR1 qBR2 qBR3; have qBH0 : w5.cell? ⟨gh, 0, none⟩ = some (.slice (some ⟨g0, 0, none⟩) l.length c0) := (blk_cell BH.out 0).trans rfl; have qBH1 : w5.cell? ⟨gh, 1, none⟩ = some (.int .i16 a1) := (blk_cell BH.out 1).trans rfl; have qBH2 : w5.cell? ⟨gh, 2, none⟩ = some (.int .i8 a2) := (blk_cell BH.out 2).trans rfl; have qBH3 : w5.cell? ⟨gh, 3, none⟩ = some (.int .i16 a3) := (blk_cell BH.out 3).trans rfl; have qBR0 : w5.cell? ⟨gr, 0, none⟩ = some (.slice none 0 0) := (blk_cell BR.out 0).trans rfl; have qBR1 : w5.cell? ⟨gr, 1, none⟩ = some (.int .i16 0) := (blk_cell BR.out 1).trans rfl; have qBR2 : w5.cell? ⟨gr, 2, none⟩ = some (.int .i8 0) := (blk_cell BR.out 2).trans rfl; have qBR3 : w5.cell? ⟨gr, 3, none⟩ = some (.int .i16 0) := (blk_cell BR.out 3).trans rfl; have fBR0 : w5.frozen? ⟨gr, 0, none⟩ = false := blk_frozen BR.out 0; have fBR1 : w5.frozen? ⟨gr, 1, none⟩ = false := blk_frozen BR.out 1; have fBR2 : w5.frozen? ⟨gr, 2, none⟩ = false := blk_frozen BR.out 2; have fBR3 : w5.frozen? ⟨gr, 3, none⟩ = false := blk_frozen BR.out 3; have cr_ : w5.cell? ⟨g0, 24, none⟩ = some (.int .i32 R) := HCR.out _ HB.out; clear ST4 s_; have ST5 := Aside0.mk True.intro))
 refine bodyPost_ret (results_ct rfl _ _ gr 32 #[.slice none 0 0, .int .i16 0, .int .i8 0, .int .i16 0] (0, 0) _ rfl (put4_blk BR.out) Try.underlying32 rfl (by kernel_rfl)) rfl ?_
 exact ⟨rfl, put4_below HB.out GBR.out⟩
set_option maxHeartbeats 8000000 in
set_option maxRecDepth 100000 in
theorem specMendRags_ok (w : World) (A0 : Option Addr) (c0 : Nat) (l : List S55) (a1 a2 a3 : Int) (hr : Kd.C k55 w A0 l.length l) (hc : l.length ≤ c0) (hrow : RowAt w A0 l) (h : FitH l a1 a2 a3) (u : Nat) (hu : u < 8) (hR : 1 ≤ (l.getD 0 z55).at_ 24) (s2 : S55) (hs2 : (((l.getD 0 z55).put 24 ((l.getD 0 z55).at_ 24 - 1)).put u (((l.getD 0 z55).put 24 ((l.getD 0 z55).at_ 24 - 1)).at_ u + 1)) = s2) :
 Calls Try.prog 37 #[.agg #[.slice A0 l.length c0, .int .i16 a1, .int .i8 a2, .int .i16 a3], .int .i64 0, .int .i64 1, .int .i64 ((u : Int) + 1)] w fun e w' => ∃ v0 : Value, e = .returned (.tuple #[.agg #[v0, .int .i16 a1, .int .i8 a2, .int .i16 a3], .int .i64 0]) ∧ Kd.R k55 55 w' w.heap.size (fun _ => True) v0 (l.set 0 s2) ∧ Below w.heap.size w w' := by
 have hu32 := Try.underlying32
 have hu53 := Try.underlying53
 have hu55 := Try.underlying55
 have mixed : Try.prog.follows .mixedOrders = true := by kernel_rfl
 have HP := Aside0.mk h.pos
 have HC := Aside0.mk (fun (w : World) => spec_l05Count.calls 1 true w (by rw [l05Count_B, inB_of (by omega)]))
 have HI := Aside0.mk (fun (w : World) => spec_l00In.calls ((u : Int) + 1) 1 8 true w (by rw [l00In_B, inB_of (by omega)]))
 have HK := Aside0.mk (fun (w' : World) (g : Nat) (hb : Below w.heap.size w w') (hs : w'.heap[g]? = some (.cells #[.slice A0 l.length c0, .int .i16 a1, .int .i8 a2, .int .i16 a3] 32 (0, 0))) => asked_walk w' g A0 c0 l a1 a2 a3 hs (hrow.below hb) h)
 have HO := Aside0.mk (fun (w' : World) (g : Nat) (hb : Below w.heap.size w w') (hs : w'.heap[g]? = some (.cells #[.slice A0 l.length c0, .int .i16 a1, .int .i8 a2, .int .i16 a3] 32 (0, 0))) => l05Own_walk w' g A0 c0 l a1 a2 a3 hs (Kd.C_below hr hb) h.four)
 obtain ⟨s, hs⟩ : ∃ s, l.getD 0 z55 = s := ⟨_, rfl⟩
 have hfs : FitSt s := by rw [← hs]; exact h.st.at_ h.pos
 rw [hs] at hR hs2
 obtain ⟨R, hR24⟩ : ∃ R, s.at_ 24 = R := ⟨_, rfl⟩
 have b3 := at_pos hfs 24
 have b4 := at_le hfs 24
 rw [hR24] at hR b3 b4 hs2
 have hwr : wrap64 R = R := w64i (by omega) (by omega)
 have HS := Aside0.mk hs
 have HR24 := Aside0.mk hR24
 obtain ⟨g0, cap0, eA, hrow0⟩ := hrow h.pos
 have HCR := Aside0.mk (fun (w' : World) (hb : Below w.heap.size w w') => show w'.cell? ⟨g0, 24, none⟩ = some (.int .i32 R) by
  have := elem0 (hrow0.move (hb.block _ hrow0.lt)) h.pos hs 24 (by decide)
  rw [hR24] at this
  exact this)
 clear hrow hrow0
 subst eA
 obtain ⟨s1, hs1⟩ : ∃ s1, s.put 24 (R - 1) = s1 := ⟨_, rfl⟩
 rw [hs1] at hs2
 obtain ⟨C, hCu⟩ : ∃ C, s1.at_ u = C := ⟨_, rfl⟩
 rw [hCu] at hs2
 have hsu : s1.at_ u = s.at_ u := by rw [← hs1, S55.put_at _ _ _ _ (by decide), if_neg (by omega)]
 have b1 := at_pos hfs u
 have b2 := at_le hfs u
 rw [← hsu, hCu] at b1 b2
 have hlt : ¬ R < 1 := by omega
 have hltb : decide (R < 1) = false := decide_eq_false hlt
 have hw1 : IntKind.i16.wrap 1 = 1 := wrap16_id (by omega) (by omega)
 have hw2 : IntKind.i16.wrap (C + 1) = C + 1 := wrap16_id (by omega) (by omega)
 have hw3 : IntKind.i32.wrap 1 = 1 := wrap32_id (by omega) (by omega)
 have hw4 : IntKind.i32.wrap (R - 1) = R - 1 := wrap32_id (by omega) (by omega)
 have hw3' : wrap32 1 = 1 := (i32_w _).symm.trans hw3
 have hw4' : wrap32 (R - 1) = R - 1 := (i32_w _).symm.trans hw4
 have hw5 : wrap64 ((u : Int) + 1 - 1) = (u : Int) := (w64i (by omega) (by omega)).trans (by omega)
 have hw6 : wrap64 (u : Int) = (u : Int) := w64i (by omega) (by omega)
 have HS1 := Aside0.mk hs1
 have HS2 := Aside0.mk hs2
 have HCU := Aside0.mk hCu
 have HU := Aside0.mk hu
 clear hr hc h hfs hs2 hsu b1 b2 b3 b4 hs1 hCu hs hR24 hR
 have hpos := HP.out
 have hposz : 0 < (l.length : Int) := by omega
 go_enter Try.func37, Try.ntmps37
 have ST0 := Aside0.mk True.intro
 go_wp2_with (first
  | (have s_ := ST0; (with_reducible refine gate_dst (N := 4) rfl ?_); refine box_event ?hg (N := 4) ?hd (cs := #[.slice (some ⟨g0, 0, none⟩) l.length c0, .int .i16 a1, .int .i8 a2, .int .i16 a3]) (t := 32) ?hr ?_; (case hd => rfl); (case hg => rfl); (case hr => first | (go_simp; done) | (go_simp; rfl)); intro gh hg_ w1 hbox hb; have GBH := Aside0.mk (by rw [hg_]; exact Nat.le_refl _ : w.heap.size ≤ gh); have HB := Aside0.mk hb; have BH := Aside0.mk hbox; clear hb hbox hg_; have qBH0 : w1.cell? ⟨gh, 0, none⟩ = some (.slice (some ⟨g0, 0, none⟩) l.length c0) := (blk_cell BH.out 0).trans rfl; have qBH1 : w1.cell? ⟨gh, 1, none⟩ = some (.int .i16 a1) := (blk_cell BH.out 1).trans rfl; have qBH2 : w1.cell? ⟨gh, 2, none⟩ = some (.int .i8 a2) := (blk_cell BH.out 2).trans rfl; have qBH3 : w1.cell? ⟨gh, 3, none⟩ = some (.int .i16 a3) := (blk_cell BH.out 3).trans rfl; clear ST0 s_; have ST1 := Aside0.mk True.intro)
  | (have s_ := ST1; (with_reducible refine gate_dst (N := 8) rfl ?_); refine box_event ?hg (N := 8) ?hd (cs := #[.slice none 0 0, .int .i16 0, .int .i8 0, .int .i16 0]) (t := 32) ?hr ?_; (case hd => rfl); (case hg => rfl); (case hr => first | (go_simp; done) | (go_simp; rfl)); intro gr hg_ w2 hbox hb; have GBR := Aside0.mk (by rw [hg_]; exact HB.out.size : w.heap.size ≤ gr); have NBH_BR := Aside0.mk (by rw [hg_]; exact Nat.ne_of_lt (blk_lt BH.out) : gh ≠ gr); replace HB := Aside0.mk (below_step HB.out hb); replace BH := Aside0.mk (blk_below BH.out hb); have BR := Aside0.mk hbox; clear hb hbox hg_; clear qBH0 qBH1 qBH2 qBH3; have qBH0 : w2.cell? ⟨gh, 0, none⟩ = some (.slice (some ⟨g0, 0, none⟩) l.length c0) := (blk_cell BH.out 0).trans rfl; have qBH1 : w2.cell? ⟨gh, 1, none⟩ = some (.int .i16 a1) := (blk_cell BH.out 1).trans rfl; have qBH2 : w2.cell? ⟨gh, 2, none⟩ = some (.int .i8 a2) := (blk_cell BH.out 2).trans rfl; have qBH3 : w2.cell? ⟨gh, 3, none⟩ = some (.int .i16 a3) := (blk_cell BH.out 3).trans rfl; have qBR0 : w2.cell? ⟨gr, 0, none⟩ = some (.slice none 0 0) := (blk_cell BR.out 0).trans rfl; have qBR1 : w2.cell? ⟨gr, 1, none⟩ = some (.int .i16 0) := (blk_cell BR.out 1).trans rfl; have qBR2 : w2.cell? ⟨gr, 2, none⟩ = some (.int .i8 0) := (blk_cell BR.out 2).trans rfl; have qBR3 : w2.cell? ⟨gr, 3, none⟩ = some (.int .i16 0) := (blk_cell BR.out 3).trans rfl; clear ST1 s_; have ST2 := Aside0.mk True.intro)
  | (have s_ := ST2; go_at_call 81; (with_reducible refine (HC.out _).mono ?_); rintro e w3 ⟨rfl, hd⟩; have hb := hd.below; replace HB := Aside0.mk (below_step HB.out hb); replace BH := Aside0.mk (blk_below BH.out hb); replace BR := Aside0.mk (blk_below BR.out hb); clear hb hd; clear qBH0 qBH1 qBH2 qBH3 qBR0 qBR1 qBR2 qBR3; have qBH0 : w3.cell? ⟨gh, 0, none⟩ = some (.slice (some ⟨g0, 0, none⟩) l.length c0) := (blk_cell BH.out 0).trans rfl; have qBH1 : w3.cell? ⟨gh, 1, none⟩ = some (.int .i16 a1) := (blk_cell BH.out 1).trans rfl; have qBH2 : w3.cell? ⟨gh, 2, none⟩ = some (.int .i8 a2) := (blk_cell BH.out 2).trans rfl; have qBH3 : w3.cell? ⟨gh, 3, none⟩ = some (.int .i16 a3) := (blk_cell BH.out 3).trans rfl; have qBR0 : w3.cell? ⟨gr, 0, none⟩ = some (.slice none 0 0) := (blk_cell BR.out 0).trans rfl; have qBR1 : w3.cell? ⟨gr, 1, none⟩ = some (.int .i16 0) := (blk_cell BR.out 1).trans rfl; have qBR2 : w3.cell? ⟨gr, 2, none⟩ = some (.int .i8 0) := (blk_cell BR.out 2).trans rfl; have qBR3 : w3.cell? ⟨gr, 3, none⟩ = some (.int .i16 0) := (blk_cell BR.out 3).trans rfl; clear ST2 s_; have ST3 := Aside0.mk True.intro)
  | (have s_ := ST3; go_at_call 79; (with_reducible refine (HI.out _).mono ?_); rintro e w4 ⟨rfl, hd⟩; have hb := hd.below; replace HB := Aside0.mk (below_step HB.out hb); replace BH := Aside0.mk (blk_below BH.out hb); replace BR := Aside0.mk (blk_below BR.out hb); clear hb hd; clear qBH0 qBH1 qBH2 qBH3 qBR0 qBR1 qBR2 qBR3; have qBH0 : w4.cell? ⟨gh, 0, none⟩ = some (.slice (some ⟨g0, 0, none⟩) l.length c0) := (blk_cell BH.out 0).trans rfl; have qBH1 : w4.cell? ⟨gh, 1, none⟩ = some (.int .i16 a1) := (blk_cell BH.out 1).trans rfl; have qBH2 : w4.cell? ⟨gh, 2, none⟩ = some (.int .i8 a2) := (blk_cell BH.out 2).trans rfl; have qBH3 : w4.cell? ⟨gh, 3, none⟩ = some (.int .i16 a3) := (blk_cell BH.out 3).trans rfl; have qBR0 : w4.cell? ⟨gr, 0, none⟩ = some (.slice none 0 0) := (blk_cell BR.out 0).trans rfl; have qBR1 : w4.cell? ⟨gr, 1, none⟩ = some (.int .i16 0) := (blk_cell BR.out 1).trans rfl; have qBR2 : w4.cell? ⟨gr, 2, none⟩ = some (.int .i8 0) := (blk_cell BR.out 2).trans rfl; have qBR3 : w4.cell? ⟨gr, 3, none⟩ = some (.int .i16 0) := (blk_cell BR.out 3).trans rfl; clear ST3 s_; have ST4 := Aside0.mk True.intro)
  | (have s_ := ST4; go_at_call 94; (with_reducible refine (HK.out _ gh HB.out BH.out).mono ?_); rintro e w5 ⟨rfl, hb⟩; replace HB := Aside0.mk (below_step HB.out hb); replace BH := Aside0.mk (blk_below BH.out hb); replace BR := Aside0.mk (blk_below BR.out hb); clear hb; clear qBH0 qBH1 qBH2 qBH3 qBR0 qBR1 qBR2 qBR3; have qBH0 : w5.cell? ⟨gh, 0, none⟩ = some (.slice (some ⟨g0, 0, none⟩) l.length c0) := (blk_cell BH.out 0).trans rfl; have qBH1 : w5.cell? ⟨gh, 1, none⟩ = some (.int .i16 a1) := (blk_cell BH.out 1).trans rfl; have qBH2 : w5.cell? ⟨gh, 2, none⟩ = some (.int .i8 a2) := (blk_cell BH.out 2).trans rfl; have qBH3 : w5.cell? ⟨gh, 3, none⟩ = some (.int .i16 a3) := (blk_cell BH.out 3).trans rfl; have qBR0 : w5.cell? ⟨gr, 0, none⟩ = some (.slice none 0 0) := (blk_cell BR.out 0).trans rfl; have qBR1 : w5.cell? ⟨gr, 1, none⟩ = some (.int .i16 0) := (blk_cell BR.out 1).trans rfl; have qBR2 : w5.cell? ⟨gr, 2, none⟩ = some (.int .i8 0) := (blk_cell BR.out 2).trans rfl; have qBR3 : w5.cell? ⟨gr, 3, none⟩ = some (.int .i16 0) := (blk_cell BR.out 3).trans rfl; have fBR0 : w5.frozen? ⟨gr, 0, none⟩ = false := blk_frozen BR.out 0; have fBR1 : w5.frozen? ⟨gr, 1, none⟩ = false := blk_frozen BR.out 1; have fBR2 : w5.frozen? ⟨gr, 2, none⟩ = false := blk_frozen BR.out 2; have fBR3 : w5.frozen? ⟨gr, 3, none⟩ = false := blk_frozen BR.out 3; have cr_ : w5.cell? ⟨g0, 24, none⟩ = some (.int .i32 R) := HCR.out _ HB.out; clear ST4 s_; have ST5 := Aside0.mk True.intro)
  | (have s_ := ST5; go_at_call 58; (with_reducible refine (HO.out _ gh HB.out BH.out).mono ?_); rintro e w8 ⟨v8, rfl, hR, hb⟩; have RW := Aside0.mk (Kd.R_lower hR HB.out.size); replace HB := Aside0.mk (below_step HB.out hb); replace BH := Aside0.mk (blk_below BH.out hb); replace BR := Aside0.mk (blk_below BR.out hb); clear hb hR; obtain ⟨g2, cap, e8, hg2, _, hrow⟩ := row_of_R RW.out HP.out; subst e8; have RS := Aside0.mk hrow; have G2 := Aside0.mk hg2; clear hrow hg2 RW; clear qBH0 qBH1 qBH2 qBH3 qBR0 qBR1 qBR2 qBR3 fBR0 fBR1 fBR2 fBR3; have qBH0 : w8.cell? ⟨gh, 0, none⟩ = some (.slice (some ⟨g0, 0, none⟩) l.length c0) := (blk_cell BH.out 0).trans rfl; have qBH1 : w8.cell? ⟨gh, 1, none⟩ = some (.int .i16 a1) := (blk_cell BH.out 1).trans rfl; have qBH2 : w8.cell? ⟨gh, 2, none⟩ = some (.int .i8 a2) := (blk_cell BH.out 2).trans rfl; have qBH3 : w8.cell? ⟨gh, 3, none⟩ = some (.int .i16 a3) := (blk_cell BH.out 3).trans rfl; have qBR0 : w8.cell? ⟨gr, 0, none⟩ = some (.slice none 0 0) := (blk_cell BR.out 0).trans rfl; have qBR1 : w8.cell? ⟨gr, 1, none⟩ = some (.int .i16 0) := (blk_cell BR.out 1).trans rfl; have qBR2 : w8.cell? ⟨gr, 2, none⟩ = some (.int .i8 0) := (blk_cell BR.out 2).trans rfl; have qBR3 : w8.cell? ⟨gr, 3, none⟩ = some (.int .i16 0) := (blk_cell BR.out 3).trans rfl; clear cr_; clear ST5 s_; have ST6 := Aside0.mk True.intro)
  | (have s_ := ST6; (with_reducible refine gate_dst (N := 11) rfl ?_); refine box_event ?hg (N := 11) ?hd (cs := #[.slice none 0 0, .int .i16 0, .int .i8 0, .int .i16 0]) (t := 32) ?hr ?_; (case hd => rfl); (case hg => rfl); (case hr => first | (go_simp; done) | (go_simp; rfl)); intro go hg_ w9 hbox hb; have GBO := Aside0.mk (by rw [hg_]; exact HB.out.size : w.heap.size ≤ go); have NBH_BO := Aside0.mk (by rw [hg_]; exact Nat.ne_of_lt (blk_lt BH.out) : gh ≠ go); have NBR_BO := Aside0.mk (by rw [hg_]; exact Nat.ne_of_lt (blk_lt BR.out) : gr ≠ go); replace HB := Aside0.mk (below_step HB.out hb); replace BH := Aside0.mk (blk_below BH.out hb); replace BR := Aside0.mk (blk_below BR.out hb); replace RS := Aside0.mk (RS.out.move (hb.block _ RS.out.lt)); have BO := Aside0.mk hbox; clear hb hbox hg_; clear qBH0 qBH1 qBH2 qBH3 qBR0 qBR1 qBR2 qBR3; have qBH0 : w9.cell? ⟨gh, 0, none⟩ = some (.slice (some ⟨g0, 0, none⟩) l.length c0) := (blk_cell BH.out 0).trans rfl; have qBH1 : w9.cell? ⟨gh, 1, none⟩ = some (.int .i16 a1) := (blk_cell BH.out 1).trans rfl; have qBH2 : w9.cell? ⟨gh, 2, none⟩ = some (.int .i8 a2) := (blk_cell BH.out 2).trans rfl; have qBH3 : w9.cell? ⟨gh, 3, none⟩ = some (.int .i16 a3) := (blk_cell BH.out 3).trans rfl; have qBR0 : w9.cell? ⟨gr, 0, none⟩ = some (.slice none 0 0) := (blk_cell BR.out 0).trans rfl; have qBR1 : w9.cell? ⟨gr, 1, none⟩ = some (.int .i16 0) := (blk_cell BR.out 1).trans rfl; have qBR2 : w9.cell? ⟨gr, 2, none⟩ = some (.int .i8 0) := (blk_cell BR.out 2).trans rfl; have qBR3 : w9.cell? ⟨gr, 3, none⟩ = some (.int .i16 0) := (blk_cell BR.out 3).trans rfl; have qBO0 : w9.cell? ⟨go, 0, none⟩ = some (.slice none 0 0) := (blk_cell BO.out 0).trans rfl; have qBO1 : w9.cell? ⟨go, 1, none⟩ = some (.int .i16 0) := (blk_cell BO.out 1).trans rfl; have qBO2 : w9.cell? ⟨go, 2, none⟩ = some (.int .i8 0) := (blk_cell BO.out 2).trans rfl; have qBO3 : w9.cell? ⟨go, 3, none⟩ = some (.int .i16 0) := (blk_cell BO.out 3).trans rfl; have fBO0 : w9.frozen? ⟨go, 0, none⟩ = false := blk_frozen BO.out 0; have fBO1 : w9.frozen? ⟨go, 1, none⟩ = false := blk_frozen BO.out 1; have fBO2 : w9.frozen? ⟨go, 2, none⟩ = false := blk_frozen BO.out 2; have fBO3 : w9.frozen? ⟨go, 3, none⟩ = false := blk_frozen BO.out 3; clear ST6 s_; have ST7 := Aside0.mk True.intro)
  | (have s_ := ST7; (with_reducible refine gate_store (t := 32) (p := 11) rfl ?_); refine store_event (t := 32) (p := 11) (v := ?vo_w10) (w1 := ((((w9.setCell ⟨go, 0, none⟩ (.slice (some ⟨g2, 0, none⟩) l.length cap)).setCell ⟨go, 1, none⟩ (.int .i16 a1)).setCell ⟨go, 2, none⟩ (.int .i8 a2)).setCell ⟨go, 3, none⟩ (.int .i16 a3))) ?hg ?ho ?hn ?hr ?_; (case ho => rfl); (case hg => rfl); (case hn => rfl); (case hr => first | (go_simp; done) | (go_simp; rfl)); intro w10 hw; have hg : w9.grownBy w10 (some go) := (by rw [hw]; exact put4_grown True.intro True.intro); have hnew : w10.heap[go]? = some (.cells #[.slice (some ⟨g2, 0, none⟩) l.length cap, .int .i16 a1, .int .i8 a2, .int .i16 a3] 32 (0, 0)) := (by rw [hw]; exact put4_blk BO.out); clear hw; replace HB := Aside0.mk (below_grown HB.out hg (fun k_ e_ => by injection e_ with e_; subst e_; exact GBO.out)); replace BH := Aside0.mk (blk_grown BH.out hg (fun e_ => by injection e_ with e_; exact NBH_BO.out e_)); replace BR := Aside0.mk (blk_grown BR.out hg (fun e_ => by injection e_ with e_; exact NBR_BO.out e_)); replace RS := Aside0.mk (RS.out.move (hg.block _ RS.out.lt (fun e_ => blk_ne RS.out.blk.choose_spec.1 BO.out (by decide) (by injection e_)))); replace BO := Aside0.mk (hnew); clear hg hnew; clear qBH0 qBH1 qBH2 qBH3 qBR0 qBR1 qBR2 qBR3 qBO0 qBO1 qBO2 qBO3 fBO0 fBO1 fBO2 fBO3; have qBH0 : w10.cell? ⟨gh, 0, none⟩ = some (.slice (some ⟨g0, 0, none⟩) l.length c0) := (blk_cell BH.out 0).trans rfl; have qBH1 : w10.cell? ⟨gh, 1, none⟩ = some (.int .i16 a1) := (blk_cell BH.out 1).trans rfl; have qBH2 : w10.cell? ⟨gh, 2, none⟩ = some (.int .i8 a2) := (blk_cell BH.out 2).trans rfl; have qBH3 : w10.cell? ⟨gh, 3, none⟩ = some (.int .i16 a3) := (blk_cell BH.out 3).trans rfl; have qBR0 : w10.cell? ⟨gr, 0, none⟩ = some (.slice none 0 0) := (blk_cell BR.out 0).trans rfl; have qBR1 : w10.cell? ⟨gr, 1, none⟩ = some (.int .i16 0) := (blk_cell BR.out 1).trans rfl; have qBR2 : w10.cell? ⟨gr, 2, none⟩ = some (.int .i8 0) := (blk_cell BR.out 2).trans rfl; have qBR3 : w10.cell? ⟨gr, 3, none⟩ = some (.int .i16 0) := (blk_cell BR.out 3).trans rfl; have qBO0 : w10.cell? ⟨go, 0, none⟩ = some (.slice (some ⟨g2, 0, none⟩) l.length cap) := (blk_cell BO.out 0).trans rfl; have qBO1 : w10.cell? ⟨go, 1, none⟩ = some (.int .i16 a1) := (blk_cell BO.out 1).trans rfl; have qBO2 : w10.cell? ⟨go, 2, none⟩ = some (.int .i8 a2) := (blk_cell BO.out 2).trans rfl; have qBO3 : w10.cell? ⟨go, 3, none⟩ = some (.int .i16 a3) := (blk_cell BO.out 3).trans rfl; have E24 := elem0 RS.out HP.out HS.out 24 (by decide); have cr_ : w10.cell? ⟨g2, 24, none⟩ = some (.int .i32 R) := (by rw [HR24.out] at E24; exact E24); clear E24; have fr_ : w10.frozen? ⟨g2, 24, none⟩ = false := row_free RS.out _; clear ST7 s_; have ST8 := Aside0.mk True.intro))
 have H0 := Aside0.mk (InH.made BO.out RS.out HB.out)
 have HG1 := Aside0.mk (show (l.set 0 s1).getD 0 z55 = s1 by rw [List.getD_eq_getElem?_getD, List.getElem?_set_self HP.out]; rfl)
 obtain ⟨cs, hC, E0⟩ := elem_of_row H0.out.row HP.out
 rw [HS.out] at E0
 have H := Aside0.mk (show InH w go g2 cap (l.set 0 s1) a1 a2 a3 (w10.setCell ⟨g2, 24, none⟩ (.int .i32 (R - 1))) from H0.out.put_elem hC HP.out (show InSt w10 g2 (0 * 25) 55 cs s1 (w10.setCell ⟨g2, 24, none⟩ (.int .i32 (R - 1))) from HS1.out ▸ E0.put 24 (by decide) (R - 1)))
 have BR2 := Aside0.mk (blk_far (p := ⟨g2, 24, none⟩) BR.out (blk_ne H0.out.row.blk.choose_spec.1 BR.out (by decide)).symm (.int .i32 (R - 1)))
 clear HB BH BO RS H0 BR hC E0 cr_ fr_ hw4 hw4' qBH0 qBH1 qBH2 qBH3 qBR0 qBR1 qBR2 qBR3 qBO0 qBO1 qBO2 qBO3
 generalize w10.setCell ⟨g2, 24, none⟩ (.int .i32 (R - 1)) = wm at H BR2 ⊢
 have BR := BR2
 clear BR2
 have c0_ : wm.cell? ⟨go, 0, none⟩ = some (.slice (some ⟨g2, 0, none⟩) l.length cap) := (H.out.cell 0).trans (by rw [List.length_set]; rfl)
 have cu : wm.cell? ⟨g2, u, none⟩ = some (.int .i16 C) := by
  have := elem0 H.out.row (by rw [List.length_set]; exact HP.out) HG1.out u (by have := HU.out; omega)
  rw [HCU.out, Nat.zero_add, show encSt u C = .int .i16 C by unfold encSt; rw [if_pos (by have := HU.out; omega)]] at this
  exact this
 have hu0 : 0 ≤ (u : Int) := by omega
 have hu8 : (u : Int) < 8 := by have := HU.out; omega
 refine start_ (n := 16) (S := fun w' => w'.cell? ⟨g2, u, none⟩ = some (.int .i16 C) ∧ w'.cell? ⟨go, 0, none⟩ = some (.slice (some ⟨g2, 0, none⟩) l.length cap)) (ds := [15]) #[false, false, false, false, false, false, false, false, false, false, false, false, false, false, false, false] (by kernel_rfl) rfl rfl ⟨cu, c0_⟩ (fun hHeld => ?_)
 have H2 := Aside0.mk (H.out.step (below_drew1 (Below.refl _ _)))
 have BR2 := Aside0.mk (blk_drew BR.out)
 clear H BR cu c0_
 generalize wm.drew = wd at H2 BR2 hHeld ⊢
 have H := H2
 have BR := BR2
 clear H2 BR2
 obtain ⟨cs, hC, E0⟩ := elem_of_row H.out.row (show 0 < (l.set 0 s1).length by rw [List.length_set]; exact HP.out)
 rw [HG1.out] at E0
 have HCS := Aside0.mk hC
 have E := Aside0.mk (show InSt wd g2 0 55 cs s1 wd from E0)
 clear hC E0
 have cu : wd.cell? ⟨g2, u, none⟩ = some (.int .i16 C) := hHeld.1
 have c0_ : wd.cell? ⟨go, 0, none⟩ = some (.slice (some ⟨g2, 0, none⟩) l.length cap) := hHeld.2
 refine pure_ (i := 0) (N := some 46) (v := ?_) (a' := ?_) #[true, false, false, false, false, false, false, false, false, false, false, false, false, false, false, false] rfl rfl (by kernel_rfl) (fun _ _ _ h => h) (Or.inl ⟨by rfl, ?_⟩) ?_ ?_
 rotate_left
 · intro w'
   go_simp
   with_reducible rfl
 rotate_left
 · exact putB
 refine pure_ (i := 2) (N := some 48) (v := ?_) (a' := ?_) #[true, false, true, false, false, false, false, false, false, false, false, false, false, false, false, false] rfl rfl (by kernel_rfl) (fun _ _ _ h => h) (Or.inl ⟨by rfl, ?_⟩) ?_ ?_
 rotate_left
 · intro w'
   go_simp
   with_reducible rfl
 rotate_left
 · exact putB
 refine pure_ (i := 3) (N := some 49) (v := ?_) (a' := ?_) #[true, false, true, true, false, false, false, false, false, false, false, false, false, false, false, false] rfl rfl (by kernel_rfl) (fun _ _ _ h => h) (Or.inl ⟨by rfl, ?_⟩) ?_ ?_
 rotate_left
 · intro w'
   go_simp
   with_reducible rfl
 rotate_left
 · exact putB
 refine pure_ (i := 4) (N := some 50) (v := ?_) (a' := ?_) #[true, false, true, true, true, false, false, false, false, false, false, false, false, false, false, false] rfl rfl (by kernel_rfl) (fun _ _ _ h => h) (Or.inl ⟨by rfl, ?_⟩) ?_ ?_
 rotate_left
 · intro w'
   go_simp
   with_reducible rfl
 rotate_left
 · exact putB
 refine pure_ (i := 9) (N := some 55) (v := ?_) (a' := ?_) #[true, false, true, true, true, false, false, false, false, true, false, false, false, false, false, false] rfl rfl (by kernel_rfl) (fun _ _ _ h => h) (Or.inl ⟨by rfl, ?_⟩) ?_ ?_
 rotate_left
 · intro w'
   go_simp
   with_reducible rfl
 rotate_left
 · exact putB
 refine pure_ (i := 10) (N := some 56) (v := ?_) (a' := ?_) #[true, false, true, true, true, false, false, false, false, true, true, false, false, false, false, false] rfl rfl (by kernel_rfl) (fun _ _ _ h => h) (Or.inl ⟨by rfl, ?_⟩) ?_ ?_
 rotate_left
 · intro w'
   go_simp
   with_reducible rfl
 rotate_left
 · exact putB
 refine take_ (i := 1) (N := some 47) (v := ?_) (a' := ?_) #[true, true, true, true, true, false, false, false, false, true, true, false, false, false, false, false] rfl rfl (by kernel_rfl) (fun _ _ _ h => h) (Or.inl ⟨by rfl, ?_⟩) hHeld ?_ ?_
 rotate_left
 · rintro w' ⟨s0, s1⟩
   go_simp
   with_reducible rfl
 rotate_left
 · exact putB
 refine pure_ (i := 5) (N := some 51) (v := ?_) (a' := ?_) #[true, true, true, true, true, true, false, false, false, true, true, false, false, false, false, false] rfl rfl (by kernel_rfl) (fun _ _ _ h => h) (Or.inl ⟨by rfl, ?_⟩) ?_ ?_
 rotate_left
 · intro w'
   go_simp
   with_reducible rfl
 rotate_left
 · exact putB
 refine pure_ (i := 6) (N := some 52) (v := ?_) (a' := ?_) #[true, true, true, true, true, true, true, false, false, true, true, false, false, false, false, false] rfl rfl (by kernel_rfl) (fun _ _ _ h => h) (Or.inl ⟨by rfl, ?_⟩) ?_ ?_
 rotate_left
 · intro w'
   go_simp
   with_reducible rfl
 rotate_left
 · exact putB
 refine pure_ (i := 7) (N := some 53) (v := ?_) (a' := ?_) #[true, true, true, true, true, true, true, true, false, true, true, false, false, false, false, false] rfl rfl (by kernel_rfl) (fun _ _ _ h => h) (Or.inl ⟨by rfl, ?_⟩) ?_ ?_
 rotate_left
 · intro w'
   go_simp
   with_reducible rfl
 rotate_left
 · exact putB
 refine pure_ (i := 12) (N := some 58) (v := ?_) (a' := ?_) #[true, true, true, true, true, true, true, true, false, true, true, false, true, false, false, false] rfl rfl (by kernel_rfl) (fun _ _ _ h => h) (Or.inl ⟨by rfl, ?_⟩) ?_ ?_
 rotate_left
 · intro w'
   go_simp
   with_reducible rfl
 rotate_left
 · exact putB
 refine pure_ (i := 13) (N := some 59) (v := ?_) (a' := ?_) #[true, true, true, true, true, true, true, true, false, true, true, false, true, true, false, false] rfl rfl (by kernel_rfl) (fun _ _ _ h => h) (Or.inl ⟨by rfl, ?_⟩) ?_ ?_
 rotate_left
 · intro w'
   go_simp
   with_reducible rfl
 rotate_left
 · exact putB
 refine take_ (i := 8) (N := some 54) (v := ?_) (a' := ?_) #[true, true, true, true, true, true, true, true, true, true, true, false, true, true, false, false] rfl rfl (by kernel_rfl) (fun _ _ _ h => h) (Or.inl ⟨by rfl, ?_⟩) hHeld ?_ ?_
 rotate_left
 · rintro w' ⟨s0, s1⟩
   go_simp
   with_reducible rfl
 rotate_left
 · exact putB
 refine pure_ (i := 11) (N := some 57) (v := ?_) (a' := ?_) #[true, true, true, true, true, true, true, true, true, true, true, true, true, true, false, false] rfl rfl (by kernel_rfl) (fun _ _ _ h => h) (Or.inl ⟨by rfl, ?_⟩) ?_ ?_
 rotate_left
 · intro w'
   go_simp
   with_reducible rfl
 rotate_left
 · exact putB
 refine pure_ (i := 14) (N := some 60) (v := ?_) (a' := ?_) #[true, true, true, true, true, true, true, true, true, true, true, true, true, true, true, false] rfl rfl (by kernel_rfl) (fun _ _ _ h => h) (Or.inl ⟨by rfl, ?_⟩) ?_ ?_
 rotate_left
 · intro w'
   go_simp
   with_reducible rfl
 rotate_left
 · exact putB
 refine last_ (i := 15) (N := none) #[true, true, true, true, true, true, true, true, true, true, true, true, true, true, true, true] rfl rfl (by kernel_rfl) (by decide) (fun K hK => ?_)
 have hfn : wd.frozen? ⟨g2, u, none⟩ = false := E.out.free _
 have hcn := hHeld.1
 refine skip_ (w1 := ?_) (by rfl) rfl ?_ ?_
 rotate_left
 · go_simp
   rfl
 refine hK.out _ _ ?_
 clear hK K
 refine done_ (by kernel_rfl) ?_
 have H2 := Aside0.mk (show InH w go g2 cap (l.set 0 s2) a1 a2 a3 (wd.setCell ⟨g2, u, none⟩ (.int .i16 (C + 1))) by
  have hp := E.out.put u (by have := HU.out; omega) (C + 1)
  rw [HS2.out, Nat.zero_add, show encSt u (C + 1) = .int .i16 (C + 1) by unfold encSt; rw [if_pos (by have := HU.out; omega)]] at hp
  have hq := H.out.put_elem (k := 0) HCS.out (by rw [List.length_set]; exact HP.out) (show InSt wd g2 (0 * 25) 55 cs s2 _ from hp)
  rw [List.set_set] at hq
  exact hq)
 have BR2 := Aside0.mk (blk_far (p := ⟨g2, u, none⟩) BR.out (blk_ne H.out.row.blk.choose_spec.1 BR.out (by decide)).symm (.int .i16 (C + 1)))
 clear H E BR hHeld hcn hfn cu hw2 hw5 hw6 c0_
 generalize wd.setCell ⟨g2, u, none⟩ (.int .i16 (C + 1)) = we at H2 BR2 ⊢
 have H := H2
 have BR := BR2
 clear H2 BR2
 have d0 : we.cell? ⟨go, 0, none⟩ = some (.slice (some ⟨g2, 0, none⟩) l.length cap) := (H.out.cell 0).trans (by first | rfl | (rw [List.length_set]; rfl))
 have e0 : we.cell? ⟨gr, 0, none⟩ = some (.slice none 0 0) := (blk_cell BR.out 0).trans rfl
 have f0 : we.frozen? ⟨gr, 0, none⟩ = false := blk_frozen BR.out 0
 have d1 : we.cell? ⟨go, 1, none⟩ = some (.int .i16 a1) := (H.out.cell 1).trans (by first | rfl | (rw [List.length_set]; rfl))
 have e1 : we.cell? ⟨gr, 1, none⟩ = some (.int .i16 0) := (blk_cell BR.out 1).trans rfl
 have f1 : we.frozen? ⟨gr, 1, none⟩ = false := blk_frozen BR.out 1
 have d2 : we.cell? ⟨go, 2, none⟩ = some (.int .i8 a2) := (H.out.cell 2).trans (by first | rfl | (rw [List.length_set]; rfl))
 have e2 : we.cell? ⟨gr, 2, none⟩ = some (.int .i8 0) := (blk_cell BR.out 2).trans rfl
 have f2 : we.frozen? ⟨gr, 2, none⟩ = false := blk_frozen BR.out 2
 have d3 : we.cell? ⟨go, 3, none⟩ = some (.int .i16 a3) := (H.out.cell 3).trans (by first | rfl | (rw [List.length_set]; rfl))
 have e3 : we.cell? ⟨gr, 3, none⟩ = some (.int .i16 0) := (blk_cell BR.out 3).trans rfl
 have f3 : we.frozen? ⟨gr, 3, none⟩ = false := blk_frozen BR.out 3
 go_wp2
 refine bodyPost_ret (results_ct rfl _ _ gr 32 #[.slice (some ⟨g2, 0, none⟩) l.length cap, .int .i16 a1, .int .i8 a2, .int .i16 a3] (0, 0) _ rfl (put4_blk BR.out) Try.underlying32 rfl (by kernel_rfl)) rfl ?_
 refine ⟨_, rfl, ?_, put4_below (H.out.below (Below.refl _ _) GBO.out G2.out) GBR.out⟩
 have hR := R_of_row (base := w.heap.size) (ok := fun _ => True) (H.out.row.move (put4_block (g := gr) (x0 := .slice (some ⟨g2, 0, none⟩) l.length cap) (x1 := .int .i16 a1) (x2 := .int .i8 a2) (x3 := .int .i16 a3) _ (blk_ne H.out.row.blk.choose_spec.1 BR.out (by decide)))) G2.out trivial
 rw [List.length_set] at hR
 exact hR
end Go.Proofs.Ytggjdcijplgpdaa.H
