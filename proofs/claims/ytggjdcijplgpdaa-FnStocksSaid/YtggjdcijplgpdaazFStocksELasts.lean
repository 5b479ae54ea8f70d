import Derived.Test.YtggjdcijplgpdaazFStocksEAddP
import Derived.Test.YtggjdcijplgpdaazFStocksENeedC
import Derived.Test.YtggjdcijplgpdaazFStocksEDAll
import Derived.Test.YtggjdcijplgpdaazFStocksEDay1
import Derived.Test.YtggjdcijplgpdaazFStocksEDay2
import Derived.Test.YtggjdcijplgpdaazFStocksELayG
import Derived.Test.YtggjdcijplgpdaazFStocksEDayOf
import Derived.Test.YtggjdcijplgpdaazFStocksEHOk
import Derived.Test.YtggjdcijplgpdaazFStocksEInH
import Derived.Test.YtggjdcijplgpdaazFStocksEKCode
import Derived.Test.YtggjdcijplgpdaazFStocksEVHF
import Derived.Test.YtggjdcijplgpdaazFStocksEMarkSt
import Derived.Test.YtggjdcijplgpdaazFStocksH12
import Derived.Test.YtggjdcijplgpdaazFStocksEVHouse
import Derived.Test.YtggjdcijplgpdaazFStocksEVStock
import Derived.Test.YtggjdcijplgpdaazFStocksECloneSt
import Derived.Test.YtggjdcijplgpdaazFStocksH1
import Derived.Shelf.Abstract
import Derived.Deep.QuietTactic
import Derived.BigQuiet
namespace Go.Proofs.Ytggjdcijplgpdaa.H
open Go.RowKit Go.Proofs.YtggjdcijplgpdaaW.PrintWords Go.Proofs.YtggjdcijplgpdaaW.PrintLast Go.Proofs.YtggjdcijplgpdaaW.PrintMore
attribute [local go_sem] max2_int min2_int max_two min_two max_three min_three max_four min_four
set_option linter.unusedVariables false
set_option linter.unusedSimpArgs false
def lastF (a1 a2 : Int) (needs : List Int) : Nat → List S55 → Int → Int
 | 0, _, i => i
 | n + 1, l, i => if ((dayOf l a1 a2 i needs).2.any fun x => decide (0 < x)) = true then i else lastF a1 a2 needs n (dayOf l a1 a2 i needs).1 (i + 1)
theorem needOk_of {l : List S55} {needs : List Int} (hN : NeedL needs) (hL : needs.length = l.length) : needOk l needs = true := by
 unfold needOk needsIn
 rw [decide_eq_true hL, Bool.true_and]
 have : (needs.any fun n => !inB 0 500 n) = false := List.any_eq_false.mpr fun x hx => by
  rw [inB_of (hN x hx)]
  simp
 rw [this]
 rfl
theorem useTo_pos {l : List S55} {needs : List Int} (h : FitL l) (hn : NeedL needs) (hl : needs.length = l.length) : ∀ k, k ≤ l.length → ∀ x ∈ (useTo l needs k).2, 0 ≤ x ∧ x ≤ 500
 | 0, _, x, hx => by cases hx
 | k + 1, hk, x, hx => by
  rw [useTo] at hx
  rcases List.mem_append.mp hx with hx | hx
  · exact useTo_pos h hn hl k (by omega) x hx
  · rw [List.mem_singleton] at hx
    subst hx
    obtain ⟨h1, h2, _⟩ := useTo_ok h hn hl k (by omega)
    exact (fit_use (h1.at_ (k := k) (by omega)) (hn.at_ (k := k) (by omega))).2
theorem dayOf_pos {l : List S55} {a1 a2 a3 : Int} {needs : List Int} (h : FitL l) (hn : NeedL needs) (hl : needs.length = l.length) : (∀ x ∈ (dayOf l a1 a2 a3 needs).2, 0 ≤ x ∧ x ≤ 500) ∧ (dayOf l a1 a2 a3 needs).2.length = l.length :=
 ⟨useTo_pos h hn hl l.length (Nat.le_refl _), (useTo_ok h hn hl l.length (Nat.le_refl _)).2.2⟩
theorem sumL_zero : ∀ {t : List Int}, (∀ x ∈ t, 0 ≤ x ∧ x ≤ 500) → (sumL t = 0 ↔ (t.any fun x => decide (0 < x)) = false)
 | [], _ => by simp [sumL]
 | x :: t, h => by
  have h0 := h x (by simp)
  have hn := sumL_nonneg t (fun y hy => (h y (by simp [hy])).1)
  have ih := sumL_zero (t := t) (fun y hy => h y (by simp [hy]))
  rw [List.any_cons, Bool.or_eq_false_iff]
  simp only [sumL]
  constructor
  · intro hs
    exact ⟨decide_eq_false (by omega), ih.mp (by omega)⟩
  · rintro ⟨ha, hb⟩
    have := of_decide_eq_false ha
    have := ih.mpr hb
    omega
theorem sumTo_pos {t : List Int} (h : ∀ x ∈ t, 0 ≤ x ∧ x ≤ 500) (hl : t.length ≤ 1000) : sumTo t t.length = 0 ↔ (t.any fun x => decide (0 < x)) = false := by
 have := sumTo_L t h hl t.length (Nat.le_refl _)
 rw [this.1, List.take_length]
 exact sumL_zero h
theorem needCode_ok (W : World) (g : Nat) (A0 : Option Addr) (c0 : Nat) (l : List S55) (a1 a2 a3 : Int) (A1 : Option Addr) (cN : Nat) (needs : List Int) (hs : W.heap[g]? = some (.cells #[.slice A0 l.length c0, .int .i16 a1, .int .i8 a2, .int .i16 a3] 32 (0, 0))) (hr : Kd.C (Kd.int .i64) W A1 needs.length needs) (hc : needs.length ≤ cN) (hk : needOk l needs = true) :
 Calls Try.prog 96 #[.pointer (some ⟨g, 0, none⟩), .slice A1 needs.length cN] W fun e w' => e = .returned (.int .i64 0) ∧ Below W.heap.size W w' := by
 have h := needCode_at W g A0 c0 l A1 cN needs ((blk_cell hs 0).trans rfl) hr hc
 rw [hk] at h
 exact h
set_option maxHeartbeats 8000000 in
set_option maxRecDepth 100000 in
theorem lastsFor_calls (w : World) (A0 A1 : Option Addr) (c0 c1 : Nat) (l : List S55) (a1 a2 a3 : Int) (needs : List Int) (hr : Kd.C k55 w A0 l.length l) (hc : l.length ≤ c0) (hrow : RowAt w A0 l) (h : FitH l a1 a2 a3) (hr1 : Kd.C (Kd.int .i64) w A1 needs.length needs) (hc1 : needs.length ≤ c1) (hN : NeedL needs) (hL : needs.length = l.length) :
 Calls Try.prog 38 #[.agg #[.slice A0 l.length c0, .int .i16 a1, .int .i8 a2, .int .i16 a3], .slice A1 needs.length c1] w fun e w' => e = .returned (.tuple #[.int .i64 (lastF a1 a2 needs 60 l 0), .int .i64 0]) ∧ Below w.heap.size w w' := by
 have hu32 := Try.underlying32
 have mixed : Try.prog.follows .mixedOrders = true := by kernel_rfl
 have HP := Aside0.mk h.pos
 have h4 := h.four
 have HK := Aside0.mk (fun (w' : World) (hb : Below w.heap.size w w') => ((FitH.valid h) ▸ validHouse_calls A0 c0 l a1 a2 a3 w' (Kd.C_below hr hb) hc (FitH.typed h) : Calls Try.prog 63 #[.agg #[.slice A0 l.length c0, .int .i16 a1, .int .i8 a2, .int .i16 a3]] w' fun e w'' => e = .returned (.bool true) ∧ Below w'.heap.size w' w''))
 have HN1 := Aside0.mk (fun (w : World) => impl_unless.calls true 1 0 w rfl)
 have HN := Aside0.mk (fun (w' : World) (g : Nat) (hb : Below w.heap.size w w') (hs : w'.heap[g]? = some (.cells #[.slice A0 l.length c0, .int .i16 a1, .int .i8 a2, .int .i16 a3] 32 (0, 0))) => needCode_ok w' g A0 c0 l a1 a2 a3 A1 c1 needs hs (Kd.C_below hr1 hb) hc1 (needOk_of hN hL))
 have HF1 := Aside0.mk (fun (A : Option Addr) (c : Nat) (w : World) (hr : Kd.C (Kd.int .i64) w A ([0, 0] : List Int).length [0, 0]) (hc : ([0, 0] : List Int).length ≤ c) => impl_firstOf.calls 3 A c [0, 0] 0 w hr hc (firstOf_two 0 0))
 have HO := Aside0.mk (fun (w' : World) (hb : Below w.heap.size w w') => impl_House_own.calls A0 c0 l a1 a2 a3 l a1 a2 a3 w' (Kd.C_below hr hb) hc (own_ok h))
 have HFL0 := Aside0.mk h.st
 have HFT := Aside0.mk h.tub
 have HFE := Aside0.mk h.every
 have HF4 := Aside0.mk h4
 have HR1 := Aside0.mk hr1
 have HC1 := Aside0.mk hc1
 have HNL := Aside0.mk hN
 have HLE := Aside0.mk hL
 obtain ⟨rr, hrr⟩ : ∃ q, lastF a1 a2 needs 60 l 0 = q := ⟨_, rfl⟩
 rw [hrr]
 have HRR := Aside0.mk hrr
 clear hr hc hrow h hr1 hc1 hN hL hrr h4
 go_enter Try.func38, Try.ntmps38
 have ST0 := Aside0.mk True.intro
 go_wp2_with (first
  | (have s_ := ST0; (with_reducible refine gate_dst (N := 2) rfl ?_); refine box_event ?hg (N := 2) ?hd (cs := #[.slice A0 l.length c0, .int .i16 a1, .int .i8 a2, .int .i16 a3]) (t := 32) ?hr ?_; (case hd => rfl); (case hg => rfl); (case hr => first | (go_simp; done) | (go_simp; rfl)); intro gh hg_ w1 hbox hb; have GBH := Aside0.mk (by rw [hg_]; exact Nat.le_refl _ : w.heap.size ≤ gh); have HB := Aside0.mk hb; have BH := Aside0.mk hbox; clear hb hbox hg_; have qBH0 : w1.cell? ⟨gh, 0, none⟩ = some (.slice A0 l.length c0) := (blk_cell BH.out 0).trans rfl; have qBH1 : w1.cell? ⟨gh, 1, none⟩ = some (.int .i16 a1) := (blk_cell BH.out 1).trans rfl; have qBH2 : w1.cell? ⟨gh, 2, none⟩ = some (.int .i8 a2) := (blk_cell BH.out 2).trans rfl; have qBH3 : w1.cell? ⟨gh, 3, none⟩ = some (.int .i16 a3) := (blk_cell BH.out 3).trans rfl; clear ST0 s_; have ST1 := Aside0.mk True.intro)
  | (have s_ := ST1; go_at_call 63; (with_reducible refine (HK.out _ HB.out).mono ?_); rintro e w2 ⟨rfl, hb⟩; replace HB := Aside0.mk (below_step HB.out hb); replace BH := Aside0.mk (blk_below BH.out hb); clear hb; clear qBH0 qBH1 qBH2 qBH3; have qBH0 : w2.cell? ⟨gh, 0, none⟩ = some (.slice A0 l.length c0) := (blk_cell BH.out 0).trans rfl; have qBH1 : w2.cell? ⟨gh, 1, none⟩ = some (.int .i16 a1) := (blk_cell BH.out 1).trans rfl; have qBH2 : w2.cell? ⟨gh, 2, none⟩ = some (.int .i8 a2) := (blk_cell BH.out 2).trans rfl; have qBH3 : w2.cell? ⟨gh, 3, none⟩ = some (.int .i16 a3) := (blk_cell BH.out 3).trans rfl; clear ST1 s_; have ST2 := Aside0.mk True.intro)
  | (have s_ := ST2; go_at_call 62; (with_reducible refine (HN1.out _).mono ?_); rintro e w3 ⟨rfl, hd⟩; have hb := hd.below; replace HB := Aside0.mk (below_step HB.out hb); replace BH := Aside0.mk (blk_below BH.out hb); clear hb hd; clear qBH0 qBH1 qBH2 qBH3; have qBH0 : w3.cell? ⟨gh, 0, none⟩ = some (.slice A0 l.length c0) := (blk_cell BH.out 0).trans rfl; have qBH1 : w3.cell? ⟨gh, 1, none⟩ = some (.int .i16 a1) := (blk_cell BH.out 1).trans rfl; have qBH2 : w3.cell? ⟨gh, 2, none⟩ = some (.int .i8 a2) := (blk_cell BH.out 2).trans rfl; have qBH3 : w3.cell? ⟨gh, 3, none⟩ = some (.int .i16 a3) := (blk_cell BH.out 3).trans rfl; clear ST2 s_; have ST3 := Aside0.mk True.intro)
  | (have s_ := ST3; go_at_call 96; (with_reducible refine (HN.out _ gh HB.out BH.out).mono ?_); rintro e w4 ⟨rfl, hb⟩; replace HB := Aside0.mk (below_step HB.out hb); replace BH := Aside0.mk (blk_below BH.out hb); clear hb; clear qBH0 qBH1 qBH2 qBH3; have qBH0 : w4.cell? ⟨gh, 0, none⟩ = some (.slice A0 l.length c0) := (blk_cell BH.out 0).trans rfl; have qBH1 : w4.cell? ⟨gh, 1, none⟩ = some (.int .i16 a1) := (blk_cell BH.out 1).trans rfl; have qBH2 : w4.cell? ⟨gh, 2, none⟩ = some (.int .i8 a2) := (blk_cell BH.out 2).trans rfl; have qBH3 : w4.cell? ⟨gh, 3, none⟩ = some (.int .i16 a3) := (blk_cell BH.out 3).trans rfl; clear ST3 s_; have ST4 := Aside0.mk True.intro)
  | (have s_ := ST4; (with_reducible refine gate_dst (N := 14) rfl ?_); refine Kd.R_lit (Kd.int .i64) _ 2 ?hg (N := 14) ?hd (xs := ([0, 0] : List Int)) (inner := [.int .i64 0, .int .i64 0]) (ok := fun _ => True) (okp := fun _ => True) ?hr ?hp (fun _ hk => hk) trivial (Below.refl _ _) (Nat.le_refl _) (by simp) ?_; (case hd => rfl); (case hg => rfl); (case hr => first | (go_simp; done) | (go_simp; rfl)); (case hp => exact (Reps.one (show Kd.M (Kd.int .i64) _ _ _ 0 [.int .i64 0] from rfl) (Reps.one (show Kd.M (Kd.int .i64) _ _ _ 0 [.int .i64 0] from rfl) (Reps.none _ _)))); intro v_ w5 ho_ hb hg_ hnew_; clear hg_ hnew_; replace HB := Aside0.mk (below_step HB.out hb); replace BH := Aside0.mk (blk_below BH.out hb); have HL := Aside0.mk ho_; clear ho_ hb; obtain ⟨Al, cl, el⟩ := Kd.R_slice HL.out; subst el; clear qBH0 qBH1 qBH2 qBH3; have qBH0 : w5.cell? ⟨gh, 0, none⟩ = some (.slice A0 l.length c0) := (blk_cell BH.out 0).trans rfl; have qBH1 : w5.cell? ⟨gh, 1, none⟩ = some (.int .i16 a1) := (blk_cell BH.out 1).trans rfl; have qBH2 : w5.cell? ⟨gh, 2, none⟩ = some (.int .i8 a2) := (blk_cell BH.out 2).trans rfl; have qBH3 : w5.cell? ⟨gh, 3, none⟩ = some (.int .i16 a3) := (blk_cell BH.out 3).trans rfl; clear ST4 s_; have ST5 := Aside0.mk True.intro)
  | (have s_ := ST5; go_at_call 61; refine (HF1.out Al cl _ (Kd.R_reads' HL.out).2.2 (Kd.R_reads' HL.out).2.1).mono ?_; rintro e w6 ⟨rfl, hd⟩; have hb := hd.below; replace HB := Aside0.mk (below_step HB.out hb); replace BH := Aside0.mk (blk_below BH.out hb); clear hb hd; clear HL; clear qBH0 qBH1 qBH2 qBH3; have qBH0 : w6.cell? ⟨gh, 0, none⟩ = some (.slice A0 l.length c0) := (blk_cell BH.out 0).trans rfl; have qBH1 : w6.cell? ⟨gh, 1, none⟩ = some (.int .i16 a1) := (blk_cell BH.out 1).trans rfl; have qBH2 : w6.cell? ⟨gh, 2, none⟩ = some (.int .i8 a2) := (blk_cell BH.out 2).trans rfl; have qBH3 : w6.cell? ⟨gh, 3, none⟩ = some (.int .i16 a3) := (blk_cell BH.out 3).trans rfl; clear ST5 s_; have ST6 := Aside0.mk True.intro)
  | (have s_ := ST6; go_at_call 64; (with_reducible refine (HO.out _ HB.out).mono ?_); rintro e w8 ⟨v8, rfl, hR, hb⟩; have RW := Aside0.mk (Kd.R_lower hR HB.out.size); replace HB := Aside0.mk (below_step HB.out hb); replace BH := Aside0.mk (blk_below BH.out hb); clear hb hR; obtain ⟨g2, cap, e8, hg2, _, hrow⟩ := row_of_R RW.out HP.out; subst e8; have RS := Aside0.mk hrow; have G2 := Aside0.mk hg2; clear hrow hg2 RW; clear qBH0 qBH1 qBH2 qBH3; have qBH0 : w8.cell? ⟨gh, 0, none⟩ = some (.slice A0 l.length c0) := (blk_cell BH.out 0).trans rfl; have qBH1 : w8.cell? ⟨gh, 1, none⟩ = some (.int .i16 a1) := (blk_cell BH.out 1).trans rfl; have qBH2 : w8.cell? ⟨gh, 2, none⟩ = some (.int .i8 a2) := (blk_cell BH.out 2).trans rfl; have qBH3 : w8.cell? ⟨gh, 3, none⟩ = some (.int .i16 a3) := (blk_cell BH.out 3).trans rfl; clear ST6 s_; have ST7 := Aside0.mk True.intro)
  | (have s_ := ST7; (with_reducible refine gate_dst (N := 7) rfl ?_); refine box_event ?hg (N := 7) ?hd (cs := #[.slice none 0 0, .int .i16 0, .int .i8 0, .int .i16 0]) (t := 32) ?hr ?_; (case hd => rfl); (case hg => rfl); (case hr => first | (go_simp; done) | (go_simp; rfl)); intro go hg_ w9 hbox hb; have GBO := Aside0.mk (by rw [hg_]; exact HB.out.size : w.heap.size ≤ go); have NBH_BO := Aside0.mk (by rw [hg_]; exact Nat.ne_of_lt (blk_lt BH.out) : gh ≠ go); replace HB := Aside0.mk (below_step HB.out hb); replace BH := Aside0.mk (blk_below BH.out hb); replace RS := Aside0.mk (RS.out.move (hb.block _ RS.out.lt)); have BO := Aside0.mk hbox; clear hb hbox hg_; clear qBH0 qBH1 qBH2 qBH3; have qBH0 : w9.cell? ⟨gh, 0, none⟩ = some (.slice A0 l.length c0) := (blk_cell BH.out 0).trans rfl; have qBH1 : w9.cell? ⟨gh, 1, none⟩ = some (.int .i16 a1) := (blk_cell BH.out 1).trans rfl; have qBH2 : w9.cell? ⟨gh, 2, none⟩ = some (.int .i8 a2) := (blk_cell BH.out 2).trans rfl; have qBH3 : w9.cell? ⟨gh, 3, none⟩ = some (.int .i16 a3) := (blk_cell BH.out 3).trans rfl; have qBO0 : w9.cell? ⟨go, 0, none⟩ = some (.slice none 0 0) := (blk_cell BO.out 0).trans rfl; have qBO1 : w9.cell? ⟨go, 1, none⟩ = some (.int .i16 0) := (blk_cell BO.out 1).trans rfl; have qBO2 : w9.cell? ⟨go, 2, none⟩ = some (.int .i8 0) := (blk_cell BO.out 2).trans rfl; have qBO3 : w9.cell? ⟨go, 3, none⟩ = some (.int .i16 0) := (blk_cell BO.out 3).trans rfl; have fBO0 : w9.frozen? ⟨go, 0, none⟩ = false := blk_frozen BO.out 0; have fBO1 : w9.frozen? ⟨go, 1, none⟩ = false := blk_frozen BO.out 1; have fBO2 : w9.frozen? ⟨go, 2, none⟩ = false := blk_frozen BO.out 2; have fBO3 : w9.frozen? ⟨go, 3, none⟩ = false := blk_frozen BO.out 3; clear ST7 s_; have ST8 := Aside0.mk True.intro)
  | (have s_ := ST8; (with_reducible refine gate_store (t := 32) (p := 7) rfl ?_); refine store_event (t := 32) (p := 7) (v := ?vo_w10) (w1 := ((((w9.setCell ⟨go, 0, none⟩ (.slice (some ⟨g2, 0, none⟩) l.length cap)).setCell ⟨go, 1, none⟩ (.int .i16 a1)).setCell ⟨go, 2, none⟩ (.int .i8 a2)).setCell ⟨go, 3, none⟩ (.int .i16 a3))) ?hg ?ho ?hn ?hr ?_; (case ho => rfl); (case hg => rfl); (case hn => rfl); (case hr => first | (go_simp; done) | (go_simp; rfl)); intro w10 hw; have hg : w9.grownBy w10 (some go) := (by rw [hw]; exact put4_grown True.intro True.intro); have hnew : w10.heap[go]? = some (.cells #[.slice (some ⟨g2, 0, none⟩) l.length cap, .int .i16 a1, .int .i8 a2, .int .i16 a3] 32 (0, 0)) := (by rw [hw]; exact put4_blk BO.out); clear hw; replace HB := Aside0.mk (below_grown HB.out hg (fun k_ e_ => by injection e_ with e_; subst e_; exact GBO.out)); replace BH := Aside0.mk (blk_grown BH.out hg (fun e_ => by injection e_ with e_; exact NBH_BO.out e_)); replace RS := Aside0.mk (RS.out.move (hg.block _ RS.out.lt (fun e_ => blk_ne RS.out.blk.choose_spec.1 BO.out (by decide) (by injection e_)))); replace BO := Aside0.mk (hnew); clear hg hnew; clear qBH0 qBH1 qBH2 qBH3 qBO0 qBO1 qBO2 qBO3 fBO0 fBO1 fBO2 fBO3; have qBH0 : w10.cell? ⟨gh, 0, none⟩ = some (.slice A0 l.length c0) := (blk_cell BH.out 0).trans rfl; have qBH1 : w10.cell? ⟨gh, 1, none⟩ = some (.int .i16 a1) := (blk_cell BH.out 1).trans rfl; have qBH2 : w10.cell? ⟨gh, 2, none⟩ = some (.int .i8 a2) := (blk_cell BH.out 2).trans rfl; have qBH3 : w10.cell? ⟨gh, 3, none⟩ = some (.int .i16 a3) := (blk_cell BH.out 3).trans rfl; have qBO0 : w10.cell? ⟨go, 0, none⟩ = some (.slice (some ⟨g2, 0, none⟩) l.length cap) := (blk_cell BO.out 0).trans rfl; have qBO1 : w10.cell? ⟨go, 1, none⟩ = some (.int .i16 a1) := (blk_cell BO.out 1).trans rfl; have qBO2 : w10.cell? ⟨go, 2, none⟩ = some (.int .i8 a2) := (blk_cell BO.out 2).trans rfl; have qBO3 : w10.cell? ⟨go, 3, none⟩ = some (.int .i16 a3) := (blk_cell BO.out 3).trans rfl; have f3_ : w10.frozen? ⟨go, 3, none⟩ = false := blk_frozen BO.out 3; clear ST8 s_; have ST9 := Aside0.mk True.intro))
 have H0 := Aside0.mk ((InH.made BO.out RS.out HB.out).today 0)
 clear HB BH BO RS f3_ qBH0 qBH1 qBH2 qBH3 qBO0 qBO1 qBO2 qBO3
 go_loopg [8] 60 (fun gk v8 wr => ∃ (i : Nat) (li : List S55), i ≤ 60 ∧ 60 - i ≤ gk ∧ v8 = .int .i64 i ∧ Aside0 (lastF a1 a2 needs (60 - i) li i = rr) ∧ Aside0 (FitL li ∧ li.length = l.length) ∧ Aside0 (InH w go g2 cap li a1 a2 i wr))
 case atStart => exact ⟨0, l, by omega, by omega, rfl, HRR, ⟨⟨HFL0.out, rfl⟩⟩, H0⟩
 case round =>
  clear H0
  obtain ⟨i, li, hi, hgk, rfl, HQ0, HFA, H⟩ := hrel
  by_cases hlt : i < 60
  · have hltz : (i : Int) < 60 := by omega
    have hlen4 : li.length ≤ 4 := by rw [HFA.out.2]; exact HF4.out
    have hlen : needs.length = li.length := by rw [HFA.out.2]; exact HLE.out
    have hok := dayOf_ok (a2 := a2) (a3 := (i : Int)) HFA.out.1 HFT.out HNL.out hlen
    have hpos := dayOf_pos (a1 := a1) (a2 := a2) (a3 := (i : Int)) HFA.out.1 HNL.out hlen
    have hrn := HQ0.out
    rw [show 60 - i = (60 - (i + 1)) + 1 by omega, lastF] at hrn
    obtain ⟨q, hq⟩ : ∃ q, dayOf li a1 a2 i needs = q := ⟨_, rfl⟩
    rw [hq] at hok hpos hrn
    have HD := Aside0.mk hq
    have HOK := Aside0.mk hok
    have HI := Aside0.mk hlt
    have HLN := Aside0.mk hlen
    have HL4 := Aside0.mk hlen4
    obtain ⟨ks, hks⟩ := Ev.get (sumTo_ev q.2 (by have := hpos.2; omega))
    have hsum := sumTo_pos hpos.1 (by have := hpos.2; omega)
    obtain ⟨S, hS⟩ : ∃ S, sumTo q.2 q.2.length = S := ⟨_, rfl⟩
    rw [hS] at hks hsum
    have HM := Aside0.mk (fun (w : World) (A : Option Addr) (c : Nat) (hr : Kd.C (Kd.int .i64) w A q.2.length q.2) (hc : q.2.length ≤ c) => impl_sum.calls ks A c q.2 _ w hr hc hks)
    have arm1 := Aside0.mk (day_walk w wr wr go g2 cap li a1 a2 i A1 c1 needs HFA.out.1 HFT.out HFE.out ⟨by omega, by omega⟩ HNL.out HLN.out HL4.out HR1.out (H.out.below (Below.refl _ _) GBO.out G2.out) ⟨GBO.out, G2.out⟩ (InH.start H.out.hs H.out.row))
    have HSM := Aside0.mk hsum
    clear hok hpos hq hlt hlen hlen4 hks hS hsum
    by_cases hz : S = 0
    · have hany : (q.2.any fun x => decide (0 < x)) = false := HSM.out.mp hz
      rw [hany] at hrn
      have hzb : (S == 0) = true := beq_iff_eq.mpr hz
      have hzd : decide (S = 0) = true := decide_eq_true hz
      have HRN := Aside0.mk hrn
      clear hz hrn hany
      go_wp2_with (first | (go_at_call 66; (with_reducible refine arm1.out.mono ?_); rintro e w11 ⟨vd, rfl, hv, hI⟩; rw [HD.out] at hv hI; have HVD := Aside0.mk hv; have n_ := Aside0.mk (H.out.trans hI); clear H hv hI arm1; have H := n_; clear n_; obtain ⟨Av, cv, ev⟩ := Kd.R_slice HVD.out; subst ev) | (go_at_call 91; (with_reducible refine (HM.out _ Av cv (Kd.R_reads' HVD.out).2.2 (Kd.R_reads' HVD.out).2.1).mono ?_); rintro e w12 ⟨rfl, hd⟩; have n_ := Aside0.mk (H.out.step hd.below); clear H hd HVD; have H := n_; clear n_))
      have hi_ := HI.out
      go_roundg (60 - (i + 1))
      case measure => omega
      case rel => exact ⟨i + 1, q.1, by omega, by omega, by have hw_ : wrap64 ((i : Int) + 1) = ((i + 1 : Nat) : Int) := (w64i (by omega) (by omega)).trans (by omega); first | rfl | rw [hw_] | (simp only [i64_w, hw_]) | go_num, ⟨by have := HRN.out; simpa using this⟩, ⟨⟨HOK.out.1, HOK.out.2.trans HFA.out.2⟩⟩, ⟨by have := H.out; simpa using this⟩⟩
    · have hany : (q.2.any fun x => decide (0 < x)) = true := by
       cases c : (q.2.any fun x => decide (0 < x)) with
       | true => rfl
       | false => exact absurd (HSM.out.mpr c) hz
      rw [hany] at hrn
      have hzb : (S == 0) = false := beq_eq_false_iff_ne.mpr hz
      have hzd : decide (S = 0) = false := decide_eq_false hz
      have HRN := Aside0.mk hrn
      clear hz hrn hany
      go_wp2_with (first | (go_at_call 66; (with_reducible refine arm1.out.mono ?_); rintro e w11 ⟨vd, rfl, hv, hI⟩; rw [HD.out] at hv hI; have HVD := Aside0.mk hv; have n_ := Aside0.mk (H.out.trans hI); clear H hv hI arm1; have H := n_; clear n_; obtain ⟨Av, cv, ev⟩ := Kd.R_slice HVD.out; subst ev) | (go_at_call 91; (with_reducible refine (HM.out _ Av cv (Kd.R_reads' HVD.out).2.2 (Kd.R_reads' HVD.out).2.1).mono ?_); rintro e w12 ⟨rfl, hd⟩; have n_ := Aside0.mk (H.out.step hd.below); clear H hd HVD; have H := n_; clear n_))
      go_ret2
      exact ⟨by rw [← HRN.out]; rfl, H.out.below (Below.refl _ _) GBO.out G2.out⟩
  · have hltz : ¬ (i : Int) < 60 := by omega
    obtain rfl : i = 60 := by omega
    have hrn := HQ0.out
    rw [Nat.sub_self, lastF] at hrn
    have HRN := Aside0.mk hrn
    clear hrn
    go_wp2
    go_ret2
    exact ⟨by rw [← HRN.out]; rfl, H.out.below (Below.refl _ _) GBO.out G2.out⟩
set_option maxHeartbeats 8000000 in
set_option maxRecDepth 100000 in
theorem specLastsFor_calls (w : World) (A0 A1 : Option Addr) (c0 c1 : Nat) (l : List S55) (a1 a2 a3 : Int) (needs : List Int) (hr : Kd.C k55 w A0 l.length l) (hc : l.length ≤ c0) (hrow : RowAt w A0 l) (h : FitH l a1 a2 a3) (hr1 : Kd.C (Kd.int .i64) w A1 needs.length needs) (hc1 : needs.length ≤ c1) (hN : NeedL needs) (hL : needs.length = l.length) :
 Calls Try.prog 39 #[.agg #[.slice A0 l.length c0, .int .i16 a1, .int .i8 a2, .int .i16 a3], .slice A1 needs.length c1] w fun e w' => e = .returned (.tuple #[.int .i64 (lastF a1 a2 needs 60 l 0), .int .i64 0]) ∧ Below w.heap.size w w' := by
 have hu32 := Try.underlying32
 have mixed : Try.prog.follows .mixedOrders = true := by kernel_rfl
 have HP := Aside0.mk h.pos
 have h4 := h.four
 have HK := Aside0.mk (fun (w' : World) (g : Nat) (hb : Below w.heap.size w w') (hs : w'.heap[g]? = some (.cells #[.slice A0 l.length c0, .int .i16 a1, .int .i8 a2, .int .i16 a3] 32 (0, 0))) => ((FitH.valid h) ▸ l05Ok_walk w' g A0 c0 l a1 a2 a3 hs (hrow.below hb) (FitH.typed h) (by omega) : Calls Try.prog 57 #[.pointer (some ⟨g, 0, none⟩)] w' fun e w'' => e = .returned (.bool true) ∧ Below w'.heap.size w' w''))
 have HN := Aside0.mk (fun (w' : World) (hb : Below w.heap.size w w') => spec_l05Needs.calls (needs.length + 1) A1 c1 needs (l.length : Int) true w' (Kd.C_below hr1 hb) hc1 (by rw [l05Needs_ok l needs (by omega), needOk_of hN hL]))
 have HO := Aside0.mk (fun (w' : World) (g : Nat) (hb : Below w.heap.size w w') (hs : w'.heap[g]? = some (.cells #[.slice A0 l.length c0, .int .i16 a1, .int .i8 a2, .int .i16 a3] 32 (0, 0))) => l05Own_walk w' g A0 c0 l a1 a2 a3 hs (Kd.C_below hr hb) h.four)
 have HFL0 := Aside0.mk h.st
 have HFT := Aside0.mk h.tub
 have HFE := Aside0.mk h.every
 have HF4 := Aside0.mk h4
 have HR1 := Aside0.mk hr1
 have HC1 := Aside0.mk hc1
 have HNL := Aside0.mk hN
 have HLE := Aside0.mk hL
 obtain ⟨rr, hrr⟩ : ∃ q, lastF a1 a2 needs 60 l 0 = q := ⟨_, rfl⟩
 rw [hrr]
 have HRR := Aside0.mk hrr
 clear hr hc hrow h hr1 hc1 hN hL hrr h4
 go_enter Try.func39, Try.ntmps39
 have ST0 := Aside0.mk True.intro
 go_wp2_with (first
  | (have s_ := ST0; (with_reducible refine gate_dst (N := 2) rfl ?_); refine box_event ?hg (N := 2) ?hd (cs := #[.slice A0 l.length c0, .int .i16 a1, .int .i8 a2, .int .i16 a3]) (t := 32) ?hr ?_; (case hd => rfl); (case hg => rfl); (case hr => first | (go_simp; done) | (go_simp; rfl)); intro gh hg_ w1 hbox hb; have GBH := Aside0.mk (by rw [hg_]; exact Nat.le_refl _ : w.heap.size ≤ gh); have HB := Aside0.mk hb; have BH := Aside0.mk hbox; clear hb hbox hg_; have qBH0 : w1.cell? ⟨gh, 0, none⟩ = some (.slice A0 l.length c0) := (blk_cell BH.out 0).trans rfl; have qBH1 : w1.cell? ⟨gh, 1, none⟩ = some (.int .i16 a1) := (blk_cell BH.out 1).trans rfl; have qBH2 : w1.cell? ⟨gh, 2, none⟩ = some (.int .i8 a2) := (blk_cell BH.out 2).trans rfl; have qBH3 : w1.cell? ⟨gh, 3, none⟩ = some (.int .i16 a3) := (blk_cell BH.out 3).trans rfl; clear ST0 s_; have ST1 := Aside0.mk True.intro)
  | (have s_ := ST1; go_at_call 57; (with_reducible refine (HK.out _ gh HB.out BH.out).mono ?_); rintro e w2 ⟨rfl, hb⟩; replace HB := Aside0.mk (below_step HB.out hb); replace BH := Aside0.mk (blk_below BH.out hb); clear hb; clear qBH0 qBH1 qBH2 qBH3; have qBH0 : w2.cell? ⟨gh, 0, none⟩ = some (.slice A0 l.length c0) := (blk_cell BH.out 0).trans rfl; have qBH1 : w2.cell? ⟨gh, 1, none⟩ = some (.int .i16 a1) := (blk_cell BH.out 1).trans rfl; have qBH2 : w2.cell? ⟨gh, 2, none⟩ = some (.int .i8 a2) := (blk_cell BH.out 2).trans rfl; have qBH3 : w2.cell? ⟨gh, 3, none⟩ = some (.int .i16 a3) := (blk_cell BH.out 3).trans rfl; clear ST1 s_; have ST2 := Aside0.mk True.intro)
  | (have s_ := ST2; go_at_call 97; (with_reducible refine (HN.out _ HB.out).mono ?_); rintro e w3 ⟨rfl, hd⟩; have hb := hd.below; replace HB := Aside0.mk (below_step HB.out hb); replace BH := Aside0.mk (blk_below BH.out hb); clear hb hd; clear qBH0 qBH1 qBH2 qBH3; have qBH0 : w3.cell? ⟨gh, 0, none⟩ = some (.slice A0 l.length c0) := (blk_cell BH.out 0).trans rfl; have qBH1 : w3.cell? ⟨gh, 1, none⟩ = some (.int .i16 a1) := (blk_cell BH.out 1).trans rfl; have qBH2 : w3.cell? ⟨gh, 2, none⟩ = some (.int .i8 a2) := (blk_cell BH.out 2).trans rfl; have qBH3 : w3.cell? ⟨gh, 3, none⟩ = some (.int .i16 a3) := (blk_cell BH.out 3).trans rfl; clear ST2 s_; have ST3 := Aside0.mk True.intro)
  | (have s_ := ST3; go_at_call 58; (with_reducible refine (HO.out _ gh HB.out BH.out).mono ?_); rintro e w8 ⟨v8, rfl, hR, hb⟩; have RW := Aside0.mk (Kd.R_lower hR HB.out.size); replace HB := Aside0.mk (below_step HB.out hb); replace BH := Aside0.mk (blk_below BH.out hb); clear hb hR; obtain ⟨g2, cap, e8, hg2, _, hrow⟩ := row_of_R RW.out HP.out; subst e8; have RS := Aside0.mk hrow; have G2 := Aside0.mk hg2; clear hrow hg2 RW; clear qBH0 qBH1 qBH2 qBH3; have qBH0 : w8.cell? ⟨gh, 0, none⟩ = some (.slice A0 l.length c0) := (blk_cell BH.out 0).trans rfl; have qBH1 : w8.cell? ⟨gh, 1, none⟩ = some (.int .i16 a1) := (blk_cell BH.out 1).trans rfl; have qBH2 : w8.cell? ⟨gh, 2, none⟩ = some (.int .i8 a2) := (blk_cell BH.out 2).trans rfl; have qBH3 : w8.cell? ⟨gh, 3, none⟩ = some (.int .i16 a3) := (blk_cell BH.out 3).trans rfl; clear ST3 s_; have ST4 := Aside0.mk True.intro)
  | (have s_ := ST4; (with_reducible refine gate_dst (N := 6) rfl ?_); refine box_event ?hg (N := 6) ?hd (cs := #[.slice none 0 0, .int .i16 0, .int .i8 0, .int .i16 0]) (t := 32) ?hr ?_; (case hd => rfl); (case hg => rfl); (case hr => first | (go_simp; done) | (go_simp; rfl)); intro go hg_ w9 hbox hb; have GBO := Aside0.mk (by rw [hg_]; exact HB.out.size : w.heap.size ≤ go); have NBH_BO := Aside0.mk (by rw [hg_]; exact Nat.ne_of_lt (blk_lt BH.out) : gh ≠ go); replace HB := Aside0.mk (below_step HB.out hb); replace BH := Aside0.mk (blk_below BH.out hb); replace RS := Aside0.mk (RS.out.move (hb.block _ RS.out.lt)); have BO := Aside0.mk hbox; clear hb hbox hg_; clear qBH0 qBH1 qBH2 qBH3; have qBH0 : w9.cell? ⟨gh, 0, none⟩ = some (.slice A0 l.length c0) := (blk_cell BH.out 0).trans rfl; have qBH1 : w9.cell? ⟨gh, 1, none⟩ = some (.int .i16 a1) := (blk_cell BH.out 1).trans rfl; have qBH2 : w9.cell? ⟨gh, 2, none⟩ = some (.int .i8 a2) := (blk_cell BH.out 2).trans rfl; have qBH3 : w9.cell? ⟨gh, 3, none⟩ = some (.int .i16 a3) := (blk_cell BH.out 3).trans rfl; have qBO0 : w9.cell? ⟨go, 0, none⟩ = some (.slice none 0 0) := (blk_cell BO.out 0).trans rfl; have qBO1 : w9.cell? ⟨go, 1, none⟩ = some (.int .i16 0) := (blk_cell BO.out 1).trans rfl; have qBO2 : w9.cell? ⟨go, 2, none⟩ = some (.int .i8 0) := (blk_cell BO.out 2).trans rfl; have qBO3 : w9.cell? ⟨go, 3, none⟩ = some (.int .i16 0) := (blk_cell BO.out 3).trans rfl; have fBO0 : w9.frozen? ⟨go, 0, none⟩ = false := blk_frozen BO.out 0; have fBO1 : w9.frozen? ⟨go, 1, none⟩ = false := blk_frozen BO.out 1; have fBO2 : w9.frozen? ⟨go, 2, none⟩ = false := blk_frozen BO.out 2; have fBO3 : w9.frozen? ⟨go, 3, none⟩ = false := blk_frozen BO.out 3; clear ST4 s_; have ST5 := Aside0.mk True.intro)
  | (have s_ := ST5; (with_reducible refine gate_store (t := 32) (p := 6) rfl ?_); refine store_event (t := 32) (p := 6) (v := ?vo_w10) (w1 := ((((w9.setCell ⟨go, 0, none⟩ (.slice (some ⟨g2, 0, none⟩) l.length cap)).setCell ⟨go, 1, none⟩ (.int .i16 a1)).setCell ⟨go, 2, none⟩ (.int .i8 a2)).setCell ⟨go, 3, none⟩ (.int .i16 a3))) ?hg ?ho ?hn ?hr ?_; (case ho => rfl); (case hg => rfl); (case hn => rfl); (case hr => first | (go_simp; done) | (go_simp; rfl)); intro w10 hw; have hg : w9.grownBy w10 (some go) := (by rw [hw]; exact put4_grown True.intro True.intro); have hnew : w10.heap[go]? = some (.cells #[.slice (some ⟨g2, 0, none⟩) l.length cap, .int .i16 a1, .int .i8 a2, .int .i16 a3] 32 (0, 0)) := (by rw [hw]; exact put4_blk BO.out); clear hw; replace HB := Aside0.mk (below_grown HB.out hg (fun k_ e_ => by injection e_ with e_; subst e_; exact GBO.out)); replace BH := Aside0.mk (blk_grown BH.out hg (fun e_ => by injection e_ with e_; exact NBH_BO.out e_)); replace RS := Aside0.mk (RS.out.move (hg.block _ RS.out.lt (fun e_ => blk_ne RS.out.blk.choose_spec.1 BO.out (by decide) (by injection e_)))); replace BO := Aside0.mk (hnew); clear hg hnew; clear qBH0 qBH1 qBH2 qBH3 qBO0 qBO1 qBO2 qBO3 fBO0 fBO1 fBO2 fBO3; have qBH0 : w10.cell? ⟨gh, 0, none⟩ = some (.slice A0 l.length c0) := (blk_cell BH.out 0).trans rfl; have qBH1 : w10.cell? ⟨gh, 1, none⟩ = some (.int .i16 a1) := (blk_cell BH.out 1).trans rfl; have qBH2 : w10.cell? ⟨gh, 2, none⟩ = some (.int .i8 a2) := (blk_cell BH.out 2).trans rfl; have qBH3 : w10.cell? ⟨gh, 3, none⟩ = some (.int .i16 a3) := (blk_cell BH.out 3).trans rfl; have qBO0 : w10.cell? ⟨go, 0, none⟩ = some (.slice (some ⟨g2, 0, none⟩) l.length cap) := (blk_cell BO.out 0).trans rfl; have qBO1 : w10.cell? ⟨go, 1, none⟩ = some (.int .i16 a1) := (blk_cell BO.out 1).trans rfl; have qBO2 : w10.cell? ⟨go, 2, none⟩ = some (.int .i8 a2) := (blk_cell BO.out 2).trans rfl; have qBO3 : w10.cell? ⟨go, 3, none⟩ = some (.int .i16 a3) := (blk_cell BO.out 3).trans rfl; have f3_ : w10.frozen? ⟨go, 3, none⟩ = false := blk_frozen BO.out 3; clear ST5 s_; have ST6 := Aside0.mk True.intro))
 have H0 := Aside0.mk ((InH.made BO.out RS.out HB.out).today 0)
 clear HB BH BO RS f3_ qBH0 qBH1 qBH2 qBH3 qBO0 qBO1 qBO2 qBO3
 go_loopg [7] 60 (fun gk v7 wr => ∃ (i : Nat) (li : List S55), i ≤ 60 ∧ 60 - i ≤ gk ∧ v7 = .int .i64 i ∧ Aside0 (lastF a1 a2 needs (60 - i) li i = rr) ∧ Aside0 (FitL li ∧ li.length = l.length) ∧ Aside0 (InH w go g2 cap li a1 a2 i wr))
 case atStart => exact ⟨0, l, by omega, by omega, rfl, HRR, ⟨⟨HFL0.out, rfl⟩⟩, H0⟩
 case round =>
  clear H0
  obtain ⟨i, li, hi, hgk, rfl, HQ0, HFA, H⟩ := hrel
  by_cases hlt : i < 60
  · have hltz : (i : Int) < 60 := by omega
    have hlen4 : li.length ≤ 4 := by rw [HFA.out.2]; exact HF4.out
    have hlen : needs.length = li.length := by rw [HFA.out.2]; exact HLE.out
    have hok := dayOf_ok (a2 := a2) (a3 := (i : Int)) HFA.out.1 HFT.out HNL.out hlen
    have hpos := dayOf_pos (a1 := a1) (a2 := a2) (a3 := (i : Int)) HFA.out.1 HNL.out hlen
    have hrn := HQ0.out
    rw [show 60 - i = (60 - (i + 1)) + 1 by omega, lastF] at hrn
    obtain ⟨q, hq⟩ : ∃ q, dayOf li a1 a2 i needs = q := ⟨_, rfl⟩
    rw [hq] at hok hpos hrn
    have HD := Aside0.mk hq
    have HOK := Aside0.mk hok
    have HI := Aside0.mk hlt
    have HLN := Aside0.mk hlen
    have HL4 := Aside0.mk hlen4
    have hdc : dayC li i needs = 0 := by
     unfold dayC
     rw [needOk_of HNL.out hlen, decide_eq_true hltz]
     rfl
    have arm1 := Aside0.mk (l05Day_walk w wr wr go g2 cap li a1 a2 i A1 c1 needs HFA.out.1 HFT.out HFE.out ⟨by omega, by omega⟩ HL4.out HR1.out HC1.out (H.out.below (Below.refl _ _) GBO.out G2.out) ⟨GBO.out, G2.out⟩ (InH.start H.out.hs H.out.row))
    have HRN := Aside0.mk hrn
    have HPS := Aside0.mk hpos
    have HDC := Aside0.mk hdc
    clear hok hpos hq hlt hlen hlen4 hrn hdc
    go_wp2_with (go_at_call 59; (with_reducible refine arm1.out.mono ?_); rintro e w11 h_; unfold Day2Post at h_; rw [HDC.out, HD.out, if_pos rfl] at h_; obtain ⟨vd, rfl, hv, hI, _⟩ := h_; have hI := hI rfl; have HVD := Aside0.mk hv; have n_ := Aside0.mk (H.out.trans hI); clear H hv hI arm1; have H := n_; clear n_; obtain ⟨Av, cv, ev⟩ := Kd.R_slice HVD.out; subst ev)
    have HQC := Aside0.mk (Kd.R_reads' HVD.out).2.2
    clear HVD
    go_loopg [10] q.2.length (fun gk v10 w' => ∃ (j : Nat), j ≤ q.2.length ∧ q.2.length - j ≤ gk ∧ v10 = .int .i64 j ∧ Aside0 (((q.2.take j).any fun x => decide (0 < x)) = false) ∧ Aside0 (Below w11.heap.size w11 w'))
    case atStart => exact ⟨0, by omega, by omega, rfl, ⟨rfl⟩, ⟨Below.refl _ _⟩⟩
    case round =>
     obtain ⟨j, hj, hgj, rfl, HNA, HBB⟩ := hrel
     by_cases hlj : j < q.2.length
     · have hljz : (j : Int) < (q.2.length : Int) := by omega
       have hj0 : 0 ≤ (j : Int) := by omega
       obtain ⟨ad, e0, hx⟩ := Kd.at_int (Kd.C_below HQC.out HBB.out) (j : Int) hj0 hljz
       subst e0
       obtain ⟨x, hxv⟩ : ∃ x, rd q.2 (j : Int) = x := ⟨_, rfl⟩
       rw [hxv] at hx
       have hx' : wr.cell? (ad.add j) = some (.int .i64 x) := hx
       have hel : q.2[j] = x := by
        rw [← hxv]
        show _ = q.2.getD j 0
        rw [List.getD_eq_getElem?_getD, List.getElem?_eq_getElem hlj]
        rfl
       have htk : ((q.2.take (j + 1)).any fun x => decide (0 < x)) = decide (0 < x) := by
        rw [List.take_succ_eq_append_getElem hlj, List.any_append, HNA.out, hel]
        simp
       have HTK := Aside0.mk htk
       have HJ := Aside0.mk hlj
       clear hx hxv hel htk HNA
       by_cases hp : x > 0
       · have hpd : decide (x > 0) = true := decide_eq_true hp
         have hpd2 : decide (0 < x) = true := decide_eq_true hp
         clear hp
         go_wp2
         go_ret2
         have hany : (q.2.any fun x => decide (0 < x)) = true := by
          rw [← List.take_append_drop (j + 1) q.2, List.any_append, HTK.out, hpd2]
          rfl
         have hrn := HRN.out
         rw [hany] at hrn
         exact ⟨by rw [← hrn]; rfl, (H.out.step HBB.out).below (Below.refl _ _) GBO.out G2.out⟩
       · have hpd : decide (x > 0) = false := decide_eq_false hp
         have hpd2 : decide (0 < x) = false := decide_eq_false hp
         clear hp
         have HP2 := Aside0.mk hpd2
         go_wp2
         have hj_ := HJ.out
         have hq_ := HPS.out.2
         have h4_ := HL4.out
         go_roundg (q.2.length - (j + 1))
         case measure => omega
         case rel => exact ⟨j + 1, by omega, by omega, by have hw_ : wrap64 ((j : Int) + 1) = ((j + 1 : Nat) : Int) := (w64i (by omega) (by omega)).trans (by omega); first | rfl | rw [hw_] | (simp only [i64_w, hw_]) | go_num, ⟨by rw [HTK.out, HP2.out]⟩, HBB⟩
     · have hljz : ¬ (j : Int) < (q.2.length : Int) := by omega
       obtain rfl : j = q.2.length := by omega
       have hany : (q.2.any fun x => decide (0 < x)) = false := by have := HNA.out; rwa [List.take_length] at this
       have hrn := HRN.out
       rw [hany] at hrn
       have HRN2 := Aside0.mk hrn
       clear hrn hany HNA
       have HH := Aside0.mk (H.out.step HBB.out)
       go_wp2
       have hi_ := HI.out
       go_roundg (60 - (i + 1))
       case measure => omega
       case rel => exact ⟨i + 1, q.1, by omega, by omega, by have hw_ : wrap64 ((i : Int) + 1) = ((i + 1 : Nat) : Int) := (w64i (by omega) (by omega)).trans (by omega); first | rfl | rw [hw_] | (simp only [i64_w, hw_]) | go_num, ⟨by have := HRN2.out; simpa using this⟩, ⟨⟨HOK.out.1, HOK.out.2.trans HFA.out.2⟩⟩, ⟨by have := HH.out; simpa using this⟩⟩
  · have hltz : ¬ (i : Int) < 60 := by omega
    obtain rfl : i = 60 := by omega
    have hrn := HQ0.out
    rw [Nat.sub_self, lastF] at hrn
    have HRN := Aside0.mk hrn
    clear hrn
    go_wp2
    go_ret2
    exact ⟨by rw [← HRN.out]; rfl, H.out.below (Below.refl _ _) GBO.out G2.out⟩
end Go.Proofs.Ytggjdcijplgpdaa.H
