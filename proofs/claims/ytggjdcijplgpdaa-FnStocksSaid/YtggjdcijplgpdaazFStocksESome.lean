import Derived.Test.YtggjdcijplgpdaazFStocksEDAll
import Derived.Test.YtggjdcijplgpdaazFStocksEDay2
import Derived.Test.YtggjdcijplgpdaazFStocksELayG
import Derived.Test.YtggjdcijplgpdaazFStocksEDayOf
import Derived.Test.YtggjdcijplgpdaazFStocksEHOk
import Derived.Test.YtggjdcijplgpdaazFStocksEInH
import Derived.Test.YtggjdcijplgpdaazFStocksEKCode
import Derived.Test.YtggjdcijplgpdaazFStocksEVHF
import Derived.Test.YtggjdcijplgpdaazFStocksEMarkSt
import Derived.Test.YtggjdcijplgpdaazFStocksEPieces
import Derived.Test.YtggjdcijplgpdaazFStocksH12
import Derived.Test.YtggjdcijplgpdaazFStocksEVStock
import Derived.Test.YtggjdcijplgpdaazFStocksECloneSt
import Derived.Shelf.Abstract
import Derived.Deep.QuietTactic
import Derived.BigQuiet
namespace Go.Proofs.Ytggjdcijplgpdaa.H
open Go.RowKit Go.Proofs.YtggjdcijplgpdaaW.PrintWords Go.Proofs.YtggjdcijplgpdaaW.PrintLast Go.Proofs.YtggjdcijplgpdaaW.PrintMore
attribute [local go_sem] max2_int min2_int max_two min_two max_three min_three max_four min_four
set_option linter.unusedVariables false
set_option linter.unusedSimpArgs false
theorem sumTo_fit {s : S55} (h : FitSt s) : sumTo s.l s.l.length = sumL s.l := by
 have hb : ∀ x ∈ s.l, 0 ≤ x ∧ x ≤ 500 := by
  intro x hx
  have h0 := h.pos x hx
  obtain ⟨j, hj, rfl⟩ := List.getElem_of_mem hx
  have h1 := at_le h j
  unfold S55.at_ at h1
  rw [List.getD_eq_getElem?_getD, List.getElem?_eq_getElem hj] at h1
  exact ⟨h0, h1⟩
 have := sumTo_L s.l hb (by show 25 ≤ 1000; decide) s.l.length (Nat.le_refl _)
 rw [this.1, List.take_length]
set_option maxHeartbeats 8000000 in
set_option maxRecDepth 100000 in
theorem piecesOf_calls (k : S55) (hf : FitSt k) (w : World) :
 Calls Try.prog 31 #[.agg (stC k).toArray] w fun e w' => e = .returned (.tuple #[.int .i64 (sumL k.l), .int .i64 0]) ∧ Below w.heap.size w w' := by
 have ht := fit_typed hf
 have hfb := (fitB_iff k).mpr hf
 have HV := Aside0.mk (fun (w : World) => (hfb ▸ validStock_calls k ht w : Calls Try.prog 32 #[.agg (stC k).toArray] w fun e w' => e = .returned (.bool true) ∧ Below w.heap.size w w'))
 have HN := Aside0.mk (fun (w : World) => (show Calls Try.prog 92 #[.agg (stC k).toArray] w fun e w' => ∃ v : Value, e = .returned v ∧ Kd.R (Kd.int .i64) 2 w' w.heap.size (fun _ => True) v k.l ∧ Below w.heap.size w w' by have := numbersOf_any k w; rw [typed_map ht] at this; exact this))
 obtain ⟨ks, hks⟩ := Ev.get (sumTo_ev k.l (by show 25 ≤ 4611686018427387904; decide))
 rw [sumTo_fit hf] at hks
 have HM := Aside0.mk (fun (w : World) (A : Option Addr) (c : Nat) (hr : Kd.C (Kd.int .i64) w A k.l.length k.l) (hc : k.l.length ≤ c) => impl_sum.calls ks A c k.l _ w hr hc hks)
 generalize sumL k.l = S at HM ⊢
 clear hks ht hfb hf
 go_enter Try.func31, Try.ntmps31
 have ST0 := Aside0.mk True.intro
 go_wp2_with (first
  | (have s_ := ST0; (with_reducible refine gate_dst (N := 1) rfl ?_); refine box_event ?hg (N := 1) ?hd (cs := (stC k).toArray) (t := 55) ?hr ?_; (case hd => rfl); (case hg => rfl); (case hr => first | (go_simp; done) | (go_simp; rfl)); intro g1 hg_ w1 hbox hb; have GK1 := Aside0.mk (by rw [hg_]; exact Nat.le_refl _ : w.heap.size ≤ g1); have HB := Aside0.mk hb; have K1 := Aside0.mk hbox; clear hb hbox hg_; clear ST0 s_; have ST1 := Aside0.mk True.intro)
  | (have s_ := ST1; (with_reducible refine gate_dst (N := 4) rfl ?_); refine Kd.event_run rfl (mem_load (ad := ⟨g1, 0, none⟩) (cs := stC k) rfl rfl (block_cells K1.out) Try.underlying55 rfl (by kernel_rfl)) ?_; clear ST1 s_; have ST2 := Aside0.mk True.intro)
  | (have s_ := ST2; go_at_call 32; (with_reducible refine (HV.out _).mono ?_); rintro e w2 ⟨rfl, hb⟩; replace HB := Aside0.mk (below_step HB.out hb); replace K1 := Aside0.mk (blk_below K1.out hb); clear hb; clear ST2 s_; have ST3 := Aside0.mk True.intro)
  | (have s_ := ST3; (with_reducible refine gate_dst (N := 7) rfl ?_); refine Kd.event_run rfl (mem_load (ad := ⟨g1, 0, none⟩) (cs := stC k) rfl rfl (block_cells K1.out) Try.underlying55 rfl (by kernel_rfl)) ?_; clear ST3 s_; have ST4 := Aside0.mk True.intro)
  | (have s_ := ST4; go_at_call 92; (with_reducible refine (HN.out _).mono ?_); rintro e w3 ⟨v2, rfl, hr, hb⟩; replace HB := Aside0.mk (below_step HB.out hb); replace K1 := Aside0.mk (blk_below K1.out hb); have HL := Aside0.mk hr; clear hr hb; obtain ⟨Al, cl, el⟩ := Kd.R_slice HL.out; subst el; clear ST4 s_; have ST5 := Aside0.mk True.intro)
  | (have s_ := ST5; go_at_call 91; (with_reducible refine (HM.out _ Al cl (Kd.R_reads' HL.out).2.2 (Kd.R_reads' HL.out).2.1).mono ?_); rintro e w4 ⟨rfl, hd⟩; have hb := hd.below; replace HB := Aside0.mk (below_step HB.out hb); replace K1 := Aside0.mk (blk_below K1.out hb); clear hb hd; clear ST5 s_; have ST6 := Aside0.mk True.intro))
 go_ret2
 exact ⟨rfl, HB.out⟩
def sumAll : List S55 → Int
 | [] => 0
 | s :: l => sumL s.l + sumAll l
theorem sumAll_take {l : List S55} {k : Nat} (hk : k < l.length) : sumAll (l.take (k + 1)) = sumAll (l.take k) + sumL (l.getD k z55).l := by
 induction l generalizing k with
 | nil => exact absurd hk (by simp)
 | cons s l ih =>
  cases k with
  | zero => simp [sumAll]
  | succ k =>
   have := ih (k := k) (by simpa using hk)
   simp only [List.take_succ_cons, sumAll, this]
   rw [List.getD_cons_succ]
   omega
theorem sumAll_bd : ∀ {l : List S55}, FitL l → 0 ≤ sumAll l ∧ sumAll l ≤ 500 * l.length
 | [], _ => by simp [sumAll]
 | s :: l, h => by
  have h1 := h s (by simp)
  have h2 := sumAll_bd (l := l) (fun x hx => h x (by simp [hx]))
  have h3 := sumL_nonneg s.l h1.pos
  have h4 := h1.sum
  rw [List.length_cons]
  simp only [sumAll]
  omega
theorem piecesTo_sum (s : S55) : (piecesTo s 8).1 = sumL s.l := by
 simp only [piecesTo, S55.at_, S55.l, sumL, List.getD_cons_zero, List.getD_cons_succ]
 omega
set_option maxHeartbeats 8000000 in
set_option maxRecDepth 100000 in
theorem allOf_calls (w : World) (A0 : Option Addr) (c0 : Nat) (l : List S55) (a1 a2 a3 : Int) (hrow : RowAt w A0 l) (hf : FitL l) (h4 : l.length ≤ 4) :
 Calls Try.prog 35 #[.agg #[.slice A0 l.length c0, .int .i16 a1, .int .i8 a2, .int .i16 a3]] w fun e w' => e = .returned (.int .i64 (sumAll l)) ∧ Below w.heap.size w w' := by
 have hu32 := Try.underlying32
 have HR := Aside0.mk hrow
 have HF := Aside0.mk hf
 have H4 := Aside0.mk h4
 clear hrow hf h4
 go_enter Try.func35, Try.ntmps35
 have ST0 := Aside0.mk True.intro
 go_wp2_with (first
  | (have s_ := ST0; (with_reducible refine gate_dst (N := 1) rfl ?_); refine box_event ?hg (N := 1) ?hd (cs := #[.slice A0 l.length c0, .int .i16 a1, .int .i8 a2, .int .i16 a3]) (t := 32) ?hr ?_; (case hd => rfl); (case hg => rfl); (case hr => first | (go_simp; done) | (go_simp; rfl)); intro gh hg_ w1 hbox hb; have GBH := Aside0.mk (by rw [hg_]; exact Nat.le_refl _ : w.heap.size ≤ gh); have HB := Aside0.mk hb; have BH := Aside0.mk hbox; clear hb hbox hg_; have qBH0 : w1.cell? ⟨gh, 0, none⟩ = some (.slice A0 l.length c0) := (blk_cell BH.out 0).trans rfl; have qBH1 : w1.cell? ⟨gh, 1, none⟩ = some (.int .i16 a1) := (blk_cell BH.out 1).trans rfl; have qBH2 : w1.cell? ⟨gh, 2, none⟩ = some (.int .i8 a2) := (blk_cell BH.out 2).trans rfl; have qBH3 : w1.cell? ⟨gh, 3, none⟩ = some (.int .i16 a3) := (blk_cell BH.out 3).trans rfl; clear ST0 s_; have ST1 := Aside0.mk True.intro))
 clear qBH0 qBH1 qBH2 qBH3
 go_loopg [3, 4] l.length (fun gk v3 v4 wr => ∃ (k : Nat), k ≤ l.length ∧ l.length - k ≤ gk ∧ v3 = .int .i64 (sumAll (l.take k)) ∧ v4 = .int .i64 k ∧ Aside0 (wr.heap[gh]? = some (.cells #[.slice A0 l.length c0, .int .i16 a1, .int .i8 a2, .int .i16 a3] 32 (0, 0))) ∧ Aside0 (Below w.heap.size w wr))
 case atStart => exact ⟨0, by omega, by omega, rfl, rfl, BH, HB⟩
 case round =>
  clear BH HB
  obtain ⟨k, hk, hgk, rfl, rfl, BH, HB⟩ := hrel
  have q0 : wr.cell? ⟨gh, 0, none⟩ = some (.slice A0 l.length c0) := (blk_cell BH.out 0).trans rfl
  by_cases hlt : k < l.length
  · have hltz : (k : Int) < (l.length : Int) := by omega
    have hkz : 0 ≤ (k : Int) := by omega
    obtain ⟨g2, cap, eA, hrow⟩ := HR.out (by omega)
    subst eA
    have hrow2 := hrow.move (HB.out.block _ hrow.lt)
    obtain ⟨o, ho⟩ : ∃ o, k * 25 = o := ⟨_, rfl⟩
    obtain ⟨s, hsk⟩ : ∃ s, l.getD k z55 = s := ⟨_, rfl⟩
    have hfs : FitSt s := by rw [← hsk]; exact HF.out.at_ hlt
    have hst := sumAll_take hlt
    rw [hsk, ← piecesTo_sum] at hst
    have hbd := sumAll_bd (l := l.take k) (fun x hx => HF.out x (List.mem_of_mem_take hx))
    have hbd2 : (piecesTo s 8).1 = sumL s.l := piecesTo_sum s
    have hb3 := sumL_nonneg s.l hfs.pos
    have hb4 := hfs.sum
    have hlen : (l.take k).length ≤ 4 := by rw [List.length_take]; have := H4.out; omega
    have HW := Aside0.mk (pieces_walk wr g2 o s (fun j hj => by
     obtain ⟨cs, _, E⟩ := elem_of_row hrow2 hlt
     rw [hsk] at E
     exact ho ▸ E.cell j hj) (fit_typed hfs))
    obtain ⟨S, hS⟩ : ∃ S, sumAll (l.take k) = S := ⟨_, rfl⟩
    rw [hS] at hst hbd ⊢
    rw [← hbd2] at hb3 hb4
    generalize piecesTo s 8 = p at HW hst hb3 hb4
    obtain ⟨z, b⟩ := p
    have hw : wrap64 (S + z) = S + z := w64i (by omega) (by omega)
    have HST := Aside0.mk hst
    have HLT := Aside0.mk hlt
    clear hst hbd hbd2 hb3 hb4 hlen hrow hrow2 hS hfs hsk hlt
    go_wp2_with (first | (go_at_call 95; (with_reducible refine HW.out.mono ?_); rintro e w1 ⟨rfl, hb⟩; have n_ := Aside0.mk (below_step HB.out hb); have m_ := Aside0.mk (blk_below BH.out hb); clear HB BH hb q0; have HB := n_; have BH := m_; clear n_ m_))
    have hlt_ := HLT.out
    have h4_ := H4.out
    go_roundg (l.length - (k + 1))
    case measure => omega
    case rel => exact ⟨k + 1, by omega, by omega, by rw [HST.out]; first | rfl | rw [hw] | (simp only [i64_w, hw]; done), by have hw_ : wrap64 ((k : Int) + 1) = ((k + 1 : Nat) : Int) := (w64i (by omega) (by omega)).trans (by omega); first | rfl | rw [hw_] | (simp only [i64_w, hw_]) | go_num, BH, HB⟩
  · have hltz : ¬ (k : Int) < (l.length : Int) := by omega
    obtain rfl : k = l.length := by omega
    go_wp2
    go_ret
    exact ⟨rfl, HB.out⟩
set_option maxHeartbeats 8000000 in
set_option maxRecDepth 100000 in
theorem dayOnce_calls (w : World) (A0 A1 : Option Addr) (c0 c1 : Nat) (l : List S55) (a1 a2 a3 : Int) (needs : List Int) (hr : Kd.C k55 w A0 l.length l) (hrow : RowAt w A0 l) (h : FitH l a1 a2 a3) (hr1 : Kd.C (Kd.int .i64) w A1 needs.length needs) (hc1 : needs.length ≤ c1) (hd : dayC l a3 needs = 0) :
 Calls Try.prog 40 #[.agg #[.slice A0 l.length c0, .int .i16 a1, .int .i8 a2, .int .i16 a3], .slice A1 needs.length c1] w fun e w' => ∃ v0 v1 : Value, e = .returned (.tuple #[.agg #[v0, .int .i16 a1, .int .i8 a2, .int .i16 (a3 + 1)], v1, .int .i64 0]) ∧ Kd.R k55 55 w' w.heap.size (fun _ => True) v0 (dayOf l a1 a2 a3 needs).1 ∧ Kd.R (Kd.int .i64) 2 w' w.heap.size (fun _ => True) v1 (dayOf l a1 a2 a3 needs).2 ∧ Below w.heap.size w w' := by
 have hu32 := Try.underlying32
 have HP := Aside0.mk h.pos
 have h4 := h.four
 have HK := Aside0.mk (fun (w' : World) (g : Nat) (hb : Below w.heap.size w w') (hs : w'.heap[g]? = some (.cells #[.slice A0 l.length c0, .int .i16 a1, .int .i8 a2, .int .i16 a3] 32 (0, 0))) => ((FitH.valid h) ▸ l05Ok_walk w' g A0 c0 l a1 a2 a3 hs (hrow.below hb) (FitH.typed h) (by omega) : Calls Try.prog 57 #[.pointer (some ⟨g, 0, none⟩)] w' fun e w'' => e = .returned (.bool true) ∧ Below w'.heap.size w' w''))
 have HO := Aside0.mk (fun (w' : World) (g : Nat) (hb : Below w.heap.size w w') (hs : w'.heap[g]? = some (.cells #[.slice A0 l.length c0, .int .i16 a1, .int .i8 a2, .int .i16 a3] 32 (0, 0))) => l05Own_walk w' g A0 c0 l a1 a2 a3 hs (Kd.C_below hr hb) h.four)
 have HD := Aside0.mk (fun (w' : World) (g g2 cap : Nat) (hb : Below w.heap.size w w') (hgs : w.heap.size ≤ g ∧ w.heap.size ≤ g2) (hI : InH w' g g2 cap l a1 a2 a3 w') => l05Day_walk w w' w' g g2 cap l a1 a2 a3 A1 c1 needs h.st h.tub h.every h.today h.four hr1 hc1 hb hgs hI)
 have hz := dayC_zero hd
 have hk := dayOf_ok (a2 := a2) (a3 := a3) h.st h.tub hz.1.2 hz.1.1
 obtain ⟨q, hq⟩ : ∃ q, dayOf l a1 a2 a3 needs = q := ⟨_, rfl⟩
 rw [hq] at hk ⊢
 have HLQ := Aside0.mk hk.2
 have HQ := Aside0.mk hq
 have HCD := Aside0.mk hd
 clear hr hrow h hr1 hc1 hd hz hk hq h4
 go_enter Try.func40, Try.ntmps40
 have ST0 := Aside0.mk True.intro
 go_wp2_with (first
  | (have s_ := ST0; (with_reducible refine gate_dst (N := 2) rfl ?_); refine box_event ?hg (N := 2) ?hd (cs := #[.slice A0 l.length c0, .int .i16 a1, .int .i8 a2, .int .i16 a3]) (t := 32) ?hr ?_; (case hd => rfl); (case hg => rfl); (case hr => first | (go_simp; done) | (go_simp; rfl)); intro gh hg_ w1 hbox hb; have GBH := Aside0.mk (by rw [hg_]; exact Nat.le_refl _ : w.heap.size ≤ gh); have HB := Aside0.mk hb; have BH := Aside0.mk hbox; clear hb hbox hg_; have qBH0 : w1.cell? ⟨gh, 0, none⟩ = some (.slice A0 l.length c0) := (blk_cell BH.out 0).trans rfl; have qBH1 : w1.cell? ⟨gh, 1, none⟩ = some (.int .i16 a1) := (blk_cell BH.out 1).trans rfl; have qBH2 : w1.cell? ⟨gh, 2, none⟩ = some (.int .i8 a2) := (blk_cell BH.out 2).trans rfl; have qBH3 : w1.cell? ⟨gh, 3, none⟩ = some (.int .i16 a3) := (blk_cell BH.out 3).trans rfl; clear ST0 s_; have ST1 := Aside0.mk True.intro)
  | (have s_ := ST1; (with_reducible refine gate_dst (N := 4) rfl ?_); refine box_event ?hg (N := 4) ?hd (cs := #[.slice none 0 0, .int .i16 0, .int .i8 0, .int .i16 0]) (t := 32) ?hr ?_; (case hd => rfl); (case hg => rfl); (case hr => first | (go_simp; done) | (go_simp; rfl)); intro gr hg_ w2 hbox hb; have GBR := Aside0.mk (by rw [hg_]; exact HB.out.size : w.heap.size ≤ gr); have NBH_BR := Aside0.mk (by rw [hg_]; exact Nat.ne_of_lt (blk_lt BH.out) : gh ≠ gr); replace HB := Aside0.mk (below_step HB.out hb); replace BH := Aside0.mk (blk_below BH.out hb); have BR := Aside0.mk hbox; clear hb hbox hg_; clear qBH0 qBH1 qBH2 qBH3; have qBH0 : w2.cell? ⟨gh, 0, none⟩ = some (.slice A0 l.length c0) := (blk_cell BH.out 0).trans rfl; have qBH1 : w2.cell? ⟨gh, 1, none⟩ = some (.int .i16 a1) := (blk_cell BH.out 1).trans rfl; have qBH2 : w2.cell? ⟨gh, 2, none⟩ = some (.int .i8 a2) := (blk_cell BH.out 2).trans rfl; have qBH3 : w2.cell? ⟨gh, 3, none⟩ = some (.int .i16 a3) := (blk_cell BH.out 3).trans rfl; have qBR0 : w2.cell? ⟨gr, 0, none⟩ = some (.slice none 0 0) := (blk_cell BR.out 0).trans rfl; have qBR1 : w2.cell? ⟨gr, 1, none⟩ = some (.int .i16 0) := (blk_cell BR.out 1).trans rfl; have qBR2 : w2.cell? ⟨gr, 2, none⟩ = some (.int .i8 0) := (blk_cell BR.out 2).trans rfl; have qBR3 : w2.cell? ⟨gr, 3, none⟩ = some (.int .i16 0) := (blk_cell BR.out 3).trans rfl; clear ST1 s_; have ST2 := Aside0.mk True.intro)
  | (have s_ := ST2; go_at_call 57; (with_reducible refine (HK.out _ gh HB.out BH.out).mono ?_); rintro e w3 ⟨rfl, hb⟩; replace HB := Aside0.mk (below_step HB.out hb); replace BH := Aside0.mk (blk_below BH.out hb); replace BR := Aside0.mk (blk_below BR.out hb); clear hb; clear qBH0 qBH1 qBH2 qBH3 qBR0 qBR1 qBR2 qBR3; have qBH0 : w3.cell? ⟨gh, 0, none⟩ = some (.slice A0 l.length c0) := (blk_cell BH.out 0).trans rfl; have qBH1 : w3.cell? ⟨gh, 1, none⟩ = some (.int .i16 a1) := (blk_cell BH.out 1).trans rfl; have qBH2 : w3.cell? ⟨gh, 2, none⟩ = some (.int .i8 a2) := (blk_cell BH.out 2).trans rfl; have qBH3 : w3.cell? ⟨gh, 3, none⟩ = some (.int .i16 a3) := (blk_cell BH.out 3).trans rfl; have qBR0 : w3.cell? ⟨gr, 0, none⟩ = some (.slice none 0 0) := (blk_cell BR.out 0).trans rfl; have qBR1 : w3.cell? ⟨gr, 1, none⟩ = some (.int .i16 0) := (blk_cell BR.out 1).trans rfl; have qBR2 : w3.cell? ⟨gr, 2, none⟩ = some (.int .i8 0) := (blk_cell BR.out 2).trans rfl; have qBR3 : w3.cell? ⟨gr, 3, none⟩ = some (.int .i16 0) := (blk_cell BR.out 3).trans rfl; clear ST2 s_; have ST3 := Aside0.mk True.intro)
  | (have s_ := ST3; go_at_call 58; (with_reducible refine (HO.out _ gh HB.out BH.out).mono ?_); rintro e w4 ⟨v8, rfl, hR, hb⟩; have RW := Aside0.mk (Kd.R_lower hR HB.out.size); replace HB := Aside0.mk (below_step HB.out hb); replace BH := Aside0.mk (blk_below BH.out hb); replace BR := Aside0.mk (blk_below BR.out hb); clear hb hR; obtain ⟨g2, cap, e8, hg2, _, hrow⟩ := row_of_R RW.out HP.out; subst e8; have RS := Aside0.mk hrow; have G2 := Aside0.mk hg2; clear hrow hg2 RW; clear qBH0 qBH1 qBH2 qBH3 qBR0 qBR1 qBR2 qBR3; have qBH0 : w4.cell? ⟨gh, 0, none⟩ = some (.slice A0 l.length c0) := (blk_cell BH.out 0).trans rfl; have qBH1 : w4.cell? ⟨gh, 1, none⟩ = some (.int .i16 a1) := (blk_cell BH.out 1).trans rfl; have qBH2 : w4.cell? ⟨gh, 2, none⟩ = some (.int .i8 a2) := (blk_cell BH.out 2).trans rfl; have qBH3 : w4.cell? ⟨gh, 3, none⟩ = some (.int .i16 a3) := (blk_cell BH.out 3).trans rfl; have qBR0 : w4.cell? ⟨gr, 0, none⟩ = some (.slice none 0 0) := (blk_cell BR.out 0).trans rfl; have qBR1 : w4.cell? ⟨gr, 1, none⟩ = some (.int .i16 0) := (blk_cell BR.out 1).trans rfl; have qBR2 : w4.cell? ⟨gr, 2, none⟩ = some (.int .i8 0) := (blk_cell BR.out 2).trans rfl; have qBR3 : w4.cell? ⟨gr, 3, none⟩ = some (.int .i16 0) := (blk_cell BR.out 3).trans rfl; clear ST3 s_; have ST4 := Aside0.mk True.intro)
  | (have s_ := ST4; (with_reducible refine gate_dst (N := 7) rfl ?_); refine box_event ?hg (N := 7) ?hd (cs := #[.slice none 0 0, .int .i16 0, .int .i8 0, .int .i16 0]) (t := 32) ?hr ?_; (case hd => rfl); (case hg => rfl); (case hr => first | (go_simp; done) | (go_simp; rfl)); intro go hg_ w5 hbox hb; have GBO := Aside0.mk (by rw [hg_]; exact HB.out.size : w.heap.size ≤ go); have NBH_BO := Aside0.mk (by rw [hg_]; exact Nat.ne_of_lt (blk_lt BH.out) : gh ≠ go); have NBR_BO := Aside0.mk (by rw [hg_]; exact Nat.ne_of_lt (blk_lt BR.out) : gr ≠ go); replace HB := Aside0.mk (below_step HB.out hb); replace BH := Aside0.mk (blk_below BH.out hb); replace BR := Aside0.mk (blk_below BR.out hb); replace RS := Aside0.mk (RS.out.move (hb.block _ RS.out.lt)); have BO := Aside0.mk hbox; clear hb hbox hg_; clear qBH0 qBH1 qBH2 qBH3 qBR0 qBR1 qBR2 qBR3; have qBH0 : w5.cell? ⟨gh, 0, none⟩ = some (.slice A0 l.length c0) := (blk_cell BH.out 0).trans rfl; have qBH1 : w5.cell? ⟨gh, 1, none⟩ = some (.int .i16 a1) := (blk_cell BH.out 1).trans rfl; have qBH2 : w5.cell? ⟨gh, 2, none⟩ = some (.int .i8 a2) := (blk_cell BH.out 2).trans rfl; have qBH3 : w5.cell? ⟨gh, 3, none⟩ = some (.int .i16 a3) := (blk_cell BH.out 3).trans rfl; have qBR0 : w5.cell? ⟨gr, 0, none⟩ = some (.slice none 0 0) := (blk_cell BR.out 0).trans rfl; have qBR1 : w5.cell? ⟨gr, 1, none⟩ = some (.int .i16 0) := (blk_cell BR.out 1).trans rfl; have qBR2 : w5.cell? ⟨gr, 2, none⟩ = some (.int .i8 0) := (blk_cell BR.out 2).trans rfl; have qBR3 : w5.cell? ⟨gr, 3, none⟩ = some (.int .i16 0) := (blk_cell BR.out 3).trans rfl; have qBO0 : w5.cell? ⟨go, 0, none⟩ = some (.slice none 0 0) := (blk_cell BO.out 0).trans rfl; have qBO1 : w5.cell? ⟨go, 1, none⟩ = some (.int .i16 0) := (blk_cell BO.out 1).trans rfl; have qBO2 : w5.cell? ⟨go, 2, none⟩ = some (.int .i8 0) := (blk_cell BO.out 2).trans rfl; have qBO3 : w5.cell? ⟨go, 3, none⟩ = some (.int .i16 0) := (blk_cell BO.out 3).trans rfl; have fBO0 : w5.frozen? ⟨go, 0, none⟩ = false := blk_frozen BO.out 0; have fBO1 : w5.frozen? ⟨go, 1, none⟩ = false := blk_frozen BO.out 1; have fBO2 : w5.frozen? ⟨go, 2, none⟩ = false := blk_frozen BO.out 2; have fBO3 : w5.frozen? ⟨go, 3, none⟩ = false := blk_frozen BO.out 3; clear ST4 s_; have ST5 := Aside0.mk True.intro)
  | (have s_ := ST5; (with_reducible refine gate_store (t := 32) (p := 7) rfl ?_); refine store_event (t := 32) (p := 7) (v := ?vo_w6) (w1 := ((((w5.setCell ⟨go, 0, none⟩ (.slice (some ⟨g2, 0, none⟩) l.length cap)).setCell ⟨go, 1, none⟩ (.int .i16 a1)).setCell ⟨go, 2, none⟩ (.int .i8 a2)).setCell ⟨go, 3, none⟩ (.int .i16 a3))) ?hg ?ho ?hn ?hr ?_; (case ho => rfl); (case hg => rfl); (case hn => rfl); (case hr => first | (go_simp; done) | (go_simp; rfl)); intro w6 hw; have hg : w5.grownBy w6 (some go) := (by rw [hw]; exact put4_grown True.intro True.intro); have hnew : w6.heap[go]? = some (.cells #[.slice (some ⟨g2, 0, none⟩) l.length cap, .int .i16 a1, .int .i8 a2, .int .i16 a3] 32 (0, 0)) := (by rw [hw]; exact put4_blk BO.out); clear hw; replace HB := Aside0.mk (below_grown HB.out hg (fun k_ e_ => by injection e_ with e_; subst e_; exact GBO.out)); replace BH := Aside0.mk (blk_grown BH.out hg (fun e_ => by injection e_ with e_; exact NBH_BO.out e_)); replace BR := Aside0.mk (blk_grown BR.out hg (fun e_ => by injection e_ with e_; exact NBR_BO.out e_)); replace RS := Aside0.mk (RS.out.move (hg.block _ RS.out.lt (fun e_ => blk_ne RS.out.blk.choose_spec.1 BO.out (by decide) (by injection e_)))); replace BO := Aside0.mk (hnew); clear hg hnew; clear qBH0 qBH1 qBH2 qBH3 qBR0 qBR1 qBR2 qBR3 qBO0 qBO1 qBO2 qBO3 fBO0 fBO1 fBO2 fBO3; have qBH0 : w6.cell? ⟨gh, 0, none⟩ = some (.slice A0 l.length c0) := (blk_cell BH.out 0).trans rfl; have qBH1 : w6.cell? ⟨gh, 1, none⟩ = some (.int .i16 a1) := (blk_cell BH.out 1).trans rfl; have qBH2 : w6.cell? ⟨gh, 2, none⟩ = some (.int .i8 a2) := (blk_cell BH.out 2).trans rfl; have qBH3 : w6.cell? ⟨gh, 3, none⟩ = some (.int .i16 a3) := (blk_cell BH.out 3).trans rfl; have qBR0 : w6.cell? ⟨gr, 0, none⟩ = some (.slice none 0 0) := (blk_cell BR.out 0).trans rfl; have qBR1 : w6.cell? ⟨gr, 1, none⟩ = some (.int .i16 0) := (blk_cell BR.out 1).trans rfl; have qBR2 : w6.cell? ⟨gr, 2, none⟩ = some (.int .i8 0) := (blk_cell BR.out 2).trans rfl; have qBR3 : w6.cell? ⟨gr, 3, none⟩ = some (.int .i16 0) := (blk_cell BR.out 3).trans rfl; have qBO0 : w6.cell? ⟨go, 0, none⟩ = some (.slice (some ⟨g2, 0, none⟩) l.length cap) := (blk_cell BO.out 0).trans rfl; have qBO1 : w6.cell? ⟨go, 1, none⟩ = some (.int .i16 a1) := (blk_cell BO.out 1).trans rfl; have qBO2 : w6.cell? ⟨go, 2, none⟩ = some (.int .i8 a2) := (blk_cell BO.out 2).trans rfl; have qBO3 : w6.cell? ⟨go, 3, none⟩ = some (.int .i16 a3) := (blk_cell BO.out 3).trans rfl; clear ST5 s_; have ST6 := Aside0.mk True.intro)
  | (have s_ := ST6; go_at_call 59; have H0 := Aside0.mk (InH.made BO.out RS.out HB.out); (with_reducible refine (HD.out w6 go g2 cap (H0.out.below (Below.refl _ _) GBO.out G2.out) ⟨GBO.out, G2.out⟩ (InH.start H0.out.hs H0.out.row)).mono ?_); rintro e w7 h_; unfold Day2Post at h_; rw [HCD.out, HQ.out, if_pos rfl] at h_; obtain ⟨vd, rfl, hv, hI, _⟩ := h_; have hI := hI rfl; have H := Aside0.mk (H0.out.trans hI); have HVD := Aside0.mk (Kd.R_lower hv H0.out.size); have BR2 := Aside0.mk ((hI.block gr (blk_lt BR.out) NBR_BO.out (blk_ne BR.out H0.out.row.blk.choose_spec.1 (by decide))).trans BR.out); clear H0 hv hI HB BH BO RS BR qBH0 qBH1 qBH2 qBH3 qBR0 qBR1 qBR2 qBR3 qBO0 qBO1 qBO2 qBO3; have BR := BR2; clear BR2; obtain ⟨Av, cv, ev⟩ := Kd.R_slice HVD.out; subst ev; have d0 : w7.cell? ⟨go, 0, none⟩ = some (.slice (some ⟨g2, 0, none⟩) l.length cap) := (H.out.cell 0).trans (by first | rfl | (rw [HLQ.out]; rfl)); have d1 : w7.cell? ⟨go, 1, none⟩ = some (.int .i16 a1) := (H.out.cell 1).trans (by first | rfl | (rw [HLQ.out]; rfl)); have d2 : w7.cell? ⟨go, 2, none⟩ = some (.int .i8 a2) := (H.out.cell 2).trans (by first | rfl | (rw [HLQ.out]; rfl)); have d3 : w7.cell? ⟨go, 3, none⟩ = some (.int .i16 (a3 + 1)) := (H.out.cell 3).trans (by first | rfl | (rw [HLQ.out]; rfl)); have e0 : w7.cell? ⟨gr, 0, none⟩ = some (.slice none 0 0) := (blk_cell BR.out 0).trans rfl; have e1 : w7.cell? ⟨gr, 1, none⟩ = some (.int .i16 0) := (blk_cell BR.out 1).trans rfl; have e2 : w7.cell? ⟨gr, 2, none⟩ = some (.int .i8 0) := (blk_cell BR.out 2).trans rfl; have e3 : w7.cell? ⟨gr, 3, none⟩ = some (.int .i16 0) := (blk_cell BR.out 3).trans rfl; have f0 : w7.frozen? ⟨gr, 0, none⟩ = false := blk_frozen BR.out 0; have f1 : w7.frozen? ⟨gr, 1, none⟩ = false := blk_frozen BR.out 1; have f2 : w7.frozen? ⟨gr, 2, none⟩ = false := blk_frozen BR.out 2; have f3 : w7.frozen? ⟨gr, 3, none⟩ = false := blk_frozen BR.out 3; clear ST6 s_; have ST7 := Aside0.mk True.intro))
 refine bodyPost_ret (results_ctt rfl _ _ gr 32 #[.slice (some ⟨g2, 0, none⟩) l.length cap, .int .i16 a1, .int .i8 a2, .int .i16 (a3 + 1)] (0, 0) _ rfl (put4_blk BR.out) Try.underlying32 rfl (by kernel_rfl)) rfl ?_
 refine ⟨_, _, rfl, ?_, Kd.R_mono (Kd.R_move (Kd.R_types HVD.out BR.out (by decide)) (fun k_ hk => put4_block k_ hk.2)) (fun _ _ => trivial), put4_below (H.out.below (Below.refl _ _) GBO.out G2.out) GBR.out⟩
 have hR := R_of_row (base := w.heap.size) (ok := fun _ => True) (H.out.row.move (put4_block (g := gr) (x0 := .slice (some ⟨g2, 0, none⟩) l.length cap) (x1 := .int .i16 a1) (x2 := .int .i8 a2) (x3 := .int .i16 (a3 + 1)) _ (blk_ne H.out.row.blk.choose_spec.1 BR.out (by decide)))) G2.out trivial
 rw [HLQ.out] at hR
 exact hR
end Go.Proofs.Ytggjdcijplgpdaa.H
