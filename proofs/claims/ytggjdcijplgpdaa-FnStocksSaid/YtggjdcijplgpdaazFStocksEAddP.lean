import Derived.Test.YtggjdcijplgpdaazFStocksEPutB
import Derived.Test.YtggjdcijplgpdaazFStocksECloneSt
import Derived.Test.YtggjdcijplgpdaazFStocksEDAll
import Derived.Test.YtggjdcijplgpdaazFStocksEDay2
import Derived.Test.YtggjdcijplgpdaazFStocksEHOk
import Derived.Test.YtggjdcijplgpdaazFStocksEInH
import Derived.Test.YtggjdcijplgpdaazFStocksEKCode
import Derived.Test.YtggjdcijplgpdaazFStocksEVHF
import Derived.Test.YtggjdcijplgpdaazFStocksEMarkSt
import Derived.Test.YtggjdcijplgpdaazFStocksH12
import Derived.Test.YtggjdcijplgpdaazFStocksEDayOf
import Derived.Test.YtggjdcijplgpdaazFStocksEVStock
import Derived.Test.YtggjdcijplgpdaazFStocksH1
import Derived.Test.YtggjdcijplgpdaazFStocksH19
import Derived.Shelf.Abstract
import Derived.Deep.QuietTactic
import Derived.BigQuiet
namespace Go.Proofs.Ytggjdcijplgpdaa.H
open Go.RowKit Go.Proofs.YtggjdcijplgpdaaW.PrintWords Go.Proofs.YtggjdcijplgpdaaW.PrintLast Go.Proofs.YtggjdcijplgpdaaW.PrintMore
attribute [local go_sem] max2_int min2_int max_two min_two max_three min_three max_four min_four
set_option linter.unusedVariables false
set_option linter.unusedSimpArgs false
theorem own_ok {l : List S55} {a1 a2 a3 : Int} (h : FitH l a1 a2 a3) : impl_House_own.f l a1 a2 a3 = some (l, a1, a2, a3) := by
 have h4 := h.four
 unfold impl_House_own.f slices_Clone_impl_Stock_impl_Stock.f
 rw [if_pos (by omega)]
 rfl
theorem elem0 {W : World} {g cap : Nat} {l : List S55} {s : S55} (h : RowSt W g cap l) (hk : 0 < l.length) (hs : l.getD 0 z55 = s) : ∀ j, j < 25 → W.cell? ⟨g, 0 + j, none⟩ = some (encSt j (s.at_ j)) := by
 obtain ⟨cs, _, E⟩ := elem_of_row h hk
 rw [hs] at E
 exact fun j hj => E.cell j hj
theorem elem0_cells {W : World} {g cap : Nat} {l : List S55} {s : S55} (h : RowSt W g cap l) (hk : 0 < l.length) (hs : l.getD 0 z55 = s) : ∀ j v, (stC s)[j]? = some v → W.cell? ((⟨g, 0, none⟩ : Addr).add j) = some v := by
 intro j v hv
 have hj : j < 25 := (List.getElem?_eq_some_iff.mp hv).1
 rw [addr_plus, elem0 h hk hs j hj, ← stC_get s j hj, hv]
set_option maxHeartbeats 8000000 in
set_option maxRecDepth 100000 in
theorem addPieces_calls (w : World) (A0 : Option Addr) (c0 : Nat) (l : List S55) (a1 a2 a3 : Int) (hr : Kd.C k55 w A0 l.length l) (hc : l.length ≤ c0) (hrow : RowAt w A0 l) (h : FitH l a1 a2 a3) (s2 : S55) (hs2 : (l.getD 0 z55).put 7 ((l.getD 0 z55).at_ 7 + 3) = s2) (hf2 : FitSt s2) :
 Calls Try.prog 33 #[.agg #[.slice A0 l.length c0, .int .i16 a1, .int .i8 a2, .int .i16 a3], .int .i64 0, .int .i64 3] w fun e w' => ∃ v0 : Value, e = .returned (.tuple #[.agg #[v0, .int .i16 a1, .int .i8 a2, .int .i16 a3], .int .i64 0]) ∧ Kd.R k55 55 w' w.heap.size (fun _ => True) v0 (l.set 0 s2) ∧ Below w.heap.size w w' := by
 have hu32 := Try.underlying32
 have hu53 := Try.underlying53
 have hu55 := Try.underlying55
 have mixed : Try.prog.follows .mixedOrders = true := by kernel_rfl
 have hfb := (fitB_iff s2).mpr hf2
 have HP := Aside0.mk h.pos
 have HG0 := Aside0.mk (show (l.set 0 s2).getD 0 z55 = s2 by rw [List.getD_eq_getElem?_getD, List.getElem?_set_self h.pos]; rfl)
 have HK := Aside0.mk (fun (w' : World) (hb : Below w.heap.size w w') => impl_kindCode.calls 3 A0 c0 l a1 a2 a3 0 3 0 w' (Kd.C_below hr hb) hc (kindCode_ok h (by omega)))
 have HO := Aside0.mk (fun (w' : World) (hb : Below w.heap.size w w') => impl_House_own.calls A0 c0 l a1 a2 a3 l a1 a2 a3 w' (Kd.C_below hr hb) hc (own_ok h))
 have HV2 := Aside0.mk (fun (w : World) => (hfb ▸ validStock_calls s2 (fit_typed hf2) w : Calls Try.prog 32 #[.agg (stC s2).toArray] w fun e w' => e = .returned (.bool true) ∧ Below w.heap.size w w'))
 obtain ⟨s, hs⟩ : ∃ s, l.getD 0 z55 = s := ⟨_, rfl⟩
 have hfs : FitSt s := by rw [← hs]; exact h.st.at_ h.pos
 rw [hs] at hs2
 obtain ⟨C, hC7⟩ : ∃ C, s.at_ 7 = C := ⟨_, rfl⟩
 have b1 := at_pos hfs 7
 have b2 := at_le hfs 7
 rw [hC7] at hs2 b1 b2
 have hw1 : IntKind.i16.wrap 3 = 3 := wrap16_id (by omega) (by omega)
 have hw2 : IntKind.i16.wrap (C + 3) = C + 3 := wrap16_id (by omega) (by omega)
 have HS := Aside0.mk hs
 have HS2 := Aside0.mk hs2
 have HC7 := Aside0.mk hC7
 clear hr hc hrow h hs2 hf2 hfb hs hfs hC7 b1 b2
 go_enter Try.func33, Try.ntmps33
 have ST0 := Aside0.mk True.intro
 go_wp2_with (first
  | (have s_ := ST0; (with_reducible refine gate_dst (N := 3) rfl ?_); refine box_event ?hg (N := 3) ?hd (cs := #[.slice A0 l.length c0, .int .i16 a1, .int .i8 a2, .int .i16 a3]) (t := 32) ?hr ?_; (case hd => rfl); (case hg => rfl); (case hr => first | (go_simp; done) | (go_simp; rfl)); intro gh hg_ w1 hbox hb; have GBH := Aside0.mk (by rw [hg_]; exact Nat.le_refl _ : w.heap.size ≤ gh); have HB := Aside0.mk hb; have BH := Aside0.mk hbox; clear hb hbox hg_; have qBH0 : w1.cell? ⟨gh, 0, none⟩ = some (.slice A0 l.length c0) := (blk_cell BH.out 0).trans rfl; have qBH1 : w1.cell? ⟨gh, 1, none⟩ = some (.int .i16 a1) := (blk_cell BH.out 1).trans rfl; have qBH2 : w1.cell? ⟨gh, 2, none⟩ = some (.int .i8 a2) := (blk_cell BH.out 2).trans rfl; have qBH3 : w1.cell? ⟨gh, 3, none⟩ = some (.int .i16 a3) := (blk_cell BH.out 3).trans rfl; clear ST0 s_; have ST1 := Aside0.mk True.intro)
  | (have s_ := ST1; (with_reducible refine gate_dst (N := 6) rfl ?_); refine box_event ?hg (N := 6) ?hd (cs := #[.slice none 0 0, .int .i16 0, .int .i8 0, .int .i16 0]) (t := 32) ?hr ?_; (case hd => rfl); (case hg => rfl); (case hr => first | (go_simp; done) | (go_simp; rfl)); intro gr hg_ w2 hbox hb; have GBR := Aside0.mk (by rw [hg_]; exact HB.out.size : w.heap.size ≤ gr); have NBH_BR := Aside0.mk (by rw [hg_]; exact Nat.ne_of_lt (blk_lt BH.out) : gh ≠ gr); replace HB := Aside0.mk (below_step HB.out hb); replace BH := Aside0.mk (blk_below BH.out hb); have BR := Aside0.mk hbox; clear hb hbox hg_; clear qBH0 qBH1 qBH2 qBH3; have qBH0 : w2.cell? ⟨gh, 0, none⟩ = some (.slice A0 l.length c0) := (blk_cell BH.out 0).trans rfl; have qBH1 : w2.cell? ⟨gh, 1, none⟩ = some (.int .i16 a1) := (blk_cell BH.out 1).trans rfl; have qBH2 : w2.cell? ⟨gh, 2, none⟩ = some (.int .i8 a2) := (blk_cell BH.out 2).trans rfl; have qBH3 : w2.cell? ⟨gh, 3, none⟩ = some (.int .i16 a3) := (blk_cell BH.out 3).trans rfl; have qBR0 : w2.cell? ⟨gr, 0, none⟩ = some (.slice none 0 0) := (blk_cell BR.out 0).trans rfl; have qBR1 : w2.cell? ⟨gr, 1, none⟩ = some (.int .i16 0) := (blk_cell BR.out 1).trans rfl; have qBR2 : w2.cell? ⟨gr, 2, none⟩ = some (.int .i8 0) := (blk_cell BR.out 2).trans rfl; have qBR3 : w2.cell? ⟨gr, 3, none⟩ = some (.int .i16 0) := (blk_cell BR.out 3).trans rfl; clear ST1 s_; have ST2 := Aside0.mk True.intro)
  | (have s_ := ST2; go_at_call 93; (with_reducible refine (HK.out _ HB.out).mono ?_); rintro e w4 ⟨rfl, hb⟩; replace HB := Aside0.mk (below_step HB.out hb); replace BH := Aside0.mk (blk_below BH.out hb); replace BR := Aside0.mk (blk_below BR.out hb); clear hb; clear qBH0 qBH1 qBH2 qBH3 qBR0 qBR1 qBR2 qBR3; have qBH0 : w4.cell? ⟨gh, 0, none⟩ = some (.slice A0 l.length c0) := (blk_cell BH.out 0).trans rfl; have qBH1 : w4.cell? ⟨gh, 1, none⟩ = some (.int .i16 a1) := (blk_cell BH.out 1).trans rfl; have qBH2 : w4.cell? ⟨gh, 2, none⟩ = some (.int .i8 a2) := (blk_cell BH.out 2).trans rfl; have qBH3 : w4.cell? ⟨gh, 3, none⟩ = some (.int .i16 a3) := (blk_cell BH.out 3).trans rfl; have qBR0 : w4.cell? ⟨gr, 0, none⟩ = some (.slice none 0 0) := (blk_cell BR.out 0).trans rfl; have qBR1 : w4.cell? ⟨gr, 1, none⟩ = some (.int .i16 0) := (blk_cell BR.out 1).trans rfl; have qBR2 : w4.cell? ⟨gr, 2, none⟩ = some (.int .i8 0) := (blk_cell BR.out 2).trans rfl; have qBR3 : w4.cell? ⟨gr, 3, none⟩ = some (.int .i16 0) := (blk_cell BR.out 3).trans rfl; clear ST2 s_; have ST3 := Aside0.mk True.intro)
  | (have s_ := ST3; go_at_call 64; (with_reducible refine (HO.out _ HB.out).mono ?_); rintro e w8 ⟨v8, rfl, hR, hb⟩; have RW := Aside0.mk (Kd.R_lower hR HB.out.size); replace HB := Aside0.mk (below_step HB.out hb); replace BH := Aside0.mk (blk_below BH.out hb); replace BR := Aside0.mk (blk_below BR.out hb); clear hb hR; obtain ⟨g2, cap, e8, hg2, _, hrow⟩ := row_of_R RW.out HP.out; subst e8; have RS := Aside0.mk hrow; have G2 := Aside0.mk hg2; clear hrow hg2 RW; clear qBH0 qBH1 qBH2 qBH3 qBR0 qBR1 qBR2 qBR3; have qBH0 : w8.cell? ⟨gh, 0, none⟩ = some (.slice A0 l.length c0) := (blk_cell BH.out 0).trans rfl; have qBH1 : w8.cell? ⟨gh, 1, none⟩ = some (.int .i16 a1) := (blk_cell BH.out 1).trans rfl; have qBH2 : w8.cell? ⟨gh, 2, none⟩ = some (.int .i8 a2) := (blk_cell BH.out 2).trans rfl; have qBH3 : w8.cell? ⟨gh, 3, none⟩ = some (.int .i16 a3) := (blk_cell BH.out 3).trans rfl; have qBR0 : w8.cell? ⟨gr, 0, none⟩ = some (.slice none 0 0) := (blk_cell BR.out 0).trans rfl; have qBR1 : w8.cell? ⟨gr, 1, none⟩ = some (.int .i16 0) := (blk_cell BR.out 1).trans rfl; have qBR2 : w8.cell? ⟨gr, 2, none⟩ = some (.int .i8 0) := (blk_cell BR.out 2).trans rfl; have qBR3 : w8.cell? ⟨gr, 3, none⟩ = some (.int .i16 0) := (blk_cell BR.out 3).trans rfl; clear ST3 s_; have ST4 := Aside0.mk True.intro)
  | (have s_ := ST4; (with_reducible refine gate_dst (N := 9) rfl ?_); refine box_event ?hg (N := 9) ?hd (cs := #[.slice none 0 0, .int .i16 0, .int .i8 0, .int .i16 0]) (t := 32) ?hr ?_; (case hd => rfl); (case hg => rfl); (case hr => first | (go_simp; done) | (go_simp; rfl)); intro go hg_ w9 hbox hb; have GBO := Aside0.mk (by rw [hg_]; exact HB.out.size : w.heap.size ≤ go); have NBH_BO := Aside0.mk (by rw [hg_]; exact Nat.ne_of_lt (blk_lt BH.out) : gh ≠ go); have NBR_BO := Aside0.mk (by rw [hg_]; exact Nat.ne_of_lt (blk_lt BR.out) : gr ≠ go); replace HB := Aside0.mk (below_step HB.out hb); replace BH := Aside0.mk (blk_below BH.out hb); replace BR := Aside0.mk (blk_below BR.out hb); replace RS := Aside0.mk (RS.out.move (hb.block _ RS.out.lt)); have BO := Aside0.mk hbox; clear hb hbox hg_; clear qBH0 qBH1 qBH2 qBH3 qBR0 qBR1 qBR2 qBR3; have qBH0 : w9.cell? ⟨gh, 0, none⟩ = some (.slice A0 l.length c0) := (blk_cell BH.out 0).trans rfl; have qBH1 : w9.cell? ⟨gh, 1, none⟩ = some (.int .i16 a1) := (blk_cell BH.out 1).trans rfl; have qBH2 : w9.cell? ⟨gh, 2, none⟩ = some (.int .i8 a2) := (blk_cell BH.out 2).trans rfl; have qBH3 : w9.cell? ⟨gh, 3, none⟩ = some (.int .i16 a3) := (blk_cell BH.out 3).trans rfl; have qBR0 : w9.cell? ⟨gr, 0, none⟩ = some (.slice none 0 0) := (blk_cell BR.out 0).trans rfl; have qBR1 : w9.cell? ⟨gr, 1, none⟩ = some (.int .i16 0) := (blk_cell BR.out 1).trans rfl; have qBR2 : w9.cell? ⟨gr, 2, none⟩ = some (.int .i8 0) := (blk_cell BR.out 2).trans rfl; have qBR3 : w9.cell? ⟨gr, 3, none⟩ = some (.int .i16 0) := (blk_cell BR.out 3).trans rfl; have qBO0 : w9.cell? ⟨go, 0, none⟩ = some (.slice none 0 0) := (blk_cell BO.out 0).trans rfl; have qBO1 : w9.cell? ⟨go, 1, none⟩ = some (.int .i16 0) := (blk_cell BO.out 1).trans rfl; have qBO2 : w9.cell? ⟨go, 2, none⟩ = some (.int .i8 0) := (blk_cell BO.out 2).trans rfl; have qBO3 : w9.cell? ⟨go, 3, none⟩ = some (.int .i16 0) := (blk_cell BO.out 3).trans rfl; have fBO0 : w9.frozen? ⟨go, 0, none⟩ = false := blk_frozen BO.out 0; have fBO1 : w9.frozen? ⟨go, 1, none⟩ = false := blk_frozen BO.out 1; have fBO2 : w9.frozen? ⟨go, 2, none⟩ = false := blk_frozen BO.out 2; have fBO3 : w9.frozen? ⟨go, 3, none⟩ = false := blk_frozen BO.out 3; clear ST4 s_; have ST5 := Aside0.mk True.intro)
  | (have s_ := ST5; (with_reducible refine gate_store (t := 32) (p := 9) rfl ?_); refine store_event (t := 32) (p := 9) (v := ?vo_w10) (w1 := ((((w9.setCell ⟨go, 0, none⟩ (.slice (some ⟨g2, 0, none⟩) l.length cap)).setCell ⟨go, 1, none⟩ (.int .i16 a1)).setCell ⟨go, 2, none⟩ (.int .i8 a2)).setCell ⟨go, 3, none⟩ (.int .i16 a3))) ?hg ?ho ?hn ?hr ?_; (case ho => rfl); (case hg => rfl); (case hn => rfl); (case hr => first | (go_simp; done) | (go_simp; rfl)); intro w10 hw; have hg : w9.grownBy w10 (some go) := (by rw [hw]; exact put4_grown True.intro True.intro); have hnew : w10.heap[go]? = some (.cells #[.slice (some ⟨g2, 0, none⟩) l.length cap, .int .i16 a1, .int .i8 a2, .int .i16 a3] 32 (0, 0)) := (by rw [hw]; exact put4_blk BO.out); clear hw; replace HB := Aside0.mk (below_grown HB.out hg (fun k_ e_ => by injection e_ with e_; subst e_; exact GBO.out)); replace BH := Aside0.mk (blk_grown BH.out hg (fun e_ => by injection e_ with e_; exact NBH_BO.out e_)); replace BR := Aside0.mk (blk_grown BR.out hg (fun e_ => by injection e_ with e_; exact NBR_BO.out e_)); replace RS := Aside0.mk (RS.out.move (hg.block _ RS.out.lt (fun e_ => blk_ne RS.out.blk.choose_spec.1 BO.out (by decide) (by injection e_)))); replace BO := Aside0.mk (hnew); clear hg hnew; clear qBH0 qBH1 qBH2 qBH3 qBR0 qBR1 qBR2 qBR3 qBO0 qBO1 qBO2 qBO3 fBO0 fBO1 fBO2 fBO3; have qBH0 : w10.cell? ⟨gh, 0, none⟩ = some (.slice A0 l.length c0) := (blk_cell BH.out 0).trans rfl; have qBH1 : w10.cell? ⟨gh, 1, none⟩ = some (.int .i16 a1) := (blk_cell BH.out 1).trans rfl; have qBH2 : w10.cell? ⟨gh, 2, none⟩ = some (.int .i8 a2) := (blk_cell BH.out 2).trans rfl; have qBH3 : w10.cell? ⟨gh, 3, none⟩ = some (.int .i16 a3) := (blk_cell BH.out 3).trans rfl; have qBR0 : w10.cell? ⟨gr, 0, none⟩ = some (.slice none 0 0) := (blk_cell BR.out 0).trans rfl; have qBR1 : w10.cell? ⟨gr, 1, none⟩ = some (.int .i16 0) := (blk_cell BR.out 1).trans rfl; have qBR2 : w10.cell? ⟨gr, 2, none⟩ = some (.int .i8 0) := (blk_cell BR.out 2).trans rfl; have qBR3 : w10.cell? ⟨gr, 3, none⟩ = some (.int .i16 0) := (blk_cell BR.out 3).trans rfl; have qBO0 : w10.cell? ⟨go, 0, none⟩ = some (.slice (some ⟨g2, 0, none⟩) l.length cap) := (blk_cell BO.out 0).trans rfl; have qBO1 : w10.cell? ⟨go, 1, none⟩ = some (.int .i16 a1) := (blk_cell BO.out 1).trans rfl; have qBO2 : w10.cell? ⟨go, 2, none⟩ = some (.int .i8 a2) := (blk_cell BO.out 2).trans rfl; have qBO3 : w10.cell? ⟨go, 3, none⟩ = some (.int .i16 a3) := (blk_cell BO.out 3).trans rfl; clear ST5 s_; have ST6 := Aside0.mk True.intro))
 have H := Aside0.mk (InH.made BO.out RS.out HB.out)
 clear HB BH BO RS
 have hpos := HP.out
 have hposz : 0 < (l.length : Int) := by omega
 have c0_ : w10.cell? ⟨go, 0, none⟩ = some (.slice (some ⟨g2, 0, none⟩) l.length cap) := H.out.cell 0
 have c7 : w10.cell? ⟨g2, 7, none⟩ = some (.int .i16 C) := by
  obtain ⟨cs, _, E0⟩ := elem_of_row H.out.row HP.out
  rw [HS.out] at E0
  have := E0.cell 7 (by decide)
  rw [HC7.out] at this
  exact this
 refine start_ (n := 14) (S := fun w' => w'.cell? ⟨g2, 7, none⟩ = some (.int .i16 C) ∧ w'.cell? ⟨go, 0, none⟩ = some (.slice (some ⟨g2, 0, none⟩) l.length cap)) (ds := [13]) #[false, false, false, false, false, false, false, false, false, false, false, false, false, false] (by kernel_rfl) rfl rfl ⟨c7, c0_⟩ (fun hHeld => ?_)
 have H2 := Aside0.mk (H.out.step (below_drew1 (Below.refl _ _)))
 have BR2 := Aside0.mk (blk_drew BR.out)
 clear H BR c7 c0_
 generalize w10.drew = wd at H2 BR2 hHeld ⊢
 have H := H2
 have BR := BR2
 clear H2 BR2
 obtain ⟨cs, hC, E0⟩ := elem_of_row H.out.row HP.out
 rw [HS.out] at E0
 have HCS := Aside0.mk hC
 have E := Aside0.mk (show InSt wd g2 0 55 cs s wd from E0)
 clear hC E0
 have c7 : wd.cell? ⟨g2, 7, none⟩ = some (.int .i16 C) := hHeld.1
 have c0_ : wd.cell? ⟨go, 0, none⟩ = some (.slice (some ⟨g2, 0, none⟩) l.length cap) := hHeld.2
 refine pure_ (i := 0) (N := some 20) (v := ?_) (a' := ?_) #[true, false, false, false, false, false, false, false, false, false, false, false, false, false] rfl rfl (by kernel_rfl) (fun _ _ _ h => h) (Or.inl ⟨by rfl, ?_⟩) ?_ ?_
 rotate_left
 · intro w'
   go_simp
   with_reducible rfl
 rotate_left
 · exact putB
 refine pure_ (i := 2) (N := some 22) (v := ?_) (a' := ?_) #[true, false, true, false, false, false, false, false, false, false, false, false, false, false] rfl rfl (by kernel_rfl) (fun _ _ _ h => h) (Or.inl ⟨by rfl, ?_⟩) ?_ ?_
 rotate_left
 · intro w'
   go_simp
   with_reducible rfl
 rotate_left
 · exact putB
 refine pure_ (i := 7) (N := some 27) (v := ?_) (a' := ?_) #[true, false, true, false, false, false, false, true, false, false, false, false, false, false] rfl rfl (by kernel_rfl) (fun _ _ _ h => h) (Or.inl ⟨by rfl, ?_⟩) ?_ ?_
 rotate_left
 · intro w'
   go_simp
   with_reducible rfl
 rotate_left
 · exact putB
 refine pure_ (i := 8) (N := some 28) (v := ?_) (a' := ?_) #[true, false, true, false, false, false, false, true, true, false, false, false, false, false] rfl rfl (by kernel_rfl) (fun _ _ _ h => h) (Or.inl ⟨by rfl, ?_⟩) ?_ ?_
 rotate_left
 · intro w'
   go_simp
   with_reducible rfl
 rotate_left
 · exact putB
 refine take_ (i := 1) (N := some 21) (v := ?_) (a' := ?_) #[true, true, true, false, false, false, false, true, true, false, false, false, false, false] rfl rfl (by kernel_rfl) (fun _ _ _ h => h) (Or.inl ⟨by rfl, ?_⟩) hHeld ?_ ?_
 rotate_left
 · rintro w' ⟨s0, s1⟩
   go_simp
   with_reducible rfl
 rotate_left
 · exact putB
 refine pure_ (i := 3) (N := some 23) (v := ?_) (a' := ?_) #[true, true, true, true, false, false, false, true, true, false, false, false, false, false] rfl rfl (by kernel_rfl) (fun _ _ _ h => h) (Or.inl ⟨by rfl, ?_⟩) ?_ ?_
 rotate_left
 · intro w'
   go_simp
   with_reducible rfl
 rotate_left
 · exact putB
 refine pure_ (i := 4) (N := some 24) (v := ?_) (a' := ?_) #[true, true, true, true, true, false, false, true, true, false, false, false, false, false] rfl rfl (by kernel_rfl) (fun _ _ _ h => h) (Or.inl ⟨by rfl, ?_⟩) ?_ ?_
 rotate_left
 · intro w'
   go_simp
   with_reducible rfl
 rotate_left
 · exact putB
 refine pure_ (i := 5) (N := some 25) (v := ?_) (a' := ?_) #[true, true, true, true, true, true, false, true, true, false, false, false, false, false] rfl rfl (by kernel_rfl) (fun _ _ _ h => h) (Or.inl ⟨by rfl, ?_⟩) ?_ ?_
 rotate_left
 · intro w'
   go_simp
   with_reducible rfl
 rotate_left
 · exact putB
 refine pure_ (i := 10) (N := some 30) (v := ?_) (a' := ?_) #[true, true, true, true, true, true, false, true, true, false, true, false, false, false] rfl rfl (by kernel_rfl) (fun _ _ _ h => h) (Or.inl ⟨by rfl, ?_⟩) ?_ ?_
 rotate_left
 · intro w'
   go_simp
   with_reducible rfl
 rotate_left
 · exact putB
 refine pure_ (i := 11) (N := some 31) (v := ?_) (a' := ?_) #[true, true, true, true, true, true, false, true, true, false, true, true, false, false] rfl rfl (by kernel_rfl) (fun _ _ _ h => h) (Or.inl ⟨by rfl, ?_⟩) ?_ ?_
 rotate_left
 · intro w'
   go_simp
   with_reducible rfl
 rotate_left
 · exact putB
 refine take_ (i := 6) (N := some 26) (v := ?_) (a' := ?_) #[true, true, true, true, true, true, true, true, true, false, true, true, false, false] rfl rfl (by kernel_rfl) (fun _ _ _ h => h) (Or.inl ⟨by rfl, ?_⟩) hHeld ?_ ?_
 rotate_left
 · rintro w' ⟨s0, s1⟩
   go_simp
   with_reducible rfl
 rotate_left
 · exact putB
 refine pure_ (i := 9) (N := some 29) (v := ?_) (a' := ?_) #[true, true, true, true, true, true, true, true, true, true, true, true, false, false] rfl rfl (by kernel_rfl) (fun _ _ _ h => h) (Or.inl ⟨by rfl, ?_⟩) ?_ ?_
 rotate_left
 · intro w'
   go_simp
   with_reducible rfl
 rotate_left
 · exact putB
 refine pure_ (i := 12) (N := some 32) (v := ?_) (a' := ?_) #[true, true, true, true, true, true, true, true, true, true, true, true, true, false] rfl rfl (by kernel_rfl) (fun _ _ _ h => h) (Or.inl ⟨by rfl, ?_⟩) ?_ ?_
 rotate_left
 · intro w'
   go_simp
   with_reducible rfl
 rotate_left
 · exact putB
 refine last_ (i := 13) (N := none) #[true, true, true, true, true, true, true, true, true, true, true, true, true, true] rfl rfl (by kernel_rfl) (by decide) (fun K hK => ?_)
 have hfn : wd.frozen? ⟨g2, 7, none⟩ = false := E.out.free _
 have hcn := hHeld.1
 refine skip_ (w1 := ?_) (by rfl) rfl ?_ ?_
 rotate_left
 · go_simp
   rfl
 refine hK.out _ _ ?_
 clear hK K
 refine done_ (by kernel_rfl) ?_
 have H2 := Aside0.mk (show InH w go g2 cap (l.set 0 s2) a1 a2 a3 (wd.setCell ⟨g2, 7, none⟩ (.int .i16 (C + 3))) from H.out.put_elem HCS.out HP.out (show InSt wd g2 (0 * 25) 55 cs s2 (wd.setCell ⟨g2, 7, none⟩ (.int .i16 (C + 3))) from HS2.out ▸ E.out.put 7 (by decide) (C + 3)))
 have BR2 := Aside0.mk (blk_far (p := ⟨g2, 7, none⟩) BR.out (blk_ne H.out.row.blk.choose_spec.1 BR.out (by decide)).symm (.int .i16 (C + 3)))
 clear H E BR hHeld hcn hfn c7 c0_ hw2
 generalize wd.setCell ⟨g2, 7, none⟩ (.int .i16 (C + 3)) = we at H2 BR2 ⊢
 have H := H2
 have BR := BR2
 clear H2 BR2
 have hlen : (l.set 0 s2).length = l.length := List.length_set ..
 have d0 : we.cell? ⟨go, 0, none⟩ = some (.slice (some ⟨g2, 0, none⟩) l.length cap) := (H.out.cell 0).trans (by rw [hlen]; rfl)
 clear hlen
 go_wp2_with (first
  | (have s_ := ST6; (with_reducible refine gate_dst (N := 37) rfl ?_); refine Kd.event_run rfl (mem_load (ad := ⟨g2, 0, none⟩) (cs := stC s2) rfl rfl (elem0_cells H.out.row (by rw [List.length_set]; exact HP.out) HG0.out) Try.underlying55 rfl (by kernel_rfl)) ?_; clear ST6 s_; have ST7 := Aside0.mk True.intro)
  | (have s_ := ST7; go_at_call 32; (with_reducible refine (HV2.out _).mono ?_); rintro e w12 ⟨rfl, hb⟩; replace BR := Aside0.mk (blk_below BR.out hb); replace H := Aside0.mk (H.out.step hb); clear hb d0; have d0 : w12.cell? ⟨go, 0, none⟩ = some (.slice (some ⟨g2, 0, none⟩) l.length cap) := (H.out.cell 0).trans (by first | rfl | (rw [List.length_set]; rfl)); have d1 : w12.cell? ⟨go, 1, none⟩ = some (.int .i16 a1) := (H.out.cell 1).trans (by first | rfl | (rw [List.length_set]; rfl)); have d2 : w12.cell? ⟨go, 2, none⟩ = some (.int .i8 a2) := (H.out.cell 2).trans (by first | rfl | (rw [List.length_set]; rfl)); have d3 : w12.cell? ⟨go, 3, none⟩ = some (.int .i16 a3) := (H.out.cell 3).trans (by first | rfl | (rw [List.length_set]; rfl)); have qBR0 : w12.cell? ⟨gr, 0, none⟩ = some (.slice none 0 0) := (blk_cell BR.out 0).trans rfl; have qBR1 : w12.cell? ⟨gr, 1, none⟩ = some (.int .i16 0) := (blk_cell BR.out 1).trans rfl; have qBR2 : w12.cell? ⟨gr, 2, none⟩ = some (.int .i8 0) := (blk_cell BR.out 2).trans rfl; have qBR3 : w12.cell? ⟨gr, 3, none⟩ = some (.int .i16 0) := (blk_cell BR.out 3).trans rfl; have fBR0 : w12.frozen? ⟨gr, 0, none⟩ = false := blk_frozen BR.out 0; have fBR1 : w12.frozen? ⟨gr, 1, none⟩ = false := blk_frozen BR.out 1; have fBR2 : w12.frozen? ⟨gr, 2, none⟩ = false := blk_frozen BR.out 2; have fBR3 : w12.frozen? ⟨gr, 3, none⟩ = false := blk_frozen BR.out 3; clear ST7 s_; have ST8 := Aside0.mk True.intro))
 refine bodyPost_ret (results_ct rfl _ _ gr 32 #[.slice (some ⟨g2, 0, none⟩) l.length cap, .int .i16 a1, .int .i8 a2, .int .i16 a3] (0, 0) _ rfl (put4_blk BR.out) Try.underlying32 rfl (by kernel_rfl)) rfl ?_
 refine ⟨_, rfl, ?_, put4_below (H.out.below (Below.refl _ _) GBO.out G2.out) GBR.out⟩
 have hR := R_of_row (base := w.heap.size) (ok := fun _ => True) (H.out.row.move (put4_block (g := gr) (x0 := .slice (some ⟨g2, 0, none⟩) l.length cap) (x1 := .int .i16 a1) (x2 := .int .i8 a2) (x3 := .int .i16 a3) _ (blk_ne H.out.row.blk.choose_spec.1 BR.out (by decide)))) G2.out trivial
 rw [List.length_set] at hR
 exact hR
set_option maxHeartbeats 8000000 in
set_option maxRecDepth 100000 in
theorem specAddPieces_calls (w : World) (A0 : Option Addr) (c0 : Nat) (l : List S55) (a1 a2 a3 : Int) (hr : Kd.C k55 w A0 l.length l) (hc : l.length ≤ c0) (hrow : RowAt w A0 l) (h : FitH l a1 a2 a3) (s2 : S55) (hs2 : (l.getD 0 z55).put 7 ((l.getD 0 z55).at_ 7 + 3) = s2) (hf2 : FitSt s2) :
 Calls Try.prog 34 #[.agg #[.slice A0 l.length c0, .int .i16 a1, .int .i8 a2, .int .i16 a3], .int .i64 0, .int .i64 3] w fun e w' => ∃ v0 : Value, e = .returned (.tuple #[.agg #[v0, .int .i16 a1, .int .i8 a2, .int .i16 a3], .int .i64 0]) ∧ Kd.R k55 55 w' w.heap.size (fun _ => True) v0 (l.set 0 s2) ∧ Below w.heap.size w w' := by
 have hu32 := Try.underlying32
 have hu53 := Try.underlying53
 have hu55 := Try.underlying55
 have mixed : Try.prog.follows .mixedOrders = true := by kernel_rfl
 have hfb := (fitB_iff s2).mpr hf2
 have HP := Aside0.mk h.pos
 have HG0 := Aside0.mk (show (l.set 0 s2).getD 0 z55 = s2 by rw [List.getD_eq_getElem?_getD, List.getElem?_set_self h.pos]; rfl)
 have HC := Aside0.mk (fun (w : World) => spec_l05Count.calls 3 true w (by rw [l05Count_B, inB_of (by omega)]))
 have HK := Aside0.mk (fun (w' : World) (g : Nat) (hb : Below w.heap.size w w') (hs : w'.heap[g]? = some (.cells #[.slice A0 l.length c0, .int .i16 a1, .int .i8 a2, .int .i16 a3] 32 (0, 0))) => asked_walk w' g A0 c0 l a1 a2 a3 hs (hrow.below hb) h)
 have HO := Aside0.mk (fun (w' : World) (g : Nat) (hb : Below w.heap.size w w') (hs : w'.heap[g]? = some (.cells #[.slice A0 l.length c0, .int .i16 a1, .int .i8 a2, .int .i16 a3] 32 (0, 0))) => l05Own_walk w' g A0 c0 l a1 a2 a3 hs (Kd.C_below hr hb) h.four)
 have HV2 := Aside0.mk (fun (w : World) (g : Nat) (hc : ∀ j, j < 25 → w.cell? ⟨g, 0 + j, none⟩ = some (encSt j (s2.at_ j))) => (hfb ▸ l05Stock_walk w g 0 s2 hc (fit_typed hf2) : Calls Try.prog 89 #[.pointer (some ⟨g, 0, none⟩)] w fun e w' => e = .returned (.bool true) ∧ Below w.heap.size w w'))
 obtain ⟨s, hs⟩ : ∃ s, l.getD 0 z55 = s := ⟨_, rfl⟩
 have hfs : FitSt s := by rw [← hs]; exact h.st.at_ h.pos
 rw [hs] at hs2
 obtain ⟨C, hC7⟩ : ∃ C, s.at_ 7 = C := ⟨_, rfl⟩
 have b1 := at_pos hfs 7
 have b2 := at_le hfs 7
 rw [hC7] at hs2 b1 b2
 have hw1 : IntKind.i16.wrap 3 = 3 := wrap16_id (by omega) (by omega)
 have hw2 : IntKind.i16.wrap (C + 3) = C + 3 := wrap16_id (by omega) (by omega)
 have HS := Aside0.mk hs
 have HS2 := Aside0.mk hs2
 have HC7 := Aside0.mk hC7
 clear hr hc hrow h hs2 hf2 hfb hs hfs hC7 b1 b2
 go_enter Try.func34, Try.ntmps34
 have ST0 := Aside0.mk True.intro
 go_wp2_with (first
  | (have s_ := ST0; (with_reducible refine gate_dst (N := 3) rfl ?_); refine box_event ?hg (N := 3) ?hd (cs := #[.slice A0 l.length c0, .int .i16 a1, .int .i8 a2, .int .i16 a3]) (t := 32) ?hr ?_; (case hd => rfl); (case hg => rfl); (case hr => first | (go_simp; done) | (go_simp; rfl)); intro gh hg_ w1 hbox hb; have GBH := Aside0.mk (by rw [hg_]; exact Nat.le_refl _ : w.heap.size ≤ gh); have HB := Aside0.mk hb; have BH := Aside0.mk hbox; clear hb hbox hg_; have qBH0 : w1.cell? ⟨gh, 0, none⟩ = some (.slice A0 l.length c0) := (blk_cell BH.out 0).trans rfl; have qBH1 : w1.cell? ⟨gh, 1, none⟩ = some (.int .i16 a1) := (blk_cell BH.out 1).trans rfl; have qBH2 : w1.cell? ⟨gh, 2, none⟩ = some (.int .i8 a2) := (blk_cell BH.out 2).trans rfl; have qBH3 : w1.cell? ⟨gh, 3, none⟩ = some (.int .i16 a3) := (blk_cell BH.out 3).trans rfl; clear ST0 s_; have ST1 := Aside0.mk True.intro)
  | (have s_ := ST1; (with_reducible refine gate_dst (N := 6) rfl ?_); refine box_event ?hg (N := 6) ?hd (cs := #[.slice none 0 0, .int .i16 0, .int .i8 0, .int .i16 0]) (t := 32) ?hr ?_; (case hd => rfl); (case hg => rfl); (case hr => first | (go_simp; done) | (go_simp; rfl)); intro gr hg_ w2 hbox hb; have GBR := Aside0.mk (by rw [hg_]; exact HB.out.size : w.heap.size ≤ gr); have NBH_BR := Aside0.mk (by rw [hg_]; exact Nat.ne_of_lt (blk_lt BH.out) : gh ≠ gr); replace HB := Aside0.mk (below_step HB.out hb); replace BH := Aside0.mk (blk_below BH.out hb); have BR := Aside0.mk hbox; clear hb hbox hg_; clear qBH0 qBH1 qBH2 qBH3; have qBH0 : w2.cell? ⟨gh, 0, none⟩ = some (.slice A0 l.length c0) := (blk_cell BH.out 0).trans rfl; have qBH1 : w2.cell? ⟨gh, 1, none⟩ = some (.int .i16 a1) := (blk_cell BH.out 1).trans rfl; have qBH2 : w2.cell? ⟨gh, 2, none⟩ = some (.int .i8 a2) := (blk_cell BH.out 2).trans rfl; have qBH3 : w2.cell? ⟨gh, 3, none⟩ = some (.int .i16 a3) := (blk_cell BH.out 3).trans rfl; have qBR0 : w2.cell? ⟨gr, 0, none⟩ = some (.slice none 0 0) := (blk_cell BR.out 0).trans rfl; have qBR1 : w2.cell? ⟨gr, 1, none⟩ = some (.int .i16 0) := (blk_cell BR.out 1).trans rfl; have qBR2 : w2.cell? ⟨gr, 2, none⟩ = some (.int .i8 0) := (blk_cell BR.out 2).trans rfl; have qBR3 : w2.cell? ⟨gr, 3, none⟩ = some (.int .i16 0) := (blk_cell BR.out 3).trans rfl; clear ST1 s_; have ST2 := Aside0.mk True.intro)
  | (have s_ := ST2; go_at_call 81; (with_reducible refine (HC.out _).mono ?_); rintro e w3 ⟨rfl, hd⟩; have hb := hd.below; replace HB := Aside0.mk (below_step HB.out hb); replace BH := Aside0.mk (blk_below BH.out hb); replace BR := Aside0.mk (blk_below BR.out hb); clear hb hd; clear qBH0 qBH1 qBH2 qBH3 qBR0 qBR1 qBR2 qBR3; have qBH0 : w3.cell? ⟨gh, 0, none⟩ = some (.slice A0 l.length c0) := (blk_cell BH.out 0).trans rfl; have qBH1 : w3.cell? ⟨gh, 1, none⟩ = some (.int .i16 a1) := (blk_cell BH.out 1).trans rfl; have qBH2 : w3.cell? ⟨gh, 2, none⟩ = some (.int .i8 a2) := (blk_cell BH.out 2).trans rfl; have qBH3 : w3.cell? ⟨gh, 3, none⟩ = some (.int .i16 a3) := (blk_cell BH.out 3).trans rfl; have qBR0 : w3.cell? ⟨gr, 0, none⟩ = some (.slice none 0 0) := (blk_cell BR.out 0).trans rfl; have qBR1 : w3.cell? ⟨gr, 1, none⟩ = some (.int .i16 0) := (blk_cell BR.out 1).trans rfl; have qBR2 : w3.cell? ⟨gr, 2, none⟩ = some (.int .i8 0) := (blk_cell BR.out 2).trans rfl; have qBR3 : w3.cell? ⟨gr, 3, none⟩ = some (.int .i16 0) := (blk_cell BR.out 3).trans rfl; clear ST2 s_; have ST3 := Aside0.mk True.intro)
  | (have s_ := ST3; go_at_call 94; (with_reducible refine (HK.out _ gh HB.out BH.out).mono ?_); rintro e w4 ⟨rfl, hb⟩; replace HB := Aside0.mk (below_step HB.out hb); replace BH := Aside0.mk (blk_below BH.out hb); replace BR := Aside0.mk (blk_below BR.out hb); clear hb; clear qBH0 qBH1 qBH2 qBH3 qBR0 qBR1 qBR2 qBR3; have qBH0 : w4.cell? ⟨gh, 0, none⟩ = some (.slice A0 l.length c0) := (blk_cell BH.out 0).trans rfl; have qBH1 : w4.cell? ⟨gh, 1, none⟩ = some (.int .i16 a1) := (blk_cell BH.out 1).trans rfl; have qBH2 : w4.cell? ⟨gh, 2, none⟩ = some (.int .i8 a2) := (blk_cell BH.out 2).trans rfl; have qBH3 : w4.cell? ⟨gh, 3, none⟩ = some (.int .i16 a3) := (blk_cell BH.out 3).trans rfl; have qBR0 : w4.cell? ⟨gr, 0, none⟩ = some (.slice none 0 0) := (blk_cell BR.out 0).trans rfl; have qBR1 : w4.cell? ⟨gr, 1, none⟩ = some (.int .i16 0) := (blk_cell BR.out 1).trans rfl; have qBR2 : w4.cell? ⟨gr, 2, none⟩ = some (.int .i8 0) := (blk_cell BR.out 2).trans rfl; have qBR3 : w4.cell? ⟨gr, 3, none⟩ = some (.int .i16 0) := (blk_cell BR.out 3).trans rfl; clear ST3 s_; have ST4 := Aside0.mk True.intro)
  | (have s_ := ST4; go_at_call 58; (with_reducible refine (HO.out _ gh HB.out BH.out).mono ?_); rintro e w8 ⟨v8, rfl, hR, hb⟩; have RW := Aside0.mk (Kd.R_lower hR HB.out.size); replace HB := Aside0.mk (below_step HB.out hb); replace BH := Aside0.mk (blk_below BH.out hb); replace BR := Aside0.mk (blk_below BR.out hb); clear hb hR; obtain ⟨g2, cap, e8, hg2, _, hrow⟩ := row_of_R RW.out HP.out; subst e8; have RS := Aside0.mk hrow; have G2 := Aside0.mk hg2; clear hrow hg2 RW; clear qBH0 qBH1 qBH2 qBH3 qBR0 qBR1 qBR2 qBR3; have qBH0 : w8.cell? ⟨gh, 0, none⟩ = some (.slice A0 l.length c0) := (blk_cell BH.out 0).trans rfl; have qBH1 : w8.cell? ⟨gh, 1, none⟩ = some (.int .i16 a1) := (blk_cell BH.out 1).trans rfl; have qBH2 : w8.cell? ⟨gh, 2, none⟩ = some (.int .i8 a2) := (blk_cell BH.out 2).trans rfl; have qBH3 : w8.cell? ⟨gh, 3, none⟩ = some (.int .i16 a3) := (blk_cell BH.out 3).trans rfl; have qBR0 : w8.cell? ⟨gr, 0, none⟩ = some (.slice none 0 0) := (blk_cell BR.out 0).trans rfl; have qBR1 : w8.cell? ⟨gr, 1, none⟩ = some (.int .i16 0) := (blk_cell BR.out 1).trans rfl; have qBR2 : w8.cell? ⟨gr, 2, none⟩ = some (.int .i8 0) := (blk_cell BR.out 2).trans rfl; have qBR3 : w8.cell? ⟨gr, 3, none⟩ = some (.int .i16 0) := (blk_cell BR.out 3).trans rfl; clear ST4 s_; have ST5 := Aside0.mk True.intro)
  | (have s_ := ST5; (with_reducible refine gate_dst (N := 9) rfl ?_); refine box_event ?hg (N := 9) ?hd (cs := #[.slice none 0 0, .int .i16 0, .int .i8 0, .int .i16 0]) (t := 32) ?hr ?_; (case hd => rfl); (case hg => rfl); (case hr => first | (go_simp; done) | (go_simp; rfl)); intro go hg_ w9 hbox hb; have GBO := Aside0.mk (by rw [hg_]; exact HB.out.size : w.heap.size ≤ go); have NBH_BO := Aside0.mk (by rw [hg_]; exact Nat.ne_of_lt (blk_lt BH.out) : gh ≠ go); have NBR_BO := Aside0.mk (by rw [hg_]; exact Nat.ne_of_lt (blk_lt BR.out) : gr ≠ go); replace HB := Aside0.mk (below_step HB.out hb); replace BH := Aside0.mk (blk_below BH.out hb); replace BR := Aside0.mk (blk_below BR.out hb); replace RS := Aside0.mk (RS.out.move (hb.block _ RS.out.lt)); have BO := Aside0.mk hbox; clear hb hbox hg_; clear qBH0 qBH1 qBH2 qBH3 qBR0 qBR1 qBR2 qBR3; have qBH0 : w9.cell? ⟨gh, 0, none⟩ = some (.slice A0 l.length c0) := (blk_cell BH.out 0).trans rfl; have qBH1 : w9.cell? ⟨gh, 1, none⟩ = some (.int .i16 a1) := (blk_cell BH.out 1).trans rfl; have qBH2 : w9.cell? ⟨gh, 2, none⟩ = some (.int .i8 a2) := (blk_cell BH.out 2).trans rfl; have qBH3 : w9.cell? ⟨gh, 3, none⟩ = some (.int .i16 a3) := (blk_cell BH.out 3).trans rfl; have qBR0 : w9.cell? ⟨gr, 0, none⟩ = some (.slice none 0 0) := (blk_cell BR.out 0).trans rfl; have qBR1 : w9.cell? ⟨gr, 1, none⟩ = some (.int .i16 0) := (blk_cell BR.out 1).trans rfl; have qBR2 : w9.cell? ⟨gr, 2, none⟩ = some (.int .i8 0) := (blk_cell BR.out 2).trans rfl; have qBR3 : w9.cell? ⟨gr, 3, none⟩ = some (.int .i16 0) := (blk_cell BR.out 3).trans rfl; have qBO0 : w9.cell? ⟨go, 0, none⟩ = some (.slice none 0 0) := (blk_cell BO.out 0).trans rfl; have qBO1 : w9.cell? ⟨go, 1, none⟩ = some (.int .i16 0) := (blk_cell BO.out 1).trans rfl; have qBO2 : w9.cell? ⟨go, 2, none⟩ = some (.int .i8 0) := (blk_cell BO.out 2).trans rfl; have qBO3 : w9.cell? ⟨go, 3, none⟩ = some (.int .i16 0) := (blk_cell BO.out 3).trans rfl; have fBO0 : w9.frozen? ⟨go, 0, none⟩ = false := blk_frozen BO.out 0; have fBO1 : w9.frozen? ⟨go, 1, none⟩ = false := blk_frozen BO.out 1; have fBO2 : w9.frozen? ⟨go, 2, none⟩ = false := blk_frozen BO.out 2; have fBO3 : w9.frozen? ⟨go, 3, none⟩ = false := blk_frozen BO.out 3; clear ST5 s_; have ST6 := Aside0.mk True.intro)
  | (have s_ := ST6; (with_reducible refine gate_store (t := 32) (p := 9) rfl ?_); refine store_event (t := 32) (p := 9) (v := ?vo_w10) (w1 := ((((w9.setCell ⟨go, 0, none⟩ (.slice (some ⟨g2, 0, none⟩) l.length cap)).setCell ⟨go, 1, none⟩ (.int .i16 a1)).setCell ⟨go, 2, none⟩ (.int .i8 a2)).setCell ⟨go, 3, none⟩ (.int .i16 a3))) ?hg ?ho ?hn ?hr ?_; (case ho => rfl); (case hg => rfl); (case hn => rfl); (case hr => first | (go_simp; done) | (go_simp; rfl)); intro w10 hw; have hg : w9.grownBy w10 (some go) := (by rw [hw]; exact put4_grown True.intro True.intro); have hnew : w10.heap[go]? = some (.cells #[.slice (some ⟨g2, 0, none⟩) l.length cap, .int .i16 a1, .int .i8 a2, .int .i16 a3] 32 (0, 0)) := (by rw [hw]; exact put4_blk BO.out); clear hw; replace HB := Aside0.mk (below_grown HB.out hg (fun k_ e_ => by injection e_ with e_; subst e_; exact GBO.out)); replace BH := Aside0.mk (blk_grown BH.out hg (fun e_ => by injection e_ with e_; exact NBH_BO.out e_)); replace BR := Aside0.mk (blk_grown BR.out hg (fun e_ => by injection e_ with e_; exact NBR_BO.out e_)); replace RS := Aside0.mk (RS.out.move (hg.block _ RS.out.lt (fun e_ => blk_ne RS.out.blk.choose_spec.1 BO.out (by decide) (by injection e_)))); replace BO := Aside0.mk (hnew); clear hg hnew; clear qBH0 qBH1 qBH2 qBH3 qBR0 qBR1 qBR2 qBR3 qBO0 qBO1 qBO2 qBO3 fBO0 fBO1 fBO2 fBO3; have qBH0 : w10.cell? ⟨gh, 0, none⟩ = some (.slice A0 l.length c0) := (blk_cell BH.out 0).trans rfl; have qBH1 : w10.cell? ⟨gh, 1, none⟩ = some (.int .i16 a1) := (blk_cell BH.out 1).trans rfl; have qBH2 : w10.cell? ⟨gh, 2, none⟩ = some (.int .i8 a2) := (blk_cell BH.out 2).trans rfl; have qBH3 : w10.cell? ⟨gh, 3, none⟩ = some (.int .i16 a3) := (blk_cell BH.out 3).trans rfl; have qBR0 : w10.cell? ⟨gr, 0, none⟩ = some (.slice none 0 0) := (blk_cell BR.out 0).trans rfl; have qBR1 : w10.cell? ⟨gr, 1, none⟩ = some (.int .i16 0) := (blk_cell BR.out 1).trans rfl; have qBR2 : w10.cell? ⟨gr, 2, none⟩ = some (.int .i8 0) := (blk_cell BR.out 2).trans rfl; have qBR3 : w10.cell? ⟨gr, 3, none⟩ = some (.int .i16 0) := (blk_cell BR.out 3).trans rfl; have qBO0 : w10.cell? ⟨go, 0, none⟩ = some (.slice (some ⟨g2, 0, none⟩) l.length cap) := (blk_cell BO.out 0).trans rfl; have qBO1 : w10.cell? ⟨go, 1, none⟩ = some (.int .i16 a1) := (blk_cell BO.out 1).trans rfl; have qBO2 : w10.cell? ⟨go, 2, none⟩ = some (.int .i8 a2) := (blk_cell BO.out 2).trans rfl; have qBO3 : w10.cell? ⟨go, 3, none⟩ = some (.int .i16 a3) := (blk_cell BO.out 3).trans rfl; clear ST6 s_; have ST7 := Aside0.mk True.intro))
 have H := Aside0.mk (InH.made BO.out RS.out HB.out)
 clear HB BH BO RS
 have hpos := HP.out
 have hposz : 0 < (l.length : Int) := by omega
 have c0_ : w10.cell? ⟨go, 0, none⟩ = some (.slice (some ⟨g2, 0, none⟩) l.length cap) := H.out.cell 0
 have c7 : w10.cell? ⟨g2, 7, none⟩ = some (.int .i16 C) := by
  obtain ⟨cs, _, E0⟩ := elem_of_row H.out.row HP.out
  rw [HS.out] at E0
  have := E0.cell 7 (by decide)
  rw [HC7.out] at this
  exact this
 refine start_ (n := 14) (S := fun w' => w'.cell? ⟨g2, 7, none⟩ = some (.int .i16 C) ∧ w'.cell? ⟨go, 0, none⟩ = some (.slice (some ⟨g2, 0, none⟩) l.length cap)) (ds := [13]) #[false, false, false, false, false, false, false, false, false, false, false, false, false, false] (by kernel_rfl) rfl rfl ⟨c7, c0_⟩ (fun hHeld => ?_)
 have H2 := Aside0.mk (H.out.step (below_drew1 (Below.refl _ _)))
 have BR2 := Aside0.mk (blk_drew BR.out)
 clear H BR c7 c0_
 generalize w10.drew = wd at H2 BR2 hHeld ⊢
 have H := H2
 have BR := BR2
 clear H2 BR2
 obtain ⟨cs, hC, E0⟩ := elem_of_row H.out.row HP.out
 rw [HS.out] at E0
 have HCS := Aside0.mk hC
 have E := Aside0.mk (show InSt wd g2 0 55 cs s wd from E0)
 clear hC E0
 have c7 : wd.cell? ⟨g2, 7, none⟩ = some (.int .i16 C) := hHeld.1
 have c0_ : wd.cell? ⟨go, 0, none⟩ = some (.slice (some ⟨g2, 0, none⟩) l.length cap) := hHeld.2
 refine pure_ (i := 0) (N := some 19) (v := ?_) (a' := ?_) #[true, false, false, false, false, false, false, false, false, false, false, false, false, false] rfl rfl (by kernel_rfl) (fun _ _ _ h => h) (Or.inl ⟨by rfl, ?_⟩) ?_ ?_
 rotate_left
 · intro w'
   go_simp
   with_reducible rfl
 rotate_left
 · exact putB
 refine pure_ (i := 2) (N := some 21) (v := ?_) (a' := ?_) #[true, false, true, false, false, false, false, false, false, false, false, false, false, false] rfl rfl (by kernel_rfl) (fun _ _ _ h => h) (Or.inl ⟨by rfl, ?_⟩) ?_ ?_
 rotate_left
 · intro w'
   go_simp
   with_reducible rfl
 rotate_left
 · exact putB
 refine pure_ (i := 7) (N := some 26) (v := ?_) (a' := ?_) #[true, false, true, false, false, false, false, true, false, false, false, false, false, false] rfl rfl (by kernel_rfl) (fun _ _ _ h => h) (Or.inl ⟨by rfl, ?_⟩) ?_ ?_
 rotate_left
 · intro w'
   go_simp
   with_reducible rfl
 rotate_left
 · exact putB
 refine pure_ (i := 8) (N := some 27) (v := ?_) (a' := ?_) #[true, false, true, false, false, false, false, true, true, false, false, false, false, false] rfl rfl (by kernel_rfl) (fun _ _ _ h => h) (Or.inl ⟨by rfl, ?_⟩) ?_ ?_
 rotate_left
 · intro w'
   go_simp
   with_reducible rfl
 rotate_left
 · exact putB
 refine take_ (i := 1) (N := some 20) (v := ?_) (a' := ?_) #[true, true, true, false, false, false, false, true, true, false, false, false, false, false] rfl rfl (by kernel_rfl) (fun _ _ _ h => h) (Or.inl ⟨by rfl, ?_⟩) hHeld ?_ ?_
 rotate_left
 · rintro w' ⟨s0, s1⟩
   go_simp
   with_reducible rfl
 rotate_left
 · exact putB
 refine pure_ (i := 3) (N := some 22) (v := ?_) (a' := ?_) #[true, true, true, true, false, false, false, true, true, false, false, false, false, false] rfl rfl (by kernel_rfl) (fun _ _ _ h => h) (Or.inl ⟨by rfl, ?_⟩) ?_ ?_
 rotate_left
 · intro w'
   go_simp
   with_reducible rfl
 rotate_left
 · exact putB
 refine pure_ (i := 4) (N := some 23) (v := ?_) (a' := ?_) #[true, true, true, true, true, false, false, true, true, false, false, false, false, false] rfl rfl (by kernel_rfl) (fun _ _ _ h => h) (Or.inl ⟨by rfl, ?_⟩) ?_ ?_
 rotate_left
 · intro w'
   go_simp
   with_reducible rfl
 rotate_left
 · exact putB
 refine pure_ (i := 5) (N := some 24) (v := ?_) (a' := ?_) #[true, true, true, true, true, true, false, true, true, false, false, false, false, false] rfl rfl (by kernel_rfl) (fun _ _ _ h => h) (Or.inl ⟨by rfl, ?_⟩) ?_ ?_
 rotate_left
 · intro w'
   go_simp
   with_reducible rfl
 rotate_left
 · exact putB
 refine pure_ (i := 10) (N := some 29) (v := ?_) (a' := ?_) #[true, true, true, true, true, true, false, true, true, false, true, false, false, false] rfl rfl (by kernel_rfl) (fun _ _ _ h => h) (Or.inl ⟨by rfl, ?_⟩) ?_ ?_
 rotate_left
 · intro w'
   go_simp
   with_reducible rfl
 rotate_left
 · exact putB
 refine pure_ (i := 11) (N := some 30) (v := ?_) (a' := ?_) #[true, true, true, true, true, true, false, true, true, false, true, true, false, false] rfl rfl (by kernel_rfl) (fun _ _ _ h => h) (Or.inl ⟨by rfl, ?_⟩) ?_ ?_
 rotate_left
 · intro w'
   go_simp
   with_reducible rfl
 rotate_left
 · exact putB
 refine take_ (i := 6) (N := some 25) (v := ?_) (a' := ?_) #[true, true, true, true, true, true, true, true, true, false, true, true, false, false] rfl rfl (by kernel_rfl) (fun _ _ _ h => h) (Or.inl ⟨by rfl, ?_⟩) hHeld ?_ ?_
 rotate_left
 · rintro w' ⟨s0, s1⟩
   go_simp
   with_reducible rfl
 rotate_left
 · exact putB
 refine pure_ (i := 9) (N := some 28) (v := ?_) (a' := ?_) #[true, true, true, true, true, true, true, true, true, true, true, true, false, false] rfl rfl (by kernel_rfl) (fun _ _ _ h => h) (Or.inl ⟨by rfl, ?_⟩) ?_ ?_
 rotate_left
 · intro w'
   go_simp
   with_reducible rfl
 rotate_left
 · exact putB
 refine pure_ (i := 12) (N := some 31) (v := ?_) (a' := ?_) #[true, true, true, true, true, true, true, true, true, true, true, true, true, false] rfl rfl (by kernel_rfl) (fun _ _ _ h => h) (Or.inl ⟨by rfl, ?_⟩) ?_ ?_
 rotate_left
 · intro w'
   go_simp
   with_reducible rfl
 rotate_left
 · exact putB
 refine last_ (i := 13) (N := none) #[true, true, true, true, true, true, true, true, true, true, true, true, true, true] rfl rfl (by kernel_rfl) (by decide) (fun K hK => ?_)
 have hfn : wd.frozen? ⟨g2, 7, none⟩ = false := E.out.free _
 have hcn := hHeld.1
 refine skip_ (w1 := ?_) (by rfl) rfl ?_ ?_
 rotate_left
 · go_simp
   rfl
 refine hK.out _ _ ?_
 clear hK K
 refine done_ (by kernel_rfl) ?_
 have H2 := Aside0.mk (show InH w go g2 cap (l.set 0 s2) a1 a2 a3 (wd.setCell ⟨g2, 7, none⟩ (.int .i16 (C + 3))) from H.out.put_elem HCS.out HP.out (show InSt wd g2 (0 * 25) 55 cs s2 (wd.setCell ⟨g2, 7, none⟩ (.int .i16 (C + 3))) from HS2.out ▸ E.out.put 7 (by decide) (C + 3)))
 have BR2 := Aside0.mk (blk_far (p := ⟨g2, 7, none⟩) BR.out (blk_ne H.out.row.blk.choose_spec.1 BR.out (by decide)).symm (.int .i16 (C + 3)))
 clear H E BR hHeld hcn hfn c7 c0_ hw2
 generalize wd.setCell ⟨g2, 7, none⟩ (.int .i16 (C + 3)) = we at H2 BR2 ⊢
 have H := H2
 have BR := BR2
 clear H2 BR2
 have hlen : (l.set 0 s2).length = l.length := List.length_set ..
 have d0 : we.cell? ⟨go, 0, none⟩ = some (.slice (some ⟨g2, 0, none⟩) l.length cap) := (H.out.cell 0).trans (by rw [hlen]; rfl)
 clear hlen
 go_wp2_with (first
  | (have s_ := ST7; go_at_call 89; (with_reducible refine (HV2.out _ g2 (elem0 H.out.row (by rw [List.length_set]; exact HP.out) HG0.out)).mono ?_); rintro e w12 ⟨rfl, hb⟩; replace BR := Aside0.mk (blk_below BR.out hb); replace H := Aside0.mk (H.out.step hb); clear hb d0; have d0 : w12.cell? ⟨go, 0, none⟩ = some (.slice (some ⟨g2, 0, none⟩) l.length cap) := (H.out.cell 0).trans (by first | rfl | (rw [List.length_set]; rfl)); have d1 : w12.cell? ⟨go, 1, none⟩ = some (.int .i16 a1) := (H.out.cell 1).trans (by first | rfl | (rw [List.length_set]; rfl)); have d2 : w12.cell? ⟨go, 2, none⟩ = some (.int .i8 a2) := (H.out.cell 2).trans (by first | rfl | (rw [List.length_set]; rfl)); have d3 : w12.cell? ⟨go, 3, none⟩ = some (.int .i16 a3) := (H.out.cell 3).trans (by first | rfl | (rw [List.length_set]; rfl)); have qBR0 : w12.cell? ⟨gr, 0, none⟩ = some (.slice none 0 0) := (blk_cell BR.out 0).trans rfl; have qBR1 : w12.cell? ⟨gr, 1, none⟩ = some (.int .i16 0) := (blk_cell BR.out 1).trans rfl; have qBR2 : w12.cell? ⟨gr, 2, none⟩ = some (.int .i8 0) := (blk_cell BR.out 2).trans rfl; have qBR3 : w12.cell? ⟨gr, 3, none⟩ = some (.int .i16 0) := (blk_cell BR.out 3).trans rfl; have fBR0 : w12.frozen? ⟨gr, 0, none⟩ = false := blk_frozen BR.out 0; have fBR1 : w12.frozen? ⟨gr, 1, none⟩ = false := blk_frozen BR.out 1; have fBR2 : w12.frozen? ⟨gr, 2, none⟩ = false := blk_frozen BR.out 2; have fBR3 : w12.frozen? ⟨gr, 3, none⟩ = false := blk_frozen BR.out 3; clear ST7 s_; have ST8 := Aside0.mk True.intro))
 refine bodyPost_ret (results_ct rfl _ _ gr 32 #[.slice (some ⟨g2, 0, none⟩) l.length cap, .int .i16 a1, .int .i8 a2, .int .i16 a3] (0, 0) _ rfl (put4_blk BR.out) Try.underlying32 rfl (by kernel_rfl)) rfl ?_
 refine ⟨_, rfl, ?_, put4_below (H.out.below (Below.refl _ _) GBO.out G2.out) GBR.out⟩
 have hR := R_of_row (base := w.heap.size) (ok := fun _ => True) (H.out.row.move (put4_block (g := gr) (x0 := .slice (some ⟨g2, 0, none⟩) l.length cap) (x1 := .int .i16 a1) (x2 := .int .i8 a2) (x3 := .int .i16 a3) _ (blk_ne H.out.row.blk.choose_spec.1 BR.out (by decide)))) G2.out trivial
 rw [List.length_set] at hR
 exact hR
end Go.Proofs.Ytggjdcijplgpdaa.H
