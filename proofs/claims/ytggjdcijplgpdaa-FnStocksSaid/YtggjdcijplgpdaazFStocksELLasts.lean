import Derived.Test.YtggjdcijplgpdaazFStocksEFresh
import Derived.Test.YtggjdcijplgpdaazFStocksEDAll
import Derived.Test.YtggjdcijplgpdaazFStocksEDay2
import Derived.Test.YtggjdcijplgpdaazFStocksELayG
import Derived.Test.YtggjdcijplgpdaazFStocksEDayOf
import Derived.Test.YtggjdcijplgpdaazFStocksEIdxSS
import Derived.Test.YtggjdcijplgpdaazFStocksEInH
import Derived.Test.YtggjdcijplgpdaazFStocksELasts
import Derived.Test.YtggjdcijplgpdaazFStocksEVHF
import Derived.Test.YtggjdcijplgpdaazFStocksENewH
import Derived.Test.YtggjdcijplgpdaazFStocksECloneSt
import Derived.Shelf.Abstract
namespace Go.Proofs.Ytggjdcijplgpdaa.H
open Go.RowKit Go.Proofs.YtggjdcijplgpdaaW.PrintWords Go.Proofs.YtggjdcijplgpdaaW.PrintLast Go.Proofs.YtggjdcijplgpdaaW.PrintMore
attribute [local go_sem] max2_int min2_int max_two min_two max_three min_three max_four min_four
set_option linter.unusedVariables false
set_option linter.unusedSimpArgs false
def simS (a1 a2 : Int) : List Int → List S55 → Int → Bool
 | [], _, _ => false
 | x :: xs, l, a3 => (dayOf l a1 a2 a3 [x]).2.any isShort || simS a1 a2 xs (dayOf l a1 a2 a3 [x]).1 (a3 + 1)
theorem fit_fresh {p : Int} (h : 0 ≤ p ∧ p ≤ 500) : FitL [freshS p] := by
 intro s hs
 rw [List.mem_singleton] at hs
 subst hs
 refine ⟨fun x hx => ?_, ?_⟩
 · have : x ∈ [(0 : Int), 0, 0, 0, 0, 0, 0, p, 0, 0, 0, 0, 0, 0, 0, 0, 0, 0, 0, 0, 0, 0, 0, 0, 0] := hx
   simp only [List.mem_cons, List.not_mem_nil, or_false] at this
   omega
 · show sumL [(0 : Int), 0, 0, 0, 0, 0, 0, p, 0, 0, 0, 0, 0, 0, 0, 0, 0, 0, 0, 0, 0, 0, 0, 0, 0] ≤ 500
   simp only [sumL]
   omega
set_option maxHeartbeats 8000000 in
set_option maxRecDepth 100000 in
theorem l05Lasts_calls (w : World) (A1 : Option Addr) (c1 : Nat) (p tub every : Int) (xs : List Int) (hr : Kd.C (Kd.int .i64) w A1 xs.length xs) (hp : 0 ≤ p ∧ p ≤ 500) (ht : 0 ≤ tub ∧ tub ≤ 1000) (he : 1 ≤ every ∧ every ≤ 7) (hx : ∀ x ∈ xs, 0 ≤ x ∧ x ≤ 500) (hn : xs.length ≤ 60) :
 Calls Try.prog 82 #[.int .i64 p, .int .i64 tub, .int .i64 every, .slice A1 xs.length c1] w fun e w' => ∃ n : Int, e = .returned (.int .i64 n) ∧ (n = (xs.length : Int) ↔ simS tub every xs [freshS p] 0 = false) ∧ Below w.heap.size w w' := by
 have hu32 := Try.underlying32
 have hw1 : IntKind.i16.wrap tub = tub := wrap16_id (by omega) (by omega)
 have hw2 : IntKind.i8.wrap every = every := wrap8_id (by omega) (by omega)
 have HF := Aside0.mk (fun (w : World) => l05Fresh_calls p hp w)
 have HFP := Aside0.mk (fit_fresh hp)
 have HX := Aside0.mk hx
 have HN := Aside0.mk hn
 have HT := Aside0.mk ht
 have HE := Aside0.mk he
 have HR := Aside0.mk hr
 obtain ⟨B, hB⟩ : ∃ b, simS tub every xs [freshS p] 0 = b := ⟨_, rfl⟩
 rw [hB]
 have HBQ := Aside0.mk hB
 have HB := Aside0.mk (Below.refl w.heap.size w)
 clear hr hp ht he hx hn hB
 go_enter Try.func82, Try.ntmps82
 have ST0 := Aside0.mk True.intro
 go_wp2_with (first
  | (have s_ := ST0; go_at_call 84; (with_reducible refine (HF.out _).mono ?_); rintro e w1 ⟨rfl, hb⟩; replace HB := Aside0.mk (below_step HB.out hb); clear hb; clear ST0 s_; have ST1 := Aside0.mk True.intro)
  | (have s_ := ST1; (with_reducible refine gate_dst (N := 15) rfl ?_); refine Kd.R_lit k55 _ 55 ?hg (N := 15) ?hd (xs := ([freshS p] : List S55)) (inner := stC (freshS p)) (ok := fun _ => True) (okp := fun _ => True) ?hr ?hp (fun _ hk => hk) trivial (Below.refl _ _) (Nat.le_refl _) (by simp) ?_; (case hd => rfl); (case hg => rfl); (case hr => exact build_stock (by rfl) (freshS p) (by rfl)); (case hp => exact one_stock _ _ _ _); intro v_ w2 ho_ hb hg_ hnew_; clear hg_ hnew_; have RW := Aside0.mk (Kd.R_lower ho_ HB.out.size); replace HB := Aside0.mk (below_step HB.out hb); clear hb ho_; obtain ⟨g2, cap, e8, hg2, _, hrow⟩ := row_of_R RW.out (by simp); subst e8; have RS := Aside0.mk hrow; have G2 := Aside0.mk hg2; clear hrow hg2 RW; clear ST1 s_; have ST2 := Aside0.mk True.intro)
  | (have s_ := ST2; (with_reducible refine gate_dst (N := 9) rfl ?_); refine box_event ?hg (N := 9) ?hd (cs := #[.slice none 0 0, .int .i16 0, .int .i8 0, .int .i16 0]) (t := 32) ?hr ?_; (case hd => rfl); (case hg => rfl); (case hr => first | (go_simp; done) | (go_simp; rfl)); intro go hg_ w3 hbox hb; have GBO := Aside0.mk (by rw [hg_]; exact HB.out.size : w.heap.size ≤ go); replace HB := Aside0.mk (below_step HB.out hb); replace RS := Aside0.mk (RS.out.move (hb.block _ RS.out.lt)); have BO := Aside0.mk hbox; clear hb hbox hg_; have qBO0 : w3.cell? ⟨go, 0, none⟩ = some (.slice none 0 0) := (blk_cell BO.out 0).trans rfl; have qBO1 : w3.cell? ⟨go, 1, none⟩ = some (.int .i16 0) := (blk_cell BO.out 1).trans rfl; have qBO2 : w3.cell? ⟨go, 2, none⟩ = some (.int .i8 0) := (blk_cell BO.out 2).trans rfl; have qBO3 : w3.cell? ⟨go, 3, none⟩ = some (.int .i16 0) := (blk_cell BO.out 3).trans rfl; have fBO0 : w3.frozen? ⟨go, 0, none⟩ = false := blk_frozen BO.out 0; have fBO1 : w3.frozen? ⟨go, 1, none⟩ = false := blk_frozen BO.out 1; have fBO2 : w3.frozen? ⟨go, 2, none⟩ = false := blk_frozen BO.out 2; have fBO3 : w3.frozen? ⟨go, 3, none⟩ = false := blk_frozen BO.out 3; clear ST2 s_; have ST3 := Aside0.mk True.intro)
  | (have s_ := ST3; (with_reducible refine gate_store (t := 32) (p := 9) rfl ?_); refine store_event (t := 32) (p := 9) (v := ?vo_w4) (w1 := ((((w3.setCell ⟨go, 0, none⟩ (.slice (some ⟨g2, 0, none⟩) 1 cap)).setCell ⟨go, 1, none⟩ (.int .i16 tub)).setCell ⟨go, 2, none⟩ (.int .i8 every)).setCell ⟨go, 3, none⟩ (.int .i16 0))) ?hg ?ho ?hn ?hr ?_; (case ho => rfl); (case hg => rfl); (case hn => rfl); (case hr => first | (go_simp; done) | (go_simp; rfl)); intro w4 hw; have hg : w3.grownBy w4 (some go) := (by rw [hw]; exact put4_grown True.intro True.intro); have hnew : w4.heap[go]? = some (.cells #[.slice (some ⟨g2, 0, none⟩) 1 cap, .int .i16 tub, .int .i8 every, .int .i16 0] 32 (0, 0)) := (by rw [hw]; exact put4_blk BO.out); clear hw; replace HB := Aside0.mk (below_grown HB.out hg (fun k_ e_ => by injection e_ with e_; subst e_; exact GBO.out)); replace RS := Aside0.mk (RS.out.move (hg.block _ RS.out.lt (fun e_ => blk_ne RS.out.blk.choose_spec.1 BO.out (by decide) (by injection e_)))); replace BO := Aside0.mk (hnew); clear hg hnew; clear qBO0 qBO1 qBO2 qBO3 fBO0 fBO1 fBO2 fBO3; have qBO0 : w4.cell? ⟨go, 0, none⟩ = some (.slice (some ⟨g2, 0, none⟩) 1 cap) := (blk_cell BO.out 0).trans rfl; have qBO1 : w4.cell? ⟨go, 1, none⟩ = some (.int .i16 tub) := (blk_cell BO.out 1).trans rfl; have qBO2 : w4.cell? ⟨go, 2, none⟩ = some (.int .i8 every) := (blk_cell BO.out 2).trans rfl; have qBO3 : w4.cell? ⟨go, 3, none⟩ = some (.int .i16 0) := (blk_cell BO.out 3).trans rfl; clear ST3 s_; have ST4 := Aside0.mk True.intro))
 have H0 := Aside0.mk (show InH w go g2 cap [freshS p] tub every 0 w4 from InH.made BO.out RS.out HB.out)
 clear HB BO RS hw1 hw2 qBO0 qBO1 qBO2 qBO3
 go_loopg [10] xs.length (fun gk v10 wr => ∃ (i : Nat) (li : List S55), i ≤ xs.length ∧ xs.length - i ≤ gk ∧ v10 = .int .i64 i ∧ Aside0 (simS tub every (xs.drop i) li i = B) ∧ Aside0 (FitL li ∧ li.length = 1) ∧ Aside0 (InH w go g2 cap li tub every i wr))
 case atStart => exact ⟨0, [freshS p], by omega, by omega, rfl, HBQ, ⟨⟨HFP.out, rfl⟩⟩, H0⟩
 case round =>
  clear H0
  obtain ⟨i, li, hi, hgk, rfl, HQ0, HFA, H⟩ := hrel
  by_cases hlt : i < xs.length
  · have hltz : (i : Int) < (xs.length : Int) := by omega
    have hi0 : 0 ≤ (i : Int) := by omega
    have HI := Aside0.mk hlt
    have hi60 : i < 60 := by have := HN.out; omega
    obtain ⟨ad, e0, hcx⟩ := Kd.at_int (Kd.C_below HR.out (H.out.below (Below.refl _ _) GBO.out G2.out)) (i : Int) hi0 hltz
    subst e0
    obtain ⟨x, hxv⟩ : ∃ x, rd xs (i : Int) = x := ⟨_, rfl⟩
    rw [hxv] at hcx
    have hx' : wr.cell? (ad.add i) = some (.int .i64 x) := hcx
    have hel : xs[i] = x := by
     rw [← hxv]
     show _ = xs.getD i 0
     rw [List.getD_eq_getElem?_getD, List.getElem?_eq_getElem hlt]
     rfl
    have hxb := HX.out x (hel ▸ List.getElem_mem hlt)
    have hNL : NeedL [x] := fun y hy => by rw [List.mem_singleton] at hy; subst hy; exact hxb
    have hlen : ([x] : List Int).length = li.length := HFA.out.2.symm
    have hok := dayOf_ok (a2 := every) (a3 := (i : Int)) HFA.out.1 HT.out hNL hlen
    have hpos := dayOf_pos (a1 := tub) (a2 := every) (a3 := (i : Int)) HFA.out.1 hNL hlen
    have hdc : dayC li i [x] = 0 := by
     unfold dayC
     rw [needOk_of hNL hlen, decide_eq_true (show (i : Int) < 60 by omega)]
     rfl
    have hrn := HQ0.out
    rw [List.drop_eq_getElem_cons hlt, hel, simS] at hrn
    obtain ⟨q, hq⟩ : ∃ q, dayOf li tub every i [x] = q := ⟨_, rfl⟩
    rw [hq] at hok hpos hrn
    obtain ⟨y, hy⟩ : ∃ y, q.2 = [y] := by
     have h1 := hpos.2
     rw [HFA.out.2] at h1
     exact List.length_eq_one_iff.mp h1
    have HD := Aside0.mk hq
    have HY := Aside0.mk hy
    rw [hy] at hrn
    have HRN := Aside0.mk hrn
    have HOK := Aside0.mk hok
    have HDC := Aside0.mk hdc
    have HDAY := Aside0.mk (fun (w' : World) (A : Option Addr) (c : Nat) (hb : Below wr.heap.size wr w') (hrow : Kd.R (Kd.int .i64) 2 w' wr.heap.size (fun _ => True) (.slice A ([x] : List Int).length c) [x]) => l05Day_at w' w' go g2 cap li tub every i A c [x] HFA.out.1 HT.out HE.out ⟨by omega, by omega⟩ (by rw [HFA.out.2]; omega) (fun w'' l' b3 hI => (Kd.R_reads' ((InH.start (H.out.step hb).hs (H.out.step hb).row).keeps hI hrow)).2.2) (Kd.R_reads' hrow).2.1 (InH.start (H.out.step hb).hs (H.out.step hb).row))
    clear hcx hxv hel hxb hNL hlen hok hpos hdc hrn hq hy HQ0 hlt hi60
    by_cases hpy : y > 0
    · have d1 : decide (y > 0) = true := decide_eq_true hpy
      have d2 : decide (0 < y) = true := decide_eq_true hpy
      have HSH := Aside0.mk (show isShort y = true from d2)
      clear hpy
      go_wp2_with (first | ((with_reducible refine gate_dst (N := 32) rfl ?_); refine Kd.R_lit (Kd.int .i64) _ 2 ?hg (N := 32) ?hd (xs := ([x] : List Int)) (inner := [.int .i64 x]) (ok := fun _ => True) (okp := fun _ => True) ?hr ?hp (fun _ hk => hk) trivial (Below.refl _ _) (Nat.le_refl _) (by simp) ?_; (case hd => rfl); (case hg => rfl); (case hr => first | (go_simp; done) | (go_simp; rfl)); (case hp => exact (Reps.one (show Kd.M (Kd.int .i64) _ _ _ x [.int .i64 x] from rfl) (Reps.none _ _))); intro v_ w5 ho_ hb hg_ hnew_; clear hg_ hnew_ hx'; obtain ⟨Al, cl, el⟩ := Kd.R_slice ho_; subst el; have DW := Aside0.mk (HDAY.out w5 Al cl hb ho_); have n_ := Aside0.mk (H.out.step hb); clear H hb ho_ HDAY; have H := n_; clear n_) | (go_at_call 59; refine DW.out.mono ?_; rintro e w6 h_; unfold Day2Post at h_; rw [HDC.out, HD.out, if_pos rfl, HY.out] at h_; obtain ⟨vd, rfl, hv, hI, _⟩ := h_; have hI := hI rfl; have n_ := Aside0.mk (H.out.trans hI); obtain ⟨Av, cv, ev⟩ := Kd.R_slice hv; subst ev; obtain ⟨adV, eV, hcv⟩ := Kd.at_int (Kd.R_reads' hv).2.2 (0 : Int) (by omega) (by simp); subst eV; have cY : w6.cell? adV = some (.int .i64 y) := (by have e0 : adV.add (0 : Int).toNat = adV := (by show adV.add 0 = adV; unfold Addr.add; cases adV with | mk b o i => cases i <;> simp); rw [e0] at hcv; exact hcv); clear H hv hI DW hcv; have H := n_; clear n_))
      go_ret
      have hB2 : B = true := by rw [← HRN.out, List.any_cons, HSH.out]; rfl
      have hi_ := HI.out
      exact ⟨_, rfl, by rw [hB2]; simp; omega, H.out.below (Below.refl _ _) GBO.out G2.out⟩
    · have d1 : decide (y > 0) = false := decide_eq_false hpy
      have d2 : decide (0 < y) = false := decide_eq_false hpy
      have HSH := Aside0.mk (show isShort y = false from d2)
      clear hpy
      go_wp2_with (first | ((with_reducible refine gate_dst (N := 32) rfl ?_); refine Kd.R_lit (Kd.int .i64) _ 2 ?hg (N := 32) ?hd (xs := ([x] : List Int)) (inner := [.int .i64 x]) (ok := fun _ => True) (okp := fun _ => True) ?hr ?hp (fun _ hk => hk) trivial (Below.refl _ _) (Nat.le_refl _) (by simp) ?_; (case hd => rfl); (case hg => rfl); (case hr => first | (go_simp; done) | (go_simp; rfl)); (case hp => exact (Reps.one (show Kd.M (Kd.int .i64) _ _ _ x [.int .i64 x] from rfl) (Reps.none _ _))); intro v_ w5 ho_ hb hg_ hnew_; clear hg_ hnew_ hx'; obtain ⟨Al, cl, el⟩ := Kd.R_slice ho_; subst el; have DW := Aside0.mk (HDAY.out w5 Al cl hb ho_); have n_ := Aside0.mk (H.out.step hb); clear H hb ho_ HDAY; have H := n_; clear n_) | (go_at_call 59; refine DW.out.mono ?_; rintro e w6 h_; unfold Day2Post at h_; rw [HDC.out, HD.out, if_pos rfl, HY.out] at h_; obtain ⟨vd, rfl, hv, hI, _⟩ := h_; have hI := hI rfl; have n_ := Aside0.mk (H.out.trans hI); obtain ⟨Av, cv, ev⟩ := Kd.R_slice hv; subst ev; obtain ⟨adV, eV, hcv⟩ := Kd.at_int (Kd.R_reads' hv).2.2 (0 : Int) (by omega) (by simp); subst eV; have cY : w6.cell? adV = some (.int .i64 y) := (by have e0 : adV.add (0 : Int).toNat = adV := (by show adV.add 0 = adV; unfold Addr.add; cases adV with | mk b o i => cases i <;> simp); rw [e0] at hcv; exact hcv); clear H hv hI DW hcv; have H := n_; clear n_))
      have hi_ := HI.out
      have hn_ := HN.out
      go_roundg (xs.length - (i + 1))
      case measure => omega
      case rel => exact ⟨i + 1, q.1, by omega, by omega, by have hw_ : wrap64 ((i : Int) + 1) = ((i + 1 : Nat) : Int) := (w64i (by omega) (by omega)).trans (by omega); first | rfl | rw [hw_] | (simp only [i64_w, hw_]) | go_num, ⟨by have := HRN.out; rw [List.any_cons, HSH.out] at this; simpa using this⟩, ⟨⟨HOK.out.1, HOK.out.2.trans HFA.out.2⟩⟩, ⟨by have := H.out; simpa using this⟩⟩
  · have hltz : ¬ (i : Int) < (xs.length : Int) := by omega
    obtain rfl : i = xs.length := by omega
    have hrn := HQ0.out
    rw [List.drop_length, simS] at hrn
    have HRN := Aside0.mk hrn
    clear hrn
    go_wp2
    go_ret
    exact ⟨_, rfl, ⟨fun _ => HRN.out.symm, fun _ => rfl⟩, H.out.below (Below.refl _ _) GBO.out G2.out⟩
end Go.Proofs.Ytggjdcijplgpdaa.H
