import Derived.Test.YtggjdcijplgpdaazFStocksENeedC
import Derived.Test.YtggjdcijplgpdaazFStocksEFresh
import Derived.Test.YtggjdcijplgpdaazFStocksEDAll
import Derived.Test.YtggjdcijplgpdaazFStocksEDayOf
import Derived.Test.YtggjdcijplgpdaazFStocksEIdxSS
import Derived.Test.YtggjdcijplgpdaazFStocksEInH
import Derived.Test.YtggjdcijplgpdaazFStocksEKCode
import Derived.Test.YtggjdcijplgpdaazFStocksELLasts
import Derived.Test.YtggjdcijplgpdaazFStocksEVHF
import Derived.Test.YtggjdcijplgpdaazFStocksELeast1
import Derived.Test.YtggjdcijplgpdaazFStocksENewH
import Derived.Test.YtggjdcijplgpdaazFStocksESLeast
import Derived.Test.YtggjdcijplgpdaazFStocksECloneSt
import Derived.Shelf.Abstract
namespace Go.Proofs.Ytggjdcijplgpdaa.H
open Go.RowKit Go.Proofs.YtggjdcijplgpdaaW.PrintWords Go.Proofs.YtggjdcijplgpdaaW.PrintLast Go.Proofs.YtggjdcijplgpdaaW.PrintMore
attribute [local go_sem] max2_int min2_int max_two min_two max_three min_three max_four min_four
set_option linter.unusedVariables false
set_option linter.unusedSimpArgs false
def stT (a1 a2 : Int) : List Int → List S55 → Int → Nat → List S55
 | _, l, _, 0 => l
 | [], l, _, _ + 1 => l
 | x :: xs, l, a3, k + 1 => stT a1 a2 xs (dayOf l a1 a2 a3 [x]).1 (a3 + 1) k
theorem stT_next (a1 a2 : Int) : ∀ (xs : List Int) (l : List S55) (a3 : Int) (k : Nat), k < xs.length → stT a1 a2 xs l a3 (k + 1) = (dayOf (stT a1 a2 xs l a3 k) a1 a2 (a3 + (k : Int)) [xs.getD k 0]).1
 | [], _, _, k, h => absurd h (by simp)
 | x :: xs, l, a3, 0, _ => by
  show stT a1 a2 xs (dayOf l a1 a2 a3 [x]).1 (a3 + 1) 0 = _
  rw [show a3 + ((0 : Nat) : Int) = a3 by simp]
  cases xs <;> rfl
 | x :: xs, l, a3, k + 1, h => by
  have ih := stT_next a1 a2 xs (dayOf l a1 a2 a3 [x]).1 (a3 + 1) k (by simpa using h)
  show stT a1 a2 xs (dayOf l a1 a2 a3 [x]).1 (a3 + 1) (k + 1) = (dayOf (stT a1 a2 xs (dayOf l a1 a2 a3 [x]).1 (a3 + 1) k) a1 a2 (a3 + ((k + 1 : Nat) : Int)) [xs.getD k 0]).1
  rw [ih, show a3 + 1 + (k : Int) = a3 + ((k + 1 : Nat) : Int) by omega]
theorem stT_zero (a1 a2 : Int) (xs : List Int) (l : List S55) (a3 : Int) : stT a1 a2 xs l a3 0 = l := by cases xs <;> rfl
theorem stT_fit {a1 a2 : Int} (ha : 0 ≤ a1 ∧ a1 ≤ 1000) : ∀ (xs : List Int) (l : List S55) (a3 : Int) (k : Nat), (∀ x ∈ xs, 0 ≤ x ∧ x ≤ 500) → FitL l → l.length = 1 → FitL (stT a1 a2 xs l a3 k) ∧ (stT a1 a2 xs l a3 k).length = 1
 | xs, l, a3, 0, _, hf, hl => by rw [stT_zero]; exact ⟨hf, hl⟩
 | [], l, _, _ + 1, _, hf, hl => ⟨hf, hl⟩
 | x :: xs, l, a3, k + 1, hx, hf, hl => by
  have hNL : NeedL [x] := fun y hy => by rw [List.mem_singleton] at hy; subst hy; exact hx y (by simp)
  have hok := dayOf_ok (a2 := a2) (a3 := a3) hf ha hNL hl.symm
  exact stT_fit ha xs _ (a3 + 1) k (fun y hy => hx y (by simp [hy])) hok.1 (hok.2.trans hl)
theorem simS_any (a1 a2 : Int) : ∀ (xs : List Int) (l : List S55) (a3 : Int), simS a1 a2 xs l a3 = true ↔ ∃ k, k < xs.length ∧ ((dayOf (stT a1 a2 xs l a3 k) a1 a2 (a3 + (k : Int)) [xs.getD k 0]).2.any isShort) = true
 | [], _, _ => by simp [simS]
 | x :: xs, l, a3 => by
  rw [simS, Bool.or_eq_true, simS_any a1 a2 xs]
  constructor
  · rintro (h | ⟨k, hk, h⟩)
    · refine ⟨0, by simp, ?_⟩
      rw [stT_zero, show a3 + ((0 : Nat) : Int) = a3 by simp]
      exact h
    · refine ⟨k + 1, by simpa using hk, ?_⟩
      show ((dayOf (stT a1 a2 xs (dayOf l a1 a2 a3 [x]).1 (a3 + 1) k) a1 a2 (a3 + ((k + 1 : Nat) : Int)) [xs.getD k 0]).2.any isShort) = true
      rw [show a3 + ((k + 1 : Nat) : Int) = a3 + 1 + (k : Int) by omega]
      exact h
  · rintro ⟨k, hk, h⟩
    cases k with
    | zero =>
     rw [stT_zero, show a3 + ((0 : Nat) : Int) = a3 by simp] at h
     exact .inl h
    | succ k =>
     refine .inr ⟨k, by simpa using hk, ?_⟩
     have h' : ((dayOf (stT a1 a2 xs (dayOf l a1 a2 a3 [x]).1 (a3 + 1) k) a1 a2 (a3 + ((k + 1 : Nat) : Int)) [xs.getD k 0]).2.any isShort) = true := h
     rw [show a3 + ((k + 1 : Nat) : Int) = a3 + 1 + (k : Int) by omega] at h'
     exact h'
theorem anyB_sim (a1 a2 : Int) (xs : List Int) (l : List S55) : anyB (fun k => (dayOf (stT a1 a2 xs l 0 k) a1 a2 (k : Int) [xs.getD k 0]).2.any isShort) xs.length = simS a1 a2 xs l 0 := by
 rw [Bool.eq_iff_iff, simS_any]
 unfold anyB
 rw [List.any_eq_true]
 constructor
 · rintro ⟨k, hk, h⟩
   exact ⟨k, List.mem_range.mp hk, by rw [Int.zero_add]; exact h⟩
 · rintro ⟨k, hk, h⟩
   rw [Int.zero_add] at h
   exact ⟨k, List.mem_range.mpr hk, h⟩
set_option maxHeartbeats 8000000 in
set_option maxRecDepth 100000 in
theorem least_calls (w : World) (A1 : Option Addr) (c1 : Nat) (tub every : Int) (xs : List Int) (days : List (List Int)) (hdays : (xs.map fun x => [x]) = days) (hr : Kd.C (Kd.slice 2 (Kd.int .i64)) w A1 days.length days) (ht : 0 ≤ tub ∧ tub ≤ 1000) (he : 1 ≤ every ∧ every ≤ 7) (hx : ∀ x ∈ xs, 0 ≤ x ∧ x ≤ 500) (hn : xs.length ≤ 60)
 (P : Nat) (hP : P ≤ 500) (hPs : simS tub every xs [freshS (P : Int)] 0 = false) (hmin : ∀ q : Nat, q < P → simS tub every xs [freshS (q : Int)] 0 = true) :
 Calls Try.prog 22 #[.int .i64 0, .int .i64 tub, .int .i64 every, .slice A1 days.length c1] w fun e w' => e = .returned (.tuple #[.int .i64 (P : Int), .int .i64 0]) ∧ Below w.heap.size w w' := by
 have hu32 := Try.underlying32
 have hdl : days.length = xs.length := by rw [← hdays, List.length_map]
 have hgt : ¬ ((days.length : Int) > 60) := by omega
 have hgb : decide ((days.length : Int) > 60) = false := decide_eq_false hgt
 have hgc : decide (60 < (days.length : Int)) = false := decide_eq_false hgt
 have hw1 : IntKind.i16.wrap tub = tub := wrap16_id (by omega) (by omega)
 have hw2 : IntKind.i8.wrap every = every := wrap8_id (by omega) (by omega)
 have hgd : ∀ k, k < days.length → ∃ x, xs.getD k 0 = x ∧ rd_L5 days (k : Int) = [x] ∧ 0 ≤ x ∧ x ≤ 500 := by
  intro k hk
  have hk' : k < xs.length := by omega
  refine ⟨xs[k], by rw [List.getD_eq_getElem?_getD, List.getElem?_eq_getElem hk']; rfl, by rw [← hdays]; exact rd_one hk', hx _ (List.getElem_mem hk')⟩
 have HW1 := Aside0.mk (fun (w : World) => impl_within.calls 0 0 3 true w (by rw [within_B]; rfl))
 have HW2 := Aside0.mk (fun (w : World) => impl_within.calls tub 0 1000 true w (by rw [within_B, inB_of ht]))
 have HW3 := Aside0.mk (fun (w : World) => impl_within.calls every 1 7 true w (by rw [within_B, inB_of he]))
 have HST := Aside0.mk (fun (kb : Nat) => show StepOn 74 #[.pointer (some ⟨kb, 0, none⟩)] (fun _ => false) A1 days (fun _ W => Below w.heap.size w W ∧ W.heap[kb]? = some (.cells #[.int .i64 0] 2 (0, 0))) by
  intro k W A c hk hI hC hcl _
  obtain ⟨x, _, hrd, hxb⟩ := hgd k hk
  rw [hrd] at hC hcl ⊢
  obtain ⟨ad, e, _⟩ := at_one (c := c) hC
  subst e
  exact (least1_calls W ⟨kb, 0, none⟩ ad c x ((blk_cell hI.2 0).trans rfl) hC hcl hxb).mono fun e w' h => ⟨h.1, below_step hI.1 h.2, blk_below hI.2 h.2⟩)
 have HST2 := Aside0.mk (fun (q : Nat) (hq : q ≤ 500) (wP : World) (go g2 cap kb : Nat) (hB : Below w.heap.size w wP) (h1 : w.heap.size ≤ go) (h2 : w.heap.size ≤ g2) (hkb : wP.heap[kb]? = some (.cells #[.int .i64 0] 2 (0, 0))) (hne : kb ≠ go) (hrow : RowSt wP g2 cap [freshS (q : Int)]) => show StepOn 78 #[.pointer (some ⟨go, 0, none⟩), .pointer (some ⟨kb, 0, none⟩)] (fun k => (dayOf (stT tub every xs [freshS (q : Int)] 0 k) tub every (k : Int) [xs.getD k 0]).2.any isShort) A1 days (fun k W => k ≤ xs.length ∧ InH wP go g2 cap (stT tub every xs [freshS (q : Int)] 0 k) tub every (k : Int) W) by
  intro k W A c hk hI hC hcl hold
  obtain ⟨x, hgx, hrd, hxb⟩ := hgd k hk
  have hk' : k < xs.length := by omega
  have hBW := hI.2.below hB h1 h2
  have hC0 := hold w hr hBW
  rw [hrd] at hC hcl hC0 ⊢
  obtain ⟨ad, e, _⟩ := at_one (c := c) hC
  subst e
  have hfit := stT_fit (a2 := every) ht xs [freshS (q : Int)] 0 k hx (fit_fresh (by omega)) rfl
  have hnx := stT_next tub every xs [freshS (q : Int)] 0 k hk'
  rw [Int.zero_add] at hnx
  obtain ⟨cs, hh, _⟩ := hrow.blk
  have hkW := (hI.2.block kb (blk_lt hkb) hne (blk_ne hkb hh (by decide))).trans hkb
  subst hgx
  refine (least2_calls w W go g2 cap _ tub every (k : Int) ⟨kb, 0, none⟩ ad c _ ((blk_cell hkW 0).trans rfl) hC0 hcl hxb hfit.1 hfit.2 ht he ⟨by omega, by omega⟩ hBW ⟨h1, h2⟩ (InH.start hI.2.hs hI.2.row)).mono fun e w' h => ⟨h.1, by omega, ?_⟩
  rw [hnx, show ((k + 1 : Nat) : Int) = (k : Int) + 1 by omega]
  exact hI.2.trans h.2)
 have HR := Aside0.mk hr
 have HF := Aside0.mk (fun (q : Nat) (hq : q ≤ 500) (w : World) => newStock_calls (q : Int) ⟨by omega, by omega⟩ w)
 have HSIM := Aside0.mk (fun q : Nat => anyB_sim tub every xs [freshS (q : Int)])
 have HDL := Aside0.mk hdl
 have HP := Aside0.mk hP
 have HPS := Aside0.mk hPs
 have HMIN := Aside0.mk hmin
 have HB := Aside0.mk (Below.refl w.heap.size w)
 clear hr ht he hx hn hP hPs hmin hdays hdl hgd hgt
 go_enter Try.func22, Try.ntmps22
 have ST0 := Aside0.mk True.intro
 go_wp2_with (first
  | (have s_ := ST0; (with_reducible refine gate_dst (N := 4) rfl ?_); refine box_event ?hg (N := 4) ?hd (cs := #[.int .i64 0]) (t := 2) ?hr ?_; (case hd => rfl); (case hg => rfl); (case hr => first | (go_simp; done) | (go_simp; rfl)); intro kb hg_ w1 hbox hb; have GBK := Aside0.mk (by rw [hg_]; exact Nat.le_refl _ : w.heap.size ≤ kb); have HB := Aside0.mk hb; have BK := Aside0.mk hbox; clear hb hbox hg_; have qBK0 : w1.cell? ⟨kb, 0, none⟩ = some (.int .i64 0) := (blk_cell BK.out 0).trans rfl; clear ST0 s_; have ST1 := Aside0.mk True.intro)
  | (have s_ := ST1; go_at_call 72; (with_reducible refine (HW1.out _).mono ?_); rintro e w2 ⟨rfl, hd⟩; have hb := hd.below; replace HB := Aside0.mk (below_step HB.out hb); replace BK := Aside0.mk (blk_below BK.out hb); clear hb hd; clear qBK0; have qBK0 : w2.cell? ⟨kb, 0, none⟩ = some (.int .i64 0) := (blk_cell BK.out 0).trans rfl; clear ST1 s_; have ST2 := Aside0.mk True.intro)
  | (have s_ := ST2; go_at_call 72; (with_reducible refine (HW2.out _).mono ?_); rintro e w3 ⟨rfl, hd⟩; have hb := hd.below; replace HB := Aside0.mk (below_step HB.out hb); replace BK := Aside0.mk (blk_below BK.out hb); clear hb hd; clear qBK0; have qBK0 : w3.cell? ⟨kb, 0, none⟩ = some (.int .i64 0) := (blk_cell BK.out 0).trans rfl; clear ST2 s_; have ST3 := Aside0.mk True.intro)
  | (have s_ := ST3; go_at_call 72; (with_reducible refine (HW3.out _).mono ?_); rintro e w4 ⟨rfl, hd⟩; have hb := hd.below; replace HB := Aside0.mk (below_step HB.out hb); replace BK := Aside0.mk (blk_below BK.out hb); clear hb hd; clear qBK0; have qBK0 : w4.cell? ⟨kb, 0, none⟩ = some (.int .i64 0) := (blk_cell BK.out 0).trans rfl; clear ST3 s_; have ST4 := Aside0.mk True.intro)
  | (have s_ := ST4; go_at_call 73; refine (containsSS_run 74 #[.pointer (some ⟨kb, 0, none⟩)] (fun _ _ => rfl) (fun _ => false) (fun _ W => Below w.heap.size w W ∧ W.heap[kb]? = some (.cells #[.int .i64 0] 2 (0, 0))) A1 c1 days w4 (fun _ W h => Kd.C_below HR.out h.1) ⟨HB.out, BK.out⟩ (HST.out kb)).mono ?_; rintro e w5 ⟨rfl, _, hi⟩; have a_ := Aside0.mk hi.1; have b_ := Aside0.mk hi.2; clear HB BK hi qBK0; have HB := a_; have BK := b_; clear a_ b_; have hany : anyB (fun _ => false) days.length = false := anyB_miss (fun _ _ => rfl); rw [hany]; clear hany; clear ST4 s_; have ST5 := Aside0.mk True.intro))
 clear HW1 HW2 HW3 HST hgb hgc
 go_loopg [33] 501 (fun gk v33 wr => ∃ q : Nat, q ≤ P ∧ 501 - q ≤ gk ∧ v33 = .int .i64 q ∧ Aside0 (Below w.heap.size w wr) ∧ Aside0 (wr.heap[kb]? = some (.cells #[.int .i64 0] 2 (0, 0))))
 case atStart => exact ⟨0, by omega, by omega, rfl, HB, BK⟩
 case round =>
  clear HB BK
  obtain ⟨q, hq, hgq, rfl, HB, BK⟩ := hrel
  have hqz : (q : Int) < 501 := by have := HP.out; omega
  have HQ := Aside0.mk hq
  have HQ5 := Aside0.mk (show q ≤ 500 by have := HP.out; omega)
  have HSQ := Aside0.mk (HSIM.out q)
  rw [← HDL.out] at HSQ
  by_cases he : q = P
  · subst he
    rw [HPS.out] at HSQ
    have HANY := HSQ
    clear HSQ
    have ST5 := Aside0.mk True.intro
    go_wp2_with (first
     | (have s_ := ST5; go_at_call 77; (with_reducible refine (HF.out q HQ5.out _).mono ?_); rintro e w6 ⟨rfl, hb⟩; replace HB := Aside0.mk (below_step HB.out hb); replace BK := Aside0.mk (blk_below BK.out hb); clear hb; have qBK0 : w6.cell? ⟨kb, 0, none⟩ = some (.int .i64 0) := (blk_cell BK.out 0).trans rfl; clear ST5 s_; have ST6 := Aside0.mk True.intro)
     | (have s_ := ST6; (with_reducible refine gate_dst (N := 38) rfl ?_); refine Kd.R_lit k55 _ 55 ?hg (N := 38) ?hd (xs := ([freshS (q : Int)] : List S55)) (inner := stC (freshS (q : Int))) (ok := fun _ => True) (okp := fun _ => True) ?hr ?hp (fun _ hk => hk) trivial (Below.refl _ _) (Nat.le_refl _) (by simp) ?_; (case hd => rfl); (case hg => rfl); (case hr => exact build_stock (by rfl) (freshS (q : Int)) (by rfl)); (case hp => exact one_stock _ _ _ _); intro v_ w7 ho_ hb hg_ hnew_; clear hg_ hnew_; have RW := Aside0.mk (Kd.R_lower ho_ HB.out.size); replace HB := Aside0.mk (below_step HB.out hb); replace BK := Aside0.mk (blk_below BK.out hb); clear hb ho_; obtain ⟨g2, cap, e8, hg2, _, hrow⟩ := row_of_R RW.out (by simp); subst e8; have RS := Aside0.mk hrow; have G2 := Aside0.mk hg2; clear hrow hg2 RW; clear qBK0; have qBK0 : w7.cell? ⟨kb, 0, none⟩ = some (.int .i64 0) := (blk_cell BK.out 0).trans rfl; clear ST6 s_; have ST7 := Aside0.mk True.intro)
     | (have s_ := ST7; (with_reducible refine gate_dst (N := 11) rfl ?_); refine box_event ?hg (N := 11) ?hd (cs := #[.slice none 0 0, .int .i16 0, .int .i8 0, .int .i16 0]) (t := 32) ?hr ?_; (case hd => rfl); (case hg => rfl); (case hr => first | (go_simp; done) | (go_simp; rfl)); intro go hg_ w8 hbox hb; have GBO := Aside0.mk (by rw [hg_]; exact HB.out.size : w.heap.size ≤ go); have NBK_BO := Aside0.mk (by rw [hg_]; exact Nat.ne_of_lt (blk_lt BK.out) : kb ≠ go); replace HB := Aside0.mk (below_step HB.out hb); replace BK := Aside0.mk (blk_below BK.out hb); replace RS := Aside0.mk (RS.out.move (hb.block _ RS.out.lt)); have BO := Aside0.mk hbox; clear hb hbox hg_; clear qBK0; have qBK0 : w8.cell? ⟨kb, 0, none⟩ = some (.int .i64 0) := (blk_cell BK.out 0).trans rfl; have qBO0 : w8.cell? ⟨go, 0, none⟩ = some (.slice none 0 0) := (blk_cell BO.out 0).trans rfl; have qBO1 : w8.cell? ⟨go, 1, none⟩ = some (.int .i16 0) := (blk_cell BO.out 1).trans rfl; have qBO2 : w8.cell? ⟨go, 2, none⟩ = some (.int .i8 0) := (blk_cell BO.out 2).trans rfl; have qBO3 : w8.cell? ⟨go, 3, none⟩ = some (.int .i16 0) := (blk_cell BO.out 3).trans rfl; have fBO0 : w8.frozen? ⟨go, 0, none⟩ = false := blk_frozen BO.out 0; have fBO1 : w8.frozen? ⟨go, 1, none⟩ = false := blk_frozen BO.out 1; have fBO2 : w8.frozen? ⟨go, 2, none⟩ = false := blk_frozen BO.out 2; have fBO3 : w8.frozen? ⟨go, 3, none⟩ = false := blk_frozen BO.out 3; clear ST7 s_; have ST8 := Aside0.mk True.intro)
     | (have s_ := ST8; (with_reducible refine gate_store (t := 32) (p := 11) rfl ?_); refine store_event (t := 32) (p := 11) (v := ?vo_w9) (w1 := ((((w8.setCell ⟨go, 0, none⟩ (.slice (some ⟨g2, 0, none⟩) 1 cap)).setCell ⟨go, 1, none⟩ (.int .i16 tub)).setCell ⟨go, 2, none⟩ (.int .i8 every)).setCell ⟨go, 3, none⟩ (.int .i16 0))) ?hg ?ho ?hn ?hr ?_; (case ho => rfl); (case hg => rfl); (case hn => rfl); (case hr => first | (go_simp; done) | (go_simp; rfl)); intro w9 hw; have hg : w8.grownBy w9 (some go) := (by rw [hw]; exact put4_grown True.intro True.intro); have hnew : w9.heap[go]? = some (.cells #[.slice (some ⟨g2, 0, none⟩) 1 cap, .int .i16 tub, .int .i8 every, .int .i16 0] 32 (0, 0)) := (by rw [hw]; exact put4_blk BO.out); clear hw; replace HB := Aside0.mk (below_grown HB.out hg (fun k_ e_ => by injection e_ with e_; subst e_; exact GBO.out)); replace BK := Aside0.mk (blk_grown BK.out hg (fun e_ => by injection e_ with e_; exact NBK_BO.out e_)); replace RS := Aside0.mk (RS.out.move (hg.block _ RS.out.lt (fun e_ => blk_ne RS.out.blk.choose_spec.1 BO.out (by decide) (by injection e_)))); replace BO := Aside0.mk (hnew); clear hg hnew; clear qBK0 qBO0 qBO1 qBO2 qBO3 fBO0 fBO1 fBO2 fBO3; have qBK0 : w9.cell? ⟨kb, 0, none⟩ = some (.int .i64 0) := (blk_cell BK.out 0).trans rfl; have qBO0 : w9.cell? ⟨go, 0, none⟩ = some (.slice (some ⟨g2, 0, none⟩) 1 cap) := (blk_cell BO.out 0).trans rfl; have qBO1 : w9.cell? ⟨go, 1, none⟩ = some (.int .i16 tub) := (blk_cell BO.out 1).trans rfl; have qBO2 : w9.cell? ⟨go, 2, none⟩ = some (.int .i8 every) := (blk_cell BO.out 2).trans rfl; have qBO3 : w9.cell? ⟨go, 3, none⟩ = some (.int .i16 0) := (blk_cell BO.out 3).trans rfl; clear ST8 s_; have ST9 := Aside0.mk True.intro)
     | (have s_ := ST9; go_at_call 73; have H0 := Aside0.mk (show InH w go g2 cap [freshS (q : Int)] tub every 0 w9 from InH.made BO.out RS.out HB.out); refine (containsSS_run 78 #[.pointer (some ⟨go, 0, none⟩), .pointer (some ⟨kb, 0, none⟩)] (fun _ _ => rfl) (fun k => (dayOf (stT tub every xs [freshS (q : Int)] 0 k) tub every (k : Int) [xs.getD k 0]).2.any isShort) (fun k W => k ≤ xs.length ∧ InH w9 go g2 cap (stT tub every xs [freshS (q : Int)] 0 k) tub every (k : Int) W) A1 c1 days w9 (fun k W h => Kd.C_below HR.out (h.2.below HB.out GBO.out G2.out)) ⟨Nat.zero_le _, (by have h_ := InH.start H0.out.hs H0.out.row; rw [stT_zero]; exact h_)⟩ (HST2.out q HQ5.out w9 go g2 cap kb HB.out GBO.out G2.out BK.out NBK_BO.out H0.out.row)).mono ?_; rintro e w10 ⟨rfl, k_, _, hi⟩; have a_ := Aside0.mk (hi.below HB.out GBO.out G2.out); have b_ := Aside0.mk ((hi.block kb (blk_lt BK.out) NBK_BO.out (blk_ne BK.out H0.out.row.blk.choose_spec.1 (by decide))).trans BK.out); clear HB BK BO RS H0 hi qBK0 qBO0 qBO1 qBO2 qBO3; have HB := a_; have BK := b_; clear a_ b_; rw [HANY.out]; clear ST9 s_; have ST10 := Aside0.mk True.intro))
    go_ret2
    exact ⟨rfl, HB.out⟩
  · have HNE := Aside0.mk he
    rw [HMIN.out q (by omega)] at HSQ
    have HANY := HSQ
    clear HSQ he
    have ST5 := Aside0.mk True.intro
    go_wp2_with (first
     | (have s_ := ST5; go_at_call 77; (with_reducible refine (HF.out q HQ5.out _).mono ?_); rintro e w6 ⟨rfl, hb⟩; replace HB := Aside0.mk (below_step HB.out hb); replace BK := Aside0.mk (blk_below BK.out hb); clear hb; have qBK0 : w6.cell? ⟨kb, 0, none⟩ = some (.int .i64 0) := (blk_cell BK.out 0).trans rfl; clear ST5 s_; have ST6 := Aside0.mk True.intro)
     | (have s_ := ST6; (with_reducible refine gate_dst (N := 38) rfl ?_); refine Kd.R_lit k55 _ 55 ?hg (N := 38) ?hd (xs := ([freshS (q : Int)] : List S55)) (inner := stC (freshS (q : Int))) (ok := fun _ => True) (okp := fun _ => True) ?hr ?hp (fun _ hk => hk) trivial (Below.refl _ _) (Nat.le_refl _) (by simp) ?_; (case hd => rfl); (case hg => rfl); (case hr => exact build_stock (by rfl) (freshS (q : Int)) (by rfl)); (case hp => exact one_stock _ _ _ _); intro v_ w7 ho_ hb hg_ hnew_; clear hg_ hnew_; have RW := Aside0.mk (Kd.R_lower ho_ HB.out.size); replace HB := Aside0.mk (below_step HB.out hb); replace BK := Aside0.mk (blk_below BK.out hb); clear hb ho_; obtain ⟨g2, cap, e8, hg2, _, hrow⟩ := row_of_R RW.out (by simp); subst e8; have RS := Aside0.mk hrow; have G2 := Aside0.mk hg2; clear hrow hg2 RW; clear qBK0; have qBK0 : w7.cell? ⟨kb, 0, none⟩ = some (.int .i64 0) := (blk_cell BK.out 0).trans rfl; clear ST6 s_; have ST7 := Aside0.mk True.intro)
     | (have s_ := ST7; (with_reducible refine gate_dst (N := 11) rfl ?_); refine box_event ?hg (N := 11) ?hd (cs := #[.slice none 0 0, .int .i16 0, .int .i8 0, .int .i16 0]) (t := 32) ?hr ?_; (case hd => rfl); (case hg => rfl); (case hr => first | (go_simp; done) | (go_simp; rfl)); intro go hg_ w8 hbox hb; have GBO := Aside0.mk (by rw [hg_]; exact HB.out.size : w.heap.size ≤ go); have NBK_BO := Aside0.mk (by rw [hg_]; exact Nat.ne_of_lt (blk_lt BK.out) : kb ≠ go); replace HB := Aside0.mk (below_step HB.out hb); replace BK := Aside0.mk (blk_below BK.out hb); replace RS := Aside0.mk (RS.out.move (hb.block _ RS.out.lt)); have BO := Aside0.mk hbox; clear hb hbox hg_; clear qBK0; have qBK0 : w8.cell? ⟨kb, 0, none⟩ = some (.int .i64 0) := (blk_cell BK.out 0).trans rfl; have qBO0 : w8.cell? ⟨go, 0, none⟩ = some (.slice none 0 0) := (blk_cell BO.out 0).trans rfl; have qBO1 : w8.cell? ⟨go, 1, none⟩ = some (.int .i16 0) := (blk_cell BO.out 1).trans rfl; have qBO2 : w8.cell? ⟨go, 2, none⟩ = some (.int .i8 0) := (blk_cell BO.out 2).trans rfl; have qBO3 : w8.cell? ⟨go, 3, none⟩ = some (.int .i16 0) := (blk_cell BO.out 3).trans rfl; have fBO0 : w8.frozen? ⟨go, 0, none⟩ = false := blk_frozen BO.out 0; have fBO1 : w8.frozen? ⟨go, 1, none⟩ = false := blk_frozen BO.out 1; have fBO2 : w8.frozen? ⟨go, 2, none⟩ = false := blk_frozen BO.out 2; have fBO3 : w8.frozen? ⟨go, 3, none⟩ = false := blk_frozen BO.out 3; clear ST7 s_; have ST8 := Aside0.mk True.intro)
     | (have s_ := ST8; (with_reducible refine gate_store (t := 32) (p := 11) rfl ?_); refine store_event (t := 32) (p := 11) (v := ?vo_w9) (w1 := ((((w8.setCell ⟨go, 0, none⟩ (.slice (some ⟨g2, 0, none⟩) 1 cap)).setCell ⟨go, 1, none⟩ (.int .i16 tub)).setCell ⟨go, 2, none⟩ (.int .i8 every)).setCell ⟨go, 3, none⟩ (.int .i16 0))) ?hg ?ho ?hn ?hr ?_; (case ho => rfl); (case hg => rfl); (case hn => rfl); (case hr => first | (go_simp; done) | (go_simp; rfl)); intro w9 hw; have hg : w8.grownBy w9 (some go) := (by rw [hw]; exact put4_grown True.intro True.intro); have hnew : w9.heap[go]? = some (.cells #[.slice (some ⟨g2, 0, none⟩) 1 cap, .int .i16 tub, .int .i8 every, .int .i16 0] 32 (0, 0)) := (by rw [hw]; exact put4_blk BO.out); clear hw; replace HB := Aside0.mk (below_grown HB.out hg (fun k_ e_ => by injection e_ with e_; subst e_; exact GBO.out)); replace BK := Aside0.mk (blk_grown BK.out hg (fun e_ => by injection e_ with e_; exact NBK_BO.out e_)); replace RS := Aside0.mk (RS.out.move (hg.block _ RS.out.lt (fun e_ => blk_ne RS.out.blk.choose_spec.1 BO.out (by decide) (by injection e_)))); replace BO := Aside0.mk (hnew); clear hg hnew; clear qBK0 qBO0 qBO1 qBO2 qBO3 fBO0 fBO1 fBO2 fBO3; have qBK0 : w9.cell? ⟨kb, 0, none⟩ = some (.int .i64 0) := (blk_cell BK.out 0).trans rfl; have qBO0 : w9.cell? ⟨go, 0, none⟩ = some (.slice (some ⟨g2, 0, none⟩) 1 cap) := (blk_cell BO.out 0).trans rfl; have qBO1 : w9.cell? ⟨go, 1, none⟩ = some (.int .i16 tub) := (blk_cell BO.out 1).trans rfl; have qBO2 : w9.cell? ⟨go, 2, none⟩ = some (.int .i8 every) := (blk_cell BO.out 2).trans rfl; have qBO3 : w9.cell? ⟨go, 3, none⟩ = some (.int .i16 0) := (blk_cell BO.out 3).trans rfl; clear ST8 s_; have ST9 := Aside0.mk True.intro)
     | (have s_ := ST9; go_at_call 73; have H0 := Aside0.mk (show InH w go g2 cap [freshS (q : Int)] tub every 0 w9 from InH.made BO.out RS.out HB.out); refine (containsSS_run 78 #[.pointer (some ⟨go, 0, none⟩), .pointer (some ⟨kb, 0, none⟩)] (fun _ _ => rfl) (fun k => (dayOf (stT tub every xs [freshS (q : Int)] 0 k) tub every (k : Int) [xs.getD k 0]).2.any isShort) (fun k W => k ≤ xs.length ∧ InH w9 go g2 cap (stT tub every xs [freshS (q : Int)] 0 k) tub every (k : Int) W) A1 c1 days w9 (fun k W h => Kd.C_below HR.out (h.2.below HB.out GBO.out G2.out)) ⟨Nat.zero_le _, (by have h_ := InH.start H0.out.hs H0.out.row; rw [stT_zero]; exact h_)⟩ (HST2.out q HQ5.out w9 go g2 cap kb HB.out GBO.out G2.out BK.out NBK_BO.out H0.out.row)).mono ?_; rintro e w10 ⟨rfl, k_, _, hi⟩; have a_ := Aside0.mk (hi.below HB.out GBO.out G2.out); have b_ := Aside0.mk ((hi.block kb (blk_lt BK.out) NBK_BO.out (blk_ne BK.out H0.out.row.blk.choose_spec.1 (by decide))).trans BK.out); clear HB BK BO RS H0 hi qBK0 qBO0 qBO1 qBO2 qBO3; have HB := a_; have BK := b_; clear a_ b_; rw [HANY.out]; clear ST9 s_; have ST10 := Aside0.mk True.intro))
    have hq_ := HQ.out
    have hp_ := HP.out
    have hne_ := HNE.out
    go_roundg (501 - (q + 1))
    case measure => omega
    case rel => exact ⟨q + 1, by omega, by omega, by have hw_ : wrap64 ((q : Int) + 1) = ((q + 1 : Nat) : Int) := (w64i (by omega) (by omega)).trans (by omega); first | rfl | rw [hw_] | (simp only [i64_w, hw_]) | go_num, HB, BK⟩
end Go.Proofs.Ytggjdcijplgpdaa.H
