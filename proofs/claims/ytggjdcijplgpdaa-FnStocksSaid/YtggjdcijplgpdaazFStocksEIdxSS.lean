import Derived.Test.YtggjdcijplgpdaazFStocksEDAll
import Derived.Test.YtggjdcijplgpdaazFStocksEInH
import Derived.Test.YtggjdcijplgpdaazFStocksEVHF
import Derived.Test.YtggjdcijplgpdaazFStocksH1
import Derived.Test.YtggjdcijplgpdaazFStocksH12
import Derived.Test.YtggjdcijplgpdaazFStocksEVHouse
import Derived.Test.YtggjdcijplgpdaazFStocksECloneSt
import Derived.Shelf.Abstract
section
namespace Go.Proofs.Ytggjdcijplgpdaa.H
open Go.RowKit Go.Proofs.YtggjdcijplgpdaaW.PrintWords Go.Proofs.YtggjdcijplgpdaaW.PrintLast Go.Proofs.YtggjdcijplgpdaaW.PrintMore
attribute [local go_sem] max2_int min2_int max_two min_two max_three min_three max_four min_four
set_option linter.unusedVariables false
set_option linter.unusedSimpArgs false
def isShort (n : Int) : Bool := decide (0 < n)
theorem short_pred (l : List Int) (w : World) : PredOn .i64 86 #[] isShort l w := by
 intro w' y hy hb
 go_enter Try.func86, Try.ntmps86
 go_wp2
 go_ret
 exact ⟨rfl, hb⟩
set_option maxHeartbeats 8000000 in
set_option maxRecDepth 100000 in
theorem firstShort_calls (w : World) (A0 A1 : Option Addr) (c0 c1 : Nat) (l : List S55) (a1 a2 a3 : Int) (days : List (List Int)) (hr0 : Kd.C k55 w A0 l.length l) (hc0 : l.length ≤ c0) (ht : TypedH l a1 a2 a3) (hr1 : Kd.C (Kd.slice 2 (Kd.int .i64)) w A1 days.length days) (hc1 : days.length ≤ c1)
 (lr : List S55) (p1 p2 p3 : Int) (LL : List (List Int)) (hrr : dayAllOf l a1 a2 a3 days = ⟨lr, p1, p2, p3, LL, 0⟩) (hL : LL.length ≤ 60) :
 Calls Try.prog 26 #[.agg #[.slice A0 l.length c0, .int .i16 a1, .int .i8 a2, .int .i16 a3], .slice A1 days.length c1] w fun e w' => ∃ x y : Int, e = .returned (.tuple #[.int .i64 x, .int .i64 y, .int .i64 (if (LL.any fun r => r.any isShort) = true then 0 else 6)]) ∧ Below w.heap.size w w' := by
 have hu32 := Try.underlying32
 have HD := Aside0.mk (fun (w' : World) (hb : Below w.heap.size w w') => show Calls Try.prog 12 #[.agg #[.slice A0 l.length c0, .int .i16 a1, .int .i8 a2, .int .i16 a3], .slice A1 days.length c1] w' (fun e w'' => ∃ v0 v1 : Value, e = .returned (.tuple #[.agg #[v0, .int .i16 p1, .int .i8 p2, .int .i16 p3], v1, .int .i64 0]) ∧ Kd.R k55 55 w'' w'.heap.size (fun _ => True) v0 lr ∧ Kd.S (Kd.slice 2 (Kd.int .i64)) 49 w'' w'.heap.size (fun _ => True) v1 LL ∧ Below w'.heap.size w' w'') by
  have h := dayAll_walk w' A0 A1 c0 c1 l a1 a2 a3 days (Kd.C_below hr0 hb) hc0 ht (Kd.C_below hr1 hb) hc1
  rw [hrr] at h
  exact h)
 have HL := Aside0.mk hL
 obtain ⟨cc, hcc⟩ : ∃ q : Int, (if (LL.any fun r => r.any isShort) = true then 0 else 6) = q := ⟨_, rfl⟩
 rw [hcc]
 have HCC := Aside0.mk hcc
 clear hr0 hc0 ht hr1 hc1 hrr hL hcc
 go_enter Try.func26, Try.ntmps26
 have ST0 := Aside0.mk True.intro
 go_wp2_with (first
  | (have s_ := ST0; (with_reducible refine gate_dst (N := 2) rfl ?_); refine box_event ?hg (N := 2) ?hd (cs := #[.slice A0 l.length c0, .int .i16 a1, .int .i8 a2, .int .i16 a3]) (t := 32) ?hr ?_; (case hd => rfl); (case hg => rfl); (case hr => first | (go_simp; done) | (go_simp; rfl)); intro gh hg_ w1 hbox hb; have GBH := Aside0.mk (by rw [hg_]; exact Nat.le_refl _ : w.heap.size ≤ gh); have HB := Aside0.mk hb; have BH := Aside0.mk hbox; clear hb hbox hg_; have qBH0 : w1.cell? ⟨gh, 0, none⟩ = some (.slice A0 l.length c0) := (blk_cell BH.out 0).trans rfl; have qBH1 : w1.cell? ⟨gh, 1, none⟩ = some (.int .i16 a1) := (blk_cell BH.out 1).trans rfl; have qBH2 : w1.cell? ⟨gh, 2, none⟩ = some (.int .i8 a2) := (blk_cell BH.out 2).trans rfl; have qBH3 : w1.cell? ⟨gh, 3, none⟩ = some (.int .i16 a3) := (blk_cell BH.out 3).trans rfl; clear ST0 s_; have ST1 := Aside0.mk True.intro)
  | (have s_ := ST1; go_at_call 12; (with_reducible refine (HD.out _ HB.out).mono ?_); rintro e w2 ⟨v0, v1, rfl, hR, hS, hb⟩; obtain ⟨A7, c7, rfl⟩ := Kd.R_slice hR; obtain ⟨A8, c8, rfl⟩ := Kd.S_slice hS; replace HB := Aside0.mk (below_step HB.out hb); replace BH := Aside0.mk (blk_below BH.out hb); have R8 := Aside0.mk (fun (w' : World) (hb : Below w2.heap.size w2 w') => Kd.C_below (Kd.S_reads' hS).2.2 hb); clear hR hS hb; clear qBH0 qBH1 qBH2 qBH3; have qBH0 : w2.cell? ⟨gh, 0, none⟩ = some (.slice A0 l.length c0) := (blk_cell BH.out 0).trans rfl; have qBH1 : w2.cell? ⟨gh, 1, none⟩ = some (.int .i16 a1) := (blk_cell BH.out 1).trans rfl; have qBH2 : w2.cell? ⟨gh, 2, none⟩ = some (.int .i8 a2) := (blk_cell BH.out 2).trans rfl; have qBH3 : w2.cell? ⟨gh, 3, none⟩ = some (.int .i16 a3) := (blk_cell BH.out 3).trans rfl; have B2 := Aside0.mk (Below.refl w2.heap.size w2); clear ST1 s_; have ST2 := Aside0.mk True.intro)
  | (have s_ := ST2; (with_reducible refine gate_dst (N := 7) rfl ?_); refine box_event ?hg (N := 7) ?hd (cs := #[.slice none 0 0, .int .i16 0, .int .i8 0, .int .i16 0]) (t := 32) ?hr ?_; (case hd => rfl); (case hg => rfl); (case hr => first | (go_simp; done) | (go_simp; rfl)); intro go hg_ w3 hbox hb; have G2BO := Aside0.mk (by rw [hg_]; exact B2.out.size : w2.heap.size ≤ go); have GBO := Aside0.mk (by rw [hg_]; exact HB.out.size : w.heap.size ≤ go); have NBH_BO := Aside0.mk (by rw [hg_]; exact Nat.ne_of_lt (blk_lt BH.out) : gh ≠ go); replace HB := Aside0.mk (below_step HB.out hb); replace BH := Aside0.mk (blk_below BH.out hb); replace B2 := Aside0.mk (below_step B2.out hb); have BO := Aside0.mk hbox; clear hb hbox hg_; clear qBH0 qBH1 qBH2 qBH3; have qBH0 : w3.cell? ⟨gh, 0, none⟩ = some (.slice A0 l.length c0) := (blk_cell BH.out 0).trans rfl; have qBH1 : w3.cell? ⟨gh, 1, none⟩ = some (.int .i16 a1) := (blk_cell BH.out 1).trans rfl; have qBH2 : w3.cell? ⟨gh, 2, none⟩ = some (.int .i8 a2) := (blk_cell BH.out 2).trans rfl; have qBH3 : w3.cell? ⟨gh, 3, none⟩ = some (.int .i16 a3) := (blk_cell BH.out 3).trans rfl; have qBO0 : w3.cell? ⟨go, 0, none⟩ = some (.slice none 0 0) := (blk_cell BO.out 0).trans rfl; have qBO1 : w3.cell? ⟨go, 1, none⟩ = some (.int .i16 0) := (blk_cell BO.out 1).trans rfl; have qBO2 : w3.cell? ⟨go, 2, none⟩ = some (.int .i8 0) := (blk_cell BO.out 2).trans rfl; have qBO3 : w3.cell? ⟨go, 3, none⟩ = some (.int .i16 0) := (blk_cell BO.out 3).trans rfl; have fBO0 : w3.frozen? ⟨go, 0, none⟩ = false := blk_frozen BO.out 0; have fBO1 : w3.frozen? ⟨go, 1, none⟩ = false := blk_frozen BO.out 1; have fBO2 : w3.frozen? ⟨go, 2, none⟩ = false := blk_frozen BO.out 2; have fBO3 : w3.frozen? ⟨go, 3, none⟩ = false := blk_frozen BO.out 3; clear ST2 s_; have ST3 := Aside0.mk True.intro)
  | (have s_ := ST3; (with_reducible refine gate_store (t := 32) (p := 7) rfl ?_); refine store_event (t := 32) (p := 7) (v := ?vo_w4) (w1 := ((((w3.setCell ⟨go, 0, none⟩ (.slice A7 lr.length c7)).setCell ⟨go, 1, none⟩ (.int .i16 p1)).setCell ⟨go, 2, none⟩ (.int .i8 p2)).setCell ⟨go, 3, none⟩ (.int .i16 p3))) ?hg ?ho ?hn ?hr ?_; (case ho => rfl); (case hg => rfl); (case hn => rfl); (case hr => first | (go_simp; done) | (go_simp; rfl)); intro w4 hw; have hg : w3.grownBy w4 (some go) := (by rw [hw]; exact put4_grown True.intro True.intro); have hnew : w4.heap[go]? = some (.cells #[.slice A7 lr.length c7, .int .i16 p1, .int .i8 p2, .int .i16 p3] 32 (0, 0)) := (by rw [hw]; exact put4_blk BO.out); clear hw; replace HB := Aside0.mk (below_grown HB.out hg (fun k_ e_ => by injection e_ with e_; subst e_; exact GBO.out)); replace BH := Aside0.mk (blk_grown BH.out hg (fun e_ => by injection e_ with e_; exact NBH_BO.out e_)); replace B2 := Aside0.mk (below_grown B2.out hg (fun k_ e_ => by injection e_ with e_; subst e_; exact G2BO.out)); replace BO := Aside0.mk (hnew); clear hg hnew; clear qBH0 qBH1 qBH2 qBH3 qBO0 qBO1 qBO2 qBO3 fBO0 fBO1 fBO2 fBO3; have qBH0 : w4.cell? ⟨gh, 0, none⟩ = some (.slice A0 l.length c0) := (blk_cell BH.out 0).trans rfl; have qBH1 : w4.cell? ⟨gh, 1, none⟩ = some (.int .i16 a1) := (blk_cell BH.out 1).trans rfl; have qBH2 : w4.cell? ⟨gh, 2, none⟩ = some (.int .i8 a2) := (blk_cell BH.out 2).trans rfl; have qBH3 : w4.cell? ⟨gh, 3, none⟩ = some (.int .i16 a3) := (blk_cell BH.out 3).trans rfl; have qBO0 : w4.cell? ⟨go, 0, none⟩ = some (.slice A7 lr.length c7) := (blk_cell BO.out 0).trans rfl; have qBO1 : w4.cell? ⟨go, 1, none⟩ = some (.int .i16 p1) := (blk_cell BO.out 1).trans rfl; have qBO2 : w4.cell? ⟨go, 2, none⟩ = some (.int .i8 p2) := (blk_cell BO.out 2).trans rfl; have qBO3 : w4.cell? ⟨go, 3, none⟩ = some (.int .i16 p3) := (blk_cell BO.out 3).trans rfl; clear ST3 s_; have ST4 := Aside0.mk True.intro))
 clear qBH0 qBH1 qBH2 qBH3 qBO0 qBO1 qBO2 qBO3
 have R9 := Aside0.mk (fun (w' : World) (hb : Below w4.heap.size w4 w') => R8.out w' (B2.out.trans (Below.mono hb B2.out.size)))
 have HB4 := HB
 clear BH BO HB B2 R8
 go_loopg [25] LL.length (fun gk v25 wr => ∃ (k : Nat), k ≤ LL.length ∧ LL.length - k ≤ gk ∧ v25 = .int .i64 k ∧ Aside0 (((LL.take k).any fun r => r.any isShort) = false) ∧ Aside0 (Below w4.heap.size w4 wr))
 case atStart => exact ⟨0, by omega, by omega, rfl, ⟨rfl⟩, ⟨Below.refl _ _⟩⟩
 case round =>
  obtain ⟨k, hk, hgk, rfl, HN, HB⟩ := hrel
  by_cases hlt : k < LL.length
  · have hltz : (k : Int) < (LL.length : Int) := by omega
    have hkz : 0 ≤ (k : Int) := by omega
    obtain ⟨adN, Ak, ck, eN, hx, hcl, hci⟩ := at_L5 (R9.out _ HB.out) (k : Int) hkz hltz
    subst eN
    obtain ⟨dk, hdk⟩ : ∃ d, rd_L5 LL (k : Int) = d := ⟨_, rfl⟩
    rw [hdk] at hx hcl hci
    have hx0 : wr.cell? (adN.add k) = some (.slice Ak dk.length ck) := hx
    have hel : LL[k] = dk := by
     rw [← hdk]
     show _ = LL.getD k []
     rw [List.getD_eq_getElem?_getD, List.getElem?_eq_getElem hlt]
     rfl
    have htk : ((LL.take (k + 1)).any fun r => r.any isShort) = dk.any isShort := by
     rw [List.take_succ_eq_append_getElem hlt, List.any_append, HN.out, hel]
     simp
    have HTK := Aside0.mk htk
    have HLT := Aside0.mk hlt
    have HI := Aside0.mk (indexFunc_int64 86 #[] (fun _ _ => rfl) isShort Ak ck dk wr hci (short_pred dk wr))
    have hpa := idxP_any isShort dk
    obtain ⟨iv, hiv⟩ : ∃ x, idxP isShort dk = x := ⟨_, rfl⟩
    rw [hiv] at HI hpa
    obtain ⟨b, hb⟩ : ∃ b, dk.any isShort = b := ⟨_, rfl⟩
    rw [hb] at HTK hpa
    clear hx hcl hci hdk hel htk HN hiv hb hlt
    have hpa2 : decide (iv ≥ 0) = b := hpa
    cases b with
    | false =>
     go_wp2_with (go_at_call 85; (with_reducible refine HI.out.mono ?_); rintro e w5 ⟨rfl, hb⟩; have n_ := Aside0.mk (below_step HB.out hb); clear HB hb hx0; have HB := n_; clear n_)
     have hlt_ := HLT.out
     have hL_ := HL.out
     go_roundg (LL.length - (k + 1))
     case measure => omega
     case rel => exact ⟨k + 1, by omega, by omega, by have hw_ : wrap64 ((k : Int) + 1) = ((k + 1 : Nat) : Int) := (w64i (by omega) (by omega)).trans (by omega); first | rfl | rw [hw_] | (simp only [i64_w, hw_]) | go_num, HTK, HB⟩
    | true =>
     go_wp2_with (go_at_call 85; (with_reducible refine HI.out.mono ?_); rintro e w5 ⟨rfl, hb⟩; have n_ := Aside0.mk (below_step HB.out hb); clear HB hb hx0; have HB := n_; clear n_)
     go_ret3
     have hany : (LL.any fun r => r.any isShort) = true := by
      rw [← List.take_append_drop (k + 1) LL, List.any_append, HTK.out]
      rfl
     have hc := HCC.out
     rw [hany, if_pos rfl] at hc
     exact ⟨_, _, by rw [← hc]; rfl, HB4.out.trans (Below.mono HB.out HB4.out.size)⟩
  · have hltz : ¬ (k : Int) < (LL.length : Int) := by omega
    obtain rfl : k = LL.length := by omega
    have hany : (LL.any fun r => r.any isShort) = false := by have := HN.out; rwa [List.take_length] at this
    go_wp2
    go_ret3
    have hc := HCC.out
    rw [hany, if_neg (by decide)] at hc
    have HF := HB4.out.trans (Below.mono HB.out HB4.out.size)
    first | exact ⟨_, _, by rw [← hc]; rfl, HF⟩ | exact ⟨by rw [← hc]; rfl, HF⟩ | exact ⟨hc, HF⟩ | exact ⟨hc.symm, HF⟩ | (rw [← hc]; simp; exact HF)
end Go.Proofs.Ytggjdcijplgpdaa.H
end
section
namespace Go.Proofs.Ytggjdcijplgpdaa.H
open Go.RowKit Go.Proofs.YtggjdcijplgpdaaW.PrintWords Go.Proofs.YtggjdcijplgpdaaW.PrintLast Go.Proofs.YtggjdcijplgpdaaW.PrintMore
attribute [local go_sem] max2_int min2_int max_two min_two max_three min_three max_four min_four
set_option linter.unusedVariables false
set_option linter.unusedSimpArgs false
def StepOn (g : Nat) (lb : Array Value) (b : Nat → Bool) (A0 : Option Addr) (days : List (List Int)) (Inv : Nat → World → Prop) : Prop :=
 ∀ (k : Nat) (W : World) (A : Option Addr) (c : Nat), k < days.length → Inv k W → Kd.C (Kd.int .i64) W A (rd_L5 days (k : Int)).length (rd_L5 days (k : Int)) → (rd_L5 days (k : Int)).length ≤ c →
  (∀ w0 : World, Kd.C (Kd.slice 2 (Kd.int .i64)) w0 A0 days.length days → Below w0.heap.size w0 W → Kd.C (Kd.int .i64) w0 A (rd_L5 days (k : Int)).length (rd_L5 days (k : Int))) →
  Calls Try.prog g (#[.slice A (rd_L5 days (k : Int)).length c] ++ lb) W fun e w' => e = .returned (.bool (b k)) ∧ Inv (k + 1) w'
def anyB (b : Nat → Bool) (n : Nat) : Bool := (List.range n).any b
theorem anyB_hit {b : Nat → Bool} {n k : Nat} (hk : k < n) (hb : b k = true) : anyB b n = true := List.any_eq_true.mpr ⟨k, List.mem_range.mpr hk, hb⟩
theorem anyB_miss {b : Nat → Bool} {n : Nat} (h : ∀ k, k < n → b k = false) : anyB b n = false := List.any_eq_false.mpr fun k hk => by rw [h k (List.mem_range.mp hk)]; simp
set_option maxHeartbeats 8000000 in
set_option maxRecDepth 100000 in
theorem indexSS_run (g : Nat) (lb : Array Value) (eg : ∀ args w, (callFunc g args).run Try.prog w = .ok (.enter g args) w) (b : Nat → Bool) (Inv : Nat → World → Prop) (A0 : Option Addr) (c0 : Nat) (days : List (List Int)) (w : World)
 (hr : ∀ k W, Inv k W → Kd.C (Kd.slice 2 (Kd.int .i64)) W A0 days.length days) (h0 : Inv 0 w) (hs : StepOn g lb b A0 days Inv) :
 Calls Try.prog 127 #[.slice A0 days.length c0, .func (.func g) #[] lb] w fun e w' => ∃ r : Int, e = .returned (.int .i64 r) ∧ decide (0 ≤ r) = anyB b days.length ∧ ∃ k, Inv k w' := by
 have HM := Kd.C_max (hr 0 w h0)
 have HR := Aside0.mk hr
 have HS := Aside0.mk hs
 have H0 := Aside0.mk h0
 clear hr hs h0
 go_enter Try.func127, Try.ntmps127
 go_wp2
 go_loopg [5, 8] days.length (fun gg _ s8 wr => ∃ kk : Nat, kk ≤ days.length ∧ days.length - kk ≤ gg ∧ s8 = .int .i64 kk ∧ Aside0 (Inv kk wr) ∧ Aside0 (∀ j, j < kk → b j = false))
 case atStart => exact ⟨0, Nat.zero_le _, by omega, rfl, H0, ⟨fun j hj => absurd hj (Nat.not_lt_zero _)⟩⟩
 case round =>
  clear H0
  obtain ⟨kk, hkk, hg, rfl, HI, A⟩ := hrel
  by_cases hlt : kk < days.length
  · have hltz : (kk : Int) < (days.length : Int) := by omega
    obtain ⟨ad, Ak, ck, e, hx, hcl, hci⟩ := at_L5 (HR.out kk wr HI.out) (kk : Int) (by omega) hltz
    cases e
    have hold : ∀ w0 : World, Kd.C (Kd.slice 2 (Kd.int .i64)) w0 (some ad) days.length days → Below w0.heap.size w0 wr → Kd.C (Kd.int .i64) w0 Ak (rd_L5 days (kk : Int)).length (rd_L5 days (kk : Int)) := by
     intro w0 h0 hb
     obtain ⟨ad', A', c', e', hx', _, hci'⟩ := at_L5 h0 (kk : Int) (by omega) hltz
     obtain rfl := Option.some.inj e'
     have h1 := (hb.cell (World.block_lt_of_cell? _ _ hx')).trans hx'
     rw [hx] at h1
     have h2 := Option.some.inj h1
     injection h2 with h3
     rw [h3]
     exact hci'
    have hcall := HS.out kk wr Ak ck hlt HI.out hci hcl hold
    clear hold
    simp only [Int.toNat_natCast] at hx
    generalize hy : rd_L5 days ((kk : Nat) : Int) = y at hx hcall
    clear hy hci hcl HI
    cases hq : b kk with
    | true =>
     rw [hq] at hcall
     have HA := Aside0.mk (anyB_hit hlt hq)
     clear hq
     go_wp2_with ((with_reducible refine hcall.mono ?_); rintro e w' ⟨rfl, hi⟩)
     go_ret
     exact ⟨_, rfl, by rw [HA.out]; exact decide_eq_true (by omega), _, hi⟩
    | false =>
     rw [hq] at hcall
     have HQ := Aside0.mk hq
     clear hq
     go_wp2_with ((with_reducible refine hcall.mono ?_); rintro e w' ⟨rfl, hi⟩)
     go_roundg (days.length - (kk + 1))
     case measure => omega
     case rel =>
      refine ⟨kk + 1, by omega, by omega, by go_num, ⟨hi⟩, ⟨fun j hj => ?_⟩⟩
      by_cases e : j = kk
      · subst e
        exact HQ.out
      · exact A.out j (by omega)
  · have hltz : ¬ (kk : Int) < (days.length : Int) := by omega
    have : kk = days.length := by omega
    subst this
    go_wp2
    go_ret
    exact ⟨_, rfl, by rw [anyB_miss A.out]; rfl, _, HI.out⟩
set_option maxHeartbeats 8000000 in
set_option maxRecDepth 100000 in
theorem containsSS_run (g : Nat) (lb : Array Value) (eg : ∀ args w, (callFunc g args).run Try.prog w = .ok (.enter g args) w) (b : Nat → Bool) (Inv : Nat → World → Prop) (A0 : Option Addr) (c0 : Nat) (days : List (List Int)) (w : World)
 (hr : ∀ k W, Inv k W → Kd.C (Kd.slice 2 (Kd.int .i64)) W A0 days.length days) (h0 : Inv 0 w) (hs : StepOn g lb b A0 days Inv) :
 Calls Try.prog 73 #[.slice A0 days.length c0, .func (.func g) #[] lb] w fun e w' => e = .returned (.bool (anyB b days.length)) ∧ ∃ k, Inv k w' := by
 have HC := Aside0.mk (indexSS_run g lb eg b Inv A0 c0 days w hr h0 hs)
 clear hr h0 hs
 go_enter Try.func73, Try.ntmps73
 go_wp2_with (go_at_call 127; refine HC.out.mono ?_; rintro e w' ⟨r, rfl, hd, hi⟩; have HD := Aside0.mk hd; have HI := Aside0.mk hi; clear hd hi)
 go_ret
 exact ⟨by rw [← HD.out]; rfl, HI.out⟩
end Go.Proofs.Ytggjdcijplgpdaa.H
end
