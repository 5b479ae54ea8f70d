import Derived.Test.YtggjdcijplgpdaazFStocksEFresh
import Derived.Test.YtggjdcijplgpdaazFStocksEInH
import Derived.Test.YtggjdcijplgpdaazFStocksEVHF
import Derived.Test.YtggjdcijplgpdaazFStocksEDayOf
import Derived.Test.YtggjdcijplgpdaazFStocksECloneSt
import Derived.Test.YtggjdcijplgpdaazFStocksH14
import Derived.Shelf.Abstract
namespace Go.Proofs.Ytggjdcijplgpdaa.H
open Go.RowKit Go.Proofs.YtggjdcijplgpdaaW.PrintWords Go.Proofs.YtggjdcijplgpdaaW.PrintLast Go.Proofs.YtggjdcijplgpdaaW.PrintMore
attribute [local go_sem] max2_int min2_int max_two min_two max_three min_three max_four min_four
set_option linter.unusedVariables false
set_option linter.unusedSimpArgs false
set_option maxHeartbeats 8000000 in
set_option maxRecDepth 100000 in
theorem shelf_calls (w0 w : World) (g i : Nat) (l : List Int) (x : Int) (hB : Bytes l) (hi : i ≤ 10000) (hI : IsS153 w0 w g l (i : Int) x) (hb : Below w0.heap.size w0 w) :
 Calls Try.prog 130 #[.pointer (some ⟨g, 0, none⟩)] w fun e w' => ∃ (s : S55) (i' : Nat) (x' : Int), e = .returned (.agg (stC s).toArray) ∧ SmallSt 66 s ∧ i' ≤ i + 40 ∧ IsS153 w0 w' g l (i' : Int) x' ∧ Below w0.heap.size w0 w' ∧ KeepBut w w' g none := by
 have hu53 := Try.underlying53
 have hu55 := Try.underlying55
 have mixed : Try.prog.follows .mixedOrders = true := by kernel_rfl
 obtain ⟨k0, y0, h0, k00, k01⟩ := pickB hB i (by omega) x 8 (by decide) (by decide)
 obtain ⟨k, rfl⟩ : ∃ k : Nat, k0 = (k : Int) := ⟨k0.toNat, by omega⟩
 have HB := Aside0.mk hb
 have HI := Aside0.mk hI
 have HK := Aside0.mk (KeepBut.refl w g none)
 have H0 := Aside0.mk h0
 have HBY := Aside0.mk hB
 have HK8 := Aside0.mk k01
 have Hi := Aside0.mk hi
 clear hb hI h0 hB k00 k01 hi
 go_enter Try.func130, Try.ntmps130
 have ST0 := Aside0.mk True.intro
 go_wp2_with (first
  | (have s_ := ST0; (with_reducible refine gate_dst (N := 2) rfl ?_); refine box_event ?hg (N := 2) ?hd (cs := (stC z55).toArray) (t := 55) ?hr ?_; (case hd => rfl); (case hg => rfl); (case hr => first | (go_simp; done) | (go_simp; rfl)); intro g2 hg_ w1 hbox hb; have GWK2 := Aside0.mk (by rw [hg_]; exact HK.out.1 : w.heap.size ≤ g2); have GK2 := Aside0.mk (by rw [hg_]; exact HB.out.size : w0.heap.size ≤ g2); replace HB := Aside0.mk (below_step HB.out hb); replace HI := Aside0.mk (IsS153.below HI.out hb); replace HK := Aside0.mk (keep_below HK.out hb); have K2 := Aside0.mk hbox; clear hb hbox hg_; clear ST0 s_; have ST1 := Aside0.mk True.intro)
  | (have s_ := ST1; (with_reducible refine gate_dst (N := 3) rfl ?_); refine box_event ?hg (N := 3) ?hd (cs := (stC z55).toArray) (t := 55) ?hr ?_; (case hd => rfl); (case hg => rfl); (case hr => first | (go_simp; done) | (go_simp; rfl)); intro g3 hg_ w2 hbox hb; have GWK3 := Aside0.mk (by rw [hg_]; exact HK.out.1 : w.heap.size ≤ g3); have GK3 := Aside0.mk (by rw [hg_]; exact HB.out.size : w0.heap.size ≤ g3); have NK2_K3 := Aside0.mk (by rw [hg_]; exact Nat.ne_of_lt (blk_lt K2.out) : g2 ≠ g3); replace HB := Aside0.mk (below_step HB.out hb); replace HI := Aside0.mk (IsS153.below HI.out hb); replace HK := Aside0.mk (keep_below HK.out hb); replace K2 := Aside0.mk (blk_below K2.out hb); have K3 := Aside0.mk hbox; clear hb hbox hg_; clear ST1 s_; have ST2 := Aside0.mk True.intro)
  | (have s_ := ST2; (with_reducible refine gate_store (t := 55) (p := 3) (v := .tmp 7) rfl ?_); refine mem_store (seg := stC z55) (g := g3) (off := 0) rfl rfl rfl rfl rfl K3.out (by kernel_rfl) (by show 0 + 25 ≤ 25; decide) (stC_one _) ?_; intro w3 cur_ hk hl hg; obtain rfl : cur_ = (stC z55).toArray := Array.ext' (hl.trans rfl); replace HB := Aside0.mk (below_grown HB.out hg (fun k_ e_ => by injection e_ with e_; subst e_; exact GK3.out)); replace HI := Aside0.mk (IsS153.grown HI.out hg (fun e_ => by injection e_ with e_; exact IsS153.ne_blk HI.out K3.out (by decide) e_)); replace HK := Aside0.mk (keep_grown HK.out hg GWK3.out); replace K2 := Aside0.mk (blk_grown K2.out hg (fun e_ => by injection e_ with e_; exact NK2_K3.out e_)); replace K3 := Aside0.mk (hk); clear hk hl hg; clear ST2 s_; have ST3 := Aside0.mk True.intro)
  | (have s_ := ST3; go_at_call 71; (with_reducible refine (spec_l00Src_pick.calls g l (i : Int) x 8 (k : Int) ((i + 1 : Nat) : Int) y0 w0 _ HI.out HB.out H0.out).mono ?_); rintro e w4 ⟨rfl, hi, hb, hk⟩; replace HB := Aside0.mk (hb); replace HK := Aside0.mk (keep_then HK.out hk); replace K2 := Aside0.mk (blk_keep K2.out hk (fun e_ => IsS153.ne_blk HI.out K2.out (by decide) e_.symm)); replace K3 := Aside0.mk (blk_keep K3.out hk (fun e_ => IsS153.ne_blk HI.out K3.out (by decide) e_.symm)); replace HI := Aside0.mk (hi); clear hi hb hk; clear ST3 s_; have ST4 := Aside0.mk True.intro))
 clear H0
 go_loopg [4] k (fun gk v4 wr => ∃ (d i1 : Nat) (x1 : Int) (s : S55), d ≤ gk ∧ d ≤ 7 ∧ v4 = .int .i64 d ∧ Aside0 (SmallSt (9 * (7 - (d : Int))) s) ∧ Aside0 (i1 + 3 * d ≤ i + 22) ∧ Aside0 (IsS153 w0 wr g l (i1 : Int) x1) ∧ Aside0 (wr.heap[g3]? = some (.cells (stC s).toArray 55 (0, 0))) ∧ Aside0 (wr.heap[g2]? = some (.cells (stC z55).toArray 55 (0, 0))) ∧ Aside0 (Below w0.heap.size w0 wr) ∧ Aside0 (KeepBut w wr g none))
 case atStart =>
  have h8 := HK8.out
  refine ⟨k, i + 1, y0, z55, by omega, by omega, rfl, ⟨⟨fun x hx => ?_, ?_⟩⟩, ⟨by omega⟩, HI, K3, K2, HB, HK⟩
  · have : x = 0 := by
     have h : ∀ y ∈ z55.l, y = 0 := by decide
     exact h x hx
    omega
  · have : sumL z55.l = 0 := by decide
    omega
 case round =>
  clear HB HI HK K2 K3
  obtain ⟨d, i1, x1, s, hgk, hd7, rfl, HS, HII, HI, K3, K2, HB, HK⟩ := hrel
  by_cases hd0 : 0 < d
  · obtain ⟨d, rfl⟩ : ∃ q, d = q + 1 := ⟨d - 1, by omega⟩
    have hdz : ((d + 1 : Nat) : Int) > 0 := by omega
    have hdz' : (0 : Int) < ((d + 1 : Nat) : Int) := hdz
    have hdb : decide (((d + 1 : Nat) : Int) > 0) = true := decide_eq_true hdz
    have hdb' : decide ((0 : Int) < ((d + 1 : Nat) : Int)) = true := decide_eq_true hdz
    have hwd : wrap64 (((d + 1 : Nat) : Int) - 1) = (d : Int) := (w64i (by omega) (by omega)).trans (by omega)
    have hwd2 : wrap64 ((d : Int) + 1 - 1) = (d : Int) := (w64i (by omega) (by omega)).trans (by omega)
    have hI1 := HII.out
    have hI0 := Hi.out
    obtain ⟨u0, y1, h1, u00, u01⟩ := pickB HBY.out i1 (by omega) x1 8 (by decide) (by decide)
    obtain ⟨u, rfl⟩ : ∃ u : Nat, u0 = (u : Int) := ⟨u0.toNat, by omega⟩
    obtain ⟨n, y2, h2, n0, n1⟩ := pickB HBY.out (i1 + 1) (by omega) y1 9 (by decide) (by decide)
    obtain ⟨v, y3, h3, v0, v1⟩ := pickB HBY.out (i1 + 2) (by omega) y2 4 (by decide) (by decide)
    have H1 := Aside0.mk h1
    have H2 := Aside0.mk h2
    have H3 := Aside0.mk h3
    have HGK := Aside0.mk hgk
    clear h1 h2 h3
    have hwn : wrap64 (1 + n) = 1 + n := w64i (by omega) (by omega)
    have hwN : IntKind.i16.wrap (1 + n) = 1 + n := wrap16_id (by omega) (by omega)
    have HU8 := Aside0.mk (show u < 8 by omega)
    have hu8 : (u : Int) < 8 := by omega
    have hu0 : 0 ≤ (u : Int) := by omega
    by_cases e0 : v = 0
    · subst e0
      obtain ⟨C, hC⟩ : ∃ C, s.at_ (8 + u) = C := ⟨_, rfl⟩
      have hCb := HS.out.at_ (by omega) (8 + u)
      rw [hC] at hCb
      have hwC : IntKind.i16.wrap (C + (1 + n)) = C + (1 + n) := wrap16_id (by omega) (by omega)
      have HCC := Aside0.mk (show (stC s).toArray[8 + u]? = some (.int .i16 C) by
       rw [List.getElem?_toArray, stC_get s (8 + u) (by omega), hC]
       unfold encSt
       rw [if_pos (by omega)])
      have HN := Aside0.mk (show SmallSt (9 * (7 - (d : Int))) (s.put (8 + u) (C + (1 + n))) by
       have h := HS.out.add (m := 9) (8 + u) (by omega) (v := C + (1 + n)) (by omega) (by omega)
       have e : 9 * (7 - ((d + 1 : Nat) : Int)) + 9 = 9 * (7 - (d : Int)) := by omega
       rw [e] at h
       exact h)
      clear hC hCb
      have ST0 := Aside0.mk True.intro
      go_wp2_with (first
       | (have s_ := ST0; go_at_call 71; (with_reducible refine (spec_l00Src_pick.calls g l (i1 : Int) x1 8 (u : Int) ((i1 + 1 : Nat) : Int) y1 w0 _ HI.out HB.out H1.out).mono ?_); rintro e wa ⟨rfl, hi, hb, hk⟩; replace HB := Aside0.mk (hb); replace HK := Aside0.mk (keep_then HK.out hk); replace K2 := Aside0.mk (blk_keep K2.out hk (fun e_ => IsS153.ne_blk HI.out K2.out (by decide) e_.symm)); replace K3 := Aside0.mk (blk_keep K3.out hk (fun e_ => IsS153.ne_blk HI.out K3.out (by decide) e_.symm)); replace HI := Aside0.mk (hi); clear hi hb hk; clear ST0 s_; have ST1 := Aside0.mk True.intro)
       | (have s_ := ST1; go_at_call 71; (with_reducible refine (spec_l00Src_pick.calls g l ((i1 + 1 : Nat) : Int) y1 9 n ((i1 + 2 : Nat) : Int) y2 w0 _ HI.out HB.out H2.out).mono ?_); rintro e wb ⟨rfl, hi, hb, hk⟩; replace HB := Aside0.mk (hb); replace HK := Aside0.mk (keep_then HK.out hk); replace K2 := Aside0.mk (blk_keep K2.out hk (fun e_ => IsS153.ne_blk HI.out K2.out (by decide) e_.symm)); replace K3 := Aside0.mk (blk_keep K3.out hk (fun e_ => IsS153.ne_blk HI.out K3.out (by decide) e_.symm)); replace HI := Aside0.mk (hi); clear hi hb hk; clear ST1 s_; have ST2 := Aside0.mk True.intro)
       | (have s_ := ST2; go_at_call 71; (with_reducible refine (spec_l00Src_pick.calls g l ((i1 + 2 : Nat) : Int) y2 4 0 ((i1 + 3 : Nat) : Int) y3 w0 _ HI.out HB.out H3.out).mono ?_); rintro e wc ⟨rfl, hi, hb, hk⟩; replace HB := Aside0.mk (hb); replace HK := Aside0.mk (keep_then HK.out hk); replace K2 := Aside0.mk (blk_keep K2.out hk (fun e_ => IsS153.ne_blk HI.out K2.out (by decide) e_.symm)); replace K3 := Aside0.mk (blk_keep K3.out hk (fun e_ => IsS153.ne_blk HI.out K3.out (by decide) e_.symm)); replace HI := Aside0.mk (hi); clear hi hb hk; have hc_ : wc.cell? ⟨g3, 8 + u, none⟩ = some (.int .i16 C) := (blk_cell K3.out (8 + u)).trans HCC.out; have hf_ : wc.frozen? ⟨g3, 8 + u, none⟩ = false := blk_frozen K3.out (8 + u); clear ST2 s_; have ST3 := Aside0.mk True.intro))
      have E := Aside0.mk ((stk_in K3.out).put (8 + u) (by have := HU8.out; omega) (C + (1 + n)))
      have E2 := Aside0.mk (show InSt wc g3 0 55 (stC s).toArray (s.put (8 + u) (C + (1 + n))) (wc.setCell ⟨g3, 8 + u, none⟩ (.int .i16 (C + (1 + n)))) by
       have h := E.out
       rw [Nat.zero_add, show encSt (8 + u) (C + (1 + n)) = .int .i16 (C + (1 + n)) by unfold encSt; rw [if_pos (by have := HU8.out; omega)]] at h
       exact h)
      have hg := E2.out.gr
      have a_ := Aside0.mk (stk_of E2.out)
      have b_ := Aside0.mk (IsS153.grown HI.out hg (fun e_ => by injection e_ with e_; exact IsS153.ne_blk HI.out K3.out (by decide) e_))
      have c_ := Aside0.mk (keep_grown HK.out hg GWK3.out)
      have d_ := Aside0.mk (below_grown HB.out hg (fun k_ e_ => by injection e_ with e_; subst e_; exact GK3.out))
      have e_ := Aside0.mk (blk_grown K2.out hg (fun e_ => by injection e_ with e_; exact NK2_K3.out e_))
      clear E E2 hg HI HK HB K2 K3
      go_wp2
      have hgk_ := HGK.out
      go_roundg d
      case measure => omega
      case rel => exact ⟨d, i1 + 3, y3, _, by omega, by omega, by first | rfl | (simp only [i64_w, hwd, hwd2]) | go_num, HN, ⟨by have := HII.out; omega⟩, b_, a_, e_, d_, c_⟩
    · have e0b : (v == 0) = false := by simpa using e0
      have e0d : decide (v = 0) = false := decide_eq_false e0
      by_cases e1 : v = 1
      · subst e1
        obtain ⟨C, hC⟩ : ∃ C, s.at_ (16 + u) = C := ⟨_, rfl⟩
        have hCb := HS.out.at_ (by omega) (16 + u)
        rw [hC] at hCb
        have hwC : IntKind.i16.wrap (C + (1 + n)) = C + (1 + n) := wrap16_id (by omega) (by omega)
        have HCC := Aside0.mk (show (stC s).toArray[16 + u]? = some (.int .i16 C) by
         rw [List.getElem?_toArray, stC_get s (16 + u) (by omega), hC]
         unfold encSt
         rw [if_pos (by omega)])
        have HN := Aside0.mk (show SmallSt (9 * (7 - (d : Int))) (s.put (16 + u) (C + (1 + n))) by
         have h := HS.out.add (m := 9) (16 + u) (by omega) (v := C + (1 + n)) (by omega) (by omega)
         have e : 9 * (7 - ((d + 1 : Nat) : Int)) + 9 = 9 * (7 - (d : Int)) := by omega
         rw [e] at h
         exact h)
        clear hC hCb
        have ST0 := Aside0.mk True.intro
        go_wp2_with (first
         | (have s_ := ST0; go_at_call 71; (with_reducible refine (spec_l00Src_pick.calls g l (i1 : Int) x1 8 (u : Int) ((i1 + 1 : Nat) : Int) y1 w0 _ HI.out HB.out H1.out).mono ?_); rintro e wa ⟨rfl, hi, hb, hk⟩; replace HB := Aside0.mk (hb); replace HK := Aside0.mk (keep_then HK.out hk); replace K2 := Aside0.mk (blk_keep K2.out hk (fun e_ => IsS153.ne_blk HI.out K2.out (by decide) e_.symm)); replace K3 := Aside0.mk (blk_keep K3.out hk (fun e_ => IsS153.ne_blk HI.out K3.out (by decide) e_.symm)); replace HI := Aside0.mk (hi); clear hi hb hk; clear ST0 s_; have ST1 := Aside0.mk True.intro)
         | (have s_ := ST1; go_at_call 71; (with_reducible refine (spec_l00Src_pick.calls g l ((i1 + 1 : Nat) : Int) y1 9 n ((i1 + 2 : Nat) : Int) y2 w0 _ HI.out HB.out H2.out).mono ?_); rintro e wb ⟨rfl, hi, hb, hk⟩; replace HB := Aside0.mk (hb); replace HK := Aside0.mk (keep_then HK.out hk); replace K2 := Aside0.mk (blk_keep K2.out hk (fun e_ => IsS153.ne_blk HI.out K2.out (by decide) e_.symm)); replace K3 := Aside0.mk (blk_keep K3.out hk (fun e_ => IsS153.ne_blk HI.out K3.out (by decide) e_.symm)); replace HI := Aside0.mk (hi); clear hi hb hk; clear ST1 s_; have ST2 := Aside0.mk True.intro)
         | (have s_ := ST2; go_at_call 71; (with_reducible refine (spec_l00Src_pick.calls g l ((i1 + 2 : Nat) : Int) y2 4 1 ((i1 + 3 : Nat) : Int) y3 w0 _ HI.out HB.out H3.out).mono ?_); rintro e wc ⟨rfl, hi, hb, hk⟩; replace HB := Aside0.mk (hb); replace HK := Aside0.mk (keep_then HK.out hk); replace K2 := Aside0.mk (blk_keep K2.out hk (fun e_ => IsS153.ne_blk HI.out K2.out (by decide) e_.symm)); replace K3 := Aside0.mk (blk_keep K3.out hk (fun e_ => IsS153.ne_blk HI.out K3.out (by decide) e_.symm)); replace HI := Aside0.mk (hi); clear hi hb hk; have hc_ : wc.cell? ⟨g3, 16 + u, none⟩ = some (.int .i16 C) := (blk_cell K3.out (16 + u)).trans HCC.out; have hf_ : wc.frozen? ⟨g3, 16 + u, none⟩ = false := blk_frozen K3.out (16 + u); clear ST2 s_; have ST3 := Aside0.mk True.intro))
        have E := Aside0.mk ((stk_in K3.out).put (16 + u) (by have := HU8.out; omega) (C + (1 + n)))
        have E2 := Aside0.mk (show InSt wc g3 0 55 (stC s).toArray (s.put (16 + u) (C + (1 + n))) (wc.setCell ⟨g3, 16 + u, none⟩ (.int .i16 (C + (1 + n)))) by
         have h := E.out
         rw [Nat.zero_add, show encSt (16 + u) (C + (1 + n)) = .int .i16 (C + (1 + n)) by unfold encSt; rw [if_pos (by have := HU8.out; omega)]] at h
         exact h)
        have hg := E2.out.gr
        have a_ := Aside0.mk (stk_of E2.out)
        have b_ := Aside0.mk (IsS153.grown HI.out hg (fun e_ => by injection e_ with e_; exact IsS153.ne_blk HI.out K3.out (by decide) e_))
        have c_ := Aside0.mk (keep_grown HK.out hg GWK3.out)
        have d_ := Aside0.mk (below_grown HB.out hg (fun k_ e_ => by injection e_ with e_; subst e_; exact GK3.out))
        have e_ := Aside0.mk (blk_grown K2.out hg (fun e_ => by injection e_ with e_; exact NK2_K3.out e_))
        clear E E2 hg HI HK HB K2 K3
        go_wp2
        have hgk_ := HGK.out
        go_roundg d
        case measure => omega
        case rel => exact ⟨d, i1 + 3, y3, _, by omega, by omega, by first | rfl | (simp only [i64_w, hwd, hwd2]) | go_num, HN, ⟨by have := HII.out; omega⟩, b_, a_, e_, d_, c_⟩
      · have e1b : (v == 1) = false := by simpa using e1
        have e1d : decide (v = 1) = false := decide_eq_false e1
        obtain ⟨C, hC⟩ : ∃ C, s.at_ (u) = C := ⟨_, rfl⟩
        have hCb := HS.out.at_ (by omega) (u)
        rw [hC] at hCb
        have hwC : IntKind.i16.wrap (C + (1 + n)) = C + (1 + n) := wrap16_id (by omega) (by omega)
        have HCC := Aside0.mk (show (stC s).toArray[u]? = some (.int .i16 C) by
         rw [List.getElem?_toArray, stC_get s (u) (by omega), hC]
         unfold encSt
         rw [if_pos (by omega)])
        have HN := Aside0.mk (show SmallSt (9 * (7 - (d : Int))) (s.put (u) (C + (1 + n))) by
         have h := HS.out.add (m := 9) (u) (by omega) (v := C + (1 + n)) (by omega) (by omega)
         have e : 9 * (7 - ((d + 1 : Nat) : Int)) + 9 = 9 * (7 - (d : Int)) := by omega
         rw [e] at h
         exact h)
        clear hC hCb
        have ST0 := Aside0.mk True.intro
        go_wp2_with (first
         | (have s_ := ST0; go_at_call 71; (with_reducible refine (spec_l00Src_pick.calls g l (i1 : Int) x1 8 (u : Int) ((i1 + 1 : Nat) : Int) y1 w0 _ HI.out HB.out H1.out).mono ?_); rintro e wa ⟨rfl, hi, hb, hk⟩; replace HB := Aside0.mk (hb); replace HK := Aside0.mk (keep_then HK.out hk); replace K2 := Aside0.mk (blk_keep K2.out hk (fun e_ => IsS153.ne_blk HI.out K2.out (by decide) e_.symm)); replace K3 := Aside0.mk (blk_keep K3.out hk (fun e_ => IsS153.ne_blk HI.out K3.out (by decide) e_.symm)); replace HI := Aside0.mk (hi); clear hi hb hk; clear ST0 s_; have ST1 := Aside0.mk True.intro)
         | (have s_ := ST1; go_at_call 71; (with_reducible refine (spec_l00Src_pick.calls g l ((i1 + 1 : Nat) : Int) y1 9 n ((i1 + 2 : Nat) : Int) y2 w0 _ HI.out HB.out H2.out).mono ?_); rintro e wb ⟨rfl, hi, hb, hk⟩; replace HB := Aside0.mk (hb); replace HK := Aside0.mk (keep_then HK.out hk); replace K2 := Aside0.mk (blk_keep K2.out hk (fun e_ => IsS153.ne_blk HI.out K2.out (by decide) e_.symm)); replace K3 := Aside0.mk (blk_keep K3.out hk (fun e_ => IsS153.ne_blk HI.out K3.out (by decide) e_.symm)); replace HI := Aside0.mk (hi); clear hi hb hk; clear ST1 s_; have ST2 := Aside0.mk True.intro)
         | (have s_ := ST2; go_at_call 71; (with_reducible refine (spec_l00Src_pick.calls g l ((i1 + 2 : Nat) : Int) y2 4 v ((i1 + 3 : Nat) : Int) y3 w0 _ HI.out HB.out H3.out).mono ?_); rintro e wc ⟨rfl, hi, hb, hk⟩; replace HB := Aside0.mk (hb); replace HK := Aside0.mk (keep_then HK.out hk); replace K2 := Aside0.mk (blk_keep K2.out hk (fun e_ => IsS153.ne_blk HI.out K2.out (by decide) e_.symm)); replace K3 := Aside0.mk (blk_keep K3.out hk (fun e_ => IsS153.ne_blk HI.out K3.out (by decide) e_.symm)); replace HI := Aside0.mk (hi); clear hi hb hk; have hc_ : wc.cell? ⟨g3, u, none⟩ = some (.int .i16 C) := (blk_cell K3.out (u)).trans HCC.out; have hf_ : wc.frozen? ⟨g3, u, none⟩ = false := blk_frozen K3.out (u); clear ST2 s_; have ST3 := Aside0.mk True.intro))
        have E := Aside0.mk ((stk_in K3.out).put (u) (by have := HU8.out; omega) (C + (1 + n)))
        have E2 := Aside0.mk (show InSt wc g3 0 55 (stC s).toArray (s.put (u) (C + (1 + n))) (wc.setCell ⟨g3, u, none⟩ (.int .i16 (C + (1 + n)))) by
         have h := E.out
         rw [Nat.zero_add, show encSt (u) (C + (1 + n)) = .int .i16 (C + (1 + n)) by unfold encSt; rw [if_pos (by have := HU8.out; omega)]] at h
         exact h)
        have hg := E2.out.gr
        have a_ := Aside0.mk (stk_of E2.out)
        have b_ := Aside0.mk (IsS153.grown HI.out hg (fun e_ => by injection e_ with e_; exact IsS153.ne_blk HI.out K3.out (by decide) e_))
        have c_ := Aside0.mk (keep_grown HK.out hg GWK3.out)
        have d_ := Aside0.mk (below_grown HB.out hg (fun k_ e_ => by injection e_ with e_; subst e_; exact GK3.out))
        have e_ := Aside0.mk (blk_grown K2.out hg (fun e_ => by injection e_ with e_; exact NK2_K3.out e_))
        clear E E2 hg HI HK HB K2 K3
        go_wp2
        have hgk_ := HGK.out
        go_roundg d
        case measure => omega
        case rel => exact ⟨d, i1 + 3, y3, _, by omega, by omega, by first | rfl | (simp only [i64_w, hwd, hwd2]) | go_num, HN, ⟨by have := HII.out; omega⟩, b_, a_, e_, d_, c_⟩
  · obtain rfl : d = 0 := by omega
    have hI1 := HII.out
    have hI0 := Hi.out
    obtain ⟨r, y1, h1, r0, r1⟩ := pickB HBY.out i1 (by omega) x1 4 (by decide) (by decide)
    have H1 := Aside0.mk h1
    have hwr : IntKind.i32.wrap r = r := wrap32_id (by omega) (by omega)
    have hwr' : wrap32 r = r := (i32_w _).symm.trans hwr
    obtain ⟨C, hC⟩ : ∃ C, s.at_ 24 = C := ⟨_, rfl⟩
    have hCb := HS.out.at_ (by omega) 24
    rw [hC] at hCb
    have HCC := Aside0.mk (show (stC s).toArray[24]? = some (.int .i32 C) by
     rw [List.getElem?_toArray, stC_get s 24 (by decide), hC]
     rfl)
    have HSM := Aside0.mk (show SmallSt 66 (s.put 24 r) from (HS.out.add (m := 3) 24 (by decide) (v := r) r0 (by omega)))
    clear h1 hC hCb
    have ST0 := Aside0.mk True.intro
    go_wp2_with (first
     | (have s_ := ST0; go_at_call 71; (with_reducible refine (spec_l00Src_pick.calls g l (i1 : Int) x1 4 r ((i1 + 1 : Nat) : Int) y1 w0 _ HI.out HB.out H1.out).mono ?_); rintro e wa ⟨rfl, hi, hb, hk⟩; replace HB := Aside0.mk (hb); replace HK := Aside0.mk (keep_then HK.out hk); replace K2 := Aside0.mk (blk_keep K2.out hk (fun e_ => IsS153.ne_blk HI.out K2.out (by decide) e_.symm)); replace K3 := Aside0.mk (blk_keep K3.out hk (fun e_ => IsS153.ne_blk HI.out K3.out (by decide) e_.symm)); replace HI := Aside0.mk (hi); clear hi hb hk; have hf_ : wa.frozen? ⟨g3, 24, none⟩ = false := blk_frozen K3.out 24; have hc_ : wa.cell? ⟨g3, 24, none⟩ = some (.int .i32 C) := (blk_cell K3.out 24).trans HCC.out; clear ST0 s_; have ST1 := Aside0.mk True.intro)
     | (have s_ := ST1; have E := Aside0.mk ((stk_in K3.out).put 24 (by decide) r); have E2 := Aside0.mk (show InSt wa g3 0 55 (stC s).toArray (s.put 24 r) (wa.setCell ⟨g3, 24, none⟩ (.int .i32 r)) from E.out); (with_reducible refine gate_dst (N := 54) rfl ?_); refine Kd.event_run rfl (mem_load (ad := ⟨g3, 0, none⟩) (cs := stC (s.put 24 r)) rfl rfl (block_cells (stk_of E2.out)) Try.underlying55 rfl (by kernel_rfl)) ?_; have hg := E2.out.gr; have b_ := Aside0.mk (IsS153.grown HI.out hg (fun e_ => by injection e_ with e_; exact IsS153.ne_blk HI.out K3.out (by decide) e_)); have c_ := Aside0.mk (keep_grown HK.out hg GWK3.out); have d_ := Aside0.mk (below_grown HB.out hg (fun k_ e_ => by injection e_ with e_; subst e_; exact GK3.out)); have e_ := Aside0.mk (blk_grown K2.out hg (fun e_ => by injection e_ with e_; exact NK2_K3.out e_)); clear E E2 hg HI HK HB K2 K3 hc_ hf_; have HI := b_; have HK := c_; have HB := d_; have K2 := e_; clear b_ c_ d_ e_; clear ST1 s_; have ST2 := Aside0.mk True.intro)
     | (have s_ := ST2; (with_reducible refine gate_store (t := 55) (p := 2) (v := .tmp 54) rfl ?_); refine mem_store (seg := stC (s.put 24 r)) (g := g2) (off := 0) rfl rfl rfl rfl rfl K2.out (by kernel_rfl) (by show 0 + 25 ≤ 25; decide) (stC_one _) ?_; intro we cur_ hk hl hg; obtain rfl : cur_ = (stC (s.put 24 r)).toArray := Array.ext' (hl.trans rfl); replace HB := Aside0.mk (below_grown HB.out hg (fun k_ e_ => by injection e_ with e_; subst e_; exact GK2.out)); replace HI := Aside0.mk (IsS153.grown HI.out hg (fun e_ => by injection e_ with e_; exact IsS153.ne_blk HI.out K2.out (by decide) e_)); replace HK := Aside0.mk (keep_grown HK.out hg GWK2.out); replace K2 := Aside0.mk (hk); clear hk hl hg; clear ST2 s_; have ST3 := Aside0.mk True.intro))
    refine bodyPost_ret (results_cell_row rfl _ _ g2 55 (stC (s.put 24 r)).toArray (0, 0) _ rfl K2.out Try.underlying55 rfl (by kernel_rfl)) rfl ?_
    exact ⟨_, _, _, rfl, HSM.out, by omega, HI.out, HB.out, HK.out⟩
end Go.Proofs.Ytggjdcijplgpdaa.H
