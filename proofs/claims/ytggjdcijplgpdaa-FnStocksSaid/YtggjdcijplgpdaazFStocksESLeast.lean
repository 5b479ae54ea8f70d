import Derived.Test.YtggjdcijplgpdaazFStocksEDay2
import Derived.Test.YtggjdcijplgpdaazFStocksEFresh
import Derived.Test.YtggjdcijplgpdaazFStocksEHOk
import Derived.Test.YtggjdcijplgpdaazFStocksEInH
import Derived.Test.YtggjdcijplgpdaazFStocksEKCode
import Derived.Test.YtggjdcijplgpdaazFStocksELLasts
import Derived.Test.YtggjdcijplgpdaazFStocksECloneSt
import Derived.Test.YtggjdcijplgpdaazFStocksH1
import Derived.Shelf.Abstract
namespace Go.Proofs.Ytggjdcijplgpdaa.H
open Go.RowKit Go.Proofs.YtggjdcijplgpdaaW.PrintWords Go.Proofs.YtggjdcijplgpdaaW.PrintLast Go.Proofs.YtggjdcijplgpdaaW.PrintMore
attribute [local go_sem] max2_int min2_int max_two min_two max_three min_three max_four min_four
set_option linter.unusedVariables false
set_option linter.unusedSimpArgs false
theorem rd_one {xs : List Int} {i : Nat} (h : i < xs.length) : rd_L5 (xs.map fun x => [x]) (i : Int) = [xs[i]] := by
 show (xs.map fun x => [x]).getD (i : Int).toNat [] = _
 rw [Int.toNat_natCast, List.getD_eq_getElem?_getD, List.getElem?_map, List.getElem?_eq_getElem h]
 rfl
theorem at_one {w : World} {A : Option Addr} {c : Nat} {x : Int} (h : Kd.C (Kd.int .i64) w A 1 [x]) : ∃ ad, A = some ad ∧ w.cell? ad = some (.int .i64 x) := by
 obtain ⟨ad, e, hc⟩ := Kd.at_int h (0 : Int) (by omega) (by omega)
 have e0 : ad.add (0 : Int).toNat = ad := by show ad.add 0 = ad; unfold Addr.add; cases ad with | mk b o i => cases i <;> simp
 rw [e0] at hc
 exact ⟨ad, e, hc⟩
set_option maxHeartbeats 8000000 in
set_option maxRecDepth 100000 in
theorem specLeast_calls (w : World) (A1 : Option Addr) (c1 : Nat) (tub every : Int) (xs : List Int) (days : List (List Int)) (hdays : (xs.map fun x => [x]) = days) (hr : Kd.C (Kd.slice 2 (Kd.int .i64)) w A1 days.length days) (ht : 0 ≤ tub ∧ tub ≤ 1000) (he : 1 ≤ every ∧ every ≤ 7) (hx : ∀ x ∈ xs, 0 ≤ x ∧ x ≤ 500) (hn : xs.length ≤ 60)
 (P : Nat) (hP : P ≤ 500) (hPs : simS tub every xs [freshS (P : Int)] 0 = false) (hmin : ∀ q : Nat, q < P → simS tub every xs [freshS (q : Int)] 0 = true) :
 Calls Try.prog 23 #[.int .i64 0, .int .i64 tub, .int .i64 every, .slice A1 days.length c1] w fun e w' => e = .returned (.tuple #[.int .i64 (P : Int), .int .i64 0]) ∧ Below w.heap.size w w' := by
 have mixed : Try.prog.follows .mixedOrders = true := by kernel_rfl
 have hdl : days.length = xs.length := by rw [← hdays, List.length_map]
 have hgt : ¬ ((days.length : Int) > 60) := by omega
 have hgb : decide ((days.length : Int) > 60) = false := decide_eq_false hgt
 have hgc : decide (60 < (days.length : Int)) = false := decide_eq_false hgt
 have HI := Aside0.mk (fun (w : World) => spec_l00In.calls 0 0 3 true w (by rw [l00In_B]; rfl))
 have HT := Aside0.mk (fun (w : World) => spec_l05Tub.calls tub every true w (by rw [l05Tub_B, inB_of ht, inB_of he]; rfl))
 have HLS := Aside0.mk (fun (w' : World) (A : Option Addr) (c : Nat) (q : Nat) (hq : q ≤ 500) (hc : Kd.C (Kd.int .i64) w' A xs.length xs) => l05Lasts_calls w' A c (q : Int) tub every xs hc (by omega) ht he hx hn)
 have HD := Aside0.mk hdays
 have HDL := Aside0.mk hdl
 have HR := Aside0.mk hr
 have HX := Aside0.mk hx
 have HN := Aside0.mk hn
 have HP := Aside0.mk hP
 have HPS := Aside0.mk hPs
 have HMIN := Aside0.mk hmin
 have HB := Aside0.mk (Below.refl w.heap.size w)
 clear hr ht he hx hn hP hPs hmin hdays hdl hgt
 go_enter Try.func23, Try.ntmps23
 have ST0 := Aside0.mk True.intro
 go_wp2_with (first
  | (have s_ := ST0; go_at_call 79; (with_reducible refine (HI.out _).mono ?_); rintro e w1 ⟨rfl, hd⟩; have hb := hd.below; replace HB := Aside0.mk (below_step HB.out hb); clear hb hd; clear ST0 s_; have ST1 := Aside0.mk True.intro)
  | (have s_ := ST1; go_at_call 80; (with_reducible refine (HT.out _).mono ?_); rintro e w2 ⟨rfl, hd⟩; have hb := hd.below; replace HB := Aside0.mk (below_step HB.out hb); clear hb hd; clear ST1 s_; have ST2 := Aside0.mk True.intro)
  | (have s_ := ST2; (with_reducible refine gate_dst (N := 21) rfl ?_); refine Kd.R_lit (Kd.int .i64) _ 2 ?hg (N := 21) ?hd (xs := ([] : List Int)) (inner := []) (ok := fun _ => True) (okp := fun _ => True) ?hr ?hp (fun _ hk => hk) trivial (Below.refl _ _) (Nat.le_refl _) (by simp) ?_; (case hd => rfl); (case hg => rfl); (case hr => first | (go_simp; done) | (go_simp; rfl)); (case hp => exact (Reps.none _ _)); intro v11_ w3 ho_ hb hg_ hnew_; clear hg_ hnew_; have HV := Aside0.mk (Kd.R_lower ho_ HB.out.size); replace HB := Aside0.mk (below_step HB.out hb); clear ho_ hb; clear ST2 s_; have ST3 := Aside0.mk True.intro))
 go_loopg [10, 11, 12] days.length (fun gk v10 v11 v12 wr => ∃ (i : Nat) (TT : List Int), i ≤ xs.length ∧ xs.length - i ≤ gk ∧ v10 = .bool true ∧ v12 = .int .i64 i ∧ Aside0 (xs.take i = TT) ∧ Aside0 (Kd.R (Kd.int .i64) 2 wr w.heap.size (fun _ => True) v11 TT) ∧ Aside0 (Below w.heap.size w wr))
 case atStart => exact ⟨0, [], by omega, by have := HDL.out; omega, rfl, rfl, ⟨rfl⟩, HV, HB⟩
 case round =>
  clear HV HB
  obtain ⟨i, TT, hi, hgk, rfl, rfl, HTT, HV, HB⟩ := hrel
  obtain ⟨Av, cv, ev⟩ := Kd.R_slice HV.out
  subst ev
  by_cases hlt : i < xs.length
  · have hltz : (i : Int) < (days.length : Int) := by have := HDL.out; omega
    have hi0 : 0 ≤ (i : Int) := by omega
    obtain ⟨adN, Ak, ck, eN, hx1, hcl, hci⟩ := at_L5 (Kd.C_below HR.out HB.out) (i : Int) hi0 hltz
    subst eN
    rw [← HD.out, rd_one hlt] at hx1 hcl hci
    obtain ⟨x, hxx⟩ : ∃ x, xs[i] = x := ⟨_, rfl⟩
    rw [hxx] at hx1 hci
    obtain ⟨adX, eX, hcx⟩ := at_one (c := ck) hci
    subst eX
    have hx0 : wr.cell? (adN.add i) = some (.slice (some adX) 1 ck) := hx1
    have HC := Aside0.mk (fun (w : World) => spec_l05Count.calls x true w (by rw [l05Count_B, inB_of (HX.out x (hxx ▸ List.getElem_mem hlt))]))
    have HTK := Aside0.mk (show xs.take (i + 1) = TT ++ [x] by rw [List.take_succ_eq_append_getElem hlt, hxx, HTT.out])
    have HTL := Aside0.mk (show TT.length ≤ 60 by rw [← HTT.out, List.length_take]; have := HN.out; omega)
    have HLT := Aside0.mk hlt
    have HCX := Aside0.mk hcx
    have HX0 := Aside0.mk hx0
    clear hx1 hcl hci hxx hlt
    go_wp2_with (first | (go_at_call 81; (with_reducible refine (HC.out _).mono ?_); rintro e w4 ⟨rfl, hd⟩; have hb := hd.below; have a_ := Aside0.mk (below_step HB.out hb); have b_ := Aside0.mk (Kd.R_below HV.out hb); clear HB HV; have HB := a_; have HV := b_; have hx2 : w4.cell? (adN.add i) = some (.slice (some adX) 1 ck) := (hb.cell (World.block_lt_of_cell? _ _ HX0.out)).trans HX0.out; have hcx2 : w4.cell? adX = some (.int .i64 x) := (hb.cell (World.block_lt_of_cell? _ _ HCX.out)).trans HCX.out; clear hb hd a_ b_ hx0 hcx) | ((with_reducible refine gate_builtin (b := .append) (xs := #[.tmp 49, .tmp 57]) rfl ?_); at_builtin; refine Kd.R_append (Kd.int .i64) (w0 := w) w.heap.size rfl (.tmp 49) (.tmp 57) 49 2 (.int .i64 0) 8 rfl Try.underlying49 info2 rfl (by decide) (by omega) (.slice Av TT.length cv) TT x [.int .i64 x] (fun _ => True) (fun _ => False) rfl rfl ?aP (fun _ hk => hk.elim) ?aF ?aO ?aB ?aS ?aL ?_; (case aP => exact rfl); (case aB => exact HB.out); (case aF => exact (fun _ _ => trivial)); (case aO => exact HV.out); (case aS => exact HB.out.size); (case aL => have := HTL.out; omega); intro v9 w6 ho hb hg hat; have HV2 := Aside0.mk ho; clear HB HV ho hg hat; have HB := Aside0.mk hb; clear hb))
    have hlt_ := HLT.out
    have hn_ := HN.out
    go_roundg (xs.length - (i + 1))
    case measure => omega
    case rel => exact ⟨i + 1, _, by omega, by omega, rfl, by have hw_ : wrap64 ((i : Int) + 1) = ((i + 1 : Nat) : Int) := (w64i (by omega) (by omega)).trans (by omega); first | rfl | rw [hw_] | (simp only [i64_w, hw_]) | go_num, HTK, HV2, HB⟩
  · have hltz : ¬ (i : Int) < (days.length : Int) := by have := HDL.out; omega
    obtain rfl : i = xs.length := by omega
    have htt := HTT.out
    rw [List.take_length] at htt
    subst htt
    have HV3 := HV
    clear HV HTT
    have RC := Aside0.mk (fun (w' : World) (hb : Below wr.heap.size wr w') => Kd.C_below (Kd.R_reads' HV3.out).2.2 hb)
    have HB4 := HB
    clear HV3 HB
    go_wp2
    go_loopg [13] 501 (fun gk v13 w' => ∃ (q : Nat), q ≤ P ∧ 501 - q ≤ gk ∧ v13 = .int .i64 q ∧ Aside0 (Below wr.heap.size wr w'))
    case atStart => exact ⟨0, by omega, by omega, rfl, ⟨Below.refl _ _⟩⟩
    case round =>
     obtain ⟨q, hq, hgq, rfl, HB⟩ := hrel
     have hq5 : q ≤ 500 := by have := HP.out; omega
     have hqz : (q : Int) ≤ 500 := by omega
     have HQ := Aside0.mk hq
     have HL1 := Aside0.mk (HLS.out _ Av cv q hq5 (RC.out _ HB.out))
     by_cases he : q = P
     · subst he
       go_wp2_with (go_at_call 82; (with_reducible refine HL1.out.mono ?_); rintro e w7 ⟨n, rfl, hiff, hb⟩; have hnn : n = (xs.length : Int) := hiff.mpr HPS.out; subst hnn; have a_ := Aside0.mk (below_step HB.out hb); clear HB hb hiff; have HB := a_; clear a_)
       go_ret2
       exact ⟨rfl, HB4.out.trans (Below.mono HB.out HB4.out.size)⟩
     · have HNE := Aside0.mk he
       clear he
       go_wp2_with (go_at_call 82; (with_reducible refine HL1.out.mono ?_); rintro e w7 ⟨n, rfl, hiff, hb⟩; have hnn : n ≠ (xs.length : Int) := (fun h => by have h1 := hiff.mp h; rw [HMIN.out q (by have := HQ.out; have := HNE.out; omega)] at h1; exact absurd h1 (by decide)); have hnb : (n == (xs.length : Int)) = false := beq_eq_false_iff_ne.mpr hnn; have hnd : decide (n = (xs.length : Int)) = false := decide_eq_false hnn; have a_ := Aside0.mk (below_step HB.out hb); clear HB hb hiff; have HB := a_; clear a_)
       have hq_ := HQ.out
       have hp_ := HP.out
       have hne_ := HNE.out
       go_roundg (501 - (q + 1))
       case measure => omega
       case rel => exact ⟨q + 1, by omega, by omega, by have hw_ : wrap64 ((q : Int) + 1) = ((q + 1 : Nat) : Int) := (w64i (by omega) (by omega)).trans (by omega); first | rfl | rw [hw_] | (simp only [i64_w, hw_]) | go_num, HB⟩
end Go.Proofs.Ytggjdcijplgpdaa.H
