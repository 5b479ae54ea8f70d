import Derived.Test.YtggjdcijplgpdaazFStocksEPutB
import Derived.Test.YtggjdcijplgpdaazFStocksENeedC
import Derived.Test.YtggjdcijplgpdaazFStocksELayG
import Derived.Test.YtggjdcijplgpdaazFStocksEDayOf
import Derived.Test.YtggjdcijplgpdaazFStocksEHOk
import Derived.Test.YtggjdcijplgpdaazFStocksEInH
import Derived.Test.YtggjdcijplgpdaazFStocksH12
import Derived.Test.YtggjdcijplgpdaazFStocksEUse2
import Derived.Test.YtggjdcijplgpdaazFStocksEWash2
import Derived.Test.YtggjdcijplgpdaazFStocksECloneSt
import Derived.Test.YtggjdcijplgpdaazFStocksH1
import Derived.Shelf.Abstract
import Derived.Deep.QuietTactic
import Derived.BigQuiet
namespace Go.Proofs.Ytggjdcijplgpdaa.H
open Go.RowKit Go.Proofs.YtggjdcijplgpdaaW.PrintWords Go.Proofs.YtggjdcijplgpdaaW.PrintLast Go.Proofs.YtggjdcijplgpdaaW.PrintMore
attribute [local go_sem] max2_int min2_int max_two min_two max_three min_three max_four min_four
set_option linter.unusedVariables false
set_option linter.unusedSimpArgs false
theorem l05Count_B (n : Int) : spec_l05Count.f n = some (inB 0 500 n) := by
 unfold spec_l05Count.f
 rw [l00In_B]
 rfl
theorem l05Needs_all (needs : List Int) (x1 : Int) (hm : needs.length ≤ 9223372036854775807) : ∀ (m i : Nat), i + m = needs.length → spec_l05Needs.l0 (m + 1) needs x1 (i : Int) = some ((needs.drop i).all (fun n => inB 0 500 n) && ((needs.length : Int) == x1))
 | 0, i, h => by
  rw [spec_l05Needs.l0, if_neg (by omega), List.drop_eq_nil_of_le (by omega)]
  rfl
 | m + 1, i, h => by
  have hi : i < needs.length := by omega
  have e : rd needs (i : Int) = needs[i] := by
   show needs.getD i 0 = _
   rw [List.getD_eq_getElem?_getD, List.getElem?_eq_getElem hi]
   rfl
  have hw : wrap64 ((i : Int) + 1) = ((i + 1 : Nat) : Int) := (w64i (by omega) (by omega)).trans (by omega)
  rw [spec_l05Needs.l0, if_pos (by omega), if_pos (by omega), l05Count_B, e, Option.bind_some, hw, l05Needs_all needs x1 hm m (i + 1) (by omega), List.drop_eq_getElem_cons hi, List.all_cons]
  cases inB 0 500 needs[i] <;> rfl
theorem l05Needs_ok (l : List S55) (needs : List Int) (hm : needs.length ≤ 9223372036854775807) : spec_l05Needs.f (needs.length + 1) needs (l.length : Int) = some (needOk l needs) := by
 unfold spec_l05Needs.f
 rw [show (0 : Int) = ((0 : Nat) : Int) from rfl, l05Needs_all needs _ hm needs.length 0 (by omega), List.drop_zero]
 have e1 : needsIn needs = needs.all (fun n => inB 0 500 n) := by
  unfold needsIn
  rw [← List.not_all_eq_any_not]
  simp
 have e2 : ((needs.length : Int) == (l.length : Int)) = decide (needs.length = l.length) := by
  by_cases h : needs.length = l.length
  · rw [h]; simp
  · rw [decide_eq_false h, beq_eq_false_iff_ne]; omega
 unfold needOk
 rw [e1, e2, Bool.and_comm]
def Day2Post (W0 : World) (g g2 cap : Nat) (l0 : List S55) (a1 a2 a3 : Int) (needs : List Int) (W : World) (e : Ending) (w' : World) : Prop := ∃ v : Value, e = .returned (.tuple #[v, .int .i64 (dayC l0 a3 needs)]) ∧ Kd.R (Kd.int .i64) 2 w' W.heap.size (fun _ => True) v (if dayC l0 a3 needs = 0 then (dayOf l0 a1 a2 a3 needs).2 else []) ∧ (dayC l0 a3 needs = 0 → InH W0 g g2 cap (dayOf l0 a1 a2 a3 needs).1 a1 a2 (a3 + 1) w') ∧ (dayC l0 a3 needs ≠ 0 → Below W.heap.size W w')
set_option maxHeartbeats 40000000 in
set_option maxRecDepth 100000 in
theorem l05Day_at (W0 W : World) (g g2 cap : Nat) (l0 : List S55) (a1 a2 a3 : Int) (A1 : Option Addr) (cN : Nat) (needs : List Int) (hf : FitL l0) (hn : 0 ≤ a1 ∧ a1 ≤ 1000) (he : 1 ≤ a2 ∧ a2 ≤ 7) (ht : 0 ≤ a3 ∧ a3 ≤ 60) (h4 : l0.length ≤ 4)
 (hr : ∀ (w' : World) (l' : List S55) (b3 : Int), InH W0 g g2 cap l' a1 a2 b3 w' → Kd.C (Kd.int .i64) w' A1 needs.length needs) (hc : needs.length ≤ cN) (H : InH W0 g g2 cap l0 a1 a2 a3 W) :
 Calls Try.prog 59 #[.pointer (some ⟨g, 0, none⟩), .slice A1 needs.length cN] W fun e w' => Day2Post W0 g g2 cap l0 a1 a2 a3 needs W e w' := by
 have mixed : Try.prog.follows .mixedOrders = true := by kernel_rfl
 have hu32 := Try.underlying32
 have hu55 := Try.underlying55
 have HMX := Aside0.mk (Kd.C_max (C_of_row H.row))
 have hmxn := Kd.C_max (hr _ _ _ H)
 have HND := Aside0.mk (fun (w : World) (hw : Below W.heap.size W w) => spec_l05Needs.calls (needs.length + 1) A1 cN needs (l0.length : Int) _ w (hr _ _ _ (H.step hw)) hc (l05Needs_ok l0 needs (by omega)))
 have HRN := Aside0.mk hr
 have HL4 := Aside0.mk h4
 have HTB := Aside0.mk hn
 have HEV := Aside0.mk he
 have HTA := Aside0.mk ht
 have HH := Aside0.mk H
 have HSW := Aside0.mk H.size
 have HFT := Aside0.mk hf
 clear H hr hn he ht hf h4 hmxn hc
 by_cases hok : needOk l0 needs = true
 · have hNL := needOk_L hok
   by_cases ht6 : a3 < 60
   · have hdc : dayC l0 a3 needs = 0 := by unfold dayC; rw [hok, decide_eq_true ht6]; rfl
     have hz6 : (a3 == 60) = false := by rw [beq_eq_false_iff_ne]; omega
     have HDC := Aside0.mk hdc
     have HNL := Aside0.mk hNL.2
     have HLE := Aside0.mk hNL.1
     have HTD := Aside0.mk (show 0 ≤ a3 ∧ a3 < 60 from ⟨HTA.out.1, ht6⟩)
     have HOK := Aside0.mk (fun k (hk : k ≤ l0.length) => useTo_ok HFT.out hNL.2 hNL.1 k hk)
     rw [hok] at HND
     clear hok hNL hdc ht6
     go_enter Try.func59, Try.ntmps59
     go_wp2_with (first | ((with_reducible refine gate_dst (N := 8) rfl ?_); refine Kd.R_lit (Kd.int .i64) _ 2 ?hg (N := 8) ?hd (xs := ([] : List Int)) (inner := []) (ok := fun _ => True) (okp := fun _ => True) ?hr ?hp (fun _ hk => hk) trivial (Below.refl _ _) (Nat.le_refl _) (by simp) ?_; (case hd => rfl); (case hg => rfl); (case hr => first | (go_simp; done) | (go_simp; rfl)); (case hp => exact (Reps.none _ _)); intro v7 w1 ho_ hb_ hg_ hnew_; clear hg_ hnew_; have HV := Aside0.mk ho_; have HB := Aside0.mk hb_; clear ho_ hb_; have c0 : w1.cell? ⟨g, 0, none⟩ = some (.slice (some ⟨g2, 0, none⟩) l0.length cap) := (HH.out.step HB.out).cell 0; have c3 : w1.cell? ⟨g, 3, none⟩ = some (.int .i16 a3) := (HH.out.step HB.out).cell 3) | (go_at_call 97; (with_reducible refine (HND.out _ ?side1).mono ?_); (case side1 => exact HB.out); rintro e w2 ⟨rfl, hd⟩; have n_ := Aside0.mk (below_step HB.out hd.below); have m_ := Aside0.mk (Kd.R_below HV.out hd.below); clear HB HV hd c0 c3; have HB := n_; have HV := m_; clear n_ m_; have c0 : w2.cell? ⟨g, 0, none⟩ = some (.slice (some ⟨g2, 0, none⟩) l0.length cap) := (HH.out.step HB.out).cell 0; have c3 : w2.cell? ⟨g, 3, none⟩ = some (.int .i16 a3) := (HH.out.step HB.out).cell 3))
     have H := Aside0.mk (HH.out.step HB.out)
     have HSZ := Aside0.mk HB.out.size
     clear c0 c3 HH HB HND
     go_loopg [6, 7] l0.length (fun gk v5 v13 wr => ∃ (k : Nat) (lk : List S55) (out : List Int), k ≤ l0.length ∧ l0.length - k ≤ gk ∧ v13 = .int .i64 k ∧ Aside0 (useTo l0 needs k = (lk, out)) ∧ Aside0 (FitL lk ∧ lk.length = l0.length ∧ out.length = k) ∧ Aside0 (InH W0 g g2 cap lk a1 a2 a3 wr) ∧ Aside0 (Kd.R (Kd.int .i64) 2 wr W.heap.size (fun _ => True) v5 out) ∧ Aside0 (W.heap.size ≤ wr.heap.size))
     case atStart => exact ⟨0, l0, [], by omega, by omega, rfl, ⟨rfl⟩, ⟨HOK.out 0 (Nat.zero_le _)⟩, H, HV, HSZ⟩
     case round =>
      clear H HV HSZ
      obtain ⟨k, lk, out, hk, hgk, rfl, HT0, HF0, H, HV, HSZ⟩ := hrel
      by_cases hlt : k < l0.length
      · have hltz : (k : Int) < (l0.length : Int) := by omega
        have hltn : (k : Int) < (needs.length : Int) := by have := HLE.out; omega
        have hlk : k < lk.length := by have := HF0.out.2.1; omega
        have hnk : k < needs.length := by have := HLE.out; omega
        have hn5 := HNL.out.at_ hnk
        obtain ⟨n, hn⟩ : ∃ n, needs.getD k 0 = n := ⟨_, rfl⟩
        rw [hn] at hn5
        obtain ⟨adN, eN, hcN⟩ : ∃ ad, A1 = some ad ∧ ∀ w' l', InH W0 g g2 cap l' a1 a2 a3 w' → w'.cell? (ad.add k) = some (.int .i64 n) := by
         obtain ⟨ad, e, _⟩ := Kd.at_int (HRN.out _ _ _ H.out) (k : Int) (by omega) hltn
         refine ⟨ad, e, fun w' l' hw => ?_⟩
         obtain ⟨ad2, e2, h2⟩ := Kd.at_int (HRN.out _ _ _ hw) (k : Int) (by omega) hltn
         rw [e] at e2
         obtain rfl := Option.some.inj e2
         have hn2 : rd needs (k : Int) = n := hn
         rw [← hn2]
         exact h2
        subst eN
        have c0 : wr.cell? ⟨g, 0, none⟩ = some (.slice (some ⟨g2, 0, none⟩) l0.length cap) := by rw [← HF0.out.2.1]; exact H.out.cell 0
        have cN0 := hcN _ _ H.out
        have CN := Aside0.mk hcN
        clear hcN
        obtain ⟨o, ho⟩ : ∃ o, k * 25 = o := ⟨_, rfl⟩
        have hs := HF0.out.1.at_ hlk
        obtain ⟨s, hsk⟩ : ∃ s, lk.getD k z55 = s := ⟨_, rfl⟩
        rw [hsk] at hs
        obtain ⟨q0, hq0⟩ : ∃ q0, useOf s n = q0 := ⟨_, rfl⟩
        have HQ := Aside0.mk hq0
        have HSK := Aside0.mk hsk
        have HO := Aside0.mk ho
        have HLK := Aside0.mk hlk
        have HLL := Aside0.mk HF0.out.2.1
        have HLT := Aside0.mk hlt
        have US := Aside0.mk (fun (W1 : World) (cs : Array Value) (E : InSt W1 g2 o 55 cs s W1) => l05Use_walk W1 W1 g2 o 55 cs s n hs hn5 E)
        have HNX := Aside0.mk (show useTo l0 needs (k + 1) = (lk.set k q0.1, out ++ [q0.2]) by rw [useTo, HT0.out]; show (lk.set k (useOf (lk.getD k z55) (needs.getD k 0)).1, out ++ [(useOf (lk.getD k z55) (needs.getD k 0)).2]) = _; rw [hsk, hn, hq0])
        clear hq0 hsk hs hlk hn hn5 HT0 hnk
        obtain ⟨A5, c5, e5⟩ := Kd.R_slice HV.out
        subst e5
        go_wp2
        refine start_ (n := 15) (S := fun w' => w'.cell? ⟨g, 0, none⟩ = some (.slice (some ⟨g2, 0, none⟩) l0.length cap) ∧ w'.cell? (adN.add k) = some (.int .i64 n)) (ds := []) #[false, false, false, false, false, false, false, false, false, false, false, false, false, false, false] (by kernel_rfl) rfl rfl ⟨c0, cN0⟩ (fun hHeld => ?_)
        have H2 := Aside0.mk (H.out.step (below_drew1 (Below.refl _ _)))
        have HV2 := Aside0.mk (Kd.R_below HV.out (below_drew1 (Below.refl _ _)))
        have HSZ2 := Aside0.mk (Nat.le_trans HSZ.out (below_drew1 (Below.refl _ wr) : Below wr.heap.size wr wr.drew).size)
        clear H HV HSZ c0 cN0
        generalize wr.drew = wd at H2 HV2 HSZ2 hHeld ⊢
        have H := H2
        have HV := HV2
        have HSZ := HSZ2
        clear H2 HV2 HSZ2
        obtain ⟨cs, hC, E0⟩ := elem_of_row H.out.row HLK.out
        rw [HSK.out] at E0
        have HC := Aside0.mk hC
        have E := Aside0.mk (HO.out ▸ E0 : InSt wd g2 o 55 cs s wd)
        clear hC E0
        refine pure_ (i := 0) (N := some 33) (v := ?_) (a' := ?_) #[true, false, false, false, false, false, false, false, false, false, false, false, false, false, false] rfl rfl (by kernel_rfl) (fun _ _ _ h => h) (Or.inl ⟨by rfl, ?_⟩) ?_ ?_
        rotate_left
        · intro w'
          go_simp
          with_reducible rfl
        rotate_left
        · exact putB
        refine pure_ (i := 1) (N := some 34) (v := ?_) (a' := ?_) #[true, true, false, false, false, false, false, false, false, false, false, false, false, false, false] rfl rfl (by kernel_rfl) (fun _ _ _ h => h) (Or.inl ⟨by rfl, ?_⟩) ?_ ?_
        rotate_left
        · intro w'
          go_simp
          with_reducible rfl
        rotate_left
        · exact putB
        refine pure_ (i := 2) (N := some 35) (v := ?_) (a' := ?_) #[true, true, true, false, false, false, false, false, false, false, false, false, false, false, false] rfl rfl (by kernel_rfl) (fun _ _ _ h => h) (Or.inl ⟨by rfl, ?_⟩) ?_ ?_
        rotate_left
        · intro w'
          go_simp
          with_reducible rfl
        rotate_left
        · exact putB
        refine pure_ (i := 3) (N := some 36) (v := ?_) (a' := ?_) #[true, true, true, true, false, false, false, false, false, false, false, false, false, false, false] rfl rfl (by kernel_rfl) (fun _ _ _ h => h) (Or.inl ⟨by rfl, ?_⟩) ?_ ?_
        rotate_left
        · intro w'
          go_simp
          with_reducible rfl
        rotate_left
        · exact putB
        refine pure_ (i := 5) (N := some 38) (v := ?_) (a' := ?_) #[true, true, true, true, false, true, false, false, false, false, false, false, false, false, false] rfl rfl (by kernel_rfl) (fun _ _ _ h => h) (Or.inl ⟨by rfl, ?_⟩) ?_ ?_
        rotate_left
        · intro w'
          go_simp
          with_reducible rfl
        rotate_left
        · exact putB
        refine pure_ (i := 7) (N := some 40) (v := ?_) (a' := ?_) #[true, true, true, true, false, true, false, true, false, false, false, false, false, false, false] rfl rfl (by kernel_rfl) (fun _ _ _ h => h) (Or.inl ⟨by rfl, ?_⟩) ?_ ?_
        rotate_left
        · intro w'
          go_simp
          with_reducible rfl
        rotate_left
        · exact putB
        refine pure_ (i := 8) (N := some 41) (v := ?_) (a' := ?_) #[true, true, true, true, false, true, false, true, true, false, false, false, false, false, false] rfl rfl (by kernel_rfl) (fun _ _ _ h => h) (Or.inl ⟨by rfl, ?_⟩) ?_ ?_
        rotate_left
        · intro w'
          go_simp
          with_reducible rfl
        rotate_left
        · exact putB
        refine pure_ (i := 9) (N := some 42) (v := ?_) (a' := ?_) #[true, true, true, true, false, true, false, true, true, true, false, false, false, false, false] rfl rfl (by kernel_rfl) (fun _ _ _ h => h) (Or.inl ⟨by rfl, ?_⟩) ?_ ?_
        rotate_left
        · intro w'
          go_simp
          with_reducible rfl
        rotate_left
        · exact putB
        refine take_ (i := 4) (N := some 37) (v := ?_) (a' := ?_) #[true, true, true, true, true, true, false, true, true, true, false, false, false, false, false] rfl rfl (by kernel_rfl) (fun _ _ _ h => h) (Or.inl ⟨by rfl, ?_⟩) hHeld ?_ ?_
        rotate_left
        · rintro w' ⟨s0, s1⟩
          go_simp
          with_reducible rfl
        rotate_left
        · exact putB
        refine pure_ (i := 6) (N := some 39) (v := ?_) (a' := ?_) #[true, true, true, true, true, true, true, true, true, true, false, false, false, false, false] rfl rfl (by kernel_rfl) (fun _ _ _ h => h) (Or.inl ⟨by rfl, ?_⟩) ?_ ?_
        rotate_left
        · intro w'
          go_simp
          with_reducible rfl
        rotate_left
        · exact putB
        refine take_ (i := 10) (N := some 43) (v := ?_) (a' := ?_) #[true, true, true, true, true, true, true, true, true, true, true, false, false, false, false] rfl rfl (by kernel_rfl) (fun _ _ _ h => h) (Or.inl ⟨by rfl, ?_⟩) hHeld ?_ ?_
        rotate_left
        · rintro w' ⟨s0, s1⟩
          go_simp
          with_reducible rfl
        rotate_left
        · exact putB
        refine one_ (i := 11) (N := some 44) #[true, true, true, true, true, true, true, true, true, true, true, true, false, false, false] rfl rfl (by kernel_rfl) (by decide) (fun K hK => ?_)
        refine goes_ Try.func90 (by kernel_rfl) rfl #[.pointer (some ⟨g2, o, none⟩), .int .i64 n] (by rfl) rfl rfl (by (try simp only [List.map_toArray, List.map_cons, List.map_nil]); first | done | rfl) ?_
        refine (US.out wd cs E.out).mono ?_
        rintro e we ⟨rfl, hE_⟩
        rw [HQ.out] at hE_ ⊢
        have hE_ := (HO.out ▸ hE_ : InSt wd g2 (k * 25) 55 cs q0.1 we)
        refine ⟨_, rfl, ?_⟩
        have H2 := Aside0.mk (H.out.put_elem HC.out HLK.out hE_)
        have HV2 := Aside0.mk ((InH.start H.out.hs H.out.row).keeps ((InH.start H.out.hs H.out.row).put_elem HC.out HLK.out hE_) HV.out)
        have HSZ2 := Aside0.mk (Nat.le_trans HSZ.out hE_.gr.size)
        clear H E HV hE_ HSZ
        have H := H2
        have HV := HV2
        have HSZ := HSZ2
        clear H2 HV2 HSZ2
        have cH : we.cell? ⟨g, 0, none⟩ = some (.slice (some ⟨g2, 0, none⟩) l0.length cap) := (H.out.cell 0).trans (by rw [List.length_set, HLL.out]; rfl)
        have cN : we.cell? (adN.add k) = some (.int .i64 n) := CN.out _ _ H.out
        refine hK.out _ _ ⟨cH, cN⟩ (fun hHeld => ?_)
        clear hK K
        refine norm_ (a' := ?_) ?_ ?_
        rotate_left
        · show Act.put _ (some 44) _ = _
          exact putB
        refine one_ (i := 12) (N := some 45) #[true, true, true, true, true, true, true, true, true, true, true, true, true, false, false] rfl rfl (by kernel_rfl) (by decide) (fun K hK => ?_)
        refine Kd.R_lit_step (Kd.int .i64) _ 2 ?hg (N := 45) ?hd (xs := ([q0.2] : List Int)) (inner := [.int .i64 q0.2]) (ok := fun _ => True) (okp := fun _ => True) ?hr ?hp (fun _ hk => hk) trivial (Below.refl _ _) (Nat.le_refl _) (by simp) ?_; (case hd => rfl); (case hg => rfl); (case hr => first | (go_simp; done) | (go_simp; rfl)); (case hp => exact (Reps.one (show Kd.M (Kd.int .i64) _ _ _ q0.2 [.int .i64 q0.2] from rfl) (Reps.none _ _)))
        intro v28 wa ho_ hb hg_ hnew_
        clear hg_ hnew_ cH cN
        have HL := Aside0.mk (Kd.R_lower ho_ HSZ.out)
        have HV2 := Aside0.mk (Kd.R_elder' HV.out (Kd.R_base ho_) hb)
        have H2 := Aside0.mk (H.out.step hb)
        have HSZ2 := Aside0.mk (Nat.le_trans HSZ.out hb.size)
        clear H HV HSZ ho_
        have H := H2
        have HV := HV2
        have HSZ := HSZ2
        clear H2 HV2 HSZ2 hb
        have cH : wa.cell? ⟨g, 0, none⟩ = some (.slice (some ⟨g2, 0, none⟩) l0.length cap) := (H.out.cell 0).trans (by rw [List.length_set, HLL.out]; rfl)
        have cN : wa.cell? (adN.add k) = some (.int .i64 n) := CN.out _ _ H.out
        refine hK.out _ _ ⟨cH, cN⟩ (fun hHeld => ?_)
        clear hK K
        refine norm_ (a' := ?_) ?_ ?_
        rotate_left
        · show Act.put _ (some 45) _ = _
          exact putB
        refine one_ (i := 13) (N := some 46) #[true, true, true, true, true, true, true, true, true, true, true, true, true, true, false] rfl rfl (by kernel_rfl) (by decide) (fun K hK => ?_)
        obtain ⟨Al, cl, el⟩ := Kd.R_slice HL.out
        (first | subst el | (injection el with f1_ f2_ f3_; have f4_ := f1_.symm; have f5_ := f3_.symm; clear f1_ f2_ f3_; subst f4_; subst f5_))
        refine Kd.R_append_rows_step (Kd.int .i64) (w0 := wa) W.heap.size (by rfl) (.tmp 33) (.tmp 45) 49 2 (.int .i64 0) 8 rfl Try.underlying49 info2 rfl (by decide) (by omega) (.slice A5 out.length c5) out [q0.2] _ _ _ (fun k_ => some k_ ≠ (.slice Al [q0.2].length cl : Value).ownBlock) (fun _ => False) rfl rfl ?aO ?aR (fun _ _ h => h) (fun _ h => h.elim) ?aF ?aB ?aS ?aL ?_
        (case aR => exact (Kd.R_reads' HL.out).2.2)
        (case aB => exact Below.refl _ _)
        (case aF => exact (fun k_ hk => Kd.fresh' (Kd.R_lt HL.out) k_ hk))
        (case aO => exact Kd.R_mono HV.out (fun _ hk => hk.2))
        (case aS => exact HSZ.out)
        (case aL => have := HF0.out.2.2; have := HLT.out; have := HL4.out; simp only [List.length_singleton]; omega)
        intro v29 wc ho hb hg hat
        have HO29 := Aside0.mk (Kd.R_mono ho (fun _ _ => trivial) : Kd.R (Kd.int .i64) 2 wc W.heap.size (fun _ => True) v29 (out ++ [q0.2]))
        have NR := H.out.row_ne HV.out
        have H2 := Aside0.mk (H.out.grown hg NR.1 NR.2 (fun k_ e_ => Nat.le_trans HSW.out (Kd.R_base HV.out k_ e_)))
        have HSZ2 := Aside0.mk (Nat.le_trans HSZ.out hg.size)
        clear H HV HSZ ho hb hg hat NR cH cN HL
        have H := H2
        have HSZ := HSZ2
        clear H2 HSZ2
        have cH : wc.cell? ⟨g, 0, none⟩ = some (.slice (some ⟨g2, 0, none⟩) l0.length cap) := (H.out.cell 0).trans (by rw [List.length_set, HLL.out]; rfl)
        have cN : wc.cell? (adN.add k) = some (.int .i64 n) := CN.out _ _ H.out
        obtain ⟨on, hon⟩ : ∃ q, out ++ [q0.2] = q := ⟨_, rfl⟩
        rw [hon] at HO29
        obtain ⟨A6, c6, e6⟩ := Kd.R_slice HO29.out
        subst e6
        have HON := Aside0.mk hon
        clear hon
        refine hK.out _ _ ⟨cH, cN⟩ (fun hHeld => ?_)
        clear hK K
        refine norm_ (a' := ?_) ?_ ?_
        rotate_left
        · show Act.put _ (some 46) _ = _
          exact putB
        refine pure_ (i := 14) (N := some 6) (v := ?_) (a' := ?_) #[true, true, true, true, true, true, true, true, true, true, true, true, true, true, true] rfl rfl (by kernel_rfl) (fun _ _ _ h => h) (Or.inl ⟨by rfl, ?_⟩) ?_ ?_
        rotate_left
        · intro w'
          go_simp
          with_reducible rfl
        rotate_left
        · exact putB
        refine done_ (by kernel_rfl) ?_
        go_wp2
        have hlt_ := HLT.out
        have hmx_ := HMX.out
        go_roundg (l0.length - (k + 1))
        case measure => omega
        case rel => exact ⟨k + 1, lk.set k q0.1, on, by omega, by omega, by have hw_ : wrap64 ((k : Int) + 1) = ((k + 1 : Nat) : Int) := (w64i (by omega) (by omega)).trans (by omega); first | rfl | rw [hw_] | (simp only [i64_w, hw_]) | go_num, ⟨HNX.out.trans (by rw [HON.out])⟩, ⟨by have := HOK.out (k + 1) HLT.out; rw [HNX.out, HON.out] at this; exact this⟩, H, HO29, HSZ⟩
      · have hltz : ¬ (k : Int) < (l0.length : Int) := by omega
        obtain rfl : k = l0.length := by omega
        have c0 : wr.cell? ⟨g, 0, none⟩ = some (.slice (some ⟨g2, 0, none⟩) l0.length cap) := by rw [← HF0.out.2.1]; exact H.out.cell 0
        have c3 : wr.cell? ⟨g, 3, none⟩ = some (.int .i16 a3) := H.out.cell 3
        have f3 : wr.frozen? ⟨g, 3, none⟩ = false := H.out.free 3
        have hw1 : IntKind.i16.wrap (a3 + 1) = a3 + 1 := wrap16_id (by have := HTD.out; omega) (by have := HTD.out; omega)
        go_wp2
        have H2 := Aside0.mk (H.out.today (a3 + 1))
        have HV2 := Aside0.mk ((InH.start H.out.hs H.out.row).keeps ((InH.start H.out.hs H.out.row).today (a3 + 1)) HV.out)
        clear H HV c0 c3 f3 hw1
        generalize wr.setCell ⟨g, 3, none⟩ (.int .i16 (a3 + 1)) = wt at H2 HV2 ⊢
        have H := H2
        have HV := HV2
        clear H2 HV2
        have c2 : wt.cell? ⟨g, 2, none⟩ = some (.int .i8 a2) := H.out.cell 2
        have c3 : wt.cell? ⟨g, 3, none⟩ = some (.int .i16 (a3 + 1)) := H.out.cell 3
        have hw1 : wrap64 (a3 + 1) = a3 + 1 := w64i (by have := HTD.out; omega) (by have := HTD.out; omega)
        have hw2 : wrap64 a2 = a2 := w64i (by have := HEV.out; omega) (by have := HEV.out; omega)
        have hz : a2 ≠ 0 := by have := HEV.out; omega
        have hm0 : 0 ≤ (a3 + 1) % a2 := Int.emod_nonneg _ hz
        have hm1 : (a3 + 1) % a2 < a2 := Int.emod_lt_of_pos _ (by have := HEV.out; omega)
        have ht : (a3 + 1).tmod a2 = (a3 + 1) % a2 := Int.tmod_eq_emod_of_nonneg (by have := HTD.out; omega)
        have hw3 : wrap64 ((a3 + 1).tmod a2) = (a3 + 1) % a2 := by rw [ht]; exact w64i (by omega) (by have := HEV.out; omega)
        clear hm0 hm1
        have HTM := Aside0.mk ht
        clear ht
        obtain ⟨md, hmd⟩ : ∃ md, (a3 + 1) % a2 = md := ⟨_, rfl⟩
        rw [hmd] at hw3
        have HMD := Aside0.mk hmd
        clear hmd
        refine start_ (n := 12) (S := fun w' => w'.cell? ⟨g, 2, none⟩ = some (.int .i8 a2) ∧ w'.cell? ⟨g, 3, none⟩ = some (.int .i16 (a3 + 1))) (ds := []) #[false, false, false, false, false, false, false, false, false, false, false, false] (by kernel_rfl) rfl rfl ⟨c2, c3⟩ (fun hHeld => ?_)
        refine pure_ (i := 0) (N := some 54) (v := ?_) (a' := ?_) #[true, false, false, false, false, false, false, false, false, false, false, false] rfl rfl (by kernel_rfl) (fun _ _ _ h => h) (Or.inl ⟨by rfl, ?_⟩) ?_ ?_
        rotate_left
        · intro w'
          go_simp
          with_reducible rfl
        rotate_left
        · exact putB
        refine pure_ (i := 1) (N := some 55) (v := ?_) (a' := ?_) #[true, true, false, false, false, false, false, false, false, false, false, false] rfl rfl (by kernel_rfl) (fun _ _ _ h => h) (Or.inl ⟨by rfl, ?_⟩) ?_ ?_
        rotate_left
        · intro w'
          go_simp
          with_reducible rfl
        rotate_left
        · exact putB
        refine pure_ (i := 2) (N := some 56) (v := ?_) (a' := ?_) #[true, true, true, false, false, false, false, false, false, false, false, false] rfl rfl (by kernel_rfl) (fun _ _ _ h => h) (Or.inl ⟨by rfl, ?_⟩) ?_ ?_
        rotate_left
        · intro w'
          go_simp
          with_reducible rfl
        rotate_left
        · exact putB
        refine pure_ (i := 5) (N := some 59) (v := ?_) (a' := ?_) #[true, true, true, false, false, true, false, false, false, false, false, false] rfl rfl (by kernel_rfl) (fun _ _ _ h => h) (Or.inl ⟨by rfl, ?_⟩) ?_ ?_
        rotate_left
        · intro w'
          go_simp
          with_reducible rfl
        rotate_left
        · exact putB
        refine pure_ (i := 6) (N := some 60) (v := ?_) (a' := ?_) #[true, true, true, false, false, true, true, false, false, false, false, false] rfl rfl (by kernel_rfl) (fun _ _ _ h => h) (Or.inl ⟨by rfl, ?_⟩) ?_ ?_
        rotate_left
        · intro w'
          go_simp
          with_reducible rfl
        rotate_left
        · exact putB
        refine pure_ (i := 7) (N := some 61) (v := ?_) (a' := ?_) #[true, true, true, false, false, true, true, true, false, false, false, false] rfl rfl (by kernel_rfl) (fun _ _ _ h => h) (Or.inl ⟨by rfl, ?_⟩) ?_ ?_
        rotate_left
        · intro w'
          go_simp
          with_reducible rfl
        rotate_left
        · exact putB
        refine take_ (i := 3) (N := some 57) (v := ?_) (a' := ?_) #[true, true, true, true, false, true, true, true, false, false, false, false] rfl rfl (by kernel_rfl) (fun _ _ _ h => h) (Or.inl ⟨by rfl, ?_⟩) hHeld ?_ ?_
        rotate_left
        · rintro w' ⟨s0, s1⟩
          go_simp
          with_reducible rfl
        rotate_left
        · exact putB
        refine pure_ (i := 4) (N := some 58) (v := ?_) (a' := ?_) #[true, true, true, true, true, true, true, true, false, false, false, false] rfl rfl (by kernel_rfl) (fun _ _ _ h => h) (Or.inl ⟨by rfl, ?_⟩) ?_ ?_
        rotate_left
        · intro w'
          go_simp
          with_reducible rfl
        rotate_left
        · exact putB
        refine take_ (i := 8) (N := some 62) (v := ?_) (a' := ?_) #[true, true, true, true, true, true, true, true, true, false, false, false] rfl rfl (by kernel_rfl) (fun _ _ _ h => h) (Or.inl ⟨by rfl, ?_⟩) hHeld ?_ ?_
        rotate_left
        · rintro w' ⟨s0, s1⟩
          go_simp
          with_reducible rfl
        rotate_left
        · exact putB
        refine pure_ (i := 9) (N := some 63) (v := ?_) (a' := ?_) #[true, true, true, true, true, true, true, true, true, true, false, false] rfl rfl (by kernel_rfl) (fun _ _ _ h => h) (Or.inl ⟨by rfl, ?_⟩) ?_ ?_
        rotate_left
        · intro w'
          go_simp
          with_reducible rfl
        rotate_left
        · exact putB
        refine pure_ (i := 10) (N := some 64) (v := ?_) (a' := ?_) #[true, true, true, true, true, true, true, true, true, true, true, false] rfl rfl (by kernel_rfl) (fun _ _ _ h => h) (Or.inl ⟨by rfl, ?_⟩) ?_ ?_
        rotate_left
        · intro w'
          go_simp
          with_reducible rfl
        rotate_left
        · exact putB
        refine pure_ (i := 11) (N := some 65) (v := ?_) (a' := ?_) #[true, true, true, true, true, true, true, true, true, true, true, true] rfl rfl (by kernel_rfl) (fun _ _ _ h => h) (Or.inl ⟨by rfl, ?_⟩) ?_ ?_
        rotate_left
        · intro w'
          go_simp
          with_reducible rfl
        rotate_left
        · exact putB
        refine done_ (by kernel_rfl) ?_
        have HD := Aside0.mk (H.out.step (below_drew1 (Below.refl _ _)))
        have HVD := Aside0.mk (Kd.R_below HV.out (below_drew1 (Below.refl _ _)))
        clear H HV c2 c3 hHeld
        generalize wt.drew = wd at HD HVD ⊢
        by_cases c : md = 0
        · have HX := Aside0.mk (show dayOf l0 a1 a2 a3 needs = (washH lk a1, out) by unfold dayOf; rw [if_pos (HMD.out.trans c), HT0.out])
          have d1 : decide (md = 0) = true := decide_eq_true c
          have d3 : (md == 0) = true := beq_iff_eq.mpr c
          have d2 : ((a3 + 1).tmod a2 == 0) = true := by rw [HTM.out, HMD.out, c]; rfl
          clear c
          go_wp2_with (go_at_call 118; refine (l05Wash_walk wd wd g g2 cap lk a1 a2 (a3 + 1) HF0.out.1 HTB.out (InH.start HD.out.hs HD.out.row)).mono ?_; rintro e w9 ⟨⟨x, rfl⟩, hI⟩; have HI := Aside0.mk hI; clear hI)
          go_ret2
          refine ⟨_, by rw [HDC.out]; rfl, ?_, fun _ => ?_, fun h => absurd HDC.out h⟩
          · rw [if_pos HDC.out, HX.out]
            exact (InH.start HD.out.hs HD.out.row).keeps HI.out HVD.out
          · rw [HX.out]
            exact HD.out.trans HI.out
        · have HX := Aside0.mk (show dayOf l0 a1 a2 a3 needs = (lk, out) by unfold dayOf; rw [if_neg (fun e => c (HMD.out.symm.trans e)), HT0.out])
          have d1 : decide (md = 0) = false := decide_eq_false c
          have d3 : (md == 0) = false := beq_eq_false_iff_ne.mpr c
          have d2 : ((a3 + 1).tmod a2 == 0) = false := by rw [HTM.out, HMD.out]; exact beq_eq_false_iff_ne.mpr c
          clear c
          go_wp2
          go_ret2
          refine ⟨_, by rw [HDC.out]; rfl, ?_, fun _ => ?_, fun h => absurd HDC.out h⟩
          · rw [if_pos HDC.out, HX.out]
            exact HVD.out
          · rw [HX.out]
            exact HD.out
   · have hdc : dayC l0 a3 needs = 4 := by unfold dayC; rw [hok, decide_eq_false ht6]; rfl
     have hz6 : (a3 == 60) = true := by rw [beq_iff_eq]; have := HTA.out; omega
     have HDC := Aside0.mk hdc
     rw [hok] at HND
     clear hok hNL hdc ht6
     go_enter Try.func59, Try.ntmps59
     go_wp2_with (first | ((with_reducible refine gate_dst (N := 8) rfl ?_); refine Kd.R_lit (Kd.int .i64) _ 2 ?hg (N := 8) ?hd (xs := ([] : List Int)) (inner := []) (ok := fun _ => True) (okp := fun _ => True) ?hr ?hp (fun _ hk => hk) trivial (Below.refl _ _) (Nat.le_refl _) (by simp) ?_; (case hd => rfl); (case hg => rfl); (case hr => first | (go_simp; done) | (go_simp; rfl)); (case hp => exact (Reps.none _ _)); intro v7 w1 ho_ hb_ hg_ hnew_; clear hg_ hnew_; have HV := Aside0.mk ho_; have HB := Aside0.mk hb_; clear ho_ hb_; have c0 : w1.cell? ⟨g, 0, none⟩ = some (.slice (some ⟨g2, 0, none⟩) l0.length cap) := (HH.out.step HB.out).cell 0; have c3 : w1.cell? ⟨g, 3, none⟩ = some (.int .i16 a3) := (HH.out.step HB.out).cell 3) | (go_at_call 97; (with_reducible refine (HND.out _ ?side1).mono ?_); (case side1 => exact HB.out); rintro e w2 ⟨rfl, hd⟩; have n_ := Aside0.mk (below_step HB.out hd.below); have m_ := Aside0.mk (Kd.R_below HV.out hd.below); clear HB HV hd c0 c3; have HB := n_; have HV := m_; clear n_ m_; have c0 : w2.cell? ⟨g, 0, none⟩ = some (.slice (some ⟨g2, 0, none⟩) l0.length cap) := (HH.out.step HB.out).cell 0; have c3 : w2.cell? ⟨g, 3, none⟩ = some (.int .i16 a3) := (HH.out.step HB.out).cell 3))
     go_ret2
     refine ⟨_, by rw [HDC.out]; rfl, ?_, fun h => absurd (HDC.out.symm.trans h) (by decide), fun _ => HB.out⟩
     rw [HDC.out, if_neg (by decide)]
     exact HV.out
 · have hokf : needOk l0 needs = false := by simpa using hok
   have hdc : dayC l0 a3 needs = 2 := by unfold dayC; rw [hokf]; rfl
   have HDC := Aside0.mk hdc
   rw [hokf] at HND
   clear hok hokf hdc
   go_enter Try.func59, Try.ntmps59
   go_wp2_with (first | ((with_reducible refine gate_dst (N := 8) rfl ?_); refine Kd.R_lit (Kd.int .i64) _ 2 ?hg (N := 8) ?hd (xs := ([] : List Int)) (inner := []) (ok := fun _ => True) (okp := fun _ => True) ?hr ?hp (fun _ hk => hk) trivial (Below.refl _ _) (Nat.le_refl _) (by simp) ?_; (case hd => rfl); (case hg => rfl); (case hr => first | (go_simp; done) | (go_simp; rfl)); (case hp => exact (Reps.none _ _)); intro v7 w1 ho_ hb_ hg_ hnew_; clear hg_ hnew_; have HV := Aside0.mk ho_; have HB := Aside0.mk hb_; clear ho_ hb_; have c0 : w1.cell? ⟨g, 0, none⟩ = some (.slice (some ⟨g2, 0, none⟩) l0.length cap) := (HH.out.step HB.out).cell 0; have c3 : w1.cell? ⟨g, 3, none⟩ = some (.int .i16 a3) := (HH.out.step HB.out).cell 3) | (go_at_call 97; (with_reducible refine (HND.out _ ?side1).mono ?_); (case side1 => exact HB.out); rintro e w2 ⟨rfl, hd⟩; have n_ := Aside0.mk (below_step HB.out hd.below); have m_ := Aside0.mk (Kd.R_below HV.out hd.below); clear HB HV hd c0 c3; have HB := n_; have HV := m_; clear n_ m_; have c0 : w2.cell? ⟨g, 0, none⟩ = some (.slice (some ⟨g2, 0, none⟩) l0.length cap) := (HH.out.step HB.out).cell 0; have c3 : w2.cell? ⟨g, 3, none⟩ = some (.int .i16 a3) := (HH.out.step HB.out).cell 3))
   go_ret2
   refine ⟨_, by rw [HDC.out]; rfl, ?_, fun h => absurd (HDC.out.symm.trans h) (by decide), fun _ => HB.out⟩
   rw [HDC.out, if_neg (by decide)]
   exact HV.out
theorem l05Day_walk (w0 W0 W : World) (g g2 cap : Nat) (l0 : List S55) (a1 a2 a3 : Int) (A1 : Option Addr) (cN : Nat) (needs : List Int) (hf : FitL l0) (hn : 0 ≤ a1 ∧ a1 ≤ 1000) (he : 1 ≤ a2 ∧ a2 ≤ 7) (ht : 0 ≤ a3 ∧ a3 ≤ 60) (h4 : l0.length ≤ 4)
 (hr : Kd.C (Kd.int .i64) w0 A1 needs.length needs) (hc : needs.length ≤ cN) (hb : Below w0.heap.size w0 W0) (hg : w0.heap.size ≤ g ∧ w0.heap.size ≤ g2) (H : InH W0 g g2 cap l0 a1 a2 a3 W) :
 Calls Try.prog 59 #[.pointer (some ⟨g, 0, none⟩), .slice A1 needs.length cN] W fun e w' => Day2Post W0 g g2 cap l0 a1 a2 a3 needs W e w' :=
 l05Day_at W0 W g g2 cap l0 a1 a2 a3 A1 cN needs hf hn he ht h4 (fun w' l' b3 hI => Kd.C_below hr (hI.below hb hg.1 hg.2)) hc H
end Go.Proofs.Ytggjdcijplgpdaa.H
