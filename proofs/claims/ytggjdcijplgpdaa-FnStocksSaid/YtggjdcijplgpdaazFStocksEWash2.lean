import Derived.Test.YtggjdcijplgpdaazFStocksEPutB
import Derived.Test.YtggjdcijplgpdaazFStocksEInH
import Derived.Test.YtggjdcijplgpdaazFStocksEDayOf
import Derived.Test.YtggjdcijplgpdaazFStocksECloneSt
import Derived.Test.YtggjdcijplgpdaazFStocksH1
import Derived.Shelf.Abstract
import Derived.Deep.QuietTactic
import Derived.BigQuiet
namespace Go.Proofs.Ytggjdcijplgpdaa.H
open Go.RowKit Go.Proofs.YtggjdcijplgpdaaW.PrintWords Go.Proofs.YtggjdcijplgpdaaW.PrintLast Go.Proofs.YtggjdcijplgpdaaW.PrintMore
attribute [local go_sem] max2_int min2_int max_two min_two max_three min_three max_four min_four
set_option linter.unusedVariables false
set_option linter.unusedSimpArgs false
theorem l00Min_mn (n C : Int) (h0 : -32768 ≤ C) (h1 : C < 32768) : spec_l00Min.f n (wrap64 C) = some (mn C n) := by
 rw [w64i (by omega) (by omega)]
 unfold spec_l00Min.f
 show _ = some (if n < C then n else C)
 by_cases h : n < C
 · rw [if_pos h, if_pos h]
 · rw [if_neg h, if_neg h]
set_option maxHeartbeats 40000000 in
set_option maxRecDepth 100000 in
theorem l05Wash_walk (W0 W : World) (g g2 cap : Nat) (l : List S55) (a1 a2 a3 : Int) (hf : FitL l) (hn : 0 ≤ a1 ∧ a1 ≤ 1000) (H : InH W0 g g2 cap l a1 a2 a3 W) :
 Calls Try.prog 118 #[.pointer (some ⟨g, 0, none⟩)] W fun e w' => (∃ x : Int, e = .returned (.int .i64 x)) ∧ InH W0 g g2 cap (washH l a1) a1 a2 a3 w' := by
 have hu32 := Try.underlying32
 have hu53 := Try.underlying53
 have hu55 := Try.underlying55
 have HMX := Aside0.mk (Kd.C_max (C_of_row H.row))
 have HOK := Aside0.mk (fun k (hk : k ≤ l.length) => washTo_ok hf hn k hk)
 have c1 : W.cell? ⟨g, 1, none⟩ = some (.int .i16 a1) := H.cell 1
 have HW1 := Aside0.mk (show wrap64 a1 = a1 from w64i (by omega) (by omega))
 have HH := Aside0.mk H
 clear H hf hn
 go_enter Try.func118, Try.ntmps118
 go_wp2
 clear c1
 go_loopg [3, 4] l.length (fun gk v3 v4 wr => ∃ (k : Nat) (lk : List S55) (nk : Int), k ≤ l.length ∧ l.length - k ≤ gk ∧ v4 = .int .i64 k ∧ v3 = .int .i64 nk ∧ Aside0 (washTo l a1 k = (lk, nk)) ∧ Aside0 (FitL lk ∧ (0 ≤ nk ∧ nk ≤ 1000) ∧ lk.length = l.length) ∧ Aside0 (InH W0 g g2 cap lk a1 a2 a3 wr))
 case atStart => exact ⟨0, l, wrap64 a1, by omega, by omega, rfl, rfl, ⟨by rw [HW1.out]; rfl⟩, ⟨by rw [HW1.out]; exact HOK.out 0 (Nat.zero_le _)⟩, HH⟩
 case round =>
  clear HH
  obtain ⟨k, lk, nk, hk, hgk, rfl, rfl, HT0, HF0, H⟩ := hrel
  by_cases hlt : k < l.length
  · have hltz : (k : Int) < (l.length : Int) := by omega
    have hlk : k < lk.length := by have := HF0.out.2.2; omega
    have c0 : wr.cell? ⟨g, 0, none⟩ = some (.slice (some ⟨g2, 0, none⟩) l.length cap) := by rw [← HF0.out.2.2]; exact H.out.cell 0
    obtain ⟨cs, hC, E0⟩ := elem_of_row H.out.row hlk
    obtain ⟨o, ho⟩ : ∃ o, k * 25 = o := ⟨_, rfl⟩
    have hs := HF0.out.1.at_ hlk
    generalize hsk : lk.getD k z55 = s at E0 hs
    obtain ⟨q0, hq0⟩ : ∃ q0, washes 8 (s, nk) = q0 := ⟨_, rfl⟩
    have HNX := Aside0.mk (show washTo l a1 (k + 1) = (lk.set k q0.1, q0.2) by rw [washTo, HT0.out]; show (lk.set k (washes 8 (lk.getD k z55, nk)).1, (washes 8 (lk.getD k z55, nk)).2) = _; rw [hsk, hq0])
    have HC := Aside0.mk hC
    have HO := Aside0.mk ho
    have HLK := Aside0.mk hlk
    have HLT := Aside0.mk hlt
    have HQ := Aside0.mk hq0
    have HS := Aside0.mk hs
    have HLL := Aside0.mk HF0.out.2.2
    have E := Aside0.mk (ho ▸ E0)
    clear E0 hC hlk hs hsk hq0 HT0 ho
    go_wp2
    clear c0
    obtain ⟨W1, hW1⟩ : ∃ W1, W1 = wr := ⟨_, rfl⟩
    have E := Aside0.mk (show InSt W1 g2 o 55 cs s wr from hW1 ▸ E.out)
    have H := Aside0.mk (show InH W0 g g2 cap lk a1 a2 a3 W1 from hW1 ▸ H.out)
    clear hW1
    have HCH := Aside0.mk (fun (w' : World) (s' : S55) (E' : InSt W1 g2 o 55 cs s' w') => show w'.cell? ⟨g, 0, none⟩ = some (.slice (some ⟨g2, 0, none⟩) l.length cap) from ((H.out.put_elem HC.out HLK.out (HO.out ▸ E')).cell 0).trans (by rw [List.length_set, HLL.out]; rfl))
    go_loopg [3, 5] 8 (fun gk v3 v5 wr => ∃ (i : Nat) (z : Int) (s' : S55) (n' : Int), i ≤ 8 ∧ i ≤ gk ∧ z = (i : Int) - 1 ∧ v5 = .int .i64 z ∧ v3 = .int .i64 n' ∧ Aside0 (FitSt s' ∧ 0 ≤ n' ∧ n' ≤ 1000) ∧ Aside0 (washes i (s', n') = q0) ∧ Aside0 (InSt W1 g2 o 55 cs s' wr))
    case atStart => exact ⟨8, 7, s, nk, by omega, by omega, by omega, rfl, rfl, ⟨⟨HS.out, HF0.out.2.1⟩⟩, HQ, E⟩
    case round =>
     clear E
     obtain ⟨i, z, s', n', hi2, hgk2, hz, rfl, rfl, HF1, HT, E⟩ := hrel
     cases i with
     | zero =>
      obtain rfl : z = -1 := by omega
      have hlt_ := HLT.out
      have hmx_ := HMX.out
      have H2 := Aside0.mk (show InH W0 g g2 cap (lk.set k s') a1 a2 a3 wr from H.out.put_elem HC.out HLK.out (HO.out ▸ E.out))
      have HN2 := Aside0.mk (show washTo l a1 (k + 1) = (lk.set k s', n') by rw [HNX.out, ← HT.out]; rfl)
      have HF2 := Aside0.mk (HOK.out (k + 1) HLT.out)
      rw [HN2.out] at HF2
      clear hz
      go_wp2
      go_roundg (l.length - (k + 1))
      case measure => omega
      case rel => exact ⟨k + 1, lk.set k s', n', by omega, by omega, by have hw_ : wrap64 ((k : Int) + 1) = ((k + 1 : Nat) : Int) := (w64i (by omega) (by omega)).trans (by omega); first | rfl | rw [hw_] | (simp only [i64_w, hw_]) | go_num, rfl, HN2, HF2, H2⟩
     | succ q =>
      obtain rfl : z = (q : Int) := by omega
      have hq8 : (q : Int) < 8 := by omega
      have hq0 : 0 ≤ (q : Int) := by omega
      have hgez : (q : Int) ≥ 0 := by omega
      have hqn : q < 8 := by omega
      obtain ⟨C, hC⟩ : ∃ C, s'.at_ (16 + q) = C := ⟨_, rfl⟩
      obtain ⟨m, hm⟩ : ∃ m, mn C n' = m := ⟨_, rfl⟩
      have bC := at_pos HF1.out.1 (16 + q)
      have bC2 := at_le HF1.out.1 (16 + q)
      rw [hC] at bC bC2
      obtain ⟨b1, b2, b3⟩ := mn_bd bC HF1.out.2.1
      rw [hm] at b1 b2 b3
      have n0 := HF1.out.2.1
      have n5 := HF1.out.2.2
      obtain ⟨s1, hs1⟩ : ∃ s1, s'.put (16 + q) (C - m) = s1 := ⟨_, rfl⟩
      obtain ⟨U, hU⟩ : ∃ U, s1.at_ q = U := ⟨_, rfl⟩
      obtain ⟨s2, hs2⟩ : ∃ s2, s1.put q (U + m) = s2 := ⟨_, rfl⟩
      have et : washStep q (s', n') = (s2, n' - m) := by
       show ((s'.put (16 + q) (s'.at_ (16 + q) - mn (s'.at_ (16 + q)) n')).put q ((s'.put (16 + q) (s'.at_ (16 + q) - mn (s'.at_ (16 + q)) n')).at_ q + mn (s'.at_ (16 + q)) n'), n' - mn (s'.at_ (16 + q)) n') = (s2, n' - m)
       rw [hC, hm, hs1, hU, hs2]
      have hf2 := fit_wash HF1.out.1 HF1.out.2 q hqn
      rw [et] at hf2
      have bU : s2.at_ q = U + m := by rw [← hs2, S55.put_at _ _ _ _ (by omega), if_pos rfl]
      have bU1 := at_pos hf2.1 q
      have bU2 := at_le hf2.1 q
      rw [bU] at bU1 bU2
      have HT2 := Aside0.mk (show washes q (s2, n' - m) = q0 by rw [← HT.out, ← et]; rfl)
      have HF2 := Aside0.mk hf2
      have HMN := Aside0.mk (fun (w : World) => spec_l00Min.calls n' (wrap64 C) m w ((l00Min_mn n' C (by omega) (by omega)).trans (congrArg some hm)))
      have hw0 : IntKind.i16.wrap m = m := wrap16_id (by omega) (by omega)
      have hw1 : IntKind.i16.wrap (C - m) = C - m := wrap16_id (by omega) (by omega)
      have hw3 : wrap64 (n' - m) = n' - m := w64i (by omega) (by omega)
      have hw6 : IntKind.i16.wrap (U + m) = U + m := wrap16_id (by omega) (by omega)
      have HE1 := Aside0.mk (fun {w : World} (E' : InSt W1 g2 o 55 cs s' w) => show InSt W1 g2 o 55 cs s1 (w.setCell ⟨g2, o + 16 + q, none⟩ (.int .i16 (C - m))) by
       have h := E'.put (16 + q) (by omega) (C - m)
       rw [hs1, ← Nat.add_assoc, show encSt (16 + q) (C - m) = .int .i16 (C - m) by unfold encSt; rw [if_pos (by omega)]] at h
       exact h)
      have HE2 := Aside0.mk (fun {w : World} (E' : InSt W1 g2 o 55 cs s1 w) => show InSt W1 g2 o 55 cs s2 (w.setCell ⟨g2, o + q, none⟩ (.int .i16 (U + m))) by
       have h := E'.put q (by omega) (U + m)
       rw [hs2, show encSt q (U + m) = .int .i16 (U + m) by unfold encSt; rw [if_pos (by omega)]] at h
       exact h)
      have HCD := Aside0.mk (fun {w : World} (E' : InSt W1 g2 o 55 cs s' w) => show w.cell? ⟨g2, o + 16 + q, none⟩ = some (.int .i16 C) by
       have h := E'.cell (16 + q) (by omega)
       rw [hC, ← Nat.add_assoc, show encSt (16 + q) C = .int .i16 C by unfold encSt; rw [if_pos (by omega)]] at h
       exact h)
      have HCU := Aside0.mk (fun {w : World} (E' : InSt W1 g2 o 55 cs s1 w) => show w.cell? ⟨g2, o + q, none⟩ = some (.int .i16 U) by
       have h := E'.cell q (by omega)
       rw [hU, show encSt q U = .int .i16 U by unfold encSt; rw [if_pos (by omega)]] at h
       exact h)
      have cQ := HCD.out E.out
      have cH := HCH.out _ _ E.out
      have HO' := HO.out
      clear hm hs1 hU hs2 hC et hf2 bU bU1 bU2 HT HF1 b1 b2 b3 n0 n5 hz bC bC2
      go_wp2_with (first | (go_at_call 131; (with_reducible refine (HMN.out _).mono ?_); rintro e wm ⟨rfl, hd⟩; have n_ := Aside0.mk (E.out.drawn hd); clear E hd cQ cH; have E := n_; clear n_; have cQ := HCD.out E.out; have cH := HCH.out _ _ E.out))
      refine start_ (n := 17) (S := fun w' => w'.cell? ⟨g2, o + 16 + q, none⟩ = some (.int .i16 C) ∧ w'.cell? ⟨g, 0, none⟩ = some (.slice (some ⟨g2, 0, none⟩) l.length cap)) (ds := [16]) #[false, false, false, false, false, false, false, false, false, false, false, false, false, false, false, false, false] (by kernel_rfl) rfl rfl ⟨cQ, cH⟩ (fun hHeld => ?_)
      have E1 := Aside0.mk E.out.drew
      clear E cQ cH
      generalize wm.drew = wd at E1 hHeld ⊢
      have cQ : wd.cell? ⟨g2, o + 16 + q, none⟩ = some (.int .i16 C) := hHeld.1
      have cH : wd.cell? ⟨g, 0, none⟩ = some (.slice (some ⟨g2, 0, none⟩) l.length cap) := hHeld.2
      refine pure_ (i := 0) (N := some 41) (v := ?_) (a' := ?_) #[true, false, false, false, false, false, false, false, false, false, false, false, false, false, false, false, false] rfl rfl (by kernel_rfl) (fun _ _ _ h => h) (Or.inl ⟨by rfl, ?_⟩) ?_ ?_
      rotate_left
      · intro w'
        go_simp
        with_reducible rfl
      rotate_left
      · exact putB
      refine pure_ (i := 1) (N := some 42) (v := ?_) (a' := ?_) #[true, true, false, false, false, false, false, false, false, false, false, false, false, false, false, false, false] rfl rfl (by kernel_rfl) (fun _ _ _ h => h) (Or.inl ⟨by rfl, ?_⟩) ?_ ?_
      rotate_left
      · intro w'
        go_simp
        with_reducible rfl
      rotate_left
      · exact putB
      refine pure_ (i := 2) (N := some 43) (v := ?_) (a' := ?_) #[true, true, true, false, false, false, false, false, false, false, false, false, false, false, false, false, false] rfl rfl (by kernel_rfl) (fun _ _ _ h => h) (Or.inl ⟨by rfl, ?_⟩) ?_ ?_
      rotate_left
      · intro w'
        go_simp
        with_reducible rfl
      rotate_left
      · exact putB
      refine pure_ (i := 4) (N := some 45) (v := ?_) (a' := ?_) #[true, true, true, false, true, false, false, false, false, false, false, false, false, false, false, false, false] rfl rfl (by kernel_rfl) (fun _ _ _ h => h) (Or.inl ⟨by rfl, ?_⟩) ?_ ?_
      rotate_left
      · intro w'
        go_simp
        with_reducible rfl
      rotate_left
      · exact putB
      refine pure_ (i := 5) (N := some 46) (v := ?_) (a' := ?_) #[true, true, true, false, true, true, false, false, false, false, false, false, false, false, false, false, false] rfl rfl (by kernel_rfl) (fun _ _ _ h => h) (Or.inl ⟨by rfl, ?_⟩) ?_ ?_
      rotate_left
      · intro w'
        go_simp
        with_reducible rfl
      rotate_left
      · exact putB
      refine pure_ (i := 10) (N := some 51) (v := ?_) (a' := ?_) #[true, true, true, false, true, true, false, false, false, false, true, false, false, false, false, false, false] rfl rfl (by kernel_rfl) (fun _ _ _ h => h) (Or.inl ⟨by rfl, ?_⟩) ?_ ?_
      rotate_left
      · intro w'
        go_simp
        with_reducible rfl
      rotate_left
      · exact putB
      refine pure_ (i := 11) (N := some 52) (v := ?_) (a' := ?_) #[true, true, true, false, true, true, false, false, false, false, true, true, false, false, false, false, false] rfl rfl (by kernel_rfl) (fun _ _ _ h => h) (Or.inl ⟨by rfl, ?_⟩) ?_ ?_
      rotate_left
      · intro w'
        go_simp
        with_reducible rfl
      rotate_left
      · exact putB
      refine take_ (i := 3) (N := some 44) (v := ?_) (a' := ?_) #[true, true, true, true, true, true, false, false, false, false, true, true, false, false, false, false, false] rfl rfl (by kernel_rfl) (fun _ _ _ h => h) (Or.inl ⟨by rfl, ?_⟩) hHeld ?_ ?_
      rotate_left
      · rintro w' ⟨s0, s1⟩
        go_simp
        with_reducible rfl
      rotate_left
      · exact putB
      refine pure_ (i := 6) (N := some 47) (v := ?_) (a' := ?_) #[true, true, true, true, true, true, true, false, false, false, true, true, false, false, false, false, false] rfl rfl (by kernel_rfl) (fun _ _ _ h => h) (Or.inl ⟨by rfl, ?_⟩) ?_ ?_
      rotate_left
      · intro w'
        go_simp
        with_reducible rfl
      rotate_left
      · exact putB
      refine pure_ (i := 7) (N := some 48) (v := ?_) (a' := ?_) #[true, true, true, true, true, true, true, true, false, false, true, true, false, false, false, false, false] rfl rfl (by kernel_rfl) (fun _ _ _ h => h) (Or.inl ⟨by rfl, ?_⟩) ?_ ?_
      rotate_left
      · intro w'
        go_simp
        with_reducible rfl
      rotate_left
      · exact putB
      refine pure_ (i := 8) (N := some 49) (v := ?_) (a' := ?_) #[true, true, true, true, true, true, true, true, true, false, true, true, false, false, false, false, false] rfl rfl (by kernel_rfl) (fun _ _ _ h => h) (Or.inl ⟨by rfl, ?_⟩) ?_ ?_
      rotate_left
      · intro w'
        go_simp
        with_reducible rfl
      rotate_left
      · exact putB
      refine pure_ (i := 13) (N := some 54) (v := ?_) (a' := ?_) #[true, true, true, true, true, true, true, true, true, false, true, true, false, true, false, false, false] rfl rfl (by kernel_rfl) (fun _ _ _ h => h) (Or.inl ⟨by rfl, ?_⟩) ?_ ?_
      rotate_left
      · intro w'
        go_simp
        with_reducible rfl
      rotate_left
      · exact putB
      refine pure_ (i := 14) (N := some 55) (v := ?_) (a' := ?_) #[true, true, true, true, true, true, true, true, true, false, true, true, false, true, true, false, false] rfl rfl (by kernel_rfl) (fun _ _ _ h => h) (Or.inl ⟨by rfl, ?_⟩) ?_ ?_
      rotate_left
      · intro w'
        go_simp
        with_reducible rfl
      rotate_left
      · exact putB
      refine take_ (i := 9) (N := some 50) (v := ?_) (a' := ?_) #[true, true, true, true, true, true, true, true, true, true, true, true, false, true, true, false, false] rfl rfl (by kernel_rfl) (fun _ _ _ h => h) (Or.inl ⟨by rfl, ?_⟩) hHeld ?_ ?_
      rotate_left
      · rintro w' ⟨s0, s1⟩
        go_simp
        with_reducible rfl
      rotate_left
      · exact putB
      refine pure_ (i := 12) (N := some 53) (v := ?_) (a' := ?_) #[true, true, true, true, true, true, true, true, true, true, true, true, true, true, true, false, false] rfl rfl (by kernel_rfl) (fun _ _ _ h => h) (Or.inl ⟨by rfl, ?_⟩) ?_ ?_
      rotate_left
      · intro w'
        go_simp
        with_reducible rfl
      rotate_left
      · exact putB
      refine pure_ (i := 15) (N := some 56) (v := ?_) (a' := ?_) #[true, true, true, true, true, true, true, true, true, true, true, true, true, true, true, true, false] rfl rfl (by kernel_rfl) (fun _ _ _ h => h) (Or.inl ⟨by rfl, ?_⟩) ?_ ?_
      rotate_left
      · intro w'
        go_simp
        with_reducible rfl
      rotate_left
      · exact putB
      refine last_ (i := 16) (N := none) #[true, true, true, true, true, true, true, true, true, true, true, true, true, true, true, true, true] rfl rfl (by kernel_rfl) (by decide) (fun K hK => ?_)
      have hfn : wd.frozen? ⟨g2, o + 16 + q, none⟩ = false := E1.out.free _
      have hcn := hHeld.1
      refine skip_ (w1 := ?_) (by rfl) rfl ?_ ?_
      rotate_left
      · go_simp
        rfl
      refine hK.out _ _ ?_
      clear hK K
      refine done_ (by kernel_rfl) ?_
      have E2 := Aside0.mk (HE1.out E1.out)
      clear E1 hHeld hcn hfn cQ cH
      generalize wd.setCell ⟨g2, o + 16 + q, none⟩ (.int .i16 (C - m)) = wa at E2 ⊢
      have cQ := HCU.out E2.out
      have cH := HCH.out _ _ E2.out
      go_wp2
      refine start_ (n := 17) (S := fun w' => w'.cell? ⟨g2, o + q, none⟩ = some (.int .i16 U) ∧ w'.cell? ⟨g, 0, none⟩ = some (.slice (some ⟨g2, 0, none⟩) l.length cap)) (ds := [16]) #[false, false, false, false, false, false, false, false, false, false, false, false, false, false, false, false, false] (by kernel_rfl) rfl rfl ⟨cQ, cH⟩ (fun hHeld => ?_)
      have E3 := Aside0.mk E2.out.drew
      clear E2 cQ cH
      generalize wa.drew = wd at E3 hHeld ⊢
      have cQ : wd.cell? ⟨g2, o + q, none⟩ = some (.int .i16 U) := hHeld.1
      have cH : wd.cell? ⟨g, 0, none⟩ = some (.slice (some ⟨g2, 0, none⟩) l.length cap) := hHeld.2
      refine pure_ (i := 0) (N := some 57) (v := ?_) (a' := ?_) #[true, false, false, false, false, false, false, false, false, false, false, false, false, false, false, false, false] rfl rfl (by kernel_rfl) (fun _ _ _ h => h) (Or.inl ⟨by rfl, ?_⟩) ?_ ?_
      rotate_left
      · intro w'
        go_simp
        with_reducible rfl
      rotate_left
      · exact putB
      refine pure_ (i := 1) (N := some 58) (v := ?_) (a' := ?_) #[true, true, false, false, false, false, false, false, false, false, false, false, false, false, false, false, false] rfl rfl (by kernel_rfl) (fun _ _ _ h => h) (Or.inl ⟨by rfl, ?_⟩) ?_ ?_
      rotate_left
      · intro w'
        go_simp
        with_reducible rfl
      rotate_left
      · exact putB
      refine pure_ (i := 2) (N := some 59) (v := ?_) (a' := ?_) #[true, true, true, false, false, false, false, false, false, false, false, false, false, false, false, false, false] rfl rfl (by kernel_rfl) (fun _ _ _ h => h) (Or.inl ⟨by rfl, ?_⟩) ?_ ?_
      rotate_left
      · intro w'
        go_simp
        with_reducible rfl
      rotate_left
      · exact putB
      refine pure_ (i := 4) (N := some 61) (v := ?_) (a' := ?_) #[true, true, true, false, true, false, false, false, false, false, false, false, false, false, false, false, false] rfl rfl (by kernel_rfl) (fun _ _ _ h => h) (Or.inl ⟨by rfl, ?_⟩) ?_ ?_
      rotate_left
      · intro w'
        go_simp
        with_reducible rfl
      rotate_left
      · exact putB
      refine pure_ (i := 5) (N := some 62) (v := ?_) (a' := ?_) #[true, true, true, false, true, true, false, false, false, false, false, false, false, false, false, false, false] rfl rfl (by kernel_rfl) (fun _ _ _ h => h) (Or.inl ⟨by rfl, ?_⟩) ?_ ?_
      rotate_left
      · intro w'
        go_simp
        with_reducible rfl
      rotate_left
      · exact putB
      refine pure_ (i := 10) (N := some 67) (v := ?_) (a' := ?_) #[true, true, true, false, true, true, false, false, false, false, true, false, false, false, false, false, false] rfl rfl (by kernel_rfl) (fun _ _ _ h => h) (Or.inl ⟨by rfl, ?_⟩) ?_ ?_
      rotate_left
      · intro w'
        go_simp
        with_reducible rfl
      rotate_left
      · exact putB
      refine pure_ (i := 11) (N := some 68) (v := ?_) (a' := ?_) #[true, true, true, false, true, true, false, false, false, false, true, true, false, false, false, false, false] rfl rfl (by kernel_rfl) (fun _ _ _ h => h) (Or.inl ⟨by rfl, ?_⟩) ?_ ?_
      rotate_left
      · intro w'
        go_simp
        with_reducible rfl
      rotate_left
      · exact putB
      refine take_ (i := 3) (N := some 60) (v := ?_) (a' := ?_) #[true, true, true, true, true, true, false, false, false, false, true, true, false, false, false, false, false] rfl rfl (by kernel_rfl) (fun _ _ _ h => h) (Or.inl ⟨by rfl, ?_⟩) hHeld ?_ ?_
      rotate_left
      · rintro w' ⟨s0, s1⟩
        go_simp
        with_reducible rfl
      rotate_left
      · exact putB
      refine pure_ (i := 6) (N := some 63) (v := ?_) (a' := ?_) #[true, true, true, true, true, true, true, false, false, false, true, true, false, false, false, false, false] rfl rfl (by kernel_rfl) (fun _ _ _ h => h) (Or.inl ⟨by rfl, ?_⟩) ?_ ?_
      rotate_left
      · intro w'
        go_simp
        with_reducible rfl
      rotate_left
      · exact putB
      refine pure_ (i := 7) (N := some 64) (v := ?_) (a' := ?_) #[true, true, true, true, true, true, true, true, false, false, true, true, false, false, false, false, false] rfl rfl (by kernel_rfl) (fun _ _ _ h => h) (Or.inl ⟨by rfl, ?_⟩) ?_ ?_
      rotate_left
      · intro w'
        go_simp
        with_reducible rfl
      rotate_left
      · exact putB
      refine pure_ (i := 8) (N := some 65) (v := ?_) (a' := ?_) #[true, true, true, true, true, true, true, true, true, false, true, true, false, false, false, false, false] rfl rfl (by kernel_rfl) (fun _ _ _ h => h) (Or.inl ⟨by rfl, ?_⟩) ?_ ?_
      rotate_left
      · intro w'
        go_simp
        with_reducible rfl
      rotate_left
      · exact putB
      refine pure_ (i := 13) (N := some 70) (v := ?_) (a' := ?_) #[true, true, true, true, true, true, true, true, true, false, true, true, false, true, false, false, false] rfl rfl (by kernel_rfl) (fun _ _ _ h => h) (Or.inl ⟨by rfl, ?_⟩) ?_ ?_
      rotate_left
      · intro w'
        go_simp
        with_reducible rfl
      rotate_left
      · exact putB
      refine pure_ (i := 14) (N := some 71) (v := ?_) (a' := ?_) #[true, true, true, true, true, true, true, true, true, false, true, true, false, true, true, false, false] rfl rfl (by kernel_rfl) (fun _ _ _ h => h) (Or.inl ⟨by rfl, ?_⟩) ?_ ?_
      rotate_left
      · intro w'
        go_simp
        with_reducible rfl
      rotate_left
      · exact putB
      refine take_ (i := 9) (N := some 66) (v := ?_) (a' := ?_) #[true, true, true, true, true, true, true, true, true, true, true, true, false, true, true, false, false] rfl rfl (by kernel_rfl) (fun _ _ _ h => h) (Or.inl ⟨by rfl, ?_⟩) hHeld ?_ ?_
      rotate_left
      · rintro w' ⟨s0, s1⟩
        go_simp
        with_reducible rfl
      rotate_left
      · exact putB
      refine pure_ (i := 12) (N := some 69) (v := ?_) (a' := ?_) #[true, true, true, true, true, true, true, true, true, true, true, true, true, true, true, false, false] rfl rfl (by kernel_rfl) (fun _ _ _ h => h) (Or.inl ⟨by rfl, ?_⟩) ?_ ?_
      rotate_left
      · intro w'
        go_simp
        with_reducible rfl
      rotate_left
      · exact putB
      refine pure_ (i := 15) (N := some 72) (v := ?_) (a' := ?_) #[true, true, true, true, true, true, true, true, true, true, true, true, true, true, true, true, false] rfl rfl (by kernel_rfl) (fun _ _ _ h => h) (Or.inl ⟨by rfl, ?_⟩) ?_ ?_
      rotate_left
      · intro w'
        go_simp
        with_reducible rfl
      rotate_left
      · exact putB
      refine last_ (i := 16) (N := none) #[true, true, true, true, true, true, true, true, true, true, true, true, true, true, true, true, true] rfl rfl (by kernel_rfl) (by decide) (fun K hK => ?_)
      have hfn : wd.frozen? ⟨g2, o + q, none⟩ = false := E3.out.free _
      have hcn := hHeld.1
      refine skip_ (w1 := ?_) (by rfl) rfl ?_ ?_
      rotate_left
      · go_simp
        rfl
      refine hK.out _ _ ?_
      clear hK K
      refine done_ (by kernel_rfl) ?_
      go_wp2
      go_roundg q
      case measure => omega
      case rel => exact ⟨q, (q : Int) - 1, s2, n' - m, by omega, by omega, by omega, by have hw_ : wrap64 ((q : Int) - 1) = (q : Int) - 1 := w64i (by omega) (by omega); first | rfl | rw [hw_] | (simp only [i64_w, hw_]) | go_num | trace_state, by first | rfl | rw [hw3] | (simp [hw3]; done), HF2, HT2, ⟨HE2.out E3.out⟩⟩
  · have hltz : ¬ (k : Int) < (l.length : Int) := by omega
    obtain rfl : k = l.length := by omega
    have HW := Aside0.mk (show washH l a1 = lk by unfold washH; rw [HT0.out])
    have c0 : wr.cell? ⟨g, 0, none⟩ = some (.slice (some ⟨g2, 0, none⟩) l.length cap) := by rw [← HF0.out.2.2]; exact H.out.cell 0
    have c1 : wr.cell? ⟨g, 1, none⟩ = some (.int .i16 a1) := H.out.cell 1
    go_wp2
    go_ret
    exact ⟨⟨_, rfl⟩, by rw [HW.out]; exact H.out⟩
end Go.Proofs.Ytggjdcijplgpdaa.H
