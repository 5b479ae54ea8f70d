import Derived.Test.YtggjdcijplgpdaazFStocksEPutB
import Derived.Test.YtggjdcijplgpdaazFStocksEInH
import Derived.Test.YtggjdcijplgpdaazFStocksEDayOf
import Derived.Test.YtggjdcijplgpdaazFStocksECloneSt
import Derived.Shelf.Abstract
import Derived.Deep.QuietTactic
import Derived.BigQuiet
namespace Go.Proofs.Ytggjdcijplgpdaa.H
open Go.RowKit Go.Proofs.YtggjdcijplgpdaaW.PrintWords Go.Proofs.YtggjdcijplgpdaaW.PrintLast Go.Proofs.YtggjdcijplgpdaaW.PrintMore
attribute [local go_sem] max2_int min2_int max_two min_two max_three min_three max_four min_four
set_option linter.unusedVariables false
set_option linter.unusedSimpArgs false
set_option maxHeartbeats 40000000 in
set_option maxRecDepth 100000 in
theorem use_walk (W0 W : World) (g o t : Nat) (cs0 : Array Value) (s : S55) (need : Int) (hf : FitSt s) (hn : 0 ≤ need ∧ need ≤ 500) (E : InSt W0 g o t cs0 s W) :
 Calls Try.prog 88 #[.pointer (some ⟨g, o, none⟩), .int .i64 need] W fun e w' => e = .returned (.int .i64 (useOf s need).2) ∧ InSt W0 g o t cs0 (useOf s need).1 w' := by
 have hu53 := Try.underlying53
 have HF := Aside0.mk hf
 have HN := Aside0.mk hn
 clear hf hn
 have c8 : W.cell? ⟨g, o + 8, none⟩ = some (.int .i16 (s.at_ 8)) := E.cell 8 (by decide)
 have c9 : W.cell? ⟨g, o + 9, none⟩ = some (.int .i16 (s.at_ 9)) := E.cell 9 (by decide)
 have c10 : W.cell? ⟨g, o + 10, none⟩ = some (.int .i16 (s.at_ 10)) := E.cell 10 (by decide)
 have c11 : W.cell? ⟨g, o + 11, none⟩ = some (.int .i16 (s.at_ 11)) := E.cell 11 (by decide)
 have c12 : W.cell? ⟨g, o + 12, none⟩ = some (.int .i16 (s.at_ 12)) := E.cell 12 (by decide)
 have c13 : W.cell? ⟨g, o + 13, none⟩ = some (.int .i16 (s.at_ 13)) := E.cell 13 (by decide)
 have c14 : W.cell? ⟨g, o + 14, none⟩ = some (.int .i16 (s.at_ 14)) := E.cell 14 (by decide)
 have c15 : W.cell? ⟨g, o + 15, none⟩ = some (.int .i16 (s.at_ 15)) := E.cell 15 (by decide)
 have HE := Aside0.mk E
 clear E
 go_enter Try.func88, Try.ntmps88
 go_wp2
 clear c8 c9 c10 c11 c12 c13 c14 c15
 go_loopg [13] 8 (fun gk v1 wr => ∃ (i : Nat), i ≤ 8 ∧ 8 - i ≤ gk ∧ v1 = .int .i64 i ∧ Aside0 (InSt W0 g o t cs0 (afterA s i) wr))
 case atStart => exact ⟨0, by omega, by omega, rfl, HE⟩
 case round =>
  clear HE
  obtain ⟨i, hi, hgk, rfl, E⟩ := hrel
  by_cases hlt : i < 8
  · have hltz : (i : Int) < 8 := by omega
    have hi0 : 0 ≤ (i : Int) := by omega
    obtain ⟨dv, hdv⟩ : ∃ x, s.at_ (16 + i) = x := ⟨_, rfl⟩
    obtain ⟨uv, huv⟩ : ∃ x, s.at_ (8 + i) = x := ⟨_, rfl⟩
    have HI := Aside0.mk hlt
    have ha := after_at (s := s) i hi i (Nat.le_refl _) hlt
    rw [huv, hdv] at ha
    have HP1 := Aside0.mk (fun {w : World} (E' : InSt W0 g o t cs0 (afterA s i) w) => show InSt W0 g o t cs0 ((afterA s i).put (16 + i) (dv + uv)) (w.setCell ⟨g, o + 16 + i, none⟩ (.int .i16 (dv + uv))) by
     have h := E'.put (16 + i) (by omega) (dv + uv)
     rw [← Nat.add_assoc, show encSt (16 + i) (dv + uv) = .int .i16 (dv + uv) by unfold encSt; rw [if_pos (by omega)]] at h
     exact h)
    have HP2 := Aside0.mk (fun {w : World} (E' : InSt W0 g o t cs0 ((afterA s i).put (16 + i) (dv + uv)) w) => show InSt W0 g o t cs0 (afterA s (i + 1)) (w.setCell ⟨g, o + 8 + i, none⟩ (.int .i16 0)) by
     have h := E'.put (8 + i) (by omega) 0
     rw [← Nat.add_assoc, show encSt (8 + i) 0 = .int .i16 0 by unfold encSt; rw [if_pos (by omega)]] at h
     show InSt W0 g o t cs0 (((afterA s i).put (16 + i) ((afterA s i).at_ (16 + i) + (afterA s i).at_ (8 + i))).put (8 + i) 0) _
     rw [ha.1, ha.2]
     exact h)
    have HCU := Aside0.mk (fun {w : World} (E' : InSt W0 g o t cs0 ((afterA s i).put (16 + i) (dv + uv)) w) => show w.cell? ⟨g, o + 8 + i, none⟩ = some (.int .i16 uv) by
     have h := E'.cell (8 + i) (by omega)
     rw [← Nat.add_assoc, S55.put_at _ _ _ _ (by omega), if_neg (by omega), ha.1, show encSt (8 + i) uv = .int .i16 uv by unfold encSt; rw [if_pos (by omega)]] at h
     exact h)
    have cD : wr.cell? ⟨g, o + 16 + i, none⟩ = some (.int .i16 dv) := by
     have h := E.out.cell (16 + i) (by omega)
     rw [← Nat.add_assoc, ha.2, show encSt (16 + i) dv = .int .i16 dv by unfold encSt; rw [if_pos (by omega)]] at h
     exact h
    have hw : IntKind.i16.wrap (dv + uv) = dv + uv := by
     have h1 := at_two HF.out (16 + i) (8 + i) (by omega)
     have h2 := at_pos HF.out (16 + i)
     have h3 := at_pos HF.out (8 + i)
     rw [hdv] at h1 h2
     rw [huv] at h1 h3
     exact wrap16_id (by omega) (by omega)
    have hix : ∀ w, (Instr.index 53 (.agg #[.int .i16 (s.at_ 8), .int .i16 (s.at_ 9), .int .i16 (s.at_ 10), .int .i16 (s.at_ 11), .int .i16 (s.at_ 12), .int .i16 (s.at_ 13), .int .i16 (s.at_ 14), .int .i16 (s.at_ 15)]) (.int .i64 (i : Int))).run Try.prog w = .ok (.int .i16 uv) w := by
     intro w
     rw [← huv]
     rcases (show i = 0 ∨ i = 1 ∨ i = 2 ∨ i = 3 ∨ i = 4 ∨ i = 5 ∨ i = 6 ∨ i = 7 by omega) with rfl | rfl | rfl | rfl | rfl | rfl | rfl | rfl
     · exact idx8_0 _ _ _ _ _ _ _ _ w
     · exact idx8_1 _ _ _ _ _ _ _ _ w
     · exact idx8_2 _ _ _ _ _ _ _ _ w
     · exact idx8_3 _ _ _ _ _ _ _ _ w
     · exact idx8_4 _ _ _ _ _ _ _ _ w
     · exact idx8_5 _ _ _ _ _ _ _ _ w
     · exact idx8_6 _ _ _ _ _ _ _ _ w
     · exact idx8_7 _ _ _ _ _ _ _ _ w
    clear ha hdv huv hlt
    go_wp2
    clear hix
    refine start_ (n := 20) (S := fun w' => w'.cell? ⟨g, o + 16 + i, none⟩ = some (.int .i16 dv)) (ds := [15, 19]) #[false, false, false, false, false, false, false, false, false, false, false, false, false, false, false, false, false, false, false, false] (by kernel_rfl) rfl rfl (cD) (fun hHeld => ?_)
    have E2 := Aside0.mk E.out.drew
    clear cD E
    generalize wr.drew = wd at E2 hHeld ⊢
    have cD : wd.cell? ⟨g, o + 16 + i, none⟩ = some (.int .i16 dv) := hHeld
    have E3 := Aside0.mk (HP1.out E2.out)
    refine pure_ (i := 0) (N := some 17) (v := ?_) (a' := ?_) #[true, false, false, false, false, false, false, false, false, false, false, false, false, false, false, false, false, false, false, false] rfl rfl (by kernel_rfl) (fun _ _ _ h => h) (Or.inl ⟨by rfl, ?_⟩) ?_ ?_
    rotate_left
    · intro w'
      go_simp
      with_reducible rfl
    rotate_left
    · exact putB
    refine pure_ (i := 1) (N := some 18) (v := ?_) (a' := ?_) #[true, true, false, false, false, false, false, false, false, false, false, false, false, false, false, false, false, false, false, false] rfl rfl (by kernel_rfl) (fun _ _ _ h => h) (Or.inl ⟨by rfl, ?_⟩) ?_ ?_
    rotate_left
    · intro w'
      go_simp
      with_reducible rfl
    rotate_left
    · exact putB
    refine pure_ (i := 2) (N := some 19) (v := ?_) (a' := ?_) #[true, true, true, false, false, false, false, false, false, false, false, false, false, false, false, false, false, false, false, false] rfl rfl (by kernel_rfl) (fun _ _ _ h => h) (Or.inl ⟨by rfl, ?_⟩) ?_ ?_
    rotate_left
    · intro w'
      go_simp
      with_reducible rfl
    rotate_left
    · exact putB
    refine pure_ (i := 3) (N := some 20) (v := ?_) (a' := ?_) #[true, true, true, true, false, false, false, false, false, false, false, false, false, false, false, false, false, false, false, false] rfl rfl (by kernel_rfl) (fun _ _ _ h => h) (Or.inl ⟨by rfl, ?_⟩) ?_ ?_
    rotate_left
    · intro w'
      go_simp
      with_reducible rfl
    rotate_left
    · exact putB
    refine pure_ (i := 4) (N := some 21) (v := ?_) (a' := ?_) #[true, true, true, true, true, false, false, false, false, false, false, false, false, false, false, false, false, false, false, false] rfl rfl (by kernel_rfl) (fun _ _ _ h => h) (Or.inl ⟨by rfl, ?_⟩) ?_ ?_
    rotate_left
    · intro w'
      go_simp
      with_reducible rfl
    rotate_left
    · exact putB
    refine pure_ (i := 5) (N := some 22) (v := ?_) (a' := ?_) #[true, true, true, true, true, true, false, false, false, false, false, false, false, false, false, false, false, false, false, false] rfl rfl (by kernel_rfl) (fun _ _ _ h => h) (Or.inl ⟨by rfl, ?_⟩) ?_ ?_
    rotate_left
    · intro w'
      go_simp
      with_reducible rfl
    rotate_left
    · exact putB
    refine pure_ (i := 6) (N := some 23) (v := ?_) (a' := ?_) #[true, true, true, true, true, true, true, false, false, false, false, false, false, false, false, false, false, false, false, false] rfl rfl (by kernel_rfl) (fun _ _ _ h => h) (Or.inl ⟨by rfl, ?_⟩) ?_ ?_
    rotate_left
    · intro w'
      go_simp
      with_reducible rfl
    rotate_left
    · exact putB
    refine pure_ (i := 7) (N := some 24) (v := ?_) (a' := ?_) #[true, true, true, true, true, true, true, true, false, false, false, false, false, false, false, false, false, false, false, false] rfl rfl (by kernel_rfl) (fun _ _ _ h => h) (Or.inl ⟨by rfl, ?_⟩) ?_ ?_
    rotate_left
    · intro w'
      go_simp
      with_reducible rfl
    rotate_left
    · exact putB
    refine pure_ (i := 8) (N := some 25) (v := ?_) (a' := ?_) #[true, true, true, true, true, true, true, true, true, false, false, false, false, false, false, false, false, false, false, false] rfl rfl (by kernel_rfl) (fun _ _ _ h => h) (Or.inl ⟨by rfl, ?_⟩) ?_ ?_
    rotate_left
    · intro w'
      go_simp
      with_reducible rfl
    rotate_left
    · exact putB
    refine pure_ (i := 10) (N := some 27) (v := ?_) (a' := ?_) #[true, true, true, true, true, true, true, true, true, false, true, false, false, false, false, false, false, false, false, false] rfl rfl (by kernel_rfl) (fun _ _ _ h => h) (Or.inl ⟨by rfl, ?_⟩) ?_ ?_
    rotate_left
    · intro w'
      go_simp
      with_reducible rfl
    rotate_left
    · exact putB
    refine pure_ (i := 12) (N := some 29) (v := ?_) (a' := ?_) #[true, true, true, true, true, true, true, true, true, false, true, false, true, false, false, false, false, false, false, false] rfl rfl (by kernel_rfl) (fun _ _ _ h => h) (Or.inl ⟨by rfl, ?_⟩) ?_ ?_
    rotate_left
    · intro w'
      go_simp
      with_reducible rfl
    rotate_left
    · exact putB
    refine pure_ (i := 13) (N := some 30) (v := ?_) (a' := ?_) #[true, true, true, true, true, true, true, true, true, false, true, false, true, true, false, false, false, false, false, false] rfl rfl (by kernel_rfl) (fun _ _ _ h => h) (Or.inl ⟨by rfl, ?_⟩) ?_ ?_
    rotate_left
    · intro w'
      go_simp
      with_reducible rfl
    rotate_left
    · exact putB
    refine pure_ (i := 16) (N := some 32) (v := ?_) (a' := ?_) #[true, true, true, true, true, true, true, true, true, false, true, false, true, true, false, false, true, false, false, false] rfl rfl (by kernel_rfl) (fun _ _ _ h => h) (Or.inl ⟨by rfl, ?_⟩) ?_ ?_
    rotate_left
    · intro w'
      go_simp
      with_reducible rfl
    rotate_left
    · exact putB
    refine pure_ (i := 17) (N := some 33) (v := ?_) (a' := ?_) #[true, true, true, true, true, true, true, true, true, false, true, false, true, true, false, false, true, true, false, false] rfl rfl (by kernel_rfl) (fun _ _ _ h => h) (Or.inl ⟨by rfl, ?_⟩) ?_ ?_
    rotate_left
    · intro w'
      go_simp
      with_reducible rfl
    rotate_left
    · exact putB
    refine take_ (i := 9) (N := some 26) (v := ?_) (a' := ?_) #[true, true, true, true, true, true, true, true, true, true, true, false, true, true, false, false, true, true, false, false] rfl rfl (by kernel_rfl) (fun _ _ _ h => h) (Or.inl ⟨by rfl, ?_⟩) hHeld ?_ ?_
    rotate_left
    · intro w' s0
      go_simp
      with_reducible rfl
    rotate_left
    · exact putB
    refine pure_ (i := 11) (N := some 28) (v := ?_) (a' := ?_) #[true, true, true, true, true, true, true, true, true, true, true, true, true, true, false, false, true, true, false, false] rfl rfl (by kernel_rfl) (fun _ _ _ h => h) (Or.inl ⟨by rfl, ?_⟩) ?_ ?_
    rotate_left
    · intro w'
      go_simp
      with_reducible rfl
    rotate_left
    · exact putB
    refine pure_ (i := 14) (N := some 31) (v := ?_) (a' := ?_) #[true, true, true, true, true, true, true, true, true, true, true, true, true, true, true, false, true, true, false, false] rfl rfl (by kernel_rfl) (fun _ _ _ h => h) (Or.inl ⟨by rfl, ?_⟩) ?_ ?_
    rotate_left
    · intro w'
      go_simp
      with_reducible rfl
    rotate_left
    · exact putB
    refine last_ (i := 15) (N := none) #[true, true, true, true, true, true, true, true, true, true, true, true, true, true, true, true, true, true, false, false] rfl rfl (by kernel_rfl) (by decide) (fun K hK => ?_)
    have hfn : wd.frozen? ⟨g, o + 16 + i, none⟩ = false := E2.out.free _
    have hcn := hHeld
    refine skip_ (w1 := ?_) (by rfl) rfl ?_ ?_
    rotate_left
    · go_simp
      rfl
    refine hK.out _ _ ?_
    clear hK K
    refine pure_ (i := 18) (N := some 34) (v := ?_) (a' := ?_) #[true, true, true, true, true, true, true, true, true, true, true, true, true, true, true, true, true, true, true, false] rfl rfl (by kernel_rfl) (fun _ _ _ h => h) (Or.inl ⟨by rfl, ?_⟩) ?_ ?_
    rotate_left
    · intro w'
      go_simp
      with_reducible rfl
    rotate_left
    · exact putB
    refine last_ (i := 19) (N := none) #[true, true, true, true, true, true, true, true, true, true, true, true, true, true, true, true, true, true, true, true] rfl rfl (by kernel_rfl) (by decide) (fun K hK => ?_)
    have hcn2 : (wd.setCell ⟨g, o + 16 + i, none⟩ (.int .i16 (dv + uv))).cell? ⟨g, o + 8 + i, none⟩ = some (.int .i16 uv) := HCU.out E3.out
    have hfn2 : (wd.setCell ⟨g, o + 16 + i, none⟩ (.int .i16 (dv + uv))).frozen? ⟨g, o + 8 + i, none⟩ = false := E3.out.free _
    refine skip_ (w1 := ?_) (by rfl) rfl ?_ ?_
    rotate_left
    · go_simp
      rfl
    refine hK.out _ _ ?_
    clear hK K
    refine done_ (by kernel_rfl) ?_
    try go_wp2
    have hi9 := HI.out
    go_roundg (8 - (i + 1))
    case measure => omega
    case rel => exact ⟨i + 1, by omega, by omega, by have hw_ : wrap64 ((i : Int) + 1) = ((i + 1 : Nat) : Int) := (w64i (by omega) (by omega)).trans (by omega); first | rfl | rw [hw_] | (simp only [i64_w, hw_]) | go_num, ⟨HP2.out E3.out⟩⟩
  · have hltz : ¬ (i : Int) < 8 := by omega
    obtain rfl : i = 8 := by omega
    go_wp2
    go_loopg [1, 7] 8 (fun gk v1 v7 wr => ∃ (i : Nat) (z : Int) (s' : S55) (n' : Int), i ≤ 8 ∧ i ≤ gk ∧ z = (i : Int) - 1 ∧ v7 = .int .i64 z ∧ v1 = .int .i64 n' ∧ Aside0 (FitSt s' ∧ 0 ≤ n' ∧ n' ≤ 500) ∧ Aside0 (takes i (s', n') = useOf s need) ∧ Aside0 (InSt W0 g o t cs0 s' wr))
    case atStart => exact ⟨8, 7, afterA s 8, need, by omega, by omega, by omega, rfl, rfl, ⟨⟨fit_after HF.out 8 (by decide), HN.out⟩⟩, ⟨rfl⟩, E⟩
    case round =>
     clear E
     obtain ⟨i, z, s', n', hi2, hgk2, hz, rfl, rfl, HF1, HT, E⟩ := hrel
     cases i with
     | zero =>
      obtain rfl : z = -1 := by omega
      have ht := HT.out
      have HV := Aside0.mk (show n' = (useOf s need).2 ∧ s' = (useOf s need).1 by rw [← ht]; exact ⟨rfl, rfl⟩)
      clear ht hz
      go_wp2
      go_ret
      exact ⟨by rw [← HV.out.1]; rfl, by rw [← HV.out.2]; exact E.out⟩
     | succ q =>
      obtain rfl : z = (q : Int) := by omega
      rcases Nat.eq_zero_or_pos q with h0 | hp
      · subst h0
        obtain ⟨C, hC⟩ : ∃ C, s'.at_ 0 = C := ⟨_, rfl⟩
        obtain ⟨m, hm⟩ : ∃ m, mn C n' = m := ⟨_, rfl⟩
        have bC := at_pos HF1.out.1 0
        have bC2 := at_le HF1.out.1 0
        rw [hC] at bC bC2
        obtain ⟨b1, b2, b3⟩ := mn_bd bC HF1.out.2.1
        rw [hm] at b1 b2 b3
        have n0 := HF1.out.2.1
        have n5 := HF1.out.2.2
        obtain ⟨s1, hs1⟩ : ∃ s1, s'.put 0 (C - m) = s1 := ⟨_, rfl⟩
        obtain ⟨U, hU⟩ : ∃ U, s1.at_ 24 = U := ⟨_, rfl⟩
        obtain ⟨s2, hs2⟩ : ∃ s2, s1.put 24 (U + m) = s2 := ⟨_, rfl⟩
        have et : takeStep 0 (s', n') = (s2, n' - m) := by
         show (if (0 : Nat) = 0 then (s'.put 0 (s'.at_ 0 - mn (s'.at_ 0) n')).put 24 ((s'.put 0 (s'.at_ 0 - mn (s'.at_ 0) n')).at_ 24 + mn (s'.at_ 0) n') else (s'.put 0 (s'.at_ 0 - mn (s'.at_ 0) n')).put (7 + 0) ((s'.put 0 (s'.at_ 0 - mn (s'.at_ 0) n')).at_ (7 + 0) + mn (s'.at_ 0) n'), n' - mn (s'.at_ 0) n') = (s2, n' - m)
         rw [hC, hm, hs1, if_pos rfl]
         show (s1.put 24 (s1.at_ 24 + m), n' - m) = _
         rw [hU, hs2]
        have hf2 := fit_take HF1.out.1 HF1.out.2 0 (by omega)
        rw [et] at hf2
        have bU : s2.at_ 24 = U + m := by rw [← hs2, S55.put_at _ _ _ _ (by omega), if_pos rfl]
        have bU1 := at_pos hf2.1 24
        have bU2 := at_le hf2.1 24
        rw [bU] at bU1 bU2
        have HT2 := Aside0.mk (show takes 0 (s2, n' - m) = useOf s need by rw [← HT.out, ← et]; rfl)
        have HF2 := Aside0.mk hf2
        have HE1 := Aside0.mk (fun {w : World} (E' : InSt W0 g o t cs0 s' w) => show InSt W0 g o t cs0 s1 (w.setCell ⟨g, o, none⟩ (.int .i16 (C - m))) by
         have h := E'.put 0 (by omega) (C - m)
         rw [hs1, show encSt 0 (C - m) = .int .i16 (C - m) by unfold encSt; rw [if_pos (by omega)]] at h
         exact h)
        have HE2 := Aside0.mk (fun {w : World} (E' : InSt W0 g o t cs0 s1 w) => show InSt W0 g o t cs0 s2 (w.setCell ⟨g, o + 24, none⟩ (.int .i32 (U + m))) by
         have h := E'.put 24 (by omega) (U + m)
         rw [hs2, show encSt 24 (U + m) = .int .i32 (U + m) by unfold encSt; rw [if_neg (by omega)]] at h
         exact h)
        have HCC := Aside0.mk (fun {w : World} (E' : InSt W0 g o t cs0 s' w) => show w.cell? ⟨g, o, none⟩ = some (.int .i16 C) by
         have h := E'.cell 0 (by omega)
         rw [hC, show encSt 0 (C) = .int .i16 (C) by unfold encSt; rw [if_pos (by omega)]] at h
         exact h)
        have HCU := Aside0.mk (fun {w : World} (E' : InSt W0 g o t cs0 s1 w) => show w.cell? ⟨g, o + 24, none⟩ = some (.int .i32 U) by
         have h := E'.cell 24 (by omega)
         rw [hU, show encSt 24 (U) = .int .i32 (U) by unfold encSt; rw [if_neg (by omega)]] at h
         exact h)
        have hmn : (if n' < C then n' else C) = m := hm
        have hwn : IntKind.i16.wrap n' = n' := wrap16_id (by omega) (by omega)
        have hwm : wrap64 m = m := w64i (by omega) (by omega)
        have hwm16 : IntKind.i16.wrap m = m := wrap16_id (by omega) (by omega)
        have hw1 : IntKind.i16.wrap (C - m) = C - m := wrap16_id (by omega) (by omega)
        have hw3 : wrap64 (n' - m) = n' - m := w64i (by omega) (by omega)
        have hw4 : IntKind.i32.wrap m = m := wrap32_id (by omega) (by omega)
        have hw5 : IntKind.i32.wrap (U + m) = U + m := wrap32_id (by omega) (by omega)
        have hw4' : wrap32 m = m := (i32_w m).symm.trans hw4
        have hw5' : wrap32 (U + m) = U + m := (i32_w _).symm.trans hw5
        have hw6 : IntKind.i16.wrap (U + m) = U + m := wrap16_id (by omega) (by omega)
        have cQ := HCC.out E.out
        have hqw : wrap64 ((0 : Int) - 1) = -1 := w64i (by omega) (by omega)
        have hqw2 : wrap64 (-1) = -1 := w64i (by omega) (by omega)
        clear hm hs1 hU hs2 hC et hf2 bU bU1 bU2 HT HF1 b1 b2 b3 n0 n5 bC bC2 hz
        go_wp2
        refine start_ (n := 12) (S := fun w' => w'.cell? ⟨g, o, none⟩ = some (.int .i16 C)) (ds := [11]) #[false, false, false, false, false, false, false, false, false, false, false, false] (by kernel_rfl) rfl rfl (cQ) (fun hHeld => ?_)
        have E1 := Aside0.mk E.out.drew
        clear E cQ
        generalize wr.drew = wd at E1 hHeld ⊢
        have cQ : wd.cell? ⟨g, o, none⟩ = some (.int .i16 C) := hHeld
        refine pure_ (i := 0) (N := some 49) (v := ?_) (a' := ?_) #[true, false, false, false, false, false, false, false, false, false, false, false] rfl rfl (by kernel_rfl) (fun _ _ _ h => h) (Or.inl ⟨by rfl, ?_⟩) ?_ ?_
        rotate_left
        · intro w'
          go_simp
          with_reducible rfl
        rotate_left
        · exact putB
        refine pure_ (i := 1) (N := some 50) (v := ?_) (a' := ?_) #[true, true, false, false, false, false, false, false, false, false, false, false] rfl rfl (by kernel_rfl) (fun _ _ _ h => h) (Or.inl ⟨by rfl, ?_⟩) ?_ ?_
        rotate_left
        · intro w'
          go_simp
          with_reducible rfl
        rotate_left
        · exact putB
        refine pure_ (i := 2) (N := some 51) (v := ?_) (a' := ?_) #[true, true, true, false, false, false, false, false, false, false, false, false] rfl rfl (by kernel_rfl) (fun _ _ _ h => h) (Or.inl ⟨by rfl, ?_⟩) ?_ ?_
        rotate_left
        · intro w'
          go_simp
          with_reducible rfl
        rotate_left
        · exact putB
        refine pure_ (i := 3) (N := some 52) (v := ?_) (a' := ?_) #[true, true, true, true, false, false, false, false, false, false, false, false] rfl rfl (by kernel_rfl) (fun _ _ _ h => h) (Or.inl ⟨by rfl, ?_⟩) ?_ ?_
        rotate_left
        · intro w'
          go_simp
          with_reducible rfl
        rotate_left
        · exact putB
        refine pure_ (i := 4) (N := some 53) (v := ?_) (a' := ?_) #[true, true, true, true, true, false, false, false, false, false, false, false] rfl rfl (by kernel_rfl) (fun _ _ _ h => h) (Or.inl ⟨by rfl, ?_⟩) ?_ ?_
        rotate_left
        · intro w'
          go_simp
          with_reducible rfl
        rotate_left
        · exact putB
        refine pure_ (i := 6) (N := some 55) (v := ?_) (a' := ?_) #[true, true, true, true, true, false, true, false, false, false, false, false] rfl rfl (by kernel_rfl) (fun _ _ _ h => h) (Or.inl ⟨by rfl, ?_⟩) ?_ ?_
        rotate_left
        · intro w'
          go_simp
          with_reducible rfl
        rotate_left
        · exact putB
        refine pure_ (i := 8) (N := some 57) (v := ?_) (a' := ?_) #[true, true, true, true, true, false, true, false, true, false, false, false] rfl rfl (by kernel_rfl) (fun _ _ _ h => h) (Or.inl ⟨by rfl, ?_⟩) ?_ ?_
        rotate_left
        · intro w'
          go_simp
          with_reducible rfl
        rotate_left
        · exact putB
        refine pure_ (i := 9) (N := some 58) (v := ?_) (a' := ?_) #[true, true, true, true, true, false, true, false, true, true, false, false] rfl rfl (by kernel_rfl) (fun _ _ _ h => h) (Or.inl ⟨by rfl, ?_⟩) ?_ ?_
        rotate_left
        · intro w'
          go_simp
          with_reducible rfl
        rotate_left
        · exact putB
        refine take_ (i := 5) (N := some 54) (v := ?_) (a' := ?_) #[true, true, true, true, true, true, true, false, true, true, false, false] rfl rfl (by kernel_rfl) (fun _ _ _ h => h) (Or.inl ⟨by rfl, ?_⟩) hHeld ?_ ?_
        rotate_left
        · intro w' s0
          go_simp
          with_reducible rfl
        rotate_left
        · exact putB
        refine pure_ (i := 7) (N := some 56) (v := ?_) (a' := ?_) #[true, true, true, true, true, true, true, true, true, true, false, false] rfl rfl (by kernel_rfl) (fun _ _ _ h => h) (Or.inl ⟨by rfl, ?_⟩) ?_ ?_
        rotate_left
        · intro w'
          go_simp
          with_reducible rfl
        rotate_left
        · exact putB
        refine pure_ (i := 10) (N := some 59) (v := ?_) (a' := ?_) #[true, true, true, true, true, true, true, true, true, true, true, false] rfl rfl (by kernel_rfl) (fun _ _ _ h => h) (Or.inl ⟨by rfl, ?_⟩) ?_ ?_
        rotate_left
        · intro w'
          go_simp
          with_reducible rfl
        rotate_left
        · exact putB
        refine last_ (i := 11) (N := none) #[true, true, true, true, true, true, true, true, true, true, true, true] rfl rfl (by kernel_rfl) (by decide) (fun K hK => ?_)
        have hfn : wd.frozen? ⟨g, o, none⟩ = false := E1.out.free _
        have hcn := hHeld
        refine skip_ (w1 := ?_) (by rfl) rfl ?_ ?_
        rotate_left
        · go_simp
          rfl
        refine hK.out _ _ ?_
        clear hK K
        refine done_ (by kernel_rfl) ?_
        have E2 := Aside0.mk (HE1.out E1.out)
        clear E1 hHeld hw1 hcn hfn cQ
        generalize wd.setCell ⟨g, o, none⟩ (.int .i16 (C - m)) = wa at E2 ⊢
        have cJ : wa.cell? ⟨g, o + 24, none⟩ = some (.int .i32 U) := HCU.out E2.out
        have fJ : wa.frozen? ⟨g, o + 24, none⟩ = false := E2.out.free _
        have E3 := E2
        go_wp2
        go_roundg 0
        case measure => omega
        case rel => exact ⟨0, -1, s2, n' - m, by omega, by omega, by omega, by first | rfl | (rw [hqw]; done) | (simp only [i64_w, hqw]; done) | go_num, by first | rfl | rw [hw3] | (simp [hw3]; done), HF2, HT2, ⟨HE2.out E3.out⟩⟩
      · obtain ⟨r, hqr⟩ : ∃ r, q = r + 1 := ⟨q - 1, by omega⟩
        clear hp
        obtain ⟨C, hC⟩ : ∃ C, s'.at_ q = C := ⟨_, rfl⟩
        obtain ⟨m, hm⟩ : ∃ m, mn C n' = m := ⟨_, rfl⟩
        have bC := at_pos HF1.out.1 q
        have bC2 := at_le HF1.out.1 q
        rw [hC] at bC bC2
        obtain ⟨b1, b2, b3⟩ := mn_bd bC HF1.out.2.1
        rw [hm] at b1 b2 b3
        have n0 := HF1.out.2.1
        have n5 := HF1.out.2.2
        obtain ⟨s1, hs1⟩ : ∃ s1, s'.put q (C - m) = s1 := ⟨_, rfl⟩
        obtain ⟨U, hU⟩ : ∃ U, s1.at_ (8 + r) = U := ⟨_, rfl⟩
        obtain ⟨s2, hs2⟩ : ∃ s2, s1.put (8 + r) (U + m) = s2 := ⟨_, rfl⟩
        have et : takeStep q (s', n') = (s2, n' - m) := by
         show (if (q : Nat) = 0 then (s'.put q (s'.at_ q - mn (s'.at_ q) n')).put 24 ((s'.put q (s'.at_ q - mn (s'.at_ q) n')).at_ 24 + mn (s'.at_ q) n') else (s'.put q (s'.at_ q - mn (s'.at_ q) n')).put (7 + q) ((s'.put q (s'.at_ q - mn (s'.at_ q) n')).at_ (7 + q) + mn (s'.at_ q) n'), n' - mn (s'.at_ q) n') = (s2, n' - m)
         rw [hC, hm, hs1, if_neg (by omega), show 7 + q = 8 + r by omega]
         show (s1.put (8 + r) (s1.at_ (8 + r) + m), n' - m) = _
         rw [hU, hs2]
        have hf2 := fit_take HF1.out.1 HF1.out.2 q (by omega)
        rw [et] at hf2
        have bU : s2.at_ (8 + r) = U + m := by rw [← hs2, S55.put_at _ _ _ _ (by omega), if_pos rfl]
        have bU1 := at_pos hf2.1 (8 + r)
        have bU2 := at_le hf2.1 (8 + r)
        rw [bU] at bU1 bU2
        have HT2 := Aside0.mk (show takes q (s2, n' - m) = useOf s need by rw [← HT.out, ← et]; rfl)
        have HF2 := Aside0.mk hf2
        have HE1 := Aside0.mk (fun {w : World} (E' : InSt W0 g o t cs0 s' w) => show InSt W0 g o t cs0 s1 (w.setCell ⟨g, o + q, none⟩ (.int .i16 (C - m))) by
         have h := E'.put q (by omega) (C - m)
         rw [hs1, show encSt q (C - m) = .int .i16 (C - m) by unfold encSt; rw [if_pos (by omega)]] at h
         exact h)
        have HE2 := Aside0.mk (fun {w : World} (E' : InSt W0 g o t cs0 s1 w) => show InSt W0 g o t cs0 s2 (w.setCell ⟨g, o + 8 + r, none⟩ (.int .i16 (U + m))) by
         have h := E'.put (8 + r) (by omega) (U + m)
         rw [hs2, show encSt (8 + r) (U + m) = .int .i16 (U + m) by unfold encSt; rw [if_pos (by omega)], ← Nat.add_assoc] at h
         exact h)
        have HCC := Aside0.mk (fun {w : World} (E' : InSt W0 g o t cs0 s' w) => show w.cell? ⟨g, o + q, none⟩ = some (.int .i16 C) by
         have h := E'.cell q (by omega)
         rw [hC, show encSt q (C) = .int .i16 (C) by unfold encSt; rw [if_pos (by omega)]] at h
         exact h)
        have HCU := Aside0.mk (fun {w : World} (E' : InSt W0 g o t cs0 s1 w) => show w.cell? ⟨g, o + 8 + r, none⟩ = some (.int .i16 U) by
         have h := E'.cell (8 + r) (by omega)
         rw [hU, show encSt (8 + r) (U) = .int .i16 (U) by unfold encSt; rw [if_pos (by omega)], ← Nat.add_assoc] at h
         exact h)
        have hmn : (if n' < C then n' else C) = m := hm
        have hwn : IntKind.i16.wrap n' = n' := wrap16_id (by omega) (by omega)
        have hwm : wrap64 m = m := w64i (by omega) (by omega)
        have hwm16 : IntKind.i16.wrap m = m := wrap16_id (by omega) (by omega)
        have hw1 : IntKind.i16.wrap (C - m) = C - m := wrap16_id (by omega) (by omega)
        have hw3 : wrap64 (n' - m) = n' - m := w64i (by omega) (by omega)
        have hw4 : IntKind.i32.wrap m = m := wrap32_id (by omega) (by omega)
        have hw5 : IntKind.i32.wrap (U + m) = U + m := wrap32_id (by omega) (by omega)
        have hw4' : wrap32 m = m := (i32_w m).symm.trans hw4
        have hw5' : wrap32 (U + m) = U + m := (i32_w _).symm.trans hw5
        have hw6 : IntKind.i16.wrap (U + m) = U + m := wrap16_id (by omega) (by omega)
        have cQ := HCC.out E.out
        have hqw : wrap64 ((q : Int) - 1) = (r : Int) := (w64i (by omega) (by omega)).trans (by omega)
        have hqz : ((q : Int) == 0) = false := beq_eq_false_iff_ne.mpr (by omega)
        have hqd : decide ((q : Int) = 0) = false := decide_eq_false (by omega)
        have HQR := Aside0.mk hqr
        have hq0 : 0 ≤ (q : Int) := by omega
        have hq8 : (q : Int) < 8 := by omega
        have hgez : (q : Int) ≥ 0 := by omega
        have hr0 : 0 ≤ (r : Int) := by omega
        have hr8 : (r : Int) < 8 := by omega
        clear hqr
        clear hm hs1 hU hs2 hC et hf2 bU bU1 bU2 HT HF1 b1 b2 b3 n0 n5 bC bC2 hz
        go_wp2
        refine start_ (n := 12) (S := fun w' => w'.cell? ⟨g, o + q, none⟩ = some (.int .i16 C)) (ds := [11]) #[false, false, false, false, false, false, false, false, false, false, false, false] (by kernel_rfl) rfl rfl (cQ) (fun hHeld => ?_)
        have E1 := Aside0.mk E.out.drew
        clear E cQ
        generalize wr.drew = wd at E1 hHeld ⊢
        have cQ : wd.cell? ⟨g, o + q, none⟩ = some (.int .i16 C) := hHeld
        refine pure_ (i := 0) (N := some 49) (v := ?_) (a' := ?_) #[true, false, false, false, false, false, false, false, false, false, false, false] rfl rfl (by kernel_rfl) (fun _ _ _ h => h) (Or.inl ⟨by rfl, ?_⟩) ?_ ?_
        rotate_left
        · intro w'
          go_simp
          with_reducible rfl
        rotate_left
        · exact putB
        refine pure_ (i := 1) (N := some 50) (v := ?_) (a' := ?_) #[true, true, false, false, false, false, false, false, false, false, false, false] rfl rfl (by kernel_rfl) (fun _ _ _ h => h) (Or.inl ⟨by rfl, ?_⟩) ?_ ?_
        rotate_left
        · intro w'
          go_simp
          with_reducible rfl
        rotate_left
        · exact putB
        refine pure_ (i := 2) (N := some 51) (v := ?_) (a' := ?_) #[true, true, true, false, false, false, false, false, false, false, false, false] rfl rfl (by kernel_rfl) (fun _ _ _ h => h) (Or.inl ⟨by rfl, ?_⟩) ?_ ?_
        rotate_left
        · intro w'
          go_simp
          with_reducible rfl
        rotate_left
        · exact putB
        refine pure_ (i := 3) (N := some 52) (v := ?_) (a' := ?_) #[true, true, true, true, false, false, false, false, false, false, false, false] rfl rfl (by kernel_rfl) (fun _ _ _ h => h) (Or.inl ⟨by rfl, ?_⟩) ?_ ?_
        rotate_left
        · intro w'
          go_simp
          with_reducible rfl
        rotate_left
        · exact putB
        refine pure_ (i := 4) (N := some 53) (v := ?_) (a' := ?_) #[true, true, true, true, true, false, false, false, false, false, false, false] rfl rfl (by kernel_rfl) (fun _ _ _ h => h) (Or.inl ⟨by rfl, ?_⟩) ?_ ?_
        rotate_left
        · intro w'
          go_simp
          with_reducible rfl
        rotate_left
        · exact putB
        refine pure_ (i := 6) (N := some 55) (v := ?_) (a' := ?_) #[true, true, true, true, true, false, true, false, false, false, false, false] rfl rfl (by kernel_rfl) (fun _ _ _ h => h) (Or.inl ⟨by rfl, ?_⟩) ?_ ?_
        rotate_left
        · intro w'
          go_simp
          with_reducible rfl
        rotate_left
        · exact putB
        refine pure_ (i := 8) (N := some 57) (v := ?_) (a' := ?_) #[true, true, true, true, true, false, true, false, true, false, false, false] rfl rfl (by kernel_rfl) (fun _ _ _ h => h) (Or.inl ⟨by rfl, ?_⟩) ?_ ?_
        rotate_left
        · intro w'
          go_simp
          with_reducible rfl
        rotate_left
        · exact putB
        refine pure_ (i := 9) (N := some 58) (v := ?_) (a' := ?_) #[true, true, true, true, true, false, true, false, true, true, false, false] rfl rfl (by kernel_rfl) (fun _ _ _ h => h) (Or.inl ⟨by rfl, ?_⟩) ?_ ?_
        rotate_left
        · intro w'
          go_simp
          with_reducible rfl
        rotate_left
        · exact putB
        refine take_ (i := 5) (N := some 54) (v := ?_) (a' := ?_) #[true, true, true, true, true, true, true, false, true, true, false, false] rfl rfl (by kernel_rfl) (fun _ _ _ h => h) (Or.inl ⟨by rfl, ?_⟩) hHeld ?_ ?_
        rotate_left
        · intro w' s0
          go_simp
          with_reducible rfl
        rotate_left
        · exact putB
        refine pure_ (i := 7) (N := some 56) (v := ?_) (a' := ?_) #[true, true, true, true, true, true, true, true, true, true, false, false] rfl rfl (by kernel_rfl) (fun _ _ _ h => h) (Or.inl ⟨by rfl, ?_⟩) ?_ ?_
        rotate_left
        · intro w'
          go_simp
          with_reducible rfl
        rotate_left
        · exact putB
        refine pure_ (i := 10) (N := some 59) (v := ?_) (a' := ?_) #[true, true, true, true, true, true, true, true, true, true, true, false] rfl rfl (by kernel_rfl) (fun _ _ _ h => h) (Or.inl ⟨by rfl, ?_⟩) ?_ ?_
        rotate_left
        · intro w'
          go_simp
          with_reducible rfl
        rotate_left
        · exact putB
        refine last_ (i := 11) (N := none) #[true, true, true, true, true, true, true, true, true, true, true, true] rfl rfl (by kernel_rfl) (by decide) (fun K hK => ?_)
        have hfn : wd.frozen? ⟨g, o + q, none⟩ = false := E1.out.free _
        have hcn := hHeld
        refine skip_ (w1 := ?_) (by rfl) rfl ?_ ?_
        rotate_left
        · go_simp
          rfl
        refine hK.out _ _ ?_
        clear hK K
        refine done_ (by kernel_rfl) ?_
        have E2 := Aside0.mk (HE1.out E1.out)
        clear E1 hHeld hw1 hcn hfn cQ
        generalize wd.setCell ⟨g, o + q, none⟩ (.int .i16 (C - m)) = wa at E2 ⊢
        have cQ : wa.cell? ⟨g, o + 8 + r, none⟩ = some (.int .i16 U) := HCU.out E2.out
        go_wp2
        refine start_ (n := 13) (S := fun w' => w'.cell? ⟨g, o + 8 + r, none⟩ = some (.int .i16 U)) (ds := [12]) #[false, false, false, false, false, false, false, false, false, false, false, false, false] (by kernel_rfl) rfl rfl (cQ) (fun hHeld => ?_)
        have E3 := Aside0.mk E2.out.drew
        clear E2 cQ
        generalize wa.drew = wb at E3 hHeld ⊢
        have cQ : wb.cell? ⟨g, o + 8 + r, none⟩ = some (.int .i16 U) := hHeld
        refine pure_ (i := 0) (N := some 75) (v := ?_) (a' := ?_) #[true, false, false, false, false, false, false, false, false, false, false, false, false] rfl rfl (by kernel_rfl) (fun _ _ _ h => h) (Or.inl ⟨by rfl, ?_⟩) ?_ ?_
        rotate_left
        · intro w'
          go_simp
          with_reducible rfl
        rotate_left
        · exact putB
        refine pure_ (i := 1) (N := some 76) (v := ?_) (a' := ?_) #[true, true, false, false, false, false, false, false, false, false, false, false, false] rfl rfl (by kernel_rfl) (fun _ _ _ h => h) (Or.inl ⟨by rfl, ?_⟩) ?_ ?_
        rotate_left
        · intro w'
          go_simp
          with_reducible rfl
        rotate_left
        · exact putB
        refine pure_ (i := 2) (N := some 77) (v := ?_) (a' := ?_) #[true, true, true, false, false, false, false, false, false, false, false, false, false] rfl rfl (by kernel_rfl) (fun _ _ _ h => h) (Or.inl ⟨by rfl, ?_⟩) ?_ ?_
        rotate_left
        · intro w'
          go_simp
          with_reducible rfl
        rotate_left
        · exact putB
        refine pure_ (i := 3) (N := some 78) (v := ?_) (a' := ?_) #[true, true, true, true, false, false, false, false, false, false, false, false, false] rfl rfl (by kernel_rfl) (fun _ _ _ h => h) (Or.inl ⟨by rfl, ?_⟩) ?_ ?_
        rotate_left
        · intro w'
          go_simp
          with_reducible rfl
        rotate_left
        · exact putB
        refine pure_ (i := 4) (N := some 79) (v := ?_) (a' := ?_) #[true, true, true, true, true, false, false, false, false, false, false, false, false] rfl rfl (by kernel_rfl) (fun _ _ _ h => h) (Or.inl ⟨by rfl, ?_⟩) ?_ ?_
        rotate_left
        · intro w'
          go_simp
          with_reducible rfl
        rotate_left
        · exact putB
        refine pure_ (i := 5) (N := some 80) (v := ?_) (a' := ?_) #[true, true, true, true, true, true, false, false, false, false, false, false, false] rfl rfl (by kernel_rfl) (fun _ _ _ h => h) (Or.inl ⟨by rfl, ?_⟩) ?_ ?_
        rotate_left
        · intro w'
          go_simp
          with_reducible rfl
        rotate_left
        · exact putB
        refine pure_ (i := 7) (N := some 82) (v := ?_) (a' := ?_) #[true, true, true, true, true, true, false, true, false, false, false, false, false] rfl rfl (by kernel_rfl) (fun _ _ _ h => h) (Or.inl ⟨by rfl, ?_⟩) ?_ ?_
        rotate_left
        · intro w'
          go_simp
          with_reducible rfl
        rotate_left
        · exact putB
        refine pure_ (i := 9) (N := some 84) (v := ?_) (a' := ?_) #[true, true, true, true, true, true, false, true, false, true, false, false, false] rfl rfl (by kernel_rfl) (fun _ _ _ h => h) (Or.inl ⟨by rfl, ?_⟩) ?_ ?_
        rotate_left
        · intro w'
          go_simp
          with_reducible rfl
        rotate_left
        · exact putB
        refine pure_ (i := 10) (N := some 85) (v := ?_) (a' := ?_) #[true, true, true, true, true, true, false, true, false, true, true, false, false] rfl rfl (by kernel_rfl) (fun _ _ _ h => h) (Or.inl ⟨by rfl, ?_⟩) ?_ ?_
        rotate_left
        · intro w'
          go_simp
          with_reducible rfl
        rotate_left
        · exact putB
        refine take_ (i := 6) (N := some 81) (v := ?_) (a' := ?_) #[true, true, true, true, true, true, true, true, false, true, true, false, false] rfl rfl (by kernel_rfl) (fun _ _ _ h => h) (Or.inl ⟨by rfl, ?_⟩) hHeld ?_ ?_
        rotate_left
        · intro w' s0
          go_simp
          with_reducible rfl
        rotate_left
        · exact putB
        refine pure_ (i := 8) (N := some 83) (v := ?_) (a' := ?_) #[true, true, true, true, true, true, true, true, true, true, true, false, false] rfl rfl (by kernel_rfl) (fun _ _ _ h => h) (Or.inl ⟨by rfl, ?_⟩) ?_ ?_
        rotate_left
        · intro w'
          go_simp
          with_reducible rfl
        rotate_left
        · exact putB
        refine pure_ (i := 11) (N := some 86) (v := ?_) (a' := ?_) #[true, true, true, true, true, true, true, true, true, true, true, true, false] rfl rfl (by kernel_rfl) (fun _ _ _ h => h) (Or.inl ⟨by rfl, ?_⟩) ?_ ?_
        rotate_left
        · intro w'
          go_simp
          with_reducible rfl
        rotate_left
        · exact putB
        refine last_ (i := 12) (N := none) #[true, true, true, true, true, true, true, true, true, true, true, true, true] rfl rfl (by kernel_rfl) (by decide) (fun K hK => ?_)
        have hfn : wb.frozen? ⟨g, o + 8 + r, none⟩ = false := E3.out.free _
        have hcn := hHeld
        refine skip_ (w1 := ?_) (by rfl) rfl ?_ ?_
        rotate_left
        · go_simp
          rfl
        refine hK.out _ _ ?_
        clear hK K
        refine done_ (by kernel_rfl) ?_
        go_wp2
        have hqr := HQR.out
        go_roundg q
        case measure => omega
        case rel => exact ⟨q, (r : Int), s2, n' - m, by omega, by omega, by omega, by first | rfl | (rw [hqw]; done) | (simp only [i64_w, hqw]; done) | go_num, by first | rfl | rw [hw3] | (simp [hw3]; done), HF2, HT2, ⟨HE2.out E3.out⟩⟩
end Go.Proofs.Ytggjdcijplgpdaa.H
