import Derived.Test.YtggjdcijplgpdaazEDayAllEPredInt64
import Derived.Test.YtggjdcijplgpdaazEDayAllEIdx8
import Derived.Test.YtggjdcijplgpdaazEDayAllH2
import Derived.Shelf.Abstract
import Derived.Deep.QuietTactic
import Derived.BigQuiet
section
namespace Go.Proofs.Ytggjdcijplgpdaa.H
open Go.RowKit Go.Proofs.YtggjdcijplgpdaaW.PrintWords Go.Proofs.YtggjdcijplgpdaaW.PrintLast Go.Proofs.YtggjdcijplgpdaaW.PrintMore
attribute [local go_sem] max2_int min2_int max_two min_two max_three min_three max_four min_four
set_option linter.unusedVariables false
set_option linter.unusedSimpArgs false
def inB (lo hi n : Int) : Bool := decide (lo ≤ n) && decide (n ≤ hi)
theorem within_B (n lo hi : Int) : impl_within.f n lo hi = some (inB lo hi n) := by
  unfold impl_within.f inB
  by_cases h1 : lo ≤ n <;> by_cases h2 : n ≤ hi <;> simp [h1, h2]
def impl_areWithin.f (l0 : List Int) (a1 : Int) (a2 : Int) : Option Bool := some (!(l0.any fun n => !inB a1 a2 n))
set_option maxHeartbeats 8000000 in
set_option maxRecDepth 100000 in
theorem areWithin_pred (lo hi x : Int) (B C : Nat) (W : World) (hb : W.cell? ⟨B, 0, none⟩ = some (.int .i64 lo)) (hc : W.cell? ⟨C, 0, none⟩ = some (.int .i64 hi)) :
    Calls Try.prog 129 #[.int .i64 x, .pointer (some ⟨B, 0, none⟩), .pointer (some ⟨C, 0, none⟩)] W fun e w' => e = .returned (.bool (!inB lo hi x)) ∧ Drawn0 W w' := by
  have hv := within_B x lo hi
  generalize inB lo hi x = r at *
  replace hv := Aside0.mk hv
  go_enter Try.func129, Try.ntmps129
  go_wp2_with (go_at_call 72; (with_reducible refine (impl_within.calls x lo hi r _ hv.out).mono ?_); rintro e w' ⟨rfl, ⟨nd, rfl⟩⟩)
  go_ret
  exact ⟨rfl, by repeat (first | exact Drawn0.refl _ | apply Drawn0.step)⟩
set_option maxHeartbeats 8000000 in
set_option maxRecDepth 100000 in
theorem impl_areWithin.calls (A0 : Option Addr) (c0 : Nat) (l0 : List Int) (a1 : Int) (a2 : Int) (r : Bool) (w : World) (hr0 : Kd.C (Kd.int .i64) w A0 l0.length l0) (hc0 : l0.length ≤ c0) (h : impl_areWithin.f l0 a1 a2 = some r) :
    Calls Try.prog 83 #[.slice A0 l0.length c0, .int .i64 a1, .int .i64 a2] w fun e w' => e = .returned (.bool r) ∧ Below w.heap.size w w' := by
  unfold impl_areWithin.f at h
  obtain rfl := Option.some.inj h
  have eg : ∀ args w, (callFunc 129 args).run Try.prog w = .ok (.enter 129 args) w := enters_of Try.func129 (by kernel_rfl) rfl
  have HC := fun (W : World) (hC : Kd.C (Kd.int .i64) W A0 l0.length l0) (h1 : W.cell? ⟨w.heap.size, 0, none⟩ = some (.int .i64 a1)) (h2 : W.cell? ⟨w.heap.size + 1, 0, none⟩ = some (.int .i64 a2)) (hlt : w.heap.size + 1 < W.heap.size) =>
    containsFunc_int64 129 #[.pointer (some ⟨w.heap.size, 0, none⟩), .pointer (some ⟨w.heap.size + 1, 0, none⟩)] eg (fun n => !inB a1 a2 n) A0 c0 l0 W hC
      (fun W' x _ hb' => (areWithin_pred a1 a2 x w.heap.size (w.heap.size + 1) W' ((hb'.cell (p := ⟨w.heap.size, 0, none⟩) (Nat.lt_of_succ_lt hlt)).trans h1) ((hb'.cell (p := ⟨w.heap.size + 1, 0, none⟩) hlt).trans h2)).mono fun e w' ⟨he, hd⟩ => ⟨he, hb'.trans (hd.below.mono hb'.size)⟩)
  replace HC := Aside0.mk HC
  have HR := Aside0.mk hr0
  clear hr0 eg
  generalize l0.any (fun n => !inB a1 a2 n) = r at *
  go_enter Try.func83, Try.ntmps83
  go_wp2_with (go_at_call 128; (refine (HC.out _ ?side1 ?side2 ?side3 ?side4).mono ?_); (case side1 => exact Kd.C_alloc (Kd.C_alloc HR.out _) _); (case side2 => (simp [go_sem]; done)); (case side3 => (simp [go_sem]; done)); (case side4 => (simp [go_sem]; done)); rintro e w' ⟨rfl, hb'⟩)
  go_ret
  exact ⟨rfl, below_step (below_alloc (below_alloc (Below.refl _ _) _) _) hb'⟩
end Go.Proofs.Ytggjdcijplgpdaa.H
end
section
namespace Go.Proofs.Ytggjdcijplgpdaa.H
open Go.RowKit Go.Proofs.YtggjdcijplgpdaaW.PrintWords Go.Proofs.YtggjdcijplgpdaaW.PrintLast Go.Proofs.YtggjdcijplgpdaaW.PrintMore
attribute [local go_sem] max2_int min2_int max_two min_two max_three min_three max_four min_four
set_option linter.unusedVariables false
set_option linter.unusedSimpArgs false
def needsIn (needs : List Int) : Bool := !(needs.any fun n => !inB 0 500 n)
def needOk (l : List S55) (needs : List Int) : Bool := decide (needs.length = l.length) && needsIn needs
def codeB (b : Bool) (c : Int) : Int := if b = true then 0 else c
theorem unless_B (b : Bool) (c : Int) : impl_unless.f b c = some (codeB b c) := by
  unfold impl_unless.f codeB
  cases b <;> rfl
set_option maxHeartbeats 8000000 in
set_option maxRecDepth 100000 in
theorem needCode_walk (W : World) (g g2 cap : Nat) (l0 : List S55) (a1 a2 a3 : Int) (A1 : Option Addr) (cN : Nat) (needs : List Int) (H : InH W g g2 cap l0 a1 a2 a3 W) (hr : Kd.C (Kd.int .i64) W A1 needs.length needs) (hc : needs.length ≤ cN) :
    Calls Try.prog 96 #[.pointer (some ⟨g, 0, none⟩), .slice A1 needs.length cN] W fun e w' => e = .returned (.int .i64 (codeB (needOk l0 needs) 2)) ∧ Below W.heap.size W w' := by
  have mixed : Try.prog.follows .mixedOrders = true := by kernel_rfl
  have hu32 := Try.underlying32
  have c0 : W.cell? ⟨g, 0, none⟩ = some (.slice (some ⟨g2, 0, none⟩) l0.length cap) := H.cell 0
  have HW := Aside0.mk (fun (w : World) (hb : Below W.heap.size W w) => impl_areWithin.calls A1 cN needs 0 500 _ w (Kd.C_below hr hb) hc rfl)
  have HU := Aside0.mk (fun (b : Bool) (w : World) => impl_unless.calls b 2 _ w (unless_B b 2))
  have HB := Aside0.mk (Below.refl W.heap.size W)
  have HQ := Aside0.mk (show needOk l0 needs = (decide (needs.length = l0.length) && needsIn needs) from rfl)
  generalize needOk l0 needs = r at HQ ⊢
  have hx : (!(needs.any fun n => !inB 0 500 n)) = needsIn needs := rfl
  by_cases hl : needs.length = l0.length
  · have hb : ((needs.length : Int) == (l0.length : Int)) = true := by rw [hl]; simp
    rw [decide_eq_true hl, Bool.true_and] at HQ
    clear H hr hc hl
    cases hq : needsIn needs with
    | false =>
      rw [hq] at HQ
      have HW2 := HW
      rw [hx, hq] at HW2
      have HU2 := Aside0.mk (fun (w : World) => HU.out false w)
      clear HW HU hx hq
      go_enter Try.func96, Try.ntmps96
      go_wp2_with (first | (go_at_call 83; (with_reducible refine (HW2.out _ ?side1).mono ?_); (case side1 => exact HB.out); rintro e w2 ⟨rfl, hd⟩; have n_ := Aside0.mk (below_step HB.out hd); clear HB hd; have HB := n_; clear n_) | (go_at_call 62; (with_reducible refine (HU2.out _).mono ?_); rintro e w2 ⟨rfl, hd⟩; have n_ := Aside0.mk (below_step HB.out hd.below); clear HB hd; have HB := n_; clear n_))
      go_ret
      exact ⟨by rw [HQ.out]; rfl, HB.out⟩
    | true =>
      rw [hq] at HQ
      have HW2 := HW
      rw [hx, hq] at HW2
      have HU2 := Aside0.mk (fun (w : World) => HU.out true w)
      clear HW HU hx hq
      go_enter Try.func96, Try.ntmps96
      go_wp2_with (first | (go_at_call 83; (with_reducible refine (HW2.out _ ?side1).mono ?_); (case side1 => exact HB.out); rintro e w2 ⟨rfl, hd⟩; have n_ := Aside0.mk (below_step HB.out hd); clear HB hd; have HB := n_; clear n_) | (go_at_call 62; (with_reducible refine (HU2.out _).mono ?_); rintro e w2 ⟨rfl, hd⟩; have n_ := Aside0.mk (below_step HB.out hd.below); clear HB hd; have HB := n_; clear n_))
      go_ret
      exact ⟨by rw [HQ.out]; rfl, HB.out⟩
  · have hb : ((needs.length : Int) == (l0.length : Int)) = false := by rw [beq_eq_false_iff_ne]; omega
    rw [decide_eq_false hl, Bool.false_and] at HQ
    clear H hr hc
    have HU2 := Aside0.mk (fun (w : World) => HU.out false w)
    go_enter Try.func96, Try.ntmps96
    go_wp2_with (first | (go_at_call 62; (with_reducible refine (HU2.out _).mono ?_); rintro e w2 ⟨rfl, hd⟩; have n_ := Aside0.mk (below_step HB.out hd.below); clear HB hd; have HB := n_; clear n_))
    go_ret
    exact ⟨by rw [HQ.out]; rfl, HB.out⟩
end Go.Proofs.Ytggjdcijplgpdaa.H
end
section
namespace Go.Proofs.Ytggjdcijplgpdaa.H
open Go.RowKit Go.Proofs.YtggjdcijplgpdaaW.PrintWords Go.Proofs.YtggjdcijplgpdaaW.PrintLast Go.Proofs.YtggjdcijplgpdaaW.PrintMore
attribute [local go_sem] max2_int min2_int max_two min_two max_three min_three max_four min_four
set_option linter.unusedVariables false
set_option linter.unusedSimpArgs false
def firstC (a b : Int) : Int := if a = 0 then b else a
def dayC (l : List S55) (a3 : Int) (needs : List Int) : Int := firstC (codeB (needOk l needs) 2) (codeB (decide (a3 < 60)) 4)
theorem firstOf_two (a b : Int) : impl_firstOf.f 3 [a, b] = some (firstC a b) := by
  have e1 : wrap64 1 = 1 := w64i (by omega) (by omega)
  have e2 : wrap64 2 = 2 := w64i (by omega) (by omega)
  unfold impl_firstOf.f firstC
  by_cases h : a = 0
  · subst h
    have r0 : rd [0, b] (0 : Int) = 0 := rfl
    have r1 : rd [0, b] (1 : Int) = b := rfl
    by_cases h2 : b = 0
    · subst h2
      simp [impl_firstOf.l0, r0, r1, e1, e2]
    · simp [impl_firstOf.l0, r0, r1, e1, e2, h2]
  · have r0 : rd [a, b] (0 : Int) = a := rfl
    simp [impl_firstOf.l0, r0, h]
set_option maxHeartbeats 8000000 in
set_option maxRecDepth 100000 in
theorem dayCode_walk (W : World) (g g2 cap : Nat) (l0 : List S55) (a1 a2 a3 : Int) (A1 : Option Addr) (cN : Nat) (needs : List Int) (H : InH W g g2 cap l0 a1 a2 a3 W) (hr : Kd.C (Kd.int .i64) W A1 needs.length needs) (hc : needs.length ≤ cN) :
    Calls Try.prog 65 #[.pointer (some ⟨g, 0, none⟩), .slice A1 needs.length cN] W fun e w' => e = .returned (.int .i64 (dayC l0 a3 needs)) ∧ Below W.heap.size W w' := by
  have mixed : Try.prog.follows .mixedOrders = true := by kernel_rfl
  have hu32 := Try.underlying32
  have c3 : W.cell? ⟨g, 3, none⟩ = some (.int .i16 a3) := H.cell 3
  have HR := Aside0.mk hr
  have HC := Aside0.mk hc
  have HH := Aside0.mk H
  clear hr hc H
  have H := HH
  clear HH
  have HQ := Aside0.mk (show dayC l0 a3 needs = firstC (codeB (needOk l0 needs) 2) (codeB (decide (a3 < 60)) 4) from rfl)
  generalize dayC l0 a3 needs = r at HQ ⊢
  obtain ⟨x1, h1⟩ : ∃ x, codeB (needOk l0 needs) 2 = x := ⟨_, rfl⟩
  obtain ⟨x2, h2⟩ : ∃ x, codeB (decide (a3 < 60)) 4 = x := ⟨_, rfl⟩
  have H1 := Aside0.mk h1
  have HU := Aside0.mk (fun (w : World) => impl_unless.calls (decide (a3 < 60)) 4 _ w ((unless_B (decide (a3 < 60)) 4).trans (congrArg some h2)))
  rw [h1, h2] at HQ
  clear h1 h2
  go_enter Try.func65, Try.ntmps65
  go_wp2
  refine start_ (n := 12) (S := fun w' => w'.cell? ⟨g, 3, none⟩ = some (.int .i16 a3)) (ds := []) #[false, false, false, false, false, false, false, false, false, false, false, false] (by kernel_rfl) rfl rfl (c3) (fun hHeld => ?_)
  have HB := Aside0.mk (below_drew1 (Below.refl W.heap.size W))
  clear c3
  generalize W.drew = wd at HB hHeld ⊢
  have c3 : wd.cell? ⟨g, 3, none⟩ = some (.int .i16 a3) := (H.out.step HB.out).cell 3
  refine pure_ (i := 0) (N := some 5) (v := ?_) (a' := ?_) #[true, false, false, false, false, false, false, false, false, false, false, false] rfl rfl (by kernel_rfl) (fun _ _ _ h => h) (Or.inl ⟨by rfl, ?_⟩) ?_ ?_
  rotate_left
  · intro w'
    go_simp
    with_reducible rfl
  rotate_left
  · simp only [Act.put, List.setIfInBounds_toArray, List.set_cons_zero, List.set_cons_succ, i64_w, i32_w]
    rfl
  refine pure_ (i := 1) (N := some 6) (v := ?_) (a' := ?_) #[true, true, false, false, false, false, false, false, false, false, false, false] rfl rfl (by kernel_rfl) (fun _ _ _ h => h) (Or.inl ⟨by rfl, ?_⟩) ?_ ?_
  rotate_left
  · intro w'
    go_simp
    with_reducible rfl
  rotate_left
  · simp only [Act.put, List.setIfInBounds_toArray, List.set_cons_zero, List.set_cons_succ, i64_w, i32_w]
    rfl
  refine pure_ (i := 3) (N := some 8) (v := ?_) (a' := ?_) #[true, true, false, true, false, false, false, false, false, false, false, false] rfl rfl (by kernel_rfl) (fun _ _ _ h => h) (Or.inl ⟨by rfl, ?_⟩) ?_ ?_
  rotate_left
  · intro w'
    go_simp
    with_reducible rfl
  rotate_left
  · simp only [Act.put, List.setIfInBounds_toArray, List.set_cons_zero, List.set_cons_succ, i64_w, i32_w]
    rfl
  refine pure_ (i := 4) (N := some 9) (v := ?_) (a' := ?_) #[true, true, false, true, true, false, false, false, false, false, false, false] rfl rfl (by kernel_rfl) (fun _ _ _ h => h) (Or.inl ⟨by rfl, ?_⟩) ?_ ?_
  rotate_left
  · intro w'
    go_simp
    with_reducible rfl
  rotate_left
  · simp only [Act.put, List.setIfInBounds_toArray, List.set_cons_zero, List.set_cons_succ, i64_w, i32_w]
    rfl
  refine pure_ (i := 5) (N := some 10) (v := ?_) (a' := ?_) #[true, true, false, true, true, true, false, false, false, false, false, false] rfl rfl (by kernel_rfl) (fun _ _ _ h => h) (Or.inl ⟨by rfl, ?_⟩) ?_ ?_
  rotate_left
  · intro w'
    go_simp
    with_reducible rfl
  rotate_left
  · simp only [Act.put, List.setIfInBounds_toArray, List.set_cons_zero, List.set_cons_succ, i64_w, i32_w]
    rfl
  refine take_ (i := 6) (N := some 11) (v := ?_) (a' := ?_) #[true, true, false, true, true, true, true, false, false, false, false, false] rfl rfl (by kernel_rfl) (fun _ _ _ h => h) (Or.inl ⟨by rfl, ?_⟩) hHeld ?_ ?_
  rotate_left
  · intro w' s0
    go_simp
    with_reducible rfl
  rotate_left
  · simp only [Act.put, List.setIfInBounds_toArray, List.set_cons_zero, List.set_cons_succ, i64_w, i32_w]
    rfl
  refine pure_ (i := 7) (N := some 12) (v := ?_) (a' := ?_) #[true, true, false, true, true, true, true, true, false, false, false, false] rfl rfl (by kernel_rfl) (fun _ _ _ h => h) (Or.inl ⟨by rfl, ?_⟩) ?_ ?_
  rotate_left
  · intro w'
    go_simp
    with_reducible rfl
  rotate_left
  · simp only [Act.put, List.setIfInBounds_toArray, List.set_cons_zero, List.set_cons_succ, i64_w, i32_w]
    rfl
  refine one_ (i := 2) (N := some 7) #[true, true, true, true, true, true, true, true, false, false, false, false] rfl rfl (by kernel_rfl) (by decide) (fun K hK => ?_)
  refine goes_ Try.func96 (by kernel_rfl) rfl #[.pointer (some ⟨g, 0, none⟩), .slice A1 needs.length cN] (by rfl) rfl rfl (by (try simp only [List.map_toArray, List.map_cons, List.map_nil]); first | done | rfl) ?_
  refine (needCode_walk wd g g2 cap l0 a1 a2 a3 A1 cN needs (InH.start (H.out.step HB.out).hs (H.out.step HB.out).row) (Kd.C_below HR.out HB.out) HC.out).mono ?_
  rintro e we ⟨rfl, hb_⟩
  rw [H1.out]
  refine ⟨_, rfl, ?_⟩
  have HB2 := Aside0.mk (below_step HB.out hb_)
  clear HB hb_ c3
  have HB := HB2
  clear HB2
  have c3 : we.cell? ⟨g, 3, none⟩ = some (.int .i16 a3) := (H.out.step HB.out).cell 3
  refine hK.out _ _ (c3) (fun hHeld => ?_)
  clear hK K
  refine norm_ (a' := ?_) ?_ ?_
  rotate_left
  · show Act.put _ (some 7) _ = _
    simp only [Act.put, List.setIfInBounds_toArray, List.set_cons_zero, List.set_cons_succ, i64_w, i32_w]
    rfl
  refine one_ (i := 8) (N := some 13) #[true, true, true, true, true, true, true, true, true, false, false, false] rfl rfl (by kernel_rfl) (by decide) (fun K hK => ?_)
  refine goes_ Try.func62 (by kernel_rfl) rfl #[.bool (decide (a3 < 60)), .int .i64 4] (by rfl) rfl rfl (by (try simp only [List.map_toArray, List.map_cons, List.map_nil]); first | done | rfl) ?_
  refine (HU.out we).mono ?_
  rintro e wu ⟨rfl, hb_⟩
  refine ⟨_, rfl, ?_⟩
  have HB2 := Aside0.mk (below_step HB.out hb_.below)
  clear HB hb_ c3
  have HB := HB2
  clear HB2
  have c3 : wu.cell? ⟨g, 3, none⟩ = some (.int .i16 a3) := (H.out.step HB.out).cell 3
  refine hK.out _ _ (c3) (fun hHeld => ?_)
  clear hK K
  refine norm_ (a' := ?_) ?_ ?_
  rotate_left
  · show Act.put _ (some 13) _ = _
    simp only [Act.put, List.setIfInBounds_toArray, List.set_cons_zero, List.set_cons_succ, i64_w, i32_w]
    rfl
  refine one_ (i := 9) (N := some 14) #[true, true, true, true, true, true, true, true, true, true, false, false] rfl rfl (by kernel_rfl) (by decide) (fun K hK => ?_)
  refine Kd.R_lit_step (Kd.int .i64) _ 2 ?hg (N := 14) ?hd (xs := ([x1, x2] : List Int)) (inner := [.int .i64 x1, .int .i64 x2]) (ok := fun _ => True) (okp := fun _ => True) ?hr ?hp (fun _ hk => hk) trivial (Below.refl _ _) (Nat.le_refl _) (by simp) ?_; (case hd => rfl); (case hg => rfl); (case hr => first | (go_simp; done) | (go_simp; rfl)); (case hp => exact (Reps.one (show Kd.M (Kd.int .i64) _ _ _ x1 [.int .i64 x1] from rfl) (Reps.one (show Kd.M (Kd.int .i64) _ _ _ x2 [.int .i64 x2] from rfl) (Reps.none _ _))))
  intro v14 wa ho_ hb_ hg_ hnew_
  clear hg_ hnew_ c3
  have HL := Aside0.mk ho_
  have HB2 := Aside0.mk (below_step HB.out hb_)
  clear HB ho_ hb_
  have HB := HB2
  clear HB2
  have c3 : wa.cell? ⟨g, 3, none⟩ = some (.int .i16 a3) := (H.out.step HB.out).cell 3
  obtain ⟨Al, cl, el⟩ := Kd.R_slice HL.out
  subst el
  refine hK.out _ _ (c3) (fun hHeld => ?_)
  clear hK K
  refine norm_ (a' := ?_) ?_ ?_
  rotate_left
  · show Act.put _ (some 14) _ = _
    simp only [Act.put, List.setIfInBounds_toArray, List.set_cons_zero, List.set_cons_succ, i64_w, i32_w]
    rfl
  refine one_ (i := 10) (N := some 15) #[true, true, true, true, true, true, true, true, true, true, true, false] rfl rfl (by kernel_rfl) (by decide) (fun K hK => ?_)
  refine goes_ Try.func61 (by kernel_rfl) rfl #[.slice Al ([x1, x2] : List Int).length cl] (by rfl) rfl rfl (by (try simp only [List.map_toArray, List.map_cons, List.map_nil]); first | done | rfl) ?_
  refine (impl_firstOf.calls 3 Al cl [x1, x2] _ wa (Kd.R_reads' HL.out).2.2 (Kd.R_reads' HL.out).2.1 (firstOf_two x1 x2)).mono ?_
  rintro e wf ⟨rfl, hb_⟩
  refine ⟨_, rfl, ?_⟩
  have HB2 := Aside0.mk (below_step HB.out hb_.below)
  clear HB hb_ c3 HL
  have HB := HB2
  clear HB2
  have c3 : wf.cell? ⟨g, 3, none⟩ = some (.int .i16 a3) := (H.out.step HB.out).cell 3
  refine hK.out _ _ (c3) (fun hHeld => ?_)
  clear hK K
  refine norm_ (a' := ?_) ?_ ?_
  rotate_left
  · show Act.put _ (some 15) _ = _
    simp only [Act.put, List.setIfInBounds_toArray, List.set_cons_zero, List.set_cons_succ, i64_w, i32_w]
    rfl
  refine pure_ (i := 11) (N := some 4) (v := ?_) (a' := ?_) #[true, true, true, true, true, true, true, true, true, true, true, true] rfl rfl (by kernel_rfl) (fun _ _ _ h => h) (Or.inl ⟨by rfl, ?_⟩) ?_ ?_
  rotate_left
  · intro w'
    go_simp
    with_reducible rfl
  rotate_left
  · simp only [Act.put, List.setIfInBounds_toArray, List.set_cons_zero, List.set_cons_succ, i64_w, i32_w]
    rfl
  refine done_ (by kernel_rfl) ?_
  go_wp2
  go_ret
  exact ⟨by rw [HQ.out]; rfl, HB.out⟩
end Go.Proofs.Ytggjdcijplgpdaa.H
end
