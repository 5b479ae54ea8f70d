import Derived.Test.YtggjdcijplgpdaazFStocksEPutB
import Derived.Test.YtggjdcijplgpdaazFStocksEInH
import Derived.Test.YtggjdcijplgpdaazFStocksENeedC
import Derived.Test.YtggjdcijplgpdaazFStocksECloneSt
import Derived.Shelf.Abstract
import Derived.Deep.QuietTactic
import Derived.BigQuiet
import Derived.Test.YtggjdcijplgpdaazFStocksEDayOf
import Derived.Test.YtggjdcijplgpdaaProg
import Derived.Shelf.Spec.SlicesGrow
section
namespace Go.Proofs.Ytggjdcijplgpdaa.H
open Go.RowKit Go.Proofs.YtggjdcijplgpdaaW.PrintWords Go.Proofs.YtggjdcijplgpdaaW.PrintLast Go.Proofs.YtggjdcijplgpdaaW.PrintMore
attribute [local go_sem] max2_int min2_int max_two min_two max_three min_three max_four min_four
set_option linter.unusedVariables false
set_option linter.unusedSimpArgs false
def firstC (a b : Int) : Int := if a = 0 then b else a
def dayC (l : List S55) (a3 : Int) (needs : List Int) : Int := firstC (codeB (needOk l needs) 2) (codeB (decide (a3 < 60)) 4)
theorem firstOf_two (a b : Int) : impl_firstOf.f 3 [a, b] = some (firstC a b) := by
 have e1 : wrap64 1 = 1 := w64i (by omega) (by omega)
 have e2 : wrap64 2 = 2 := w64i (by omega) (by omega)
 unfold impl_firstOf.f firstC
 by_cases h : a = 0
 · subst h
   have r0 : rd [0, b] (0 : Int) = 0 := rfl
   have r1 : rd [0, b] (1 : Int) = b := rfl
   by_cases h2 : b = 0
   · subst h2
     simp [impl_firstOf.l0, r0, r1, e1, e2]
   · simp [impl_firstOf.l0, r0, r1, e1, e2, h2]
 · have r0 : rd [a, b] (0 : Int) = a := rfl
   simp [impl_firstOf.l0, r0, h]
set_option maxHeartbeats 8000000 in
set_option maxRecDepth 100000 in
theorem dayCode_walk (W : World) (g g2 cap : Nat) (l0 : List S55) (a1 a2 a3 : Int) (A1 : Option Addr) (cN : Nat) (needs : List Int) (H : InH W g g2 cap l0 a1 a2 a3 W) (hr : Kd.C (Kd.int .i64) W A1 needs.length needs) (hc : needs.length ≤ cN) :
 Calls Try.prog 65 #[.pointer (some ⟨g, 0, none⟩), .slice A1 needs.length cN] W fun e w' => e = .returned (.int .i64 (dayC l0 a3 needs)) ∧ Below W.heap.size W w' := by
 have mixed : Try.prog.follows .mixedOrders = true := by kernel_rfl
 have hu32 := Try.underlying32
 have c3 : W.cell? ⟨g, 3, none⟩ = some (.int .i16 a3) := H.cell 3
 have HR := Aside0.mk hr
 have HC := Aside0.mk hc
 have HH := Aside0.mk H
 clear hr hc H
 have H := HH
 clear HH
 have HQ := Aside0.mk (show dayC l0 a3 needs = firstC (codeB (needOk l0 needs) 2) (codeB (decide (a3 < 60)) 4) from rfl)
 generalize dayC l0 a3 needs = r at HQ ⊢
 obtain ⟨x1, h1⟩ : ∃ x, codeB (needOk l0 needs) 2 = x := ⟨_, rfl⟩
 obtain ⟨x2, h2⟩ : ∃ x, codeB (decide (a3 < 60)) 4 = x := ⟨_, rfl⟩
 have H1 := Aside0.mk h1
 have HU := Aside0.mk (fun (w : World) => impl_unless.calls (decide (a3 < 60)) 4 _ w ((unless_B (decide (a3 < 60)) 4).trans (congrArg some h2)))
 rw [h1, h2] at HQ
 clear h1 h2
 go_enter Try.func65, Try.ntmps65
 go_wp2
 refine start_ (n := 12) (S := fun w' => w'.cell? ⟨g, 3, none⟩ = some (.int .i16 a3)) (ds := []) #[false, false, false, false, false, false, false, false, false, false, false, false] (by kernel_rfl) rfl rfl (c3) (fun hHeld => ?_)
 have HB := Aside0.mk (below_drew1 (Below.refl W.heap.size W))
 clear c3
 generalize W.drew = wd at HB hHeld ⊢
 have c3 : wd.cell? ⟨g, 3, none⟩ = some (.int .i16 a3) := (H.out.step HB.out).cell 3
 refine pure_ (i := 0) (N := some 5) (v := ?_) (a' := ?_) #[true, false, false, false, false, false, false, false, false, false, false, false] rfl rfl (by kernel_rfl) (fun _ _ _ h => h) (Or.inl ⟨by rfl, ?_⟩) ?_ ?_
 rotate_left
 · intro w'
   go_simp
   with_reducible rfl
 rotate_left
 · exact putB
 refine pure_ (i := 1) (N := some 6) (v := ?_) (a' := ?_) #[true, true, false, false, false, false, false, false, false, false, false, false] rfl rfl (by kernel_rfl) (fun _ _ _ h => h) (Or.inl ⟨by rfl, ?_⟩) ?_ ?_
 rotate_left
 · intro w'
   go_simp
   with_reducible rfl
 rotate_left
 · exact putB
 refine pure_ (i := 3) (N := some 8) (v := ?_) (a' := ?_) #[true, true, false, true, false, false, false, false, false, false, false, false] rfl rfl (by kernel_rfl) (fun _ _ _ h => h) (Or.inl ⟨by rfl, ?_⟩) ?_ ?_
 rotate_left
 · intro w'
   go_simp
   with_reducible rfl
 rotate_left
 · exact putB
 refine pure_ (i := 4) (N := some 9) (v := ?_) (a' := ?_) #[true, true, false, true, true, false, false, false, false, false, false, false] rfl rfl (by kernel_rfl) (fun _ _ _ h => h) (Or.inl ⟨by rfl, ?_⟩) ?_ ?_
 rotate_left
 · intro w'
   go_simp
   with_reducible rfl
 rotate_left
 · exact putB
 refine pure_ (i := 5) (N := some 10) (v := ?_) (a' := ?_) #[true, true, false, true, true, true, false, false, false, false, false, false] rfl rfl (by kernel_rfl) (fun _ _ _ h => h) (Or.inl ⟨by rfl, ?_⟩) ?_ ?_
 rotate_left
 · intro w'
   go_simp
   with_reducible rfl
 rotate_left
 · exact putB
 refine take_ (i := 6) (N := some 11) (v := ?_) (a' := ?_) #[true, true, false, true, true, true, true, false, false, false, false, false] rfl rfl (by kernel_rfl) (fun _ _ _ h => h) (Or.inl ⟨by rfl, ?_⟩) hHeld ?_ ?_
 rotate_left
 · intro w' s0
   go_simp
   with_reducible rfl
 rotate_left
 · exact putB
 refine pure_ (i := 7) (N := some 12) (v := ?_) (a' := ?_) #[true, true, false, true, true, true, true, true, false, false, false, false] rfl rfl (by kernel_rfl) (fun _ _ _ h => h) (Or.inl ⟨by rfl, ?_⟩) ?_ ?_
 rotate_left
 · intro w'
   go_simp
   with_reducible rfl
 rotate_left
 · exact putB
 refine one_ (i := 2) (N := some 7) #[true, true, true, true, true, true, true, true, false, false, false, false] rfl rfl (by kernel_rfl) (by decide) (fun K hK => ?_)
 refine goes_ Try.func96 (by kernel_rfl) rfl #[.pointer (some ⟨g, 0, none⟩), .slice A1 needs.length cN] (by rfl) rfl rfl (by (try simp only [List.map_toArray, List.map_cons, List.map_nil]); first | done | rfl) ?_
 refine (needCode_walk wd g g2 cap l0 a1 a2 a3 A1 cN needs (InH.start (H.out.step HB.out).hs (H.out.step HB.out).row) (Kd.C_below HR.out HB.out) HC.out).mono ?_
 rintro e we ⟨rfl, hb_⟩
 rw [H1.out]
 refine ⟨_, rfl, ?_⟩
 have HB2 := Aside0.mk (below_step HB.out hb_)
 clear HB hb_ c3
 have HB := HB2
 clear HB2
 have c3 : we.cell? ⟨g, 3, none⟩ = some (.int .i16 a3) := (H.out.step HB.out).cell 3
 refine hK.out _ _ (c3) (fun hHeld => ?_)
 clear hK K
 refine norm_ (a' := ?_) ?_ ?_
 rotate_left
 · show Act.put _ (some 7) _ = _
   exact putB
 refine one_ (i := 8) (N := some 13) #[true, true, true, true, true, true, true, true, true, false, false, false] rfl rfl (by kernel_rfl) (by decide) (fun K hK => ?_)
 refine goes_ Try.func62 (by kernel_rfl) rfl #[.bool (decide (a3 < 60)), .int .i64 4] (by rfl) rfl rfl (by (try simp only [List.map_toArray, List.map_cons, List.map_nil]); first | done | rfl) ?_
 refine (HU.out we).mono ?_
 rintro e wu ⟨rfl, hb_⟩
 refine ⟨_, rfl, ?_⟩
 have HB2 := Aside0.mk (below_step HB.out hb_.below)
 clear HB hb_ c3
 have HB := HB2
 clear HB2
 have c3 : wu.cell? ⟨g, 3, none⟩ = some (.int .i16 a3) := (H.out.step HB.out).cell 3
 refine hK.out _ _ (c3) (fun hHeld => ?_)
 clear hK K
 refine norm_ (a' := ?_) ?_ ?_
 rotate_left
 · show Act.put _ (some 13) _ = _
   exact putB
 refine one_ (i := 9) (N := some 14) #[true, true, true, true, true, true, true, true, true, true, false, false] rfl rfl (by kernel_rfl) (by decide) (fun K hK => ?_)
 refine Kd.R_lit_step (Kd.int .i64) _ 2 ?hg (N := 14) ?hd (xs := ([x1, x2] : List Int)) (inner := [.int .i64 x1, .int .i64 x2]) (ok := fun _ => True) (okp := fun _ => True) ?hr ?hp (fun _ hk => hk) trivial (Below.refl _ _) (Nat.le_refl _) (by simp) ?_; (case hd => rfl); (case hg => rfl); (case hr => first | (go_simp; done) | (go_simp; rfl)); (case hp => exact (Reps.one (show Kd.M (Kd.int .i64) _ _ _ x1 [.int .i64 x1] from rfl) (Reps.one (show Kd.M (Kd.int .i64) _ _ _ x2 [.int .i64 x2] from rfl) (Reps.none _ _))))
 intro v14 wa ho_ hb_ hg_ hnew_
 clear hg_ hnew_ c3
 have HL := Aside0.mk ho_
 have HB2 := Aside0.mk (below_step HB.out hb_)
 clear HB ho_ hb_
 have HB := HB2
 clear HB2
 have c3 : wa.cell? ⟨g, 3, none⟩ = some (.int .i16 a3) := (H.out.step HB.out).cell 3
 obtain ⟨Al, cl, el⟩ := Kd.R_slice HL.out
 subst el
 refine hK.out _ _ (c3) (fun hHeld => ?_)
 clear hK K
 refine norm_ (a' := ?_) ?_ ?_
 rotate_left
 · show Act.put _ (some 14) _ = _
   exact putB
 refine one_ (i := 10) (N := some 15) #[true, true, true, true, true, true, true, true, true, true, true, false] rfl rfl (by kernel_rfl) (by decide) (fun K hK => ?_)
 refine goes_ Try.func61 (by kernel_rfl) rfl #[.slice Al ([x1, x2] : List Int).length cl] (by rfl) rfl rfl (by (try simp only [List.map_toArray, List.map_cons, List.map_nil]); first | done | rfl) ?_
 refine (impl_firstOf.calls 3 Al cl [x1, x2] _ wa (Kd.R_reads' HL.out).2.2 (Kd.R_reads' HL.out).2.1 (firstOf_two x1 x2)).mono ?_
 rintro e wf ⟨rfl, hb_⟩
 refine ⟨_, rfl, ?_⟩
 have HB2 := Aside0.mk (below_step HB.out hb_.below)
 clear HB hb_ c3 HL
 have HB := HB2
 clear HB2
 have c3 : wf.cell? ⟨g, 3, none⟩ = some (.int .i16 a3) := (H.out.step HB.out).cell 3
 refine hK.out _ _ (c3) (fun hHeld => ?_)
 clear hK K
 refine norm_ (a' := ?_) ?_ ?_
 rotate_left
 · show Act.put _ (some 15) _ = _
   exact putB
 refine pure_ (i := 11) (N := some 4) (v := ?_) (a' := ?_) #[true, true, true, true, true, true, true, true, true, true, true, true] rfl rfl (by kernel_rfl) (fun _ _ _ h => h) (Or.inl ⟨by rfl, ?_⟩) ?_ ?_
 rotate_left
 · intro w'
   go_simp
   with_reducible rfl
 rotate_left
 · exact putB
 refine done_ (by kernel_rfl) ?_
 go_wp2
 go_ret
 exact ⟨by rw [HQ.out]; rfl, HB.out⟩
end Go.Proofs.Ytggjdcijplgpdaa.H
end
section
namespace Go.Proofs.Ytggjdcijplgpdaa.H
open Go.RowKit Go.Proofs.YtggjdcijplgpdaaW.PrintWords Go.Proofs.YtggjdcijplgpdaaW.PrintLast Go.Proofs.YtggjdcijplgpdaaW.PrintMore
attribute [local go_sem] max2_int min2_int max_two min_two max_three min_three max_four min_four
set_option linter.unusedVariables false
set_option linter.unusedSimpArgs false
def idxQ {α : Type} (p : α → Bool) (zs : List α) : Int := match zs.findIdx? p with
 | some i => (i : Int)
 | none => -1
theorem idxQ_hit {α : Type} (d : α) (p : α → Bool) (zs : List α) (j : Nat) (h : j < zs.length) (hj : p (zs.getD j d) = true) (ho : ∀ i, i < j → p (zs.getD i d) = false) : idxQ p zs = j := by
 have e : zs.findIdx? p = some j := by
  rw [List.findIdx?_eq_some_iff_getElem]
  refine ⟨h, ?_, fun i hi => ?_⟩
  · rw [List.getD_eq_getElem?_getD, List.getElem?_eq_getElem h] at hj
    exact hj
  · have := ho i hi
    rw [List.getD_eq_getElem?_getD, List.getElem?_eq_getElem (Nat.lt_trans hi h)] at this
    simpa using this
 unfold idxQ
 rw [e]
theorem idxQ_miss {α : Type} (d : α) (p : α → Bool) (zs : List α) (ho : ∀ i, i < zs.length → p (zs.getD i d) = false) : idxQ p zs = -1 := by
 have e : zs.findIdx? p = none := by
  rw [List.findIdx?_eq_none_iff]
  intro x hx
  obtain ⟨i, hi, rfl⟩ := List.getElem_of_mem hx
  have := ho i hi
  rw [List.getD_eq_getElem?_getD, List.getElem?_eq_getElem hi] at this
  exact this
 unfold idxQ
 rw [e]
theorem idxQ_any {α : Type} (p : α → Bool) (zs : List α) : decide (0 ≤ idxQ p zs) = zs.any p := by
 unfold idxQ
 cases h : zs.findIdx? p with
 | some i =>
  rw [List.findIdx?_eq_some_iff_getElem] at h
  obtain ⟨hi, hp, _⟩ := h
  have : zs.any p = true := List.any_eq_true.mpr ⟨_, List.getElem_mem hi, hp⟩
  rw [this]
  simp
 | none =>
  rw [List.findIdx?_eq_none_iff] at h
  have : zs.any p = false := by
   rw [List.any_eq_false]
   intro x hx
   simpa using h x hx
  rw [this]
  rfl
end Go.Proofs.Ytggjdcijplgpdaa.H
end
section
namespace Go.Proofs.Ytggjdcijplgpdaa.H
open Go.RowKit Go.Proofs.YtggjdcijplgpdaaW.PrintWords Go.Proofs.YtggjdcijplgpdaaW.PrintLast Go.Proofs.YtggjdcijplgpdaaW.PrintMore
attribute [local go_sem] max2_int min2_int max_two min_two max_three min_three max_four min_four
set_option linter.unusedVariables false
set_option linter.unusedSimpArgs false
def PredOnSt (g : Nat) (lb : Array Value) (p : S55 → Bool) (zs : List S55) (w : World) : Prop :=
 ∀ (W : World) (x : S55), x ∈ zs → Below w.heap.size w W → Calls Try.prog g (#[.agg (stC x).toArray] ++ lb) W fun e w' => e = .returned (.bool (p x)) ∧ Below w.heap.size w w'
theorem rd_T55_mem (zs : List S55) (j : Nat) (h : j < zs.length) : rd_T55 zs (j : Int) ∈ zs := by
 show zs.getD j z55 ∈ zs
 rw [List.getD_eq_getElem?_getD, List.getElem?_eq_getElem h]
 exact List.getElem_mem h
section
set_option maxHeartbeats 8000000 in
set_option maxRecDepth 100000 in
theorem indexFunc_st (g : Nat) (lb : Array Value) (eg : ∀ args w, (callFunc g args).run Try.prog w = .ok (.enter g args) w) (p : S55 → Bool) (A0 : Option Addr) (c0 : Nat) (l0 : List S55) (w : World)
 (hr0 : Kd.C k55 w A0 l0.length l0) (hp : PredOnSt g lb p l0 w) :
 Calls Try.prog 145 #[.slice A0 l0.length c0, .func (.func g) #[] lb] w fun e w' => e = .returned (.int .i64 (idxQ p l0)) ∧ Below w.heap.size w w' := by
 have hu55 := Try.underlying55
 have HM := Kd.C_max hr0
 have HR0 := Aside0.mk hr0
 have HP := Aside0.mk hp
 clear hr0 hp
 go_enter Try.func145, Try.ntmps145
 go_wp2
 go_loopg [5, 8] l0.length (fun gg _ s8 wr => ∃ kk : Nat, kk ≤ l0.length ∧ l0.length - kk ≤ gg ∧ s8 = .int .i64 kk ∧ Aside0 (Below w.heap.size w wr) ∧ Aside0 (∀ j, j < kk → p (l0.getD j z55) = false))
 case atStart => exact ⟨0, Nat.zero_le _, by omega, rfl, ⟨Below.refl _ w⟩, ⟨fun j hj => absurd hj (Nat.not_lt_zero _)⟩⟩
 case round =>
  obtain ⟨kk, hkk, hg, rfl, BW, A⟩ := hrel
  by_cases hlt : kk < l0.length
  · have hltz : (kk : Int) < (l0.length : Int) := by omega
    obtain ⟨ad, e⟩ : ∃ ad, A0 = some ad := by
     obtain ⟨ad, c, e, _⟩ := Kd.C_get HR0.out z55 (kk : Int) (by omega) hltz
     exact ⟨ad, e⟩
    subst e
    have hec := elem_cells (Kd.C_below HR0.out BW.out) kk hlt
    have hcall := HP.out wr (rd_T55 l0 (kk : Nat)) (rd_T55_mem l0 kk hlt) BW.out
    generalize hy : rd_T55 l0 ((kk : Nat) : Int) = y at hec hcall
    have EC := Aside0.mk hec
    clear hec
    have B := Aside0.mk (show l0.getD kk z55 = y from hy)
    clear hy
    cases hq : p y with
    | true =>
     rw [hq] at hcall
     go_wp2_with (first | ((with_reducible refine gate_dst (N := 15) rfl ?_); refine Kd.event_run rfl (mem_load (ad := ad.add (kk * 25)) (cs := stC y) rfl rfl EC.out Try.underlying55 rfl (by kernel_rfl)) ?_) | ((with_reducible refine hcall.mono ?_); rintro e w' ⟨rfl, hb'⟩))
     go_ret
     refine ⟨?_, hb'⟩
     rw [idxQ_hit z55 p l0 kk hlt (by rw [B.out]; exact hq) A.out]
     rfl
    | false =>
     rw [hq] at hcall
     go_wp2_with (first | ((with_reducible refine gate_dst (N := 15) rfl ?_); refine Kd.event_run rfl (mem_load (ad := ad.add (kk * 25)) (cs := stC y) rfl rfl EC.out Try.underlying55 rfl (by kernel_rfl)) ?_) | ((with_reducible refine hcall.mono ?_); rintro e w' ⟨rfl, hb'⟩))
     go_roundg (l0.length - (kk + 1))
     case measure => omega
     case rel =>
      refine ⟨kk + 1, by omega, by omega, by go_num, ⟨hb'⟩, ⟨fun j hj => ?_⟩⟩
      by_cases e : j = kk
      · subst e
        rw [B.out]; exact hq
      · exact A.out j (by omega)
  · have hltz : ¬ (kk : Int) < (l0.length : Int) := by omega
    have : kk = l0.length := by omega
    subst this
    go_wp2
    go_ret
    refine ⟨?_, BW.out⟩
    rw [idxQ_miss z55 p l0 A.out]
    rfl
set_option maxHeartbeats 8000000 in
set_option maxRecDepth 100000 in
theorem containsFunc_st (g : Nat) (lb : Array Value) (eg : ∀ args w, (callFunc g args).run Try.prog w = .ok (.enter g args) w) (p : S55 → Bool) (A0 : Option Addr) (c0 : Nat) (l0 : List S55) (w : World)
 (hr0 : Kd.C k55 w A0 l0.length l0) (hp : PredOnSt g lb p l0 w) :
 Calls Try.prog 121 #[.slice A0 l0.length c0, .func (.func g) #[] lb] w fun e w' => e = .returned (.bool (l0.any p)) ∧ Below w.heap.size w w' := by
 rw [← idxQ_any p l0]
 have HR0 := Aside0.mk hr0
 have HP := Aside0.mk hp
 clear hr0 hp
 go_enter Try.func121, Try.ntmps121
 go_wp2_with (go_at_call 145; refine (indexFunc_st g lb eg p A0 c0 l0 _ HR0.out HP.out).mono ?_; rintro e w' ⟨rfl, hb'⟩)
 go_ret
 exact ⟨rfl, hb'⟩
end
end Go.Proofs.Ytggjdcijplgpdaa.H
end
section
namespace Go.Proofs.Ytggjdcijplgpdaa.H
open Go.RowKit Go.Proofs.YtggjdcijplgpdaaW.PrintWords Go.Proofs.YtggjdcijplgpdaaW.PrintLast Go.Proofs.YtggjdcijplgpdaaW.PrintMore
attribute [local go_sem] max2_int min2_int max_two min_two max_three min_three max_four min_four
set_option linter.unusedVariables false
set_option linter.unusedSimpArgs false
theorem Ev.loop {S R : Type} {L : Nat → S → Option R} {r : R} (Inv : S → Nat → Prop)
 (h : ∀ s d, Inv s d → (∃ K, ∀ k, K ≤ k → L (k + 1) s = some r) ∨ ∃ s' d', d' < d ∧ Inv s' d' ∧ ∃ K, ∀ k, K ≤ k → L (k + 1) s = L k s') :
 ∀ d s, Inv s d → Ev (fun k => L k s) r := by
 intro d
 induction d using Nat.strongRecOn with
 | ind d ih =>
  intro s hs
  rcases h s d hs with ⟨K, hK⟩ | ⟨s', d', hd, hs', K, hK⟩
  · refine ⟨K + 1, fun k hk => ?_⟩
    obtain ⟨j, rfl⟩ : ∃ j, k = j + 1 := ⟨k - 1, by omega⟩
    exact hK j (by omega)
  · obtain ⟨K', hK'⟩ := ih d' hd s' hs'
    refine ⟨max K K' + 1, fun k hk => ?_⟩
    obtain ⟨j, rfl⟩ : ∃ j, k = j + 1 := ⟨k - 1, by omega⟩
    have h1 := hK j (by omega)
    have h2 := hK' j (by omega)
    exact h1.trans h2
theorem Ev.const {α : Type} {g : Option α} {r : α} (h : g = some r) : Ev (fun _ => g) r := ⟨0, fun _ _ => h⟩
theorem Ev.get {α : Type} {g : Nat → Option α} {r : α} (h : Ev g r) : ∃ k, g k = some r := Ev.rounds h
theorem Ev.all {α : Type} {g : Nat → Option α} {r : α} (h : Ev g r) : ∃ K, ∀ k, K ≤ k → g k = some r := h
end Go.Proofs.Ytggjdcijplgpdaa.H
end
section
namespace Go.Proofs
open Go.Shelf
def Try.growH_ren : Go.Shelf.Ren := ⟨fun | 4 => 147 | n => n, fun | 22 => 158 | 25 => 23 | 3 => 3 | 4 => 4 | 9 => 9 | 20 => 20 | 0 => 0 | n => n, fun | n => n⟩
theorem Try.growH : Go.Proofs.Lays8.n4 Try.prog Try.growH_ren := {
 mixed := by kernel_rfl
 f4 := ⟨Try.f147.name, by decide, Try.func147.trans (congrArg some (by kernel_rfl))⟩
 t0 := Try.underlying0
 a0 := Try.isAgg0
 z0 := Try.sizeOf0
 v0 := Try.zeroValue0
 t3 := Try.underlying3
 a3 := Try.isAgg3
 z3 := Try.sizeOf3
 v3 := Try.zeroValue3
 t4 := Try.underlying4
 a4 := Try.isAgg4
 z4 := Try.sizeOf4
 v4 := Try.zeroValue4
 t9 := Try.underlying9
 a9 := Try.isAgg9
 z9 := Try.sizeOf9
 v9 := Try.zeroValue9
 t20 := Try.underlying20
 a20 := Try.isAgg20
 z20 := Try.sizeOf20
 v20 := Try.zeroValue20
 t22 := Try.underlying158
 a22 := Try.isAgg158
 z22 := Try.sizeOf158
 v22 := Try.zeroValue158 }
end Go.Proofs
end
