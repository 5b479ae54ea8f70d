import Derived.Test.YtggjdcijplgpdaazEDayAllEE8
import Derived.Test.YtggjdcijplgpdaazEDayAllEIdx8
import Derived.Test.YtggjdcijplgpdaazEDayAllEMem
import Derived.Test.YtggjdcijplgpdaazEDayAllH7
import Derived.Shelf.Abstract
namespace Go.Proofs.Ytggjdcijplgpdaa.H
open Go.RowKit Go.Proofs.YtggjdcijplgpdaaW.PrintWords Go.Proofs.YtggjdcijplgpdaaW.PrintLast Go.Proofs.YtggjdcijplgpdaaW.PrintMore
attribute [local go_sem] max2_int min2_int max_two min_two max_three min_three max_four min_four
set_option linter.unusedVariables false
set_option linter.unusedSimpArgs false
theorem eqStock_any (x y : S55) (w : World) : Calls Try.prog 125 #[.agg (stC x).toArray, .agg (stC y).toArray] w fun e w' => e = .returned (.bool (decide (x.l = y.l))) ∧ Below w.heap.size w w' := by
  refine laws_eqStock.calls _ _ _ _ _ _ _ _ _ _ _ _ _ _ _ _ _ _ _ _ _ _ _ _ _ _ _ _ _ _ _ _ _ _ _ _ _ _ _ _ _ _ _ _ _ _ _ _ _ _ _ w ?_
  have e : ∀ s : S55, s.l = [s.f0.f0, s.f0.f1, s.f0.f2, s.f0.f3, s.f0.f4, s.f0.f5, s.f0.f6, s.f0.f7] ++ ([s.f1.f0, s.f1.f1, s.f1.f2, s.f1.f3, s.f1.f4, s.f1.f5, s.f1.f6, s.f1.f7] ++ ([s.f2.f0, s.f2.f1, s.f2.f2, s.f2.f3, s.f2.f4, s.f2.f5, s.f2.f6, s.f2.f7] ++ [s.f3])) := fun _ => rfl
  have q : (x.l = y.l) ↔ ([x.f0.f0, x.f0.f1, x.f0.f2, x.f0.f3, x.f0.f4, x.f0.f5, x.f0.f6, x.f0.f7] = [y.f0.f0, y.f0.f1, y.f0.f2, y.f0.f3, y.f0.f4, y.f0.f5, y.f0.f6, y.f0.f7] ∧ [x.f1.f0, x.f1.f1, x.f1.f2, x.f1.f3, x.f1.f4, x.f1.f5, x.f1.f6, x.f1.f7] = [y.f1.f0, y.f1.f1, y.f1.f2, y.f1.f3, y.f1.f4, y.f1.f5, y.f1.f6, y.f1.f7] ∧ [x.f2.f0, x.f2.f1, x.f2.f2, x.f2.f3, x.f2.f4, x.f2.f5, x.f2.f6, x.f2.f7] = [y.f2.f0, y.f2.f1, y.f2.f2, y.f2.f3, y.f2.f4, y.f2.f5, y.f2.f6, y.f2.f7] ∧ x.f3 = y.f3) := by
    rw [e x, e y]
    constructor
    · intro h
      obtain ⟨h1, h⟩ := List.append_inj h rfl
      obtain ⟨h2, h⟩ := List.append_inj h rfl
      obtain ⟨h3, h⟩ := List.append_inj h rfl
      exact ⟨h1, h2, h3, by injection h⟩
    · rintro ⟨h1, h2, h3, h4⟩
      rw [h1, h2, h3, h4]
  unfold laws_eqStock.f laws_eqInt16A8.f
  simp only [Option.bind_some]
  by_cases c1 : [x.f0.f0, x.f0.f1, x.f0.f2, x.f0.f3, x.f0.f4, x.f0.f5, x.f0.f6, x.f0.f7] = [y.f0.f0, y.f0.f1, y.f0.f2, y.f0.f3, y.f0.f4, y.f0.f5, y.f0.f6, y.f0.f7]
  · by_cases c2 : [x.f1.f0, x.f1.f1, x.f1.f2, x.f1.f3, x.f1.f4, x.f1.f5, x.f1.f6, x.f1.f7] = [y.f1.f0, y.f1.f1, y.f1.f2, y.f1.f3, y.f1.f4, y.f1.f5, y.f1.f6, y.f1.f7]
    · by_cases c3 : [x.f2.f0, x.f2.f1, x.f2.f2, x.f2.f3, x.f2.f4, x.f2.f5, x.f2.f6, x.f2.f7] = [y.f2.f0, y.f2.f1, y.f2.f2, y.f2.f3, y.f2.f4, y.f2.f5, y.f2.f6, y.f2.f7]
      · by_cases c4 : x.f3 = y.f3
        · rw [decide_eq_true (q.mpr ⟨c1, c2, c3, c4⟩)]
          simp only [decide_eq_true c1, decide_eq_true c2, decide_eq_true c3, if_true, c4, if_pos]
        · rw [decide_eq_false (fun h => c4 (q.mp h).2.2.2)]
          simp only [decide_eq_true c1, decide_eq_true c2, decide_eq_true c3, if_true, if_neg c4]
      · rw [decide_eq_false (fun h => c3 (q.mp h).2.2.1)]
        simp only [decide_eq_true c1, decide_eq_true c2, decide_eq_false c3, if_true, if_neg (show ¬ (false = true) by decide)]
    · rw [decide_eq_false (fun h => c2 (q.mp h).2.1)]
      simp only [decide_eq_true c1, decide_eq_false c2, if_true, if_neg (show ¬ (false = true) by decide)]
  · rw [decide_eq_false (fun h => c1 (q.mp h).1)]
    simp only [decide_eq_false c1, if_neg (show ¬ (false = true) by decide)]
def numsOf (l : List S55) : List (List Int) := l.map S55.l
def laws_eqStockS.f (l0 l1 : List S55) : Option Bool := some (decide (numsOf l0 = numsOf l1))
theorem take_grow (a b : List (List Int)) (i : Nat) (h : a.take i = b.take i) (he : a[i]? = b[i]?) : a.take (i + 1) = b.take (i + 1) := by rw [List.take_add_one, List.take_add_one, h, he]
theorem nums_at (l : List S55) (i : Nat) (h : i < l.length) : (numsOf l)[i]? = some ((l.getD i z55).l) := by
  unfold numsOf
  rw [List.getElem?_map, List.getElem?_eq_getElem h, List.getD_eq_getElem?_getD, List.getElem?_eq_getElem h]
  rfl
set_option maxHeartbeats 8000000 in
set_option maxRecDepth 100000 in
theorem laws_eqStockS.calls (A0 : Option Addr) (c0 : Nat) (l0 : List S55) (A1 : Option Addr) (c1 : Nat) (l1 : List S55) (r : Bool) (w : World) (hr0 : Kd.C k55 w A0 l0.length l0) (hc0 : l0.length ≤ c0) (hr1 : Kd.C k55 w A1 l1.length l1) (hc1 : l1.length ≤ c1) (h : laws_eqStockS.f l0 l1 = some r) :
    Calls Try.prog 67 #[.slice A0 l0.length c0, .slice A1 l1.length c1] w fun e w' => e = .returned (.bool r) ∧ Below w.heap.size w w' := by
  have mixed : Try.prog.follows .mixedOrders = true := by kernel_rfl
  have HMAX := Kd.C_max hr0
  have HR0 := Aside0.mk hr0
  have HR1 := Aside0.mk hr1
  have HRR := Aside0.mk (Option.some.inj h)
  clear hr0 hr1 hc0 hc1 h
  by_cases hl : l0.length = l1.length
  · have hb : ((l0.length : Int) != (l1.length : Int)) = false := by rw [hl]; simp
    have HL := Aside0.mk hl
    have HMX := Aside0.mk HMAX
    clear hl HMAX
    go_enter Try.func67, Try.ntmps67
    go_wp2
    go_loopg [5] l0.length (fun gk v5 wr => ∃ (i : Nat), i ≤ l0.length ∧ l0.length - i ≤ gk ∧ v5 = .int .i64 i ∧ Aside0 ((numsOf l0).take i = (numsOf l1).take i) ∧ Aside0 (Below w.heap.size w wr))
    case atStart => exact ⟨0, by omega, by omega, rfl, ⟨rfl⟩, ⟨Below.refl _ _⟩⟩
    case round =>
      obtain ⟨i, hi, hgk, rfl, HT, BW⟩ := hrel
      by_cases hlt : i < l0.length
      · have hltz : (i : Int) < (l0.length : Int) := by omega
        have hltz1 : (i : Int) < (l1.length : Int) := by have := HL.out; omega
        obtain ⟨ad0, e0⟩ : ∃ ad, A0 = some ad := by
          obtain ⟨ad, c, e, _⟩ := Kd.C_get HR0.out z55 (i : Int) (by omega) hltz
          exact ⟨ad, e⟩
        obtain ⟨ad1, e1⟩ : ∃ ad, A1 = some ad := by
          obtain ⟨ad, c, e, _⟩ := Kd.C_get HR1.out z55 (i : Int) (by omega) hltz1
          exact ⟨ad, e⟩
        subst e0 e1
        have hs0 := fun w' hb => elem_cells (Kd.C_below HR0.out (show Below w.heap.size w w' from hb)) i hlt
        have hs1 := fun w' hb => elem_cells (Kd.C_below HR1.out (show Below w.heap.size w w' from hb)) i (by have := HL.out; omega)
        have n0 := nums_at l0 i hlt
        have n1 := nums_at l1 i (by have := HL.out; omega)
        generalize hx : rd_T55 l0 ((i : Nat) : Int) = x at hs0
        generalize hy : rd_T55 l1 ((i : Nat) : Int) = y at hs1
        have hx : l0.getD i z55 = x := hx
        have hy : l1.getD i z55 = y := hy
        rw [hx] at n0
        rw [hy] at n1
        clear hx hy
        have HS := Aside0.mk (show ∀ w', Below wr.heap.size wr w' → (∀ j v, (stC x)[j]? = some v → w'.cell? ((ad0.add (i * 25)).add j) = some v) ∧ (∀ j v, (stC y)[j]? = some v → w'.cell? ((ad1.add (i * 25)).add j) = some v) from fun w' h => ⟨hs0 w' (below_step BW.out h), hs1 w' (below_step BW.out h)⟩)
        clear hs0 hs1
        have EQ := Aside0.mk (eqStock_any x y)
        have N0 := Aside0.mk n0
        have N1 := Aside0.mk n1
        have HLI := Aside0.mk hlt
        clear n0 n1
        by_cases c : x.l = y.l
        · rw [decide_eq_true c] at EQ
          have HT2 := Aside0.mk (take_grow _ _ i HT.out (by rw [N0.out, N1.out, c]))
          clear c
          go_wp2
          refine start_ (n := 10) (S := fun w' => (∀ j v, (stC x)[j]? = some v → w'.cell? ((ad0.add (i * 25)).add j) = some v) ∧ (∀ j v, (stC y)[j]? = some v → w'.cell? ((ad1.add (i * 25)).add j) = some v)) (ds := []) #[false, false, false, false, false, false, false, false, false, false] (by kernel_rfl) rfl rfl ⟨(HS.out _ (below_drew1 (Below.refl _ _))).1, (HS.out _ (below_drew1 (Below.refl _ _))).2⟩ (fun hHeld => ?_)
          have HB := Aside0.mk (show Below wr.heap.size wr wr.drew from below_drew1 (Below.refl _ _))
          generalize wr.drew = wd at HB hHeld ⊢
          refine pure_ (i := 0) (N := some 17) (v := ?_) (a' := ?_) #[true, false, false, false, false, false, false, false, false, false] rfl rfl (by kernel_rfl) (fun _ _ _ h => h) (Or.inl ⟨by rfl, ?_⟩) ?_ ?_
          rotate_left
          · intro w'
            go_simp
            with_reducible rfl
          rotate_left
          · simp only [Act.put, List.setIfInBounds_toArray, List.set_cons_zero, List.set_cons_succ, i64_w, i32_w]
            rfl
          refine pure_ (i := 1) (N := some 18) (v := ?_) (a' := ?_) #[true, true, false, false, false, false, false, false, false, false] rfl rfl (by kernel_rfl) (fun _ _ _ h => h) (Or.inl ⟨by rfl, ?_⟩) ?_ ?_
          rotate_left
          · intro w'
            go_simp
            with_reducible rfl
          rotate_left
          · simp only [Act.put, List.setIfInBounds_toArray, List.set_cons_zero, List.set_cons_succ, i64_w, i32_w]
            rfl
          refine pure_ (i := 2) (N := some 19) (v := ?_) (a' := ?_) #[true, true, true, false, false, false, false, false, false, false] rfl rfl (by kernel_rfl) (fun _ _ _ h => h) (Or.inl ⟨by rfl, ?_⟩) ?_ ?_
          rotate_left
          · intro w'
            go_simp
            with_reducible rfl
          rotate_left
          · simp only [Act.put, List.setIfInBounds_toArray, List.set_cons_zero, List.set_cons_succ, i64_w, i32_w]
            rfl
          refine pure_ (i := 4) (N := some 21) (v := ?_) (a' := ?_) #[true, true, true, false, true, false, false, false, false, false] rfl rfl (by kernel_rfl) (fun _ _ _ h => h) (Or.inl ⟨by rfl, ?_⟩) ?_ ?_
          rotate_left
          · intro w'
            go_simp
            with_reducible rfl
          rotate_left
          · simp only [Act.put, List.setIfInBounds_toArray, List.set_cons_zero, List.set_cons_succ, i64_w, i32_w]
            rfl
          refine pure_ (i := 5) (N := some 22) (v := ?_) (a' := ?_) #[true, true, true, false, true, true, false, false, false, false] rfl rfl (by kernel_rfl) (fun _ _ _ h => h) (Or.inl ⟨by rfl, ?_⟩) ?_ ?_
          rotate_left
          · intro w'
            go_simp
            with_reducible rfl
          rotate_left
          · simp only [Act.put, List.setIfInBounds_toArray, List.set_cons_zero, List.set_cons_succ, i64_w, i32_w]
            rfl
          refine pure_ (i := 6) (N := some 23) (v := ?_) (a' := ?_) #[true, true, true, false, true, true, true, false, false, false] rfl rfl (by kernel_rfl) (fun _ _ _ h => h) (Or.inl ⟨by rfl, ?_⟩) ?_ ?_
          rotate_left
          · intro w'
            go_simp
            with_reducible rfl
          rotate_left
          · simp only [Act.put, List.setIfInBounds_toArray, List.set_cons_zero, List.set_cons_succ, i64_w, i32_w]
            rfl
          refine take_ (i := 3) (N := some 20) (v := ?_) (a' := ?_) #[true, true, true, true, true, true, true, false, false, false] rfl rfl (by kernel_rfl) (fun _ _ _ h => h) (Or.inl ⟨by rfl, ?_⟩) hHeld ?_ ?_
          rotate_left
          · rintro w' ⟨s0, s1⟩
            refine mem_load (t := 55) (x := .tmp 19) (ad := ad0.add (i * 25)) (cs := stC x) ?_ ?_ s0 Try.underlying55 rfl (by kernel_rfl) <;> rfl
          rotate_left
          · simp only [Act.put, List.setIfInBounds_toArray, List.set_cons_zero, List.set_cons_succ, i64_w, i32_w]
            rfl
          refine take_ (i := 7) (N := some 24) (v := ?_) (a' := ?_) #[true, true, true, true, true, true, true, true, false, false] rfl rfl (by kernel_rfl) (fun _ _ _ h => h) (Or.inl ⟨by rfl, ?_⟩) hHeld ?_ ?_
          rotate_left
          · rintro w' ⟨s0, s1⟩
            refine mem_load (t := 55) (x := .tmp 23) (ad := ad1.add (i * 25)) (cs := stC y) ?_ ?_ s1 Try.underlying55 rfl (by kernel_rfl) <;> rfl
          rotate_left
          · simp only [Act.put, List.setIfInBounds_toArray, List.set_cons_zero, List.set_cons_succ, i64_w, i32_w]
            rfl
          refine one_ (i := 8) (N := some 25) #[true, true, true, true, true, true, true, true, true, false] rfl rfl (by kernel_rfl) (by decide) (fun K hK => ?_)
          refine goes_ Try.func125 (by kernel_rfl) rfl #[.agg (stC x).toArray, .agg (stC y).toArray] (by rfl) rfl rfl (by (try simp only [List.map_toArray, List.map_cons, List.map_nil]); first | done | rfl) ?_
          refine (EQ.out _).mono ?_
          rintro e we ⟨rfl, hb_⟩
          refine ⟨_, rfl, ?_⟩
          have n1_ := Aside0.mk (below_step HB.out hb_)
          clear HB hb_
          have HB := n1_
          clear n1_
          refine hK.out _ _ ⟨(HS.out _ HB.out).1, (HS.out _ HB.out).2⟩ (fun hHeld => ?_)
          clear hK K
          refine norm_ (a' := ?_) ?_ ?_
          rotate_left
          · show Act.put _ (some 25) _ = _
            simp only [Act.put, List.setIfInBounds_toArray, List.set_cons_zero, List.set_cons_succ, i64_w, i32_w]
            rfl
          refine pure_ (i := 9) (N := some 26) (v := ?_) (a' := ?_) #[true, true, true, true, true, true, true, true, true, true] rfl rfl (by kernel_rfl) (fun _ _ _ h => h) (Or.inl ⟨by rfl, ?_⟩) ?_ ?_
          rotate_left
          · intro w'
            go_simp
            with_reducible rfl
          rotate_left
          · simp only [Act.put, List.setIfInBounds_toArray, List.set_cons_zero, List.set_cons_succ, i64_w, i32_w]
            rfl
          refine done_ (by kernel_rfl) ?_
          go_wp2
          have hli_ := HLI.out
          have hmx_ := HMX.out
          go_roundg (l0.length - (i + 1))
          case measure => omega
          case rel => exact ⟨i + 1, by omega, by omega, by have hw_ : wrap64 ((i : Int) + 1) = ((i + 1 : Nat) : Int) := (w64i (by omega) (by omega)).trans (by omega); first | rw [hw_] | (simp only [i64_w, hw_]), HT2, ⟨below_step BW.out HB.out⟩⟩
        · rw [decide_eq_false c] at EQ
          have HF := Aside0.mk (show r = false by
            rw [← HRR.out]
            refine decide_eq_false fun e => c ?_
            have := congrArg (fun z => z[i]?) e
            have h2 : (numsOf l0)[i]? = (numsOf l1)[i]? := this
            rw [N0.out, N1.out] at h2
            exact Option.some.inj h2)
          clear c
          go_wp2
          refine start_ (n := 10) (S := fun w' => (∀ j v, (stC x)[j]? = some v → w'.cell? ((ad0.add (i * 25)).add j) = some v) ∧ (∀ j v, (stC y)[j]? = some v → w'.cell? ((ad1.add (i * 25)).add j) = some v)) (ds := []) #[false, false, false, false, false, false, false, false, false, false] (by kernel_rfl) rfl rfl ⟨(HS.out _ (below_drew1 (Below.refl _ _))).1, (HS.out _ (below_drew1 (Below.refl _ _))).2⟩ (fun hHeld => ?_)
          have HB := Aside0.mk (show Below wr.heap.size wr wr.drew from below_drew1 (Below.refl _ _))
          generalize wr.drew = wd at HB hHeld ⊢
          refine pure_ (i := 0) (N := some 17) (v := ?_) (a' := ?_) #[true, false, false, false, false, false, false, false, false, false] rfl rfl (by kernel_rfl) (fun _ _ _ h => h) (Or.inl ⟨by rfl, ?_⟩) ?_ ?_
          rotate_left
          · intro w'
            go_simp
            with_reducible rfl
          rotate_left
          · simp only [Act.put, List.setIfInBounds_toArray, List.set_cons_zero, List.set_cons_succ, i64_w, i32_w]
            rfl
          refine pure_ (i := 1) (N := some 18) (v := ?_) (a' := ?_) #[true, true, false, false, false, false, false, false, false, false] rfl rfl (by kernel_rfl) (fun _ _ _ h => h) (Or.inl ⟨by rfl, ?_⟩) ?_ ?_
          rotate_left
          · intro w'
            go_simp
            with_reducible rfl
          rotate_left
          · simp only [Act.put, List.setIfInBounds_toArray, List.set_cons_zero, List.set_cons_succ, i64_w, i32_w]
            rfl
          refine pure_ (i := 2) (N := some 19) (v := ?_) (a' := ?_) #[true, true, true, false, false, false, false, false, false, false] rfl rfl (by kernel_rfl) (fun _ _ _ h => h) (Or.inl ⟨by rfl, ?_⟩) ?_ ?_
          rotate_left
          · intro w'
            go_simp
            with_reducible rfl
          rotate_left
          · simp only [Act.put, List.setIfInBounds_toArray, List.set_cons_zero, List.set_cons_succ, i64_w, i32_w]
            rfl
          refine pure_ (i := 4) (N := some 21) (v := ?_) (a' := ?_) #[true, true, true, false, true, false, false, false, false, false] rfl rfl (by kernel_rfl) (fun _ _ _ h => h) (Or.inl ⟨by rfl, ?_⟩) ?_ ?_
          rotate_left
          · intro w'
            go_simp
            with_reducible rfl
          rotate_left
          · simp only [Act.put, List.setIfInBounds_toArray, List.set_cons_zero, List.set_cons_succ, i64_w, i32_w]
            rfl
          refine pure_ (i := 5) (N := some 22) (v := ?_) (a' := ?_) #[true, true, true, false, true, true, false, false, false, false] rfl rfl (by kernel_rfl) (fun _ _ _ h => h) (Or.inl ⟨by rfl, ?_⟩) ?_ ?_
          rotate_left
          · intro w'
            go_simp
            with_reducible rfl
          rotate_left
          · simp only [Act.put, List.setIfInBounds_toArray, List.set_cons_zero, List.set_cons_succ, i64_w, i32_w]
            rfl
          refine pure_ (i := 6) (N := some 23) (v := ?_) (a' := ?_) #[true, true, true, false, true, true, true, false, false, false] rfl rfl (by kernel_rfl) (fun _ _ _ h => h) (Or.inl ⟨by rfl, ?_⟩) ?_ ?_
          rotate_left
          · intro w'
            go_simp
            with_reducible rfl
          rotate_left
          · simp only [Act.put, List.setIfInBounds_toArray, List.set_cons_zero, List.set_cons_succ, i64_w, i32_w]
            rfl
          refine take_ (i := 3) (N := some 20) (v := ?_) (a' := ?_) #[true, true, true, true, true, true, true, false, false, false] rfl rfl (by kernel_rfl) (fun _ _ _ h => h) (Or.inl ⟨by rfl, ?_⟩) hHeld ?_ ?_
          rotate_left
          · rintro w' ⟨s0, s1⟩
            refine mem_load (t := 55) (x := .tmp 19) (ad := ad0.add (i * 25)) (cs := stC x) ?_ ?_ s0 Try.underlying55 rfl (by kernel_rfl) <;> rfl
          rotate_left
          · simp only [Act.put, List.setIfInBounds_toArray, List.set_cons_zero, List.set_cons_succ, i64_w, i32_w]
            rfl
          refine take_ (i := 7) (N := some 24) (v := ?_) (a' := ?_) #[true, true, true, true, true, true, true, true, false, false] rfl rfl (by kernel_rfl) (fun _ _ _ h => h) (Or.inl ⟨by rfl, ?_⟩) hHeld ?_ ?_
          rotate_left
          · rintro w' ⟨s0, s1⟩
            refine mem_load (t := 55) (x := .tmp 23) (ad := ad1.add (i * 25)) (cs := stC y) ?_ ?_ s1 Try.underlying55 rfl (by kernel_rfl) <;> rfl
          rotate_left
          · simp only [Act.put, List.setIfInBounds_toArray, List.set_cons_zero, List.set_cons_succ, i64_w, i32_w]
            rfl
          refine one_ (i := 8) (N := some 25) #[true, true, true, true, true, true, true, true, true, false] rfl rfl (by kernel_rfl) (by decide) (fun K hK => ?_)
          refine goes_ Try.func125 (by kernel_rfl) rfl #[.agg (stC x).toArray, .agg (stC y).toArray] (by rfl) rfl rfl (by (try simp only [List.map_toArray, List.map_cons, List.map_nil]); first | done | rfl) ?_
          refine (EQ.out _).mono ?_
          rintro e we ⟨rfl, hb_⟩
          refine ⟨_, rfl, ?_⟩
          have n1_ := Aside0.mk (below_step HB.out hb_)
          clear HB hb_
          have HB := n1_
          clear n1_
          refine hK.out _ _ ⟨(HS.out _ HB.out).1, (HS.out _ HB.out).2⟩ (fun hHeld => ?_)
          clear hK K
          refine norm_ (a' := ?_) ?_ ?_
          rotate_left
          · show Act.put _ (some 25) _ = _
            simp only [Act.put, List.setIfInBounds_toArray, List.set_cons_zero, List.set_cons_succ, i64_w, i32_w]
            rfl
          refine pure_ (i := 9) (N := some 26) (v := ?_) (a' := ?_) #[true, true, true, true, true, true, true, true, true, true] rfl rfl (by kernel_rfl) (fun _ _ _ h => h) (Or.inl ⟨by rfl, ?_⟩) ?_ ?_
          rotate_left
          · intro w'
            go_simp
            with_reducible rfl
          rotate_left
          · simp only [Act.put, List.setIfInBounds_toArray, List.set_cons_zero, List.set_cons_succ, i64_w, i32_w]
            rfl
          refine done_ (by kernel_rfl) ?_
          go_wp2
          go_ret
          exact ⟨by rw [HF.out]; rfl, below_step BW.out HB.out⟩
      · have hltz : ¬ (i : Int) < (l0.length : Int) := by omega
        obtain rfl : i = l0.length := by omega
        have HF := Aside0.mk (show r = true by
          rw [← HRR.out]
          refine decide_eq_true ?_
          have := HT.out
          rw [List.take_of_length_le (by unfold numsOf; rw [List.length_map]; exact Nat.le_refl _), List.take_of_length_le (by unfold numsOf; rw [List.length_map, HL.out]; exact Nat.le_refl _)] at this
          exact this)
        go_wp2
        go_ret
        exact ⟨by rw [HF.out]; rfl, BW.out⟩
  · have hb : ((l0.length : Int) != (l1.length : Int)) = true := by simp; omega
    have HF := Aside0.mk (show r = false by
      rw [← HRR.out]
      refine decide_eq_false fun e => hl ?_
      have := congrArg List.length e
      unfold numsOf at this
      rw [List.length_map, List.length_map] at this
      exact this)
    clear hl
    go_enter Try.func67, Try.ntmps67
    go_wp2
    go_ret
    exact ⟨by rw [HF.out]; rfl, Below.refl _ _⟩
end Go.Proofs.Ytggjdcijplgpdaa.H
