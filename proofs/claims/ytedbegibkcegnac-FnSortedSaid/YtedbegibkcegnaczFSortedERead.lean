import Derived.Test.YtedbegibkcegnaczFSortedM0
import Derived.Test.YtedbegibkcegnaczFSortedEPredMark
import Derived.Test.YtedbegibkcegnaczFSortedM3
import Derived.Shelf.Abstract
import Derived.Test.YtedbegibkcegnaczFSortedECloneMark
import Derived.Deep.RegionHeld3
section
namespace Go.Proofs.Ytedbegibkcegnac.M
open Go.RowKit Go.Proofs.YtedbegibkcegnacW.PrintWords Go.Proofs.YtedbegibkcegnacW.PrintLast Go.Proofs.YtedbegibkcegnacW.PrintMore
attribute [local go_sem] max2_int min2_int max_two min_two max_three min_three max_four min_four   -- for this text's walks alone
set_option linter.unusedVariables false
set_option linter.unusedSimpArgs false
def impl_within.f (a0 : Int) (a1 : Int) (a2 : Int) : Option (Bool) := if a1 ≤ a0 then (some (decide (a0 ≤ a2))) else (some false)
set_option maxHeartbeats 8000000 in
set_option maxRecDepth 100000 in
theorem impl_within.calls (a0 : Int) (a1 : Int) (a2 : Int) (r : Bool) (w : World) (h : impl_within.f a0 a1 a2 = some r) :
    Calls Try.prog 62 #[.int .i64 a0, .int .i64 a1, .int .i64 a2] w fun e w' => e = .returned (.bool r) ∧ Drawn0 w w' := by
  have H : (if a1 ≤ a0 then (some (decide (a0 ≤ a2))) else (some false)) = some r := h
  clear h
  by_cases c4 : a1 ≤ a0
  · rw [if_pos c4] at H
    have c4b0 : decide (a1 ≤ a0) = true := decide_eq_true c4
    clear c4
    obtain rfl := Option.some.inj H
    go_enter Try.func62, Try.ntmps62
    go_wp2
    go_ret
    exact ⟨by first | rfl | (simp; done) | (simp [*]; done), by repeat (first | exact Drawn0.refl _ | apply Drawn0.step)⟩
  · rw [if_neg c4] at H
    have c4b0 : decide (a1 ≤ a0) = false := decide_eq_false c4
    clear c4
    obtain rfl := Option.some.inj H
    go_enter Try.func62, Try.ntmps62
    go_wp2
    go_ret
    exact ⟨by first | rfl | (simp; done) | (simp [*]; done), by repeat (first | exact Drawn0.refl _ | apply Drawn0.step)⟩
def impl_areStitches.f (a0 : Int) : Option (Bool) := (impl_within.f a0 1 12).bind fun t159 => (some t159)
set_option maxHeartbeats 8000000 in
set_option maxRecDepth 100000 in
theorem impl_areStitches.calls (a0 : Int) (r : Bool) (w : World) (h : impl_areStitches.f a0 = some r) :
    Calls Try.prog 49 #[.int .i64 a0] w fun e w' => e = .returned (.bool r) ∧ Drawn0 w w' := by
  have H : ((impl_within.f a0 1 12).bind fun t159 => (some t159)) = some r := h
  clear h
  replace H := Option.bind_eq_some_iff.mp H
  obtain ⟨t159, A20, H⟩ := H
  replace H : (some t159) = some r := H
  have A2 := Aside0.mk A20
  clear A20
  obtain rfl := Option.some.inj H
  go_enter Try.func49, Try.ntmps49
  go_wp2_with (first | ((with_reducible refine gate_callee (f := 62) rfl ?_); refine goesL_ (some 4) rfl rfl Try.func62 (by kernel_rfl) rfl #[.int .i64 a0, .int .i64 1, .int .i64 12] rfl (by (try simp only [List.map_toArray, List.map_cons, List.map_nil]); first | done | rfl | (simp only [List.length_drop, List.length_take]; rfl)) ?_; (with_reducible refine (impl_within.calls a0 1 12 t159 _ A2.out).mono ?_); rintro e w' ⟨rfl, ⟨nd, rfl⟩⟩; refine ⟨_, rfl, ?_⟩))
  go_ret
  exact ⟨by first | rfl | (simp; done) | (simp [*]; done), by repeat (first | exact Drawn0.refl _ | apply Drawn0.step)⟩
end Go.Proofs.Ytedbegibkcegnac.M
end
section
namespace Go.Proofs.Ytedbegibkcegnac.M
open Go.RowKit Go.Proofs.YtedbegibkcegnacW.PrintWords Go.Proofs.YtedbegibkcegnacW.PrintLast Go.Proofs.YtedbegibkcegnacW.PrintMore
attribute [local go_sem] max2_int min2_int max_two min_two max_three min_three max_four min_four   -- for this text's walks alone
set_option linter.unusedVariables false
set_option linter.unusedSimpArgs false
def impl_ValidMark.f (a0 : Int) (a1 : Int) : Option (Bool) := (impl_areStitches.f a0).bind fun t160 => (if t160 = true then (if 0 ≤ a0 then (some ((shr .u16 a1 a0) == 0)) else (none)) else (some false))
set_option maxHeartbeats 8000000 in
set_option maxRecDepth 100000 in
theorem impl_ValidMark.calls (a0 : Int) (a1 : Int) (r : Bool) (w : World) (h : impl_ValidMark.f a0 a1 = some r) :
    Calls Try.prog 52 #[.int .i64 a0, .int .u16 a1] w fun e w' => e = .returned (.bool r) ∧ Drawn0 w w' := by
  have H : ((impl_areStitches.f a0).bind fun t160 => (if t160 = true then (if 0 ≤ a0 then (some ((shr .u16 a1 a0) == 0)) else (none)) else (some false))) = some r := h
  clear h
  replace H := Option.bind_eq_some_iff.mp H
  obtain ⟨t160, A30, H⟩ := H
  replace H : (if t160 = true then (if 0 ≤ a0 then (some ((shr .u16 a1 a0) == 0)) else (none)) else (some false)) = some r := H
  have A3 := Aside0.mk A30
  clear A30
  by_cases c4 : t160 = true
  · subst c4
    have H1 : (if 0 ≤ a0 then (some ((shr .u16 a1 a0) == 0)) else (none)) = some r := by rw [if_pos rfl] at H; exact H
    clear H
    have H := H1
    clear H1
    by_cases c5 : 0 ≤ a0
    · rw [if_pos c5] at H
      have c5b0 := eq_true c5
      have c5b1 : decide (0 ≤ a0) = true := decide_eq_true c5
      clear c5
      obtain ⟨ji6, hji6⟩ : ∃ j_ : Int, (shr .u16 a1 a0) = j_ := ⟨_, rfl⟩
      replace H : (some ((ji6) == 0)) = some r := by first | (rw [hji6] at H; exact H) | (simp only [hji6] at H ⊢; exact H)
      (try rw [hji6] at A3)
      have hji6_ : (a1 / 2 ^ min a0.toNat 16) = ji6 := hji6
      have hji6z : a0 ≤ 16 → (a1 / 2 ^ a0.toNat) = ji6 := shr_small hji6
      obtain rfl := Option.some.inj H
      go_enter Try.func52, Try.ntmps52
      go_wp2_with (first | ((with_reducible refine gate_callee (f := 49) rfl ?_); refine goesL_ (some 6) rfl rfl Try.func49 (by kernel_rfl) rfl #[.int .i64 a0] rfl (by (try simp only [List.map_toArray, List.map_cons, List.map_nil]); first | done | rfl | (simp only [List.length_drop, List.length_take]; rfl)) ?_; (with_reducible refine (impl_areStitches.calls a0 true _ A3.out).mono ?_); rintro e w' ⟨rfl, ⟨nd, rfl⟩⟩; refine ⟨_, rfl, ?_⟩))
      go_ret
      exact ⟨by first | rfl | (simp; done) | (simp only [← hji6] <;> (first | rfl | simp)) | (simp [*]; done), by repeat (first | exact Drawn0.refl _ | apply Drawn0.step)⟩
    · rw [if_neg c5] at H
      exact absurd H (by simp)
  · replace c4 := Bool.eq_false_iff.mpr c4
    subst c4
    have H1 : (some false) = some r := by rw [if_neg (show ¬ (false = true) by decide)] at H; exact H
    clear H
    have H := H1
    clear H1
    obtain rfl := Option.some.inj H
    go_enter Try.func52, Try.ntmps52
    go_wp2_with (first | ((with_reducible refine gate_callee (f := 49) rfl ?_); refine goesL_ (some 6) rfl rfl Try.func49 (by kernel_rfl) rfl #[.int .i64 a0] rfl (by (try simp only [List.map_toArray, List.map_cons, List.map_nil]); first | done | rfl | (simp only [List.length_drop, List.length_take]; rfl)) ?_; (with_reducible refine (impl_areStitches.calls a0 false _ A3.out).mono ?_); rintro e w' ⟨rfl, ⟨nd, rfl⟩⟩; refine ⟨_, rfl, ?_⟩))
    go_ret
    exact ⟨by first | rfl | (simp; done) | (simp [*]; done), by repeat (first | exact Drawn0.refl _ | apply Drawn0.step)⟩
end Go.Proofs.Ytedbegibkcegnac.M
end
section
namespace Go.Proofs.Ytedbegibkcegnac.M
open Go.RowKit Go.Proofs.YtedbegibkcegnacW.PrintWords Go.Proofs.YtedbegibkcegnacW.PrintLast Go.Proofs.YtedbegibkcegnacW.PrintMore
attribute [local go_sem] max2_int min2_int max_two min_two max_three min_three max_four min_four
set_option linter.unusedVariables false
set_option linter.unusedSimpArgs false
def okMark (n m : Int) : Bool := decide (1 ≤ n) && decide (n ≤ 12) && (shr .u16 m n == 0)
theorem valid_f (n m : Int) : impl_ValidMark.f n m = some (okMark n m) := by
  unfold impl_ValidMark.f impl_areStitches.f impl_within.f okMark
  by_cases c1 : 1 ≤ n
  · by_cases c2 : n ≤ 12
    · simp [c1, c2, show 0 ≤ n by omega]
    · simp [c1, c2]
  · simp [c1]
def impl_markCode.f (a0 : Int) (l1 : List Int) : Option Int := some (if 1 ≤ a0 ∧ a0 ≤ 12 then (if l1.any (fun m => !okMark a0 m) = true then 1 else 0) else 1)
set_option maxHeartbeats 8000000 in
set_option maxRecDepth 100000 in
theorem markCode_pred (a0 x : Int) (B : Nat) (W : World) (hc : W.cell? ⟨B, 0, none⟩ = some (.int .i64 a0)) :
    Calls Try.prog 51 #[.int .u16 x, .pointer (some ⟨B, 0, none⟩)] W fun e w' => e = .returned (.bool (!okMark a0 x)) ∧ Drawn0 W w' := by
  have hv := Aside0.mk (valid_f a0 x)
  cases hq : okMark a0 x with
  | true =>
    rw [hq] at hv
    go_enter Try.func51, Try.ntmps51
    go_wp2_with (go_at_call 52; (with_reducible refine (impl_ValidMark.calls a0 x true _ hv.out).mono ?_); rintro e w' ⟨rfl, ⟨nd, rfl⟩⟩)
    go_ret
    exact ⟨rfl, by repeat (first | exact Drawn0.refl _ | apply Drawn0.step)⟩
  | false =>
    rw [hq] at hv
    go_enter Try.func51, Try.ntmps51
    go_wp2_with (go_at_call 52; (with_reducible refine (impl_ValidMark.calls a0 x false _ hv.out).mono ?_); rintro e w' ⟨rfl, ⟨nd, rfl⟩⟩)
    go_ret
    exact ⟨rfl, by repeat (first | exact Drawn0.refl _ | apply Drawn0.step)⟩
theorem stitches_f (n : Int) : impl_areStitches.f n = some (decide (1 ≤ n ∧ n ≤ 12)) := by
  unfold impl_areStitches.f impl_within.f
  by_cases c1 : 1 ≤ n
  · by_cases c2 : n ≤ 12
    · simp [c1, c2]
    · simp [c1, c2]
  · simp [c1]
theorem unless_t (c : Int) : impl_unless.f true c = some 0 := by unfold impl_unless.f; simp
theorem unless_f (c : Int) : impl_unless.f false c = some c := by unfold impl_unless.f; simp
set_option maxHeartbeats 8000000 in
set_option maxRecDepth 100000 in
theorem impl_markCode.calls (a0 : Int) (A1 : Option Addr) (c1 : Nat) (l1 : List Int) (r : Int) (w : World) (hr1 : Kd.C (Kd.int .u16) w A1 l1.length l1) (hc1 : l1.length ≤ c1) (h : impl_markCode.f a0 l1 = some r) :
    Calls Try.prog 28 #[.int .i64 a0, .slice A1 l1.length c1] w fun e w' => e = .returned (.int .i64 r) ∧ Below w.heap.size w w' := by
  have HR1 := Aside0.mk hr1
  clear hr1
  have eg : ∀ args w, (callFunc 51 args).run Try.prog w = .ok (.enter 51 args) w := enters_of Try.func51 (by kernel_rfl) rfl
  have HS := Aside0.mk (stitches_f a0)
  unfold impl_markCode.f at h
  by_cases c : 1 ≤ a0 ∧ a0 ≤ 12
  · rw [if_pos c] at h
    rw [decide_eq_true c] at HS
    clear c
    have HC := fun (W : World) (hb : Below w.heap.size w W) (hc : W.cell? ⟨w.heap.size, 0, none⟩ = some (.int .i64 a0)) (hlt : w.heap.size < W.heap.size) =>
      containsFunc_mark 51 #[.pointer (some ⟨w.heap.size, 0, none⟩)] eg (fun m => !okMark a0 m) A1 c1 l1 W (Kd.C_below HR1.out hb)
        (fun W' x _ hb' => (markCode_pred a0 x w.heap.size W' ((hb'.cell (p := ⟨w.heap.size, 0, none⟩) hlt).trans hc)).mono fun e w' ⟨he, hd⟩ => ⟨he, hb'.trans (hd.below.mono hb'.size)⟩)
    replace HC := Aside0.mk HC
    cases hq : l1.any (fun m => !okMark a0 m) with
    | true =>
      rw [hq, if_pos rfl] at h
      rw [hq] at HC
      obtain rfl := Option.some.inj h
      go_enter Try.func28, Try.ntmps28
      go_wp2_with (first
        | (go_at_call 49; (with_reducible refine (impl_areStitches.calls a0 true _ HS.out).mono ?_); rintro e w' ⟨rfl, ⟨nd, rfl⟩⟩)
        | (go_at_call 50; (refine (HC.out _ ?_ ?_ ?_).mono ?_); (exact box_below _ _ _); (exact box_cell _ _ _ _); (exact box_lt _ _ _); rintro e w' ⟨rfl, hb'⟩)
        | (go_at_call 45; (with_reducible refine (impl_unless.calls false 1 1 _ (unless_f 1)).mono ?_); rintro e w' ⟨rfl, ⟨nd, rfl⟩⟩))
      go_ret
      exact ⟨rfl, pw_below_drewN (below_step (box_below _ _ _) hb') _⟩
    | false =>
      rw [hq, if_neg (by decide)] at h
      rw [hq] at HC
      obtain rfl := Option.some.inj h
      go_enter Try.func28, Try.ntmps28
      go_wp2_with (first
        | (go_at_call 49; (with_reducible refine (impl_areStitches.calls a0 true _ HS.out).mono ?_); rintro e w' ⟨rfl, ⟨nd, rfl⟩⟩)
        | (go_at_call 50; (refine (HC.out _ ?_ ?_ ?_).mono ?_); (exact box_below _ _ _); (exact box_cell _ _ _ _); (exact box_lt _ _ _); rintro e w' ⟨rfl, hb'⟩)
        | (go_at_call 45; (with_reducible refine (impl_unless.calls true 1 0 _ (unless_t 1)).mono ?_); rintro e w' ⟨rfl, ⟨nd, rfl⟩⟩))
      go_ret
      exact ⟨rfl, pw_below_drewN (below_step (box_below _ _ _) hb') _⟩
  · rw [if_neg c] at h
    rw [decide_eq_false c] at HS
    clear c
    obtain rfl := Option.some.inj h
    go_enter Try.func28, Try.ntmps28
    go_wp2_with (first
      | (go_at_call 49; (with_reducible refine (impl_areStitches.calls a0 false _ HS.out).mono ?_); rintro e w' ⟨rfl, ⟨nd, rfl⟩⟩)
      | (go_at_call 45; (with_reducible refine (impl_unless.calls false 1 1 _ (unless_f 1)).mono ?_); rintro e w' ⟨rfl, ⟨nd, rfl⟩⟩))
    go_ret
    exact ⟨rfl, box_below _ _ _⟩
end Go.Proofs.Ytedbegibkcegnac.M
end
section
namespace Go.Proofs.Ytedbegibkcegnac.M
open Go.RowKit Go.Proofs.YtedbegibkcegnacW.PrintWords Go.Proofs.YtedbegibkcegnacW.PrintLast Go.Proofs.YtedbegibkcegnacW.PrintMore
attribute [local go_sem] max2_int min2_int max_two min_two max_three min_three max_four min_four
set_option linter.unusedVariables false
set_option linter.unusedSimpArgs false
def seesB (k : Nat) (a x : Int) : Bool := match impl_Mark_lost.f k x with
  | some y => y.contains a
  | none => false
def impl_read.f (k : Nat) (l0 : List Int) (a1 : Int) : Option Int := if l0.all (fun x => (impl_Mark_lost.f k x).isSome) = true then some (idxP (seesB k a1) l0) else none
theorem idxP_congr (p q : Int → Bool) (l : List Int) (h : ∀ x ∈ l, p x = q x) : idxP p l = idxP q l := by
  have e : l.findIdx? p = l.findIdx? q := by
    induction l with
    | nil => rfl
    | cons x r ih =>
      simp only [List.findIdx?_cons]
      rw [h x (List.mem_cons_self ..), ih (fun y hy => h y (List.mem_cons_of_mem _ hy))]
  unfold idxP
  rw [e]
theorem impl_read.mono : ∀ a0 a1 k, LeO (impl_read.f k a0 a1) (impl_read.f (k + 1) a0 a1) := by
  intro l a k r h
  unfold impl_read.f at h ⊢
  by_cases c : l.all (fun x => (impl_Mark_lost.f k x).isSome) = true
  · rw [if_pos c] at h
    have m : ∀ x ∈ l, ∃ y, impl_Mark_lost.f k x = some y ∧ impl_Mark_lost.f (k + 1) x = some y := by
      intro x hx
      have := List.all_eq_true.mp c x hx
      obtain ⟨y, hy⟩ := Option.isSome_iff_exists.mp this
      exact ⟨y, hy, impl_Mark_lost.mono x k y hy⟩
    have c' : l.all (fun x => (impl_Mark_lost.f (k + 1) x).isSome) = true := by
      rw [List.all_eq_true]
      intro x hx
      obtain ⟨y, _, hy⟩ := m x hx
      rw [hy]
      rfl
    rw [if_pos c']
    rw [← h]
    congr 1
    refine idxP_congr _ _ l fun x hx => ?_
    obtain ⟨y, h1, h2⟩ := m x hx
    unfold seesB
    rw [h1, h2]
  · rw [if_neg c] at h
    cases h
set_option maxHeartbeats 8000000 in
set_option maxRecDepth 100000 in
theorem read_pred (k : Nat) (a1 x : Int) (y : List Int) (B : Nat) (W : World) (hB : B < W.heap.size) (hc : W.cell? ⟨B, 0, none⟩ = some (.int .u16 a1)) (hy : impl_Mark_lost.f k x = some y) :
    Calls Try.prog 56 #[.int .u16 x, .pointer (some ⟨B, 0, none⟩)] W fun e w' => e = .returned (.bool (y.contains a1)) ∧ Below W.heap.size W w' := by
  have HY := Aside0.mk hy
  clear hy
  have HK := contains_mark y a1
  generalize y.contains a1 = r at *
  replace HK := Aside0.mk HK
  have HW := Aside0.mk hc
  have HL := Aside0.mk hB
  clear hB
  go_enter Try.func56, Try.ntmps56
  go_wp2
  go_region_held3 (fun w' => w'.cell? ⟨B, 0, none⟩ = some (.int .u16 a1)) ((first | go_keep | exact hS.out))
    (first | (go_at_call 58; (refine (impl_Mark_lost.calls k x y _ HY.out).mono ?_); rintro e w' ⟨v, rfl, ho, hb⟩; have hS := Aside0.mk ((hb.cell (p := ⟨B, 0, none⟩) (by simpa using HL.out)).trans (by simpa using HW.out)); obtain ⟨Ao, co, rfl, hco, hC⟩ := Kd.R_reads ho; have HM := Aside0.mk (HK.out (Kd.C_max hC)); have HB := Aside0.mk hb; have HC := Aside0.mk hC; clear hb hC ho) | (go_at_call 57; (refine (slices_Contains_impl_Mark_impl_Mark.calls (y.length + 1) _ _ y a1 _ _ HC.out hco HM.out).mono ?_); rintro e w' ⟨rfl, ⟨nd, rfl⟩⟩))
  all_goals go_wp2
  all_goals go_ret
  all_goals exact ⟨rfl, pw_below_drewN (below_step (below_drew (Below.refl _ W)) HB.out) _⟩
set_option maxHeartbeats 8000000 in
set_option maxRecDepth 100000 in
theorem impl_read.calls (k : Nat) (A0 : Option Addr) (c0 : Nat) (l0 : List Int) (a1 : Int) (r : Int) (w : World) (hr0 : Kd.C (Kd.int .u16) w A0 l0.length l0) (hc0 : l0.length ≤ c0) (h : impl_read.f k l0 a1 = some r) :
    Calls Try.prog 32 #[.slice A0 l0.length c0, .int .u16 a1] w fun e w' => e = .returned (.int .i64 r) ∧ Below w.heap.size w w' := by
  unfold impl_read.f at h
  by_cases c : l0.all (fun x => (impl_Mark_lost.f k x).isSome) = true
  · rw [if_pos c] at h
    obtain rfl := Option.some.inj h
    have eg : ∀ args w, (callFunc 56 args).run Try.prog w = .ok (.enter 56 args) w := enters_of Try.func56 (by kernel_rfl) rfl
    have hsome : ∀ x ∈ l0, ∃ y, impl_Mark_lost.f k x = some y := fun x hx => Option.isSome_iff_exists.mp (List.all_eq_true.mp c x hx)
    have HC := fun (W : World) (hC : Kd.C (Kd.int .u16) W A0 l0.length l0) (hc : W.cell? ⟨w.heap.size, 0, none⟩ = some (.int .u16 a1)) (hlt : w.heap.size < W.heap.size) =>
      indexFunc_mark 56 #[.pointer (some ⟨w.heap.size, 0, none⟩)] eg (seesB k a1) A0 c0 l0 W hC
        (fun W' z hz hb' => by
          obtain ⟨y, hy⟩ := hsome z hz
          have hp : seesB k a1 z = y.contains a1 := by unfold seesB; rw [hy]
          rw [hp]
          exact (read_pred k a1 z y w.heap.size W' (Nat.lt_of_lt_of_le hlt hb'.size) ((hb'.cell (p := ⟨w.heap.size, 0, none⟩) hlt).trans hc) hy).mono fun e w' ⟨he, hd⟩ => ⟨he, hb'.trans (hd.mono hb'.size)⟩)
    replace HC := Aside0.mk HC
    have HR := Aside0.mk hr0
    clear hr0 h c hsome eg
    generalize idxP (seesB k a1) l0 = r at *
    go_enter Try.func32, Try.ntmps32
    go_wp2_with (go_at_call 55; (refine (HC.out _ (Kd.C_alloc HR.out _) (box_cell _ _ _ 0) (box_lt _ _ 0)).mono ?_); rintro e w' ⟨rfl, hb'⟩)
    go_ret
    exact ⟨rfl, below_step (box_below _ _ 0) hb'⟩
  · rw [if_neg c] at h
    cases h
end Go.Proofs.Ytedbegibkcegnac.M
end
