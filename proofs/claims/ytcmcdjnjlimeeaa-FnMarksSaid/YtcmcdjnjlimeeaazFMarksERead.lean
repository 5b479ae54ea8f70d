import Derived.Test.YtcmcdjnjlimeeaazFMarksEClash
import Derived.Test.YtcmcdjnjlimeeaazFMarksEPredMark
import Derived.Test.YtcmcdjnjlimeeaazFMarksM0
import Derived.Test.YtcmcdjnjlimeeaazFMarksM4
import Derived.Test.YtcmcdjnjlimeeaazFMarksM5
import Derived.Shelf.Abstract
import Derived.Deep.RegionHeld3
namespace Go.Proofs.Ytcmcdjnjlimeeaa.M
open Go.RowKit Go.Proofs.YtcmcdjnjlimeeaaW.PrintWords Go.Proofs.YtcmcdjnjlimeeaaW.PrintLast Go.Proofs.YtcmcdjnjlimeeaaW.PrintMore
attribute [local go_sem] max2_int min2_int max_two min_two max_three min_three max_four min_four
set_option linter.unusedVariables false
set_option linter.unusedSimpArgs false
def seesB (k : Nat) (a x : Int) : Bool := match impl_Mark_lost.f k x with
  | some y => y.contains a
  | none => false
def impl_read.f (k : Nat) (l0 : List Int) (a1 : Int) : Option Int := if l0.all (fun x => (impl_Mark_lost.f k x).isSome) = true then some (idxP (seesB k a1) l0) else none
theorem idxP_congr (p q : Int → Bool) (l : List Int) (h : ∀ x ∈ l, p x = q x) : idxP p l = idxP q l := by
  have e : l.findIdx? p = l.findIdx? q := by
    induction l with
    | nil => rfl
    | cons x r ih =>
      simp only [List.findIdx?_cons]
      rw [h x (List.mem_cons_self ..), ih (fun y hy => h y (List.mem_cons_of_mem _ hy))]
  unfold idxP
  rw [e]
theorem impl_read.mono : ∀ a0 a1 k, LeO (impl_read.f k a0 a1) (impl_read.f (k + 1) a0 a1) := by
  intro l a k r h
  unfold impl_read.f at h ⊢
  by_cases c : l.all (fun x => (impl_Mark_lost.f k x).isSome) = true
  · rw [if_pos c] at h
    have m : ∀ x ∈ l, ∃ y, impl_Mark_lost.f k x = some y ∧ impl_Mark_lost.f (k + 1) x = some y := by
      intro x hx
      have := List.all_eq_true.mp c x hx
      obtain ⟨y, hy⟩ := Option.isSome_iff_exists.mp this
      exact ⟨y, hy, impl_Mark_lost.mono x k y hy⟩
    have c' : l.all (fun x => (impl_Mark_lost.f (k + 1) x).isSome) = true := by
      rw [List.all_eq_true]
      intro x hx
      obtain ⟨y, _, hy⟩ := m x hx
      rw [hy]
      rfl
    rw [if_pos c']
    rw [← h]
    congr 1
    refine idxP_congr _ _ l fun x hx => ?_
    obtain ⟨y, h1, h2⟩ := m x hx
    unfold seesB
    rw [h1, h2]
  · rw [if_neg c] at h
    cases h
set_option maxHeartbeats 8000000 in
set_option maxRecDepth 100000 in
theorem read_pred (k : Nat) (a1 x : Int) (y : List Int) (B : Nat) (W : World) (hB : B < W.heap.size) (hc : W.cell? ⟨B, 0, none⟩ = some (.int .u16 a1)) (hy : impl_Mark_lost.f k x = some y) :
    Calls Try.prog 55 #[.int .u16 x, .pointer (some ⟨B, 0, none⟩)] W fun e w' => e = .returned (.bool (y.contains a1)) ∧ Below W.heap.size W w' := by
  have HY := Aside0.mk hy
  clear hy
  have HK := contains_mark y a1
  generalize y.contains a1 = r at *
  replace HK := Aside0.mk HK
  have HW := Aside0.mk hc
  have HL := Aside0.mk hB
  clear hB
  go_enter Try.func55, Try.ntmps55
  go_wp2
  go_region_held3 (fun w' => w'.cell? ⟨B, 0, none⟩ = some (.int .u16 a1)) ((first | go_keep | exact hS.out))
    (first | (go_at_call 27; (refine (impl_Mark_lost.calls k x y _ HY.out).mono ?_); rintro e w' ⟨v, rfl, ho, hb⟩; have hS := Aside0.mk ((hb.cell (p := ⟨B, 0, none⟩) (by simpa using HL.out)).trans (by simpa using HW.out)); obtain ⟨Ao, co, rfl, hco, hC⟩ := Kd.R_reads ho; have HM := Aside0.mk (HK.out (Kd.C_max hC)); have HB := Aside0.mk hb; have HC := Aside0.mk hC; clear hb hC ho) | (go_at_call 54; (refine (slices_Contains_impl_Mark_impl_Mark.calls (y.length + 1) _ _ y a1 _ _ HC.out hco HM.out).mono ?_); rintro e w' ⟨rfl, ⟨nd, rfl⟩⟩))
  all_goals go_wp2
  all_goals go_ret
  all_goals exact ⟨rfl, pw_below_drewN (below_step (below_drew (Below.refl _ W)) HB.out) _⟩
set_option maxHeartbeats 8000000 in
set_option maxRecDepth 100000 in
theorem impl_read.calls (k : Nat) (A0 : Option Addr) (c0 : Nat) (l0 : List Int) (a1 : Int) (r : Int) (w : World) (hr0 : Kd.C (Kd.int .u16) w A0 l0.length l0) (hc0 : l0.length ≤ c0) (h : impl_read.f k l0 a1 = some r) :
    Calls Try.prog 48 #[.slice A0 l0.length c0, .int .u16 a1] w fun e w' => e = .returned (.int .i64 r) ∧ Below w.heap.size w w' := by
  unfold impl_read.f at h
  by_cases c : l0.all (fun x => (impl_Mark_lost.f k x).isSome) = true
  · rw [if_pos c] at h
    obtain rfl := Option.some.inj h
    have eg : ∀ args w, (callFunc 55 args).run Try.prog w = .ok (.enter 55 args) w := enters_of Try.func55 (by kernel_rfl) rfl
    have hsome : ∀ x ∈ l0, ∃ y, impl_Mark_lost.f k x = some y := fun x hx => Option.isSome_iff_exists.mp (List.all_eq_true.mp c x hx)
    have HC := fun (W : World) (hC : Kd.C (Kd.int .u16) W A0 l0.length l0) (hc : W.cell? ⟨w.heap.size, 0, none⟩ = some (.int .u16 a1)) (hlt : w.heap.size < W.heap.size) =>
      indexFunc_mark 55 #[.pointer (some ⟨w.heap.size, 0, none⟩)] eg (seesB k a1) A0 c0 l0 W hC
        (fun W' z hz hb' => by
          obtain ⟨y, hy⟩ := hsome z hz
          have hp : seesB k a1 z = y.contains a1 := by unfold seesB; rw [hy]
          rw [hp]
          exact (read_pred k a1 z y w.heap.size W' (Nat.lt_of_lt_of_le hlt hb'.size) ((hb'.cell (p := ⟨w.heap.size, 0, none⟩) hlt).trans hc) hy).mono fun e w' ⟨he, hd⟩ => ⟨he, hb'.trans (hd.mono hb'.size)⟩)
    replace HC := Aside0.mk HC
    have HR := Aside0.mk hr0
    clear hr0 h c hsome eg
    generalize idxP (seesB k a1) l0 = r at *
    go_enter Try.func48, Try.ntmps48
    go_wp2_with (go_at_call 52; (refine (HC.out _ (Kd.C_alloc HR.out _) (box_cell _ _ _ 0) (box_lt _ _ 0)).mono ?_); rintro e w' ⟨rfl, hb'⟩)
    go_ret
    exact ⟨rfl, below_step (box_below _ _ 0) hb'⟩
  · rw [if_neg c] at h
    cases h
end Go.Proofs.Ytcmcdjnjlimeeaa.M
