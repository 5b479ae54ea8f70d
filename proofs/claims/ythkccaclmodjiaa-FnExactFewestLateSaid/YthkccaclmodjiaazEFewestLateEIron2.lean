import Derived.Test.YthkccaclmodjiaazEFewestLateEBLate
import Derived.Test.YthkccaclmodjiaazEFewestLateEBOrd
import Derived.Test.YthkccaclmodjiaazEFewestLateEBTime
import Derived.Test.YthkccaclmodjiaazEFewestLateEBest
import Derived.Test.YthkccaclmodjiaazEFewestLateEChoose
import Derived.Test.YthkccaclmodjiaazEFewestLateEEvLoop
import Derived.Test.YthkccaclmodjiaazEFewestLateEIota
import Derived.Test.YthkccaclmodjiaazEFewestLateEIron1
import Derived.Test.YthkccaclmodjiaazEFewestLateI0
import Derived.Test.YthkccaclmodjiaazEFewestLateI17
import Derived.Test.YthkccaclmodjiaazEFewestLateI1
import Derived.Test.YthkccaclmodjiaazEFewestLateI4
import Derived.Test.YthkccaclmodjiaazEFewestLateI7
import Derived.Test.YthkccaclmodjiaazEFewestLateI15
import Derived.Test.YthkccaclmodjiaazEFewestLateI33
import Derived.Test.YthkccaclmodjiaazEFewestLateI44
import Derived.Shelf.Abstract
import Derived.RangeFuncBox
import Derived.OwnWalk
namespace Go.Proofs.Ythkccaclmodjiaa.I
open Go.RowKit Go.Proofs.YthkccaclmodjiaaW.PrintWords Go.Proofs.YthkccaclmodjiaaW.PrintLast Go.Proofs.YthkccaclmodjiaaW.PrintMore
attribute [local go_sem] max2_int min2_int max_two min_two max_three min_three max_four min_four
set_option linter.unusedVariables false
set_option linter.unusedSimpArgs false
open Go.Sort Go.Shelf Go.Lib
def sureB (x y : Int) (l : List S57) : Bool := decide (wrap64 x = x ∧ 0 ≤ x ∧ x ≤ 60) && decide (wrap64 y = y ∧ 0 ≤ y ∧ y ≤ 60) && decide (l.length ≤ 8) && l.all (fun p => decide (wrap64 p.f0 = p.f0 ∧ wrap64 p.f1 = p.f1 ∧ wrap64 p.f2 = p.f2 ∧ 1 ≤ p.f0 ∧ p.f0 ≤ 3 ∧ 1 ≤ p.f1 ∧ p.f1 ≤ 60 ∧ 0 ≤ p.f2 ∧ p.f2 ≤ 1000))
theorem sureB_iff {x y : Int} {l : List S57} : sureB x y l = true ↔ (wrap64 x = x ∧ 0 ≤ x ∧ x ≤ 60) ∧ (wrap64 y = y ∧ 0 ≤ y ∧ y ≤ 60) ∧ l.length ≤ 8 ∧ Fine l := by
  unfold sureB Fine
  simp only [Bool.and_eq_true, decide_eq_true_eq, List.all_eq_true]
  constructor
  · rintro ⟨⟨⟨a, b⟩, c⟩, d⟩
    exact ⟨a, b, c, d⟩
  · rintro ⟨a, b, c, d⟩
    exact ⟨⟨⟨a, b⟩, c⟩, d⟩
def scLate (x y : Int) (l : List S57) (o : List Int) : Int := ((lateList l o (timesOf x y l 0 0 o) o.length).length : Int)
theorem finish_begun {x y : Int} {l : List S57} (h : sureB x y l = true) {o : List Int} (hb : Begun l.length o) (hl : o.length = l.length) : Ev (fun k => impl_Iron_finish.f k x y l o) (timesOf x y l 0 0 o) := by
  obtain ⟨hx, hy, h8, hf⟩ := sureB_iff.mp h
  exact (finish_key x y hx hy l hf o (by omega) hb.range o 0 [] 0 0 rfl (by omega) rfl ⟨by omega, by omega⟩ ⟨by omega, by omega⟩).1
theorem lates_begun {x y : Int} {l : List S57} (h : sureB x y l = true) {o : List Int} (hb : Begun l.length o) (hl : o.length = l.length) : Lates l o (timesOf x y l 0 0 o) := by
  obtain ⟨hx, hy, h8, hf⟩ := sureB_iff.mp h
  refine ⟨hf, hl, by omega, timesOf_len _ _ _ _ _ _, hb.range, hb.nodup, fun z hz => ?_⟩
  have := timesOf_bd x y hx.2 hy.2 l hf o 0 0 hb.range ⟨by omega, by omega⟩ (by omega) z hz
  omega
def ironBy (sc : Int → Int → List S57 → List Int → Int) (k : Nat) (x y : Int) (l : List S57) : Option (List Int × Int × Int) := (impl_ironCode.f k x y l).bind fun c => (if c = 0 then (if sureB x y l = true then some ((bestOf (sc x y l) l.length).1, (bestOf (sc x y l) l.length).2, 0) else none) else some ([], 0, c))
theorem ironBy_mono (sc : Int → Int → List S57 → List Int → Int) (k : Nat) (x y : Int) (l : List S57) : LeO (ironBy sc k x y l) (ironBy sc (k + 1) x y l) := LeO.bind (impl_ironCode.mono x y l k) (fun _ => LeO.refl _)
theorem ironBy_some {sc : Int → Int → List S57 → List Int → Int} {k : Nat} {x y : Int} {l : List S57} {r1 : List Int} {r2 r3 : Int} (h : ironBy sc k x y l = some (r1, r2, r3)) :
    impl_ironCode.f k x y l = some r3 ∧ (r3 = 0 → sureB x y l = true) ∧ (ironing (sc x y l) l.length r3).1 = r1 ∧ (ironing (sc x y l) l.length r3).2 = r2 := by
  obtain ⟨c, h1, h2⟩ := Option.bind_eq_some_iff.mp h
  by_cases hc : c = 0
  · rw [if_pos hc] at h2
    by_cases hs : sureB x y l = true
    · rw [if_pos hs] at h2
      injection h2 with h2
      injection h2 with e1 e2
      injection e2 with e2 e3
      subst e1 e2 e3 hc
      exact ⟨h1, fun _ => hs, by rw [ironing, if_pos rfl], by rw [ironing, if_pos rfl]⟩
    · rw [if_neg hs] at h2
      cases h2
  · rw [if_neg hc] at h2
    injection h2 with h2
    injection h2 with e1 e2
    injection e2 with e2 e3
    subst e1 e2 e3
    exact ⟨h1, fun e => absurd e hc, by rw [ironing, if_neg hc], by rw [ironing, if_neg hc]⟩
theorem need_FewestLate {x y : Int} {l0 : List S57} (hs : sureB x y l0 = true) {o : List Int} (hb : Begun l0.length o) (hl : o.length = l0.length) : ∃ kf r1 r2, impl_Iron_late.f kf x y l0 o = some (r1, r2) ∧ (r1.length : Int) = scLate x y l0 o := by
    obtain ⟨kf, hf⟩ := Ev.get (Ev.bind (finish_begun hs hb hl) (implLate_ev (lates_begun hs hb hl)) : Ev (fun k => impl_Iron_late.f k x y l0 o) _)
    exact ⟨kf, _, _, hf, by rw [srt_len]; rfl⟩
def impl_FewestLate.f (k : Nat) (a0_0 : Int) (a0_1 : Int) (l1 : List S57) : Option (List Int × Int × Int) := ironBy scLate k a0_0 a0_1 l1
theorem impl_FewestLate.mono : ∀ a0 a1 a2 k, LeO (impl_FewestLate.f k a0 a1 a2) (impl_FewestLate.f (k + 1) a0 a1 a2) := fun a0 a1 a2 k => ironBy_mono _ k a0 a1 a2
set_option maxHeartbeats 8000000 in
set_option maxRecDepth 100000 in
theorem impl_FewestLate.calls (k : Nat) (x : Int) (y : Int) (A0 : Option Addr) (c0 : Nat) (l0 : List (S57)) (r1 : List Int) (r2 : Int) (r3 : Int) (w : World) (hr1 : Kd.C k57 w A0 l0.length l0) (hc1 : l0.length ≤ c0) (h : impl_FewestLate.f k x y l0 = some (r1, r2, r3)) :
    Calls Try.prog 57 #[.agg #[.int .i8 x, .int .i8 y], .slice A0 l0.length c0] w fun e w' => ∃ v0_ : Value, e = .returned (.tuple #[v0_, .int .i64 r2, .int .i64 r3]) ∧ Kd.R (Kd.int .i64) 2 w' w.heap.size (fun _ => True) v0_ r1 ∧ Below w.heap.size w w' := by
  obtain ⟨h1, h2, h3, h4⟩ := ironBy_some h
  obtain ⟨W0, hW0⟩ : ∃ W0, (w.alloc (.cells #[.int .i8 x, .int .i8 y] 27)).alloc (.cells #[.slice A0 l0.length c0] 33) = W0 := ⟨_, rfl⟩
  have hB0 : Below w.heap.size w W0 := by rw [← hW0]; exact ((Below.refl _ w).alloc (Nat.le_refl _) _).alloc (by simp) _
  have hE : IronEnv x y w.heap.size A0 c0 l0 W0 := by
    refine ⟨?_, ?_, ?_, ?_, Kd.C_below hr1 hB0, hc1⟩
    · rw [← hW0]; simp [go_sem]
    · rw [← hW0]; simp [go_sem]
    · rw [← hW0]; simp [go_sem]
    · rw [← hW0]; simp
  have e0 := hE.k0
  have e1 := hE.k1
  have el := hE.kl
  have esg : ∀ args w, (callFunc 97 args).run Try.prog w = .ok (.enter 97 args) w := enters_of Try.func97 (by kernel_rfl) rfl
  have HC := Aside0.mk (bestIroning_calls k x y A0 c0 l0 97 #[.pointer (some ⟨w.heap.size, 0, none⟩), .pointer (some ⟨w.heap.size + 1, 0, none⟩)] (scLate x y l0) r3 W0 (Kd.C_below hr1 hB0) hc1 h1 (fun hc => (sureB_iff.mp (h2 hc)).2.2.1) esg (fun hc => FewestLate_score x y w.heap.size A0 c0 l0 (scLate x y l0) W0 hE (fun o hb hl => need_FewestLate (h2 hc) hb hl)))
  rw [h3, h4] at HC
  have HB0 := Aside0.mk hB0
  clear h h1 h2 h3 h4 hE hB0 hr1 hc1 esg
  go_enter Try.func57, Try.ntmps57
  go_wp2_with (go_at_call 80; refine HC.out.mono ?_; rintro e w2 ⟨v, rfl, hR, hb2⟩; have HR2 := Aside0.mk (Kd.R_lower hR HB0.out.size); have HB2 := Aside0.mk (HB0.out.trans (hb2.mono HB0.out.size)); clear hR hb2)
  go_ret3
  exact ⟨v, rfl, HR2.out, HB2.out⟩
end Go.Proofs.Ythkccaclmodjiaa.I
