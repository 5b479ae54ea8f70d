import Derived.Test.YthkccaclmodjiaazETwoIronsEChoose
import Derived.Test.YthkccaclmodjiaazETwoIronsEChoose2
import Derived.Test.YthkccaclmodjiaazETwoIronsELayC
import Derived.Test.YthkccaclmodjiaazETwoIronsI0
import Derived.Shelf.Abstract
import Derived.RangeFuncBox
import Derived.Laws.EntriesVeiled
import Derived.Shelf.SlSortCmp.Insertion1
import Derived.Test.YthkccaclmodjiaazETwoIronsI17
import Derived.Test.YthkccaclmodjiaazETwoIronsEBLem1
import Derived.OwnWalk
import Derived.Test.YthkccaclmodjiaazETwoIronsESortedV
import Derived.Test.YthkccaclmodjiaazETwoIronsEListsPiece
section
namespace Go.Proofs.Ythkccaclmodjiaa.I
open Go.RowKit Go.Proofs.YthkccaclmodjiaaW.PrintWords Go.Proofs.YthkccaclmodjiaaW.PrintLast Go.Proofs.YthkccaclmodjiaaW.PrintMore
attribute [local go_sem] max2_int min2_int max_two min_two max_three min_three max_four min_four
set_option linter.unusedVariables false
set_option linter.unusedSimpArgs false
open Go.Sort Go.Shelf Go.Lib
def bestOf (sc : List Int → Int) (n : Nat) : List Int × Int := searchOf sc n n [] ([], -1)
set_option maxHeartbeats 8000000 in
set_option maxRecDepth 100000 in
theorem bestOrder_calls (n sg : Nat) (slb : Array Value) (sc : List Int → Int) (w0 : World) (hn : n ≤ 1000) (esg : ∀ args w, (callFunc sg args).run Try.prog w = .ok (.enter sg args) w) (hsc : ScoreOn sg slb sc n w0) :
    Calls Try.prog 109 #[.int .i64 (n : Int), .func (.func sg) #[] slb] w0 fun e w' => ∃ v, e = .returned (.tuple #[v, .int .i64 (bestOf sc n).2]) ∧ Kd.R (Kd.int .i64) 2 w' w0.heap.size (fun _ => True) v (bestOf sc n).1 ∧ Below w0.heap.size w0 w' := by
  obtain ⟨W0, hW0⟩ : ∃ W0, ((((w0.alloc (.cells #[.int .i64 (n : Int)] 3)).alloc (.cells #[.func (.func sg) #[] slb] 74)).alloc (.cells #[.slice none 0 0] 37)).alloc (.cells #[.int .i64 (-1)] 2)).alloc (.cells #[.func (.func 122) #[] (cbOf w0.heap.size)] 100) = W0 := ⟨_, rfl⟩
  have E0 : Env w0.heap.size n sg slb W0 (.slice none 0 0) [] (-1) := by
    rw [← hW0]
    refine ⟨((((Boxed.new w0 _ _).alloc _).alloc _).alloc _).alloc _, ?_, ?_, ?_, ?_, Kd.R_nil _ _ _ _ _⟩
    · have := Boxed.new (w0.alloc (.cells #[.int .i64 (n : Int)] 3)) 74 (.func (.func sg) #[] slb)
      rw [World.size_alloc] at this
      exact ((this.alloc _).alloc _).alloc _
    · have := Boxed.new ((w0.alloc (.cells #[.int .i64 (n : Int)] 3)).alloc (.cells #[.func (.func sg) #[] slb] 74)) 37 (.slice none 0 0)
      rw [World.size_alloc, World.size_alloc] at this
      exact (this.alloc _).alloc _
    · have := Boxed.new (((w0.alloc (.cells #[.int .i64 (n : Int)] 3)).alloc (.cells #[.func (.func sg) #[] slb] 74)).alloc (.cells #[.slice none 0 0] 37)) 2 (.int .i64 (-1))
      rw [World.size_alloc, World.size_alloc, World.size_alloc] at this
      exact this.alloc _
    · have := Boxed.new ((((w0.alloc (.cells #[.int .i64 (n : Int)] 3)).alloc (.cells #[.func (.func sg) #[] slb] 74)).alloc (.cells #[.slice none 0 0] 37)).alloc (.cells #[.int .i64 (-1)] 2)) 100 (.func (.func 122) #[] (cbOf w0.heap.size))
      rw [World.size_alloc, World.size_alloc, World.size_alloc, World.size_alloc] at this
      exact this
  have B0 : Below w0.heap.size w0 W0 := by
    rw [← hW0]
    exact (((((Below.refl _ w0).alloc (Nat.le_refl _) _).alloc (by simp) _).alloc (by simp; omega) _).alloc (by simp; omega) _).alloc (by simp; omega) _
  have eg : ∀ args w, (callFunc 122 args).run Try.prog w = .ok (.enter 122 args) w := enters_of Try.func122 (by kernel_rfl) rfl
  have HC := Aside0.mk (choose_calls w0.heap.size n sg slb sc w0 rfl hn esg hsc n (.slice none 0 0) [] W0 (.slice none 0 0) [] (-1) (by simp) ⟨List.Pairwise.nil, fun x hx => by cases hx⟩ E0 (Kd.R_nil _ _ _ _ _) B0)
  have c0 : W0.cell? ⟨w0.heap.size + 1 + 1 + 1 + 1, 0, none⟩ = some (.func (.func 122) #[] #[.pointer (some ⟨w0.heap.size, 0, none⟩), .pointer (some ⟨w0.heap.size + 1, 0, none⟩), .pointer (some ⟨w0.heap.size + 1 + 1 + 1, 0, none⟩), .pointer (some ⟨w0.heap.size + 1 + 1, 0, none⟩), .pointer (some ⟨w0.heap.size + 1 + 1 + 1 + 1, 0, none⟩)]) := E0.bc.cell
  clear E0 B0 hsc esg
  rw [show cbOf w0.heap.size = #[.pointer (some ⟨w0.heap.size, 0, none⟩), .pointer (some ⟨w0.heap.size + 1, 0, none⟩), .pointer (some ⟨w0.heap.size + 1 + 1 + 1, 0, none⟩), .pointer (some ⟨w0.heap.size + 1 + 1, 0, none⟩), .pointer (some ⟨w0.heap.size + 1 + 1 + 1 + 1, 0, none⟩)] from rfl] at hW0
  replace HC : Aside0 (Calls Try.prog 122 #[.slice none 0 0, .pointer (some ⟨w0.heap.size, 0, none⟩), .pointer (some ⟨w0.heap.size + 1, 0, none⟩), .pointer (some ⟨w0.heap.size + 1 + 1 + 1, 0, none⟩), .pointer (some ⟨w0.heap.size + 1 + 1, 0, none⟩), .pointer (some ⟨w0.heap.size + 1 + 1 + 1 + 1, 0, none⟩)] W0 _) := HC
  go_enter Try.func109, Try.ntmps109
  go_wp2_with ((with_reducible refine HC.out.mono ?_); rintro e w1 ⟨rfl, bv, hE, hB, hM⟩; have EE := Aside0.mk hE; have BB := Aside0.mk hB; clear hE hB hM; have cb : w1.cell? ⟨w0.heap.size + 1 + 1, 0, none⟩ = some bv := EE.out.bb.cell; have cl : w1.cell? ⟨w0.heap.size + 1 + 1 + 1, 0, none⟩ = some (.int .i64 (bestOf sc n).2) := EE.out.bl.cell)
  have mixed : Try.prog.follows .mixedOrders = true := by kernel_rfl
  have gb : ∀ n os, (grow (w1.drewN n) os).cell? ⟨w0.heap.size + 1 + 1, 0, none⟩ = some bv := fun n os => cell_grown EE.out.bb.lt cb n os
  have gl : ∀ q os, (grow (w1.drewN q) os).cell? ⟨w0.heap.size + 1 + 1 + 1, 0, none⟩ = some (.int .i64 (bestOf sc n).2) := fun q os => cell_grown EE.out.bl.lt cl q os
  clear cb cl
  go_quiet_grown (fail)
  go_wp2
  go_ret2
  have hb := below_grow w1 nq osq
  exact ⟨bv, rfl, Kd.R_below (Kd.R_lower EE.out.rb (by omega)) hb, BB.out.trans (hb.mono BB.out.size)⟩
end Go.Proofs.Ythkccaclmodjiaa.I
end
section
namespace Go.Proofs.Ythkccaclmodjiaa.I
open Go.RowKit Go.Proofs.YthkccaclmodjiaaW.PrintWords Go.Proofs.YthkccaclmodjiaaW.PrintLast Go.Proofs.YthkccaclmodjiaaW.PrintMore
attribute [local go_sem] max2_int min2_int max_two min_two max_three min_three max_four min_four
set_option linter.unusedVariables false
set_option linter.unusedSimpArgs false
open Go.Sort Go.Shelf Go.Lib
structure IronEnv (x y : Int) (b : Nat) (A0 : Option Addr) (c0 : Nat) (l0 : List S57) (W : World) : Prop where
  k0 : W.cell? ⟨b, 0, none⟩ = some (.int .i8 x)
  k1 : W.cell? ⟨b, 1, none⟩ = some (.int .i8 y)
  kl : W.cell? ⟨b + 1, 0, none⟩ = some (.slice A0 l0.length c0)
  lt : b + 1 < W.heap.size
  rd : Kd.C k57 W A0 l0.length l0
  cap : l0.length ≤ c0
theorem IronEnv.below {x y : Int} {b : Nat} {A0 : Option Addr} {c0 : Nat} {l0 : List S57} {W w' : World} (h : IronEnv x y b A0 c0 l0 W) (hb : Below W.heap.size W w') : IronEnv x y b A0 c0 l0 w' :=
  ⟨(hb.cell (p := ⟨b, 0, none⟩) (by have := h.lt; show b < _; omega)).trans h.k0, (hb.cell (p := ⟨b, 1, none⟩) (by have := h.lt; show b < _; omega)).trans h.k1, (hb.cell (p := ⟨b + 1, 0, none⟩) h.lt).trans h.kl, Nat.lt_of_lt_of_le h.lt hb.size, Kd.C_below h.rd hb, h.cap⟩
end Go.Proofs.Ythkccaclmodjiaa.I
end
section
namespace Go.Proofs.Ythkccaclmodjiaa.I
open Go.RowKit Go.Proofs.YthkccaclmodjiaaW.PrintWords Go.Proofs.YthkccaclmodjiaaW.PrintLast Go.Proofs.YthkccaclmodjiaaW.PrintMore
attribute [local go_sem] max2_int min2_int max_two min_two max_three min_three max_four min_four
set_option linter.unusedVariables false
set_option linter.unusedSimpArgs false
open Go.Sort Go.Shelf Go.Lib
def sureB (x y : Int) (l : List S57) : Bool := decide (wrap64 x = x ∧ 0 ≤ x ∧ x ≤ 60) && decide (wrap64 y = y ∧ 0 ≤ y ∧ y ≤ 60) && decide (l.length ≤ 8) && l.all (fun p => decide (wrap64 p.f0 = p.f0 ∧ wrap64 p.f1 = p.f1 ∧ wrap64 p.f2 = p.f2 ∧ 1 ≤ p.f0 ∧ p.f0 ≤ 3 ∧ 1 ≤ p.f1 ∧ p.f1 ≤ 60 ∧ 0 ≤ p.f2 ∧ p.f2 ≤ 1000))
theorem sureB_iff {x y : Int} {l : List S57} : sureB x y l = true ↔ (wrap64 x = x ∧ 0 ≤ x ∧ x ≤ 60) ∧ (wrap64 y = y ∧ 0 ≤ y ∧ y ≤ 60) ∧ l.length ≤ 8 ∧ Fine l := by
  unfold sureB Fine
  simp only [Bool.and_eq_true, decide_eq_true_eq, List.all_eq_true]
  constructor
  · rintro ⟨⟨⟨a, b⟩, c⟩, d⟩
    exact ⟨a, b, c, d⟩
  · rintro ⟨a, b, c, d⟩
    exact ⟨⟨⟨a, b⟩, c⟩, d⟩
def scTotal (x y : Int) (l : List S57) (o : List Int) : Int := lastOf (timesOf x y l 0 0 o)
end Go.Proofs.Ythkccaclmodjiaa.I
end
section
namespace Go.Proofs.Ythkccaclmodjiaa.I
open Go.RowKit Go.Proofs.YthkccaclmodjiaaW.PrintWords Go.Proofs.YthkccaclmodjiaaW.PrintLast Go.Proofs.YthkccaclmodjiaaW.PrintMore
attribute [local go_sem] max2_int min2_int max_two min_two max_three min_three max_four min_four
set_option linter.unusedVariables false
set_option linter.unusedSimpArgs false
open Go.Sort Go.Shelf Go.Lib
def onLevel (lv : Int) (x : S57) : Bool := x.f0 == lv
set_option maxHeartbeats 8000000 in
set_option maxRecDepth 100000 in
theorem level_pred (lv : Int) (x : S57) (B : Nat) (W : World) (hlt : B < W.heap.size) (hb : W.cell? ⟨B, 0, none⟩ = some (.int .i8 lv)) :
    Calls Try.prog 114 #[.agg #[.int .i8 x.f0, .int .i8 x.f1, .int .i16 x.f2], .pointer (some ⟨B, 0, none⟩)] W fun e w' => e = .returned (.bool (onLevel lv x)) ∧ Below W.heap.size W w' := by
  have hu57 := Try.underlying57
  have hb2 : (W.alloc (.cells #[.int .i8 x.f0, .int .i8 x.f1, .int .i16 x.f2] 57)).cell? ⟨B, 0, none⟩ = some (.int .i8 lv) := ((Below.refl _ W).alloc (Nat.le_refl _) _).cell (p := ⟨B, 0, none⟩) hlt |>.trans hb
  unfold onLevel
  clear hb
  go_enter Try.func114, Try.ntmps114
  go_wp2
  go_ret
  exact ⟨rfl, (Below.refl _ _).alloc (Nat.le_refl _) _⟩
set_option maxHeartbeats 8000000 in
set_option maxRecDepth 100000 in
theorem shortest_score (x y : Int) (b g : Nat) (A0 : Option Addr) (c0 : Nat) (l0 : List S57) (sc : List Int → Int) (w0 : World) (hltb : b < w0.heap.size) (hltg : g < w0.heap.size)
    (h0 : w0.cell? ⟨b, 0, none⟩ = some (.int .i8 x)) (h1 : w0.cell? ⟨b, 1, none⟩ = some (.int .i8 y)) (hl : w0.cell? ⟨g, 0, none⟩ = some (.slice A0 l0.length c0)) (hrd : Kd.C k57 w0 A0 l0.length l0) (hcp : l0.length ≤ c0)
    (hf : ∀ o, Begun l0.length o → o.length = l0.length → ∃ kf, impl_Iron_total.f kf x y l0 o = some (sc o)) :
    ScoreOn 115 #[.pointer (some ⟨b, 0, none⟩), .pointer (some ⟨g, 0, none⟩)] sc l0.length w0 := by
  intro W A c o hW hbg hlen hcap hcl
  obtain ⟨kf, hk⟩ := hf o hbg hlen
  show Calls Try.prog 115 #[.slice A o.length c, .pointer (some ⟨b, 0, none⟩), .pointer (some ⟨g, 0, none⟩)] W _
  have e0 := (hW.cell (p := ⟨b, 0, none⟩) hltb).trans h0
  have e1 := (hW.cell (p := ⟨b, 1, none⟩) hltb).trans h1
  have el := (hW.cell (p := ⟨g, 0, none⟩) hltg).trans hl
  have RD := Aside0.mk (Kd.C_below hrd hW)
  have CP := Aside0.mk hcp
  have HCL := Aside0.mk hcl
  have HCP := Aside0.mk hcap
  clear h0 h1 hl hrd hcp hf hW hbg hlen hcl hcap
  go_enter Try.func115, Try.ntmps115
  have HF := Aside0.mk hk
  clear hk
  go_wp2_with (go_at_call 85; refine (impl_Iron_total.calls kf x y A0 c0 l0 A c o (sc o) _ RD.out CP.out HCL.out HCP.out HF.out).mono ?_; rintro e w1 ⟨rfl, hb1⟩)
  go_ret
  exact ⟨rfl, hb1⟩
end Go.Proofs.Ythkccaclmodjiaa.I
end
