import Derived.Test.YthkccaclmodjiaazEFewestLateEChoose
import Derived.Test.YthkccaclmodjiaazEFewestLateEChoose2
import Derived.Test.YthkccaclmodjiaazEFewestLateESortedBy
import Derived.Test.YthkccaclmodjiaazEFewestLateI0
import Derived.Shelf.Abstract
import Derived.RangeFuncBox
import Derived.Laws.EntriesVeiled
import Derived.Shelf.SlSortCmp.Insertion1
namespace Go.Proofs.Ythkccaclmodjiaa.I
open Go.RowKit Go.Proofs.YthkccaclmodjiaaW.PrintWords Go.Proofs.YthkccaclmodjiaaW.PrintLast Go.Proofs.YthkccaclmodjiaaW.PrintMore
attribute [local go_sem] max2_int min2_int max_two min_two max_three min_three max_four min_four
set_option linter.unusedVariables false
set_option linter.unusedSimpArgs false
open Go.Sort Go.Shelf Go.Lib
def bestOf (sc : List Int → Int) (n : Nat) : List Int × Int := searchOf sc n n [] ([], -1)
set_option maxHeartbeats 8000000 in
set_option maxRecDepth 100000 in
theorem bestOrder_calls (n sg : Nat) (slb : Array Value) (sc : List Int → Int) (w0 : World) (hn : n ≤ 1000) (esg : ∀ args w, (callFunc sg args).run Try.prog w = .ok (.enter sg args) w) (hsc : ScoreOn sg slb sc n w0) :
    Calls Try.prog 109 #[.int .i64 (n : Int), .func (.func sg) #[] slb] w0 fun e w' => ∃ v, e = .returned (.tuple #[v, .int .i64 (bestOf sc n).2]) ∧ Kd.R (Kd.int .i64) 2 w' w0.heap.size (fun _ => True) v (bestOf sc n).1 ∧ Below w0.heap.size w0 w' := by
  obtain ⟨W0, hW0⟩ : ∃ W0, ((((w0.alloc (.cells #[.int .i64 (n : Int)] 3)).alloc (.cells #[.func (.func sg) #[] slb] 74)).alloc (.cells #[.slice none 0 0] 37)).alloc (.cells #[.int .i64 (-1)] 2)).alloc (.cells #[.func (.func 122) #[] (cbOf w0.heap.size)] 100) = W0 := ⟨_, rfl⟩
  have E0 : Env w0.heap.size n sg slb W0 (.slice none 0 0) [] (-1) := by
    rw [← hW0]
    refine ⟨((((Boxed.new w0 _ _).alloc _).alloc _).alloc _).alloc _, ?_, ?_, ?_, ?_, Kd.R_nil _ _ _ _ _⟩
    · have := Boxed.new (w0.alloc (.cells #[.int .i64 (n : Int)] 3)) 74 (.func (.func sg) #[] slb)
      rw [World.size_alloc] at this
      exact ((this.alloc _).alloc _).alloc _
    · have := Boxed.new ((w0.alloc (.cells #[.int .i64 (n : Int)] 3)).alloc (.cells #[.func (.func sg) #[] slb] 74)) 37 (.slice none 0 0)
      rw [World.size_alloc, World.size_alloc] at this
      exact (this.alloc _).alloc _
    · have := Boxed.new (((w0.alloc (.cells #[.int .i64 (n : Int)] 3)).alloc (.cells #[.func (.func sg) #[] slb] 74)).alloc (.cells #[.slice none 0 0] 37)) 2 (.int .i64 (-1))
      rw [World.size_alloc, World.size_alloc, World.size_alloc] at this
      exact this.alloc _
    · have := Boxed.new ((((w0.alloc (.cells #[.int .i64 (n : Int)] 3)).alloc (.cells #[.func (.func sg) #[] slb] 74)).alloc (.cells #[.slice none 0 0] 37)).alloc (.cells #[.int .i64 (-1)] 2)) 100 (.func (.func 122) #[] (cbOf w0.heap.size))
      rw [World.size_alloc, World.size_alloc, World.size_alloc, World.size_alloc] at this
      exact this
  have B0 : Below w0.heap.size w0 W0 := by
    rw [← hW0]
    exact (((((Below.refl _ w0).alloc (Nat.le_refl _) _).alloc (by simp) _).alloc (by simp; omega) _).alloc (by simp; omega) _).alloc (by simp; omega) _
  have eg : ∀ args w, (callFunc 122 args).run Try.prog w = .ok (.enter 122 args) w := enters_of Try.func122 (by kernel_rfl) rfl
  have HC := Aside0.mk (choose_calls w0.heap.size n sg slb sc w0 rfl hn esg hsc n (.slice none 0 0) [] W0 (.slice none 0 0) [] (-1) (by simp) ⟨List.Pairwise.nil, fun x hx => by cases hx⟩ E0 (Kd.R_nil _ _ _ _ _) B0)
  have c0 : W0.cell? ⟨w0.heap.size + 1 + 1 + 1 + 1, 0, none⟩ = some (.func (.func 122) #[] #[.pointer (some ⟨w0.heap.size, 0, none⟩), .pointer (some ⟨w0.heap.size + 1, 0, none⟩), .pointer (some ⟨w0.heap.size + 1 + 1 + 1, 0, none⟩), .pointer (some ⟨w0.heap.size + 1 + 1, 0, none⟩), .pointer (some ⟨w0.heap.size + 1 + 1 + 1 + 1, 0, none⟩)]) := E0.bc.cell
  clear E0 B0 hsc esg
  rw [show cbOf w0.heap.size = #[.pointer (some ⟨w0.heap.size, 0, none⟩), .pointer (some ⟨w0.heap.size + 1, 0, none⟩), .pointer (some ⟨w0.heap.size + 1 + 1 + 1, 0, none⟩), .pointer (some ⟨w0.heap.size + 1 + 1, 0, none⟩), .pointer (some ⟨w0.heap.size + 1 + 1 + 1 + 1, 0, none⟩)] from rfl] at hW0
  replace HC : Aside0 (Calls Try.prog 122 #[.slice none 0 0, .pointer (some ⟨w0.heap.size, 0, none⟩), .pointer (some ⟨w0.heap.size + 1, 0, none⟩), .pointer (some ⟨w0.heap.size + 1 + 1 + 1, 0, none⟩), .pointer (some ⟨w0.heap.size + 1 + 1, 0, none⟩), .pointer (some ⟨w0.heap.size + 1 + 1 + 1 + 1, 0, none⟩)] W0 _) := HC
  go_enter Try.func109, Try.ntmps109
  go_wp2_with ((with_reducible refine HC.out.mono ?_); rintro e w1 ⟨rfl, bv, hE, hB, hM⟩; have EE := Aside0.mk hE; have BB := Aside0.mk hB; clear hE hB hM; have cb : w1.cell? ⟨w0.heap.size + 1 + 1, 0, none⟩ = some bv := EE.out.bb.cell; have cl : w1.cell? ⟨w0.heap.size + 1 + 1 + 1, 0, none⟩ = some (.int .i64 (bestOf sc n).2) := EE.out.bl.cell)
  have mixed : Try.prog.follows .mixedOrders = true := by kernel_rfl
  have gb : ∀ n os, (grow (w1.drewN n) os).cell? ⟨w0.heap.size + 1 + 1, 0, none⟩ = some bv := fun n os => cell_grown EE.out.bb.lt cb n os
  have gl : ∀ q os, (grow (w1.drewN q) os).cell? ⟨w0.heap.size + 1 + 1 + 1, 0, none⟩ = some (.int .i64 (bestOf sc n).2) := fun q os => cell_grown EE.out.bl.lt cl q os
  clear cb cl
  go_quiet_grown (fail)
  go_wp2
  go_ret2
  have hb := below_grow w1 nq osq
  exact ⟨bv, rfl, Kd.R_below (Kd.R_lower EE.out.rb (by omega)) hb, BB.out.trans (hb.mono BB.out.size)⟩
end Go.Proofs.Ythkccaclmodjiaa.I
