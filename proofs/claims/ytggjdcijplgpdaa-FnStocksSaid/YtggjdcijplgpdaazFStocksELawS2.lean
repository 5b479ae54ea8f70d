import Derived.Test.YtggjdcijplgpdaazFStocksESD
import Derived.Test.YtggjdcijplgpdaazFStocksECloneSt
import Derived.Test.YtggjdcijplgpdaazFStocksH14
import Derived.OwnWalk
import Derived.Shelf.Abstract
namespace Go.Proofs.Ytggjdcijplgpdaa.H
open Go.RowKit Go.Proofs.YtggjdcijplgpdaaW.PrintWords Go.Proofs.YtggjdcijplgpdaaW.PrintLast Go.Proofs.YtggjdcijplgpdaaW.PrintMore
attribute [local go_sem] max2_int min2_int max_two min_two max_three min_three max_four min_four
set_option linter.unusedVariables false
set_option linter.unusedSimpArgs false
set_option maxHeartbeats 8000000 in
set_option maxRecDepth 100000 in
theorem stocks_big (W : World) (A0 A1 : Option Addr) (c0 c1 : Nat) (code more : List Int) (hr0 : Kd.C (Kd.int .u8) W A0 code.length code) (hc0 : code.length ≤ c0) (hr1 : Kd.C (Kd.int .u8) W A1 more.length more) (hc1 : more.length ≤ c1) (h : 4096 < code.length ∨ 4096 < more.length) :
 Calls Try.prog 4 #[.slice A0 code.length c0, .slice A1 more.length c1] W fun e w' => e = .returned (.bool true) ∧ Below W.heap.size W w' := by
 have mixed : Try.prog.follows .mixedOrders = true := by kernel_rfl
 have HB := Aside0.mk (Below.refl W.heap.size W)
 by_cases c : 4096 < code.length
 · have HG0 := Aside0.mk (fun (w' : World) (hb : Below W.heap.size W w') => laws_f6big.calls A0 c0 code true w' (Kd.C_below hr0 hb) hc0 (by unfold laws_f6big.f; rw [decide_eq_true (by omega)]))
   clear hr0 hc0 hr1 hc1 h c
   go_enter Try.func4, Try.ntmps4
   go_wp2_with (go_at_call 19; (with_reducible refine (HG0.out _ HB.out).mono ?_); rintro e w1 ⟨rfl, hd⟩; replace HB := Aside0.mk (below_step HB.out hd.below); clear hd)
   go_ret
   exact ⟨rfl, HB.out⟩
 · have HG0 := Aside0.mk (fun (w' : World) (hb : Below W.heap.size W w') => laws_f6big.calls A0 c0 code false w' (Kd.C_below hr0 hb) hc0 (by unfold laws_f6big.f; rw [decide_eq_false (by omega)]))
   have HG1 := Aside0.mk (fun (w' : World) (hb : Below W.heap.size W w') => laws_f6big.calls A1 c1 more true w' (Kd.C_below hr1 hb) hc1 (by unfold laws_f6big.f; rw [decide_eq_true (by omega)]))
   clear hr0 hc0 hr1 hc1 h c
   go_enter Try.func4, Try.ntmps4
   have ST0 := Aside0.mk True.intro
   go_wp2_with (first
    | (have s_ := ST0; go_at_call 19; (with_reducible refine (HG0.out _ HB.out).mono ?_); rintro e w1 ⟨rfl, hd⟩; replace HB := Aside0.mk (below_step HB.out hd.below); clear hd; clear ST0 s_; have ST1 := Aside0.mk True.intro)
    | (have s_ := ST1; go_at_call 19; (with_reducible refine (HG1.out _ HB.out).mono ?_); rintro e w2 ⟨rfl, hd⟩; replace HB := Aside0.mk (below_step HB.out hd.below); clear hd; clear ST1 s_; have ST2 := Aside0.mk True.intro))
   go_ret
   exact ⟨rfl, HB.out⟩
theorem stocksWalk (a0 : Option Addr) (len0 cap0 : Nat) (z0 : List Int) (a1 : Option Addr) (len1 cap1 : Nat) (z1 : List Int) (w : World) (w0 : (a0 = none ∧ len0 = 0 ∧ cap0 = 0 ∧ z0 = []) ∨ ∃ x, a0 = some x ∧ len0 ≤ cap0 ∧ cap0 ≤ maxLen ∧ z0.length = cap0 ∧ (∀ i, i < z0.length → w.cell? (x.add i) = some (.int .u8 (z0.getD i 0))) ∧ ∀ n ∈ z0, (Lit.int .u8 n).wf = true) (y0 : len0 * 1 ≤ 140737488351232) (w1 : (a1 = none ∧ len1 = 0 ∧ cap1 = 0 ∧ z1 = []) ∨ ∃ x, a1 = some x ∧ len1 ≤ cap1 ∧ cap1 ≤ maxLen ∧ z1.length = cap1 ∧ (∀ i, i < z1.length → w.cell? (x.add i) = some (.int .u8 (z1.getD i 0))) ∧ ∀ n ∈ z1, (Lit.int .u8 n).wf = true) (y1 : len1 * 1 ≤ 140737488351232) :
 Calls Try.prog 4 #[.slice a0 len0 cap0, .slice a1 len1 cap1] w fun e w' => e = .returned (.bool true) ∧ Below w.heap.size w w' := by
 obtain ⟨l0, rfl, hr0, hm0, hw0, hc0⟩ := ReadsInt.ofRowC w0
 obtain ⟨l1, rfl, hr1, hm1, hw1, hc1⟩ := ReadsInt.ofRowC w1
 have r0 := Kd.C_of_reads (d := (0 : Int)) (h1 := fun _ => rfl) hr0
 have r1 := Kd.C_of_reads (d := (0 : Int)) (h1 := fun _ => rfl) hr1
 by_cases b : 4096 < l0.length ∨ 4096 < l1.length
 · exact stocks_big w _ _ _ _ l0 l1 r0 hc0 r1 hc1 b
 · exact stocks_small w _ _ _ _ l0 l1 hw0 hw1 r0 hc0 r1 hc1 (by omega) (by omega)
end Go.Proofs.Ytggjdcijplgpdaa.H
