import Derived.Test.YtcmcdjnjlimeeaazFMarksEFMLawF
import Derived.Test.YtcmcdjnjlimeeaazFMarksEFMLawT
import Derived.Test.YtcmcdjnjlimeeaazFMarksEMAll
import Derived.Test.YtcmcdjnjlimeeaazFMarksM0
import Derived.Test.YtcmcdjnjlimeeaazFMarksM1
import Derived.OwnWalk
namespace Go.Proofs.Ytcmcdjnjlimeeaa.M
open Go.RowKit Go.Proofs.YtcmcdjnjlimeeaaW.PrintWords Go.Proofs.YtcmcdjnjlimeeaaW.PrintLast Go.Proofs.YtcmcdjnjlimeeaaW.PrintMore
attribute [local go_sem] max2_int min2_int max_two min_two max_three min_three max_four min_four
set_option linter.unusedVariables false
set_option linter.unusedSimpArgs false
open Go.Lib
set_option maxHeartbeats 4000000 in
set_option maxRecDepth 100000 in
theorem marksLong (A0 : Option Addr) (c0 : Nat) (l0 : List Int) (A1 : Option Addr) (c1 : Nat) (l1 : List Int) (W : World) (hr0 : Kd.C (Kd.int .u8) W A0 l0.length l0) (hc0 : l0.length ≤ c0) (hr1 : Kd.C (Kd.int .u8) W A1 l1.length l1) (hc1 : l1.length ≤ c1) (h : (l0.length : Int) > 3000 ∨ (l1.length : Int) > 3000) :
    Calls Try.prog 3 #[.slice A0 l0.length c0, .slice A1 l1.length c1] W fun e w' => e = .returned (.bool true) ∧ Below W.heap.size W w' := by
  have TL := Aside0.mk (show laws_a2Long.f l0 l1 = some true by
    unfold laws_a2Long.f
    by_cases c : (l0.length : Int) > 3000
    · rw [if_pos c]
    · rw [if_neg c, decide_eq_true (h.resolve_left c)])
  have P0 := Aside0.mk hr0
  have P1 := Aside0.mk hr1
  have C0 := Aside0.mk hc0
  have C1 := Aside0.mk hc1
  clear hr0 hr1 hc0 hc1 h
  go_enter Try.func3, Try.ntmps3
  go_wp2_with (go_at_call 4; refine (laws_a2Long.calls A0 c0 l0 A1 c1 l1 true _ P0.out C0.out P1.out C1.out TL.out).mono ?_; rintro e w' ⟨rfl, ⟨nd, rfl⟩⟩)
  go_ret
  exact ⟨rfl, by repeat (first | exact Below.refl _ _ | apply pw_below_drewN | apply below_drew1)⟩
theorem marksWalk (a0 : Option Addr) (len0 cap0 : Nat) (z0 : List Int) (a1 : Option Addr) (len1 cap1 : Nat) (z1 : List Int) (w : World) (w0 : (a0 = none ∧ len0 = 0 ∧ cap0 = 0 ∧ z0 = []) ∨ ∃ x, a0 = some x ∧ len0 ≤ cap0 ∧ cap0 ≤ maxLen ∧ z0.length = cap0 ∧ (∀ i, i < z0.length → w.cell? (x.add i) = some (.int .u8 (z0.getD i 0))) ∧ ∀ n ∈ z0, (Lit.int .u8 n).wf = true) (y0 : len0 * 1 ≤ 140737488351232) (w1 : (a1 = none ∧ len1 = 0 ∧ cap1 = 0 ∧ z1 = []) ∨ ∃ x, a1 = some x ∧ len1 ≤ cap1 ∧ cap1 ≤ maxLen ∧ z1.length = cap1 ∧ (∀ i, i < z1.length → w.cell? (x.add i) = some (.int .u8 (z1.getD i 0))) ∧ ∀ n ∈ z1, (Lit.int .u8 n).wf = true) (y1 : len1 * 1 ≤ 140737488351232) :
    Calls Try.prog 3 #[.slice a0 len0 cap0, .slice a1 len1 cap1] w fun e w' => e = .returned (.bool true) ∧ Below w.heap.size w w' := by
  obtain ⟨l0, rfl, hr0, hm0, hw0, hc0⟩ := ReadsInt.ofRowC w0
  obtain ⟨l1, rfl, hr1, hm1, hw1, hc1⟩ := ReadsInt.ofRowC w1
  have r0 := Kd.C_of_reads (d := (0 : Int)) (h1 := fun _ => rfl) hr0
  have r1 := Kd.C_of_reads (d := (0 : Int)) (h1 := fun _ => rfl) hr1
  by_cases b : (l0.length : Int) > 3000 ∨ (l1.length : Int) > 3000
  · exact marksLong _ _ l0 _ _ l1 w r0 hc0 r1 hc1 b
  · obtain ⟨n, m, most, LS, D, G, ap, a, b, four, T⟩ := marksTold l0 l1 hw0 hw1 (by omega) (by omega)
    cases ap with
    | true => exact marksLawT_calls _ _ l0 _ _ l1 w r0 hc0 r1 hc1 n m most LS D G a b four T
    | false => exact marksLawF_calls _ _ l0 _ _ l1 w r0 hc0 r1 hc1 n m most LS D G a b four T
end Go.Proofs.Ytcmcdjnjlimeeaa.M
