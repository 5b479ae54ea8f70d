import Derived.Test.YtcmcdjnjlimeeaazFMarksEPredMark
import Derived.Test.YtcmcdjnjlimeeaazFMarksM0
import Derived.Test.YtcmcdjnjlimeeaazFMarksM2
import Derived.Test.YtcmcdjnjlimeeaazFMarksM3
import Derived.Shelf.Abstract
namespace Go.Proofs.Ytcmcdjnjlimeeaa.M
open Go.RowKit Go.Proofs.YtcmcdjnjlimeeaaW.PrintWords Go.Proofs.YtcmcdjnjlimeeaaW.PrintLast Go.Proofs.YtcmcdjnjlimeeaaW.PrintMore
attribute [local go_sem] max2_int min2_int max_two min_two max_three min_three max_four min_four
set_option linter.unusedVariables false
set_option linter.unusedSimpArgs false
def okMark (n m : Int) : Bool := decide (1 ≤ n) && decide (n ≤ 12) && (shr .u16 m n == 0)
theorem valid_f (n m : Int) : impl_ValidMark.f n m = some (okMark n m) := by
  unfold impl_ValidMark.f impl_areStitches.f impl_within.f okMark
  by_cases c1 : 1 ≤ n
  · by_cases c2 : n ≤ 12
    · simp [c1, c2, show 0 ≤ n by omega]
    · simp [c1, c2]
  · simp [c1]
def impl_markCode.f (a0 : Int) (l1 : List Int) : Option Int := some (if 1 ≤ a0 ∧ a0 ≤ 12 then (if l1.any (fun m => !okMark a0 m) = true then 1 else 0) else 1)
set_option maxHeartbeats 8000000 in
set_option maxRecDepth 100000 in
theorem markCode_pred (a0 x : Int) (B : Nat) (W : World) (hc : W.cell? ⟨B, 0, none⟩ = some (.int .i64 a0)) :
    Calls Try.prog 51 #[.int .u16 x, .pointer (some ⟨B, 0, none⟩)] W fun e w' => e = .returned (.bool (!okMark a0 x)) ∧ Drawn0 W w' := by
  have hv := Aside0.mk (valid_f a0 x)
  cases hq : okMark a0 x with
  | true =>
    rw [hq] at hv
    go_enter Try.func51, Try.ntmps51
    go_wp2_with (go_at_call 18; (with_reducible refine (impl_ValidMark.calls a0 x true _ hv.out).mono ?_); rintro e w' ⟨rfl, ⟨nd, rfl⟩⟩)
    go_ret
    exact ⟨rfl, by repeat (first | exact Drawn0.refl _ | apply Drawn0.step)⟩
  | false =>
    rw [hq] at hv
    go_enter Try.func51, Try.ntmps51
    go_wp2_with (go_at_call 18; (with_reducible refine (impl_ValidMark.calls a0 x false _ hv.out).mono ?_); rintro e w' ⟨rfl, ⟨nd, rfl⟩⟩)
    go_ret
    exact ⟨rfl, by repeat (first | exact Drawn0.refl _ | apply Drawn0.step)⟩
theorem stitches_f (n : Int) : impl_areStitches.f n = some (decide (1 ≤ n ∧ n ≤ 12)) := by
  unfold impl_areStitches.f impl_within.f
  by_cases c1 : 1 ≤ n
  · by_cases c2 : n ≤ 12
    · simp [c1, c2]
    · simp [c1, c2]
  · simp [c1]
theorem unless_t (c : Int) : impl_unless.f true c = some 0 := by unfold impl_unless.f; simp
theorem unless_f (c : Int) : impl_unless.f false c = some c := by unfold impl_unless.f; simp
set_option maxHeartbeats 8000000 in
set_option maxRecDepth 100000 in
theorem impl_markCode.calls (a0 : Int) (A1 : Option Addr) (c1 : Nat) (l1 : List Int) (r : Int) (w : World) (hr1 : Kd.C (Kd.int .u16) w A1 l1.length l1) (hc1 : l1.length ≤ c1) (h : impl_markCode.f a0 l1 = some r) :
    Calls Try.prog 26 #[.int .i64 a0, .slice A1 l1.length c1] w fun e w' => e = .returned (.int .i64 r) ∧ Below w.heap.size w w' := by
  have HR1 := Aside0.mk hr1
  clear hr1
  have eg : ∀ args w, (callFunc 51 args).run Try.prog w = .ok (.enter 51 args) w := enters_of Try.func51 (by kernel_rfl) rfl
  have HS := Aside0.mk (stitches_f a0)
  unfold impl_markCode.f at h
  by_cases c : 1 ≤ a0 ∧ a0 ≤ 12
  · rw [if_pos c] at h
    rw [decide_eq_true c] at HS
    clear c
    have HC := fun (W : World) (hb : Below w.heap.size w W) (hc : W.cell? ⟨w.heap.size, 0, none⟩ = some (.int .i64 a0)) (hlt : w.heap.size < W.heap.size) =>
      containsFunc_mark 51 #[.pointer (some ⟨w.heap.size, 0, none⟩)] eg (fun m => !okMark a0 m) A1 c1 l1 W (Kd.C_below HR1.out hb)
        (fun W' x _ hb' => (markCode_pred a0 x w.heap.size W' ((hb'.cell (p := ⟨w.heap.size, 0, none⟩) hlt).trans hc)).mono fun e w' ⟨he, hd⟩ => ⟨he, hb'.trans (hd.below.mono hb'.size)⟩)
    replace HC := Aside0.mk HC
    cases hq : l1.any (fun m => !okMark a0 m) with
    | true =>
      rw [hq, if_pos rfl] at h
      rw [hq] at HC
      obtain rfl := Option.some.inj h
      go_enter Try.func26, Try.ntmps26
      go_wp2_with (first
        | (go_at_call 44; (with_reducible refine (impl_areStitches.calls a0 true _ HS.out).mono ?_); rintro e w' ⟨rfl, ⟨nd, rfl⟩⟩)
        | (go_at_call 38; (refine (HC.out _ ?_ ?_ ?_).mono ?_); (exact box_below _ _ _); (exact box_cell _ _ _ _); (exact box_lt _ _ _); rintro e w' ⟨rfl, hb'⟩)
        | (go_at_call 35; (with_reducible refine (impl_unless.calls false 1 1 _ (unless_f 1)).mono ?_); rintro e w' ⟨rfl, ⟨nd, rfl⟩⟩))
      go_ret
      exact ⟨rfl, pw_below_drewN (below_step (box_below _ _ _) hb') _⟩
    | false =>
      rw [hq, if_neg (by decide)] at h
      rw [hq] at HC
      obtain rfl := Option.some.inj h
      go_enter Try.func26, Try.ntmps26
      go_wp2_with (first
        | (go_at_call 44; (with_reducible refine (impl_areStitches.calls a0 true _ HS.out).mono ?_); rintro e w' ⟨rfl, ⟨nd, rfl⟩⟩)
        | (go_at_call 38; (refine (HC.out _ ?_ ?_ ?_).mono ?_); (exact box_below _ _ _); (exact box_cell _ _ _ _); (exact box_lt _ _ _); rintro e w' ⟨rfl, hb'⟩)
        | (go_at_call 35; (with_reducible refine (impl_unless.calls true 1 0 _ (unless_t 1)).mono ?_); rintro e w' ⟨rfl, ⟨nd, rfl⟩⟩))
      go_ret
      exact ⟨rfl, pw_below_drewN (below_step (box_below _ _ _) hb') _⟩
  · rw [if_neg c] at h
    rw [decide_eq_false c] at HS
    clear c
    obtain rfl := Option.some.inj h
    go_enter Try.func26, Try.ntmps26
    go_wp2_with (first
      | (go_at_call 44; (with_reducible refine (impl_areStitches.calls a0 false _ HS.out).mono ?_); rintro e w' ⟨rfl, ⟨nd, rfl⟩⟩)
      | (go_at_call 35; (with_reducible refine (impl_unless.calls false 1 1 _ (unless_f 1)).mono ?_); rintro e w' ⟨rfl, ⟨nd, rfl⟩⟩))
    go_ret
    exact ⟨rfl, box_below _ _ _⟩
end Go.Proofs.Ytcmcdjnjlimeeaa.M
