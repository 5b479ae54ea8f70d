import Derived.Test.YtggjdcijplgpdaazEAllDryAtD0
import Derived.Test.YtggjdcijplgpdaazEAllDryAtD3
import Derived.Test.YtggjdcijplgpdaazEAllDryAtEPredInt64
import Derived.Shelf.Abstract
namespace Go.Proofs.Ytggjdcijplgpdaa.D
open Go.RowKit Go.Proofs.YtggjdcijplgpdaaW.PrintWords Go.Proofs.YtggjdcijplgpdaaW.PrintLast Go.Proofs.YtggjdcijplgpdaaW.PrintMore
attribute [local go_sem] max2_int min2_int max_two min_two max_three min_three max_four min_four
set_option linter.unusedVariables false
set_option linter.unusedSimpArgs false
def inB (lo hi n : Int) : Bool := decide (lo ≤ n) && decide (n ≤ hi)
theorem within_B (n lo hi : Int) : impl_within.f n lo hi = some (inB lo hi n) := by
  unfold impl_within.f inB
  by_cases h1 : lo ≤ n <;> by_cases h2 : n ≤ hi <;> simp [h1, h2]
def impl_areWithin.f (l0 : List Int) (a1 : Int) (a2 : Int) : Option Bool := some (!(l0.any fun n => !inB a1 a2 n))
set_option maxHeartbeats 8000000 in
set_option maxRecDepth 100000 in
theorem areWithin_pred (lo hi x : Int) (B C : Nat) (W : World) (hb : W.cell? ⟨B, 0, none⟩ = some (.int .i64 lo)) (hc : W.cell? ⟨C, 0, none⟩ = some (.int .i64 hi)) :
    Calls Try.prog 129 #[.int .i64 x, .pointer (some ⟨B, 0, none⟩), .pointer (some ⟨C, 0, none⟩)] W fun e w' => e = .returned (.bool (!inB lo hi x)) ∧ Drawn0 W w' := by
  have hv := within_B x lo hi
  generalize inB lo hi x = r at *
  replace hv := Aside0.mk hv
  go_enter Try.func129, Try.ntmps129
  go_wp2_with (go_at_call 72; (with_reducible refine (impl_within.calls x lo hi r _ hv.out).mono ?_); rintro e w' ⟨rfl, ⟨nd, rfl⟩⟩)
  go_ret
  exact ⟨rfl, by repeat (first | exact Drawn0.refl _ | apply Drawn0.step)⟩
set_option maxHeartbeats 8000000 in
set_option maxRecDepth 100000 in
theorem impl_areWithin.calls (A0 : Option Addr) (c0 : Nat) (l0 : List Int) (a1 : Int) (a2 : Int) (r : Bool) (w : World) (hr0 : Kd.C (Kd.int .i64) w A0 l0.length l0) (hc0 : l0.length ≤ c0) (h : impl_areWithin.f l0 a1 a2 = some r) :
    Calls Try.prog 83 #[.slice A0 l0.length c0, .int .i64 a1, .int .i64 a2] w fun e w' => e = .returned (.bool r) ∧ Below w.heap.size w w' := by
  unfold impl_areWithin.f at h
  obtain rfl := Option.some.inj h
  have eg : ∀ args w, (callFunc 129 args).run Try.prog w = .ok (.enter 129 args) w := enters_of Try.func129 (by kernel_rfl) rfl
  have HC := fun (W : World) (hC : Kd.C (Kd.int .i64) W A0 l0.length l0) (h1 : W.cell? ⟨w.heap.size, 0, none⟩ = some (.int .i64 a1)) (h2 : W.cell? ⟨w.heap.size + 1, 0, none⟩ = some (.int .i64 a2)) (hlt : w.heap.size + 1 < W.heap.size) =>
    containsFunc_int64 129 #[.pointer (some ⟨w.heap.size, 0, none⟩), .pointer (some ⟨w.heap.size + 1, 0, none⟩)] eg (fun n => !inB a1 a2 n) A0 c0 l0 W hC
      (fun W' x _ hb' => (areWithin_pred a1 a2 x w.heap.size (w.heap.size + 1) W' ((hb'.cell (p := ⟨w.heap.size, 0, none⟩) (Nat.lt_of_succ_lt hlt)).trans h1) ((hb'.cell (p := ⟨w.heap.size + 1, 0, none⟩) hlt).trans h2)).mono fun e w' ⟨he, hd⟩ => ⟨he, hb'.trans (hd.below.mono hb'.size)⟩)
  replace HC := Aside0.mk HC
  have HR := Aside0.mk hr0
  clear hr0 eg
  generalize l0.any (fun n => !inB a1 a2 n) = r at *
  go_enter Try.func83, Try.ntmps83
  go_wp2_with (go_at_call 128; (refine (HC.out _ ?side1 ?side2 ?side3 ?side4).mono ?_); (case side1 => exact Kd.C_alloc (Kd.C_alloc HR.out _) _); (case side2 => (simp [go_sem]; done)); (case side3 => (simp [go_sem]; done)); (case side4 => (simp [go_sem]; done)); rintro e w' ⟨rfl, hb'⟩)
  go_ret
  exact ⟨rfl, below_step (below_alloc (below_alloc (Below.refl _ _) _) _) hb'⟩
end Go.Proofs.Ytggjdcijplgpdaa.D
