import Derived.Test.YtggjdcijplgpdaazFStocksECloneSt
import Derived.Test.YtggjdcijplgpdaazFStocksH1
import Derived.Shelf.Abstract
import Derived.Test.YtggjdcijplgpdaazFStocksEInH
section
namespace Go.Proofs.Ytggjdcijplgpdaa.H
open Go.RowKit Go.Proofs.YtggjdcijplgpdaaW.PrintWords Go.Proofs.YtggjdcijplgpdaaW.PrintLast Go.Proofs.YtggjdcijplgpdaaW.PrintMore
attribute [local go_sem] max2_int min2_int max_two min_two max_three min_three max_four min_four   -- for this text's walks alone
set_option linter.unusedVariables false
set_option linter.unusedSimpArgs false
def impl_firstOf.l0 : Nat → List Int → Int → Int → Option (Int)
 | 0, _, _, _ => none
 | k + 1, x5, x6, x7 => if x7 < x6 then (if 0 ≤ x7 then (if x7 < (x5.length : Int) then (if (rd x5 x7) = 0 then (impl_firstOf.l0 k x5 x6 (wrap64 (x7 + 1))) else (some (rd x5 x7))) else (none)) else (none)) else (some 0)
def impl_firstOf.f (k : Nat) (l0 : List Int) : Option (Int) := impl_firstOf.l0 k l0 (l0.length : Int) 0
theorem impl_firstOf.mono_l : ∀ k, (∀ y0 y1 y2, LeO (impl_firstOf.l0 k y0 y1 y2) (impl_firstOf.l0 (k + 1) y0 y1 y2))
 | 0 => fun _ _ _ r h => by simp [impl_firstOf.l0] at h
 | k + 1 => by
  have ih0 := impl_firstOf.mono_l k
  · intro y0 y1 y2
    unfold impl_firstOf.l0
    repeat' first
    | (with_reducible exact ih0 _ _ _)
    | (with_reducible exact LeO.refl _)
    | (with_reducible exact LeO.none _)
    | (with_reducible refine LeO.ite ?_ ?_)
    | (with_reducible refine LeO.bind ?_ (fun _ => ?_))
    | exact ih0 _ _ _
    | exact LeO.none _
    | refine LeO.ite ?_ ?_
    | refine LeO.bind ?_ (fun _ => ?_)
theorem impl_firstOf.mono : ∀ a0 k, LeO (impl_firstOf.f k a0) (impl_firstOf.f (k + 1) a0) := by
 intro a0 k
 have ih0 := impl_firstOf.mono_l k
 unfold impl_firstOf.f
 repeat' first
  | (with_reducible exact ih0 _ _ _)
  | (with_reducible exact LeO.refl _)
  | (with_reducible exact LeO.none _)
  | (with_reducible refine LeO.ite ?_ ?_)
  | (with_reducible refine LeO.bind ?_ (fun _ => ?_))
  | exact ih0 _ _ _
  | exact LeO.none _
  | refine LeO.ite ?_ ?_
  | refine LeO.bind ?_ (fun _ => ?_)
set_option maxHeartbeats 8000000 in
set_option maxRecDepth 100000 in
theorem impl_firstOf.calls (k : Nat) (A0 : Option Addr) (c0 : Nat) (l0 : List Int) (r : Int) (w : World) (hr0 : Kd.C (Kd.int .i64) w A0 l0.length l0) (hc0 : l0.length ≤ c0) (h : impl_firstOf.f k l0 = some r) :
 Calls Try.prog 61 #[.slice A0 l0.length c0] w fun e w' => e = .returned (.int .i64 r) ∧ Drawn0 w w' := by
 have HR0 := Aside0.mk hr0
 have HC0 := Aside0.mk hc0
 clear hr0 hc0
 have H : (impl_firstOf.l0 k l0 (l0.length : Int) 0) = some r := h
 clear h
 have H' := Aside0.mk H
 clear H
 go_enter Try.func61, Try.ntmps61
 go_wp2
 go_loopg [7] k (fun kq v7 w' => ∃ (x7_1 : Int), v7 = .int .i64 x7_1 ∧ Aside0 (impl_firstOf.l0 kq l0 (l0.length : Int) x7_1 = some r) ∧ Aside0 (kq ≤ k) ∧ Drawn0 w w')
 case atStart => exact ⟨(0), (by first | rfl | (simp; done) | (simp [*]; done)), H', ⟨Nat.le_refl _⟩, by repeat (first | exact Drawn0.refl _ | apply Drawn0.step)⟩
 case round =>
  clear H'
  obtain ⟨x7_1, rfl, HA, HK1, ⟨m1, rfl⟩⟩ := hrel
  cases gk with
  | zero => exact absurd HA.out (by simp [impl_firstOf.l0])
  | succ k1 =>
   have H := HA.out
   clear HA
   simp only [impl_firstOf.l0] at H
   by_cases c2 : x7_1 < (l0.length : Int)
   · rw [if_pos c2] at H
     have c2b0 : decide (x7_1 < (l0.length : Int)) = true := decide_eq_true c2
     clear c2
     by_cases c3 : 0 ≤ x7_1
     · rw [if_pos c3] at H
       have c3b0 : decide (0 ≤ x7_1) = true := decide_eq_true c3
       clear c3
       by_cases c4 : x7_1 < (l0.length : Int)
       · rw [if_pos c4] at H
         have c4b0 : decide (x7_1 < (l0.length : Int)) = true := decide_eq_true c4
         clear c4
         by_cases c5 : (rd l0 x7_1) = 0
         · rw [if_pos c5] at H
           have c5b0 : ((rd l0 x7_1) == 0) = true := beq_iff_eq.mpr c5
           have c5b1 : ((rd l0 x7_1) != 0) = false := bne_eq_false_iff_eq.mpr c5
           clear c5
           have H' := Aside0.mk H
           clear H
           have p146 : 0 ≤ (x7_1 : Int) := of_decide_eq_true (by first | (with_reducible assumption) | assumption)
           have q146 : x7_1 < (l0.length : Int) := of_decide_eq_true (by first | (with_reducible assumption) | assumption)
           obtain ⟨ad146, e146, hx146_0⟩ := Kd.at_int HR0.out x7_1 p146 q146
           cases e146
           replace p146 := eq_true p146
           replace q146 := eq_true q146
           go_wp2
           go_roundg k1
           case measure => have := HK1.out; omega
           case rel => exact ⟨(wrap64 (x7_1 + 1)), (by first | rfl | (simp; done) | (simp [*]; done)), H', ⟨by have := HK1.out; omega⟩, by repeat (first | exact Drawn0.refl _ | apply Drawn0.step)⟩
         · rw [if_neg c5] at H
           have c5b0 : ((rd l0 x7_1) == 0) = false := beq_eq_false_iff_ne.mpr c5
           have c5b1 : ((rd l0 x7_1) != 0) = true := bne_iff_ne.mpr c5
           obtain rfl := Option.some.inj H
           have p146 : 0 ≤ (x7_1 : Int) := of_decide_eq_true (by first | (with_reducible assumption) | assumption)
           have q146 : x7_1 < (l0.length : Int) := of_decide_eq_true (by first | (with_reducible assumption) | assumption)
           obtain ⟨ad146, e146, hx146_0⟩ := Kd.at_int HR0.out x7_1 p146 q146
           cases e146
           replace p146 := eq_true p146
           replace q146 := eq_true q146
           go_wp2
           go_ret
           exact ⟨by first | rfl | (simp; done) | (simp [*]; done), by repeat (first | exact Drawn0.refl _ | apply Drawn0.step)⟩
       · rw [if_neg c4] at H
         exact absurd H (by simp)
     · rw [if_neg c3] at H
       exact absurd H (by simp)
   · rw [if_neg c2] at H
     have c2b0 : decide (x7_1 < (l0.length : Int)) = false := decide_eq_false c2
     clear c2
     obtain rfl := Option.some.inj H
     go_wp2
     go_ret
     exact ⟨by first | rfl | (simp; done) | (simp [*]; done), by repeat (first | exact Drawn0.refl _ | apply Drawn0.step)⟩
def impl_unless.f (a0 : Bool) (a1 : Int) : Option (Int) := if a0 = true then (some 0) else (some a1)
set_option maxHeartbeats 8000000 in
set_option maxRecDepth 100000 in
theorem impl_unless.calls (a0 : Bool) (a1 : Int) (r : Int) (w : World) (h : impl_unless.f a0 a1 = some r) :
 Calls Try.prog 62 #[.bool a0, .int .i64 a1] w fun e w' => e = .returned (.int .i64 r) ∧ Drawn0 w w' := by
 have H : (if a0 = true then (some 0) else (some a1)) = some r := h
 clear h
 by_cases c3 : a0 = true
 · subst c3
   have H1 : (some 0) = some r := by rw [if_pos rfl] at H; exact H
   clear H
   have H := H1
   clear H1
   obtain rfl := Option.some.inj H
   go_enter Try.func62, Try.ntmps62
   go_wp2
   go_ret
   exact ⟨by first | rfl | (simp; done) | (simp [*]; done), by repeat (first | exact Drawn0.refl _ | apply Drawn0.step)⟩
 · replace c3 := Bool.eq_false_iff.mpr c3
   subst c3
   have H1 : (some a1) = some r := by rw [if_neg (show ¬ (false = true) by decide)] at H; exact H
   clear H
   have H := H1
   clear H1
   obtain rfl := Option.some.inj H
   go_enter Try.func62, Try.ntmps62
   go_wp2
   go_ret
   exact ⟨by first | rfl | (simp; done) | (simp [*]; done), by repeat (first | exact Drawn0.refl _ | apply Drawn0.step)⟩
def impl_within.f (a0 : Int) (a1 : Int) (a2 : Int) : Option (Bool) := if a1 ≤ a0 then (some (decide (a0 ≤ a2))) else (some false)
set_option maxHeartbeats 8000000 in
set_option maxRecDepth 100000 in
theorem impl_within.calls (a0 : Int) (a1 : Int) (a2 : Int) (r : Bool) (w : World) (h : impl_within.f a0 a1 a2 = some r) :
 Calls Try.prog 72 #[.int .i64 a0, .int .i64 a1, .int .i64 a2] w fun e w' => e = .returned (.bool r) ∧ Drawn0 w w' := by
 have H : (if a1 ≤ a0 then (some (decide (a0 ≤ a2))) else (some false)) = some r := h
 clear h
 by_cases c4 : a1 ≤ a0
 · rw [if_pos c4] at H
   have c4b0 : decide (a1 ≤ a0) = true := decide_eq_true c4
   clear c4
   obtain rfl := Option.some.inj H
   go_enter Try.func72, Try.ntmps72
   go_wp2
   go_ret
   exact ⟨by first | rfl | (simp; done) | (simp [*]; done), by repeat (first | exact Drawn0.refl _ | apply Drawn0.step)⟩
 · rw [if_neg c4] at H
   have c4b0 : decide (a1 ≤ a0) = false := decide_eq_false c4
   clear c4
   obtain rfl := Option.some.inj H
   go_enter Try.func72, Try.ntmps72
   go_wp2
   go_ret
   exact ⟨by first | rfl | (simp; done) | (simp [*]; done), by repeat (first | exact Drawn0.refl _ | apply Drawn0.step)⟩
def impl_size_impl_Stock.f (l0 : List (S55)) : Option (Int) := some (l0.length : Int)
set_option maxHeartbeats 8000000 in
set_option maxRecDepth 100000 in
theorem impl_size_impl_Stock.calls (A0 : Option Addr) (c0 : Nat) (l0 : List (S55)) (r : Int) (w : World) (hr0 : Kd.C k55 w A0 l0.length l0) (hc0 : l0.length ≤ c0) (h : impl_size_impl_Stock.f l0 = some r) :
 Calls Try.prog 120 #[.slice A0 l0.length c0] w fun e w' => e = .returned (.int .i64 r) ∧ Drawn0 w w' := by
 have HR0 := Aside0.mk hr0
 have HC0 := Aside0.mk hc0
 clear hr0 hc0
 have H : (some (l0.length : Int)) = some r := h
 clear h
 obtain rfl := Option.some.inj H
 go_enter Try.func120, Try.ntmps120
 go_wp2
 go_ret
 exact ⟨by first | rfl | (simp; done) | (simp [*]; done), by repeat (first | exact Drawn0.refl _ | apply Drawn0.step)⟩
end Go.Proofs.Ytggjdcijplgpdaa.H
end
section
namespace Go.Proofs.Ytggjdcijplgpdaa.H
open Go.RowKit Go.Proofs.YtggjdcijplgpdaaW.PrintWords Go.Proofs.YtggjdcijplgpdaaW.PrintLast Go.Proofs.YtggjdcijplgpdaaW.PrintMore
attribute [local go_sem] max2_int min2_int max_two min_two max_three min_three max_four min_four
set_option linter.unusedVariables false
set_option linter.unusedSimpArgs false
def inB (lo hi n : Int) : Bool := decide (lo ≤ n) && decide (n ≤ hi)
theorem within_B (n lo hi : Int) : impl_within.f n lo hi = some (inB lo hi n) := by
 unfold impl_within.f inB
 by_cases h1 : lo ≤ n <;> by_cases h2 : n ≤ hi <;> simp [h1, h2]
def impl_areWithin.f (l0 : List Int) (a1 : Int) (a2 : Int) : Option Bool := some (!(l0.any fun n => !inB a1 a2 n))
set_option maxHeartbeats 8000000 in
set_option maxRecDepth 100000 in
theorem areWithin_pred (lo hi x : Int) (B C : Nat) (W : World) (hb : W.cell? ⟨B, 0, none⟩ = some (.int .i64 lo)) (hc : W.cell? ⟨C, 0, none⟩ = some (.int .i64 hi)) :
 Calls Try.prog 129 #[.int .i64 x, .pointer (some ⟨B, 0, none⟩), .pointer (some ⟨C, 0, none⟩)] W fun e w' => e = .returned (.bool (!inB lo hi x)) ∧ Drawn0 W w' := by
 have hv := within_B x lo hi
 generalize inB lo hi x = r at *
 replace hv := Aside0.mk hv
 go_enter Try.func129, Try.ntmps129
 go_wp2_with (go_at_call 72; (with_reducible refine (impl_within.calls x lo hi r _ hv.out).mono ?_); rintro e w' ⟨rfl, ⟨nd, rfl⟩⟩)
 go_ret
 exact ⟨rfl, by repeat (first | exact Drawn0.refl _ | apply Drawn0.step)⟩
set_option maxHeartbeats 8000000 in
set_option maxRecDepth 100000 in
theorem impl_areWithin.calls (A0 : Option Addr) (c0 : Nat) (l0 : List Int) (a1 : Int) (a2 : Int) (r : Bool) (w : World) (hr0 : Kd.C (Kd.int .i64) w A0 l0.length l0) (hc0 : l0.length ≤ c0) (h : impl_areWithin.f l0 a1 a2 = some r) :
 Calls Try.prog 83 #[.slice A0 l0.length c0, .int .i64 a1, .int .i64 a2] w fun e w' => e = .returned (.bool r) ∧ Below w.heap.size w w' := by
 unfold impl_areWithin.f at h
 obtain rfl := Option.some.inj h
 have eg : ∀ args w, (callFunc 129 args).run Try.prog w = .ok (.enter 129 args) w := enters_of Try.func129 (by kernel_rfl) rfl
 have HC := fun (W : World) (hC : Kd.C (Kd.int .i64) W A0 l0.length l0) (h1 : W.cell? ⟨w.heap.size, 0, none⟩ = some (.int .i64 a1)) (h2 : W.cell? ⟨w.heap.size + 1, 0, none⟩ = some (.int .i64 a2)) (hlt : w.heap.size + 1 < W.heap.size) =>
  containsFunc_int64 129 #[.pointer (some ⟨w.heap.size, 0, none⟩), .pointer (some ⟨w.heap.size + 1, 0, none⟩)] eg (fun n => !inB a1 a2 n) A0 c0 l0 W hC
   (fun W' x _ hb' => (areWithin_pred a1 a2 x w.heap.size (w.heap.size + 1) W' ((hb'.cell (p := ⟨w.heap.size, 0, none⟩) (Nat.lt_of_succ_lt hlt)).trans h1) ((hb'.cell (p := ⟨w.heap.size + 1, 0, none⟩) hlt).trans h2)).mono fun e w' ⟨he, hd⟩ => ⟨he, hb'.trans (hd.below.mono hb'.size)⟩)
 replace HC := Aside0.mk HC
 have HR := Aside0.mk hr0
 clear hr0 eg
 generalize l0.any (fun n => !inB a1 a2 n) = r at *
 go_enter Try.func83, Try.ntmps83
 go_wp2_with (go_at_call 128; (refine (HC.out _ ?side1 ?side2 ?side3 ?side4).mono ?_); (case side1 => exact Kd.C_alloc (Kd.C_alloc HR.out _) _); (case side2 => (simp [go_sem]; done)); (case side3 => (simp [go_sem]; done)); (case side4 => (simp [go_sem]; done)); rintro e w' ⟨rfl, hb'⟩)
 go_ret
 exact ⟨rfl, below_step (below_alloc (below_alloc (Below.refl _ _) _) _) hb'⟩
end Go.Proofs.Ytggjdcijplgpdaa.H
end
section
namespace Go.Proofs.Ytggjdcijplgpdaa.H
open Go.RowKit Go.Proofs.YtggjdcijplgpdaaW.PrintWords Go.Proofs.YtggjdcijplgpdaaW.PrintLast Go.Proofs.YtggjdcijplgpdaaW.PrintMore
attribute [local go_sem] max2_int min2_int max_two min_two max_three min_three max_four min_four
set_option linter.unusedVariables false
set_option linter.unusedSimpArgs false
def needsIn (needs : List Int) : Bool := !(needs.any fun n => !inB 0 500 n)
def needOk (l : List S55) (needs : List Int) : Bool := decide (needs.length = l.length) && needsIn needs
def codeB (b : Bool) (c : Int) : Int := if b = true then 0 else c
theorem unless_B (b : Bool) (c : Int) : impl_unless.f b c = some (codeB b c) := by
 unfold impl_unless.f codeB
 cases b <;> rfl
set_option maxHeartbeats 8000000 in
set_option maxRecDepth 100000 in
theorem needCode_at (W : World) (g : Nat) (A0 : Option Addr) (cap : Nat) (l0 : List S55) (A1 : Option Addr) (cN : Nat) (needs : List Int) (c0 : W.cell? ⟨g, 0, none⟩ = some (.slice A0 l0.length cap)) (hr : Kd.C (Kd.int .i64) W A1 needs.length needs) (hc : needs.length ≤ cN) :
 Calls Try.prog 96 #[.pointer (some ⟨g, 0, none⟩), .slice A1 needs.length cN] W fun e w' => e = .returned (.int .i64 (codeB (needOk l0 needs) 2)) ∧ Below W.heap.size W w' := by
 have mixed : Try.prog.follows .mixedOrders = true := by kernel_rfl
 have hu32 := Try.underlying32
 have HW := Aside0.mk (fun (w : World) (hb : Below W.heap.size W w) => impl_areWithin.calls A1 cN needs 0 500 _ w (Kd.C_below hr hb) hc rfl)
 have HU := Aside0.mk (fun (b : Bool) (w : World) => impl_unless.calls b 2 _ w (unless_B b 2))
 have HB := Aside0.mk (Below.refl W.heap.size W)
 have HQ := Aside0.mk (show needOk l0 needs = (decide (needs.length = l0.length) && needsIn needs) from rfl)
 generalize needOk l0 needs = r at HQ ⊢
 have hx : (!(needs.any fun n => !inB 0 500 n)) = needsIn needs := rfl
 by_cases hl : needs.length = l0.length
 · have hb : ((needs.length : Int) == (l0.length : Int)) = true := by rw [hl]; simp
   rw [decide_eq_true hl, Bool.true_and] at HQ
   clear hr hc hl
   cases hq : needsIn needs with
   | false =>
    rw [hq] at HQ
    have HW2 := HW
    rw [hx, hq] at HW2
    have HU2 := Aside0.mk (fun (w : World) => HU.out false w)
    clear HW HU hx hq
    go_enter Try.func96, Try.ntmps96
    go_wp2_with (first | (go_at_call 83; (with_reducible refine (HW2.out _ ?side1).mono ?_); (case side1 => exact HB.out); rintro e w2 ⟨rfl, hd⟩; have n_ := Aside0.mk (below_step HB.out hd); clear HB hd; have HB := n_; clear n_) | (go_at_call 62; (with_reducible refine (HU2.out _).mono ?_); rintro e w2 ⟨rfl, hd⟩; have n_ := Aside0.mk (below_step HB.out hd.below); clear HB hd; have HB := n_; clear n_))
    go_ret
    exact ⟨by rw [HQ.out]; rfl, HB.out⟩
   | true =>
    rw [hq] at HQ
    have HW2 := HW
    rw [hx, hq] at HW2
    have HU2 := Aside0.mk (fun (w : World) => HU.out true w)
    clear HW HU hx hq
    go_enter Try.func96, Try.ntmps96
    go_wp2_with (first | (go_at_call 83; (with_reducible refine (HW2.out _ ?side1).mono ?_); (case side1 => exact HB.out); rintro e w2 ⟨rfl, hd⟩; have n_ := Aside0.mk (below_step HB.out hd); clear HB hd; have HB := n_; clear n_) | (go_at_call 62; (with_reducible refine (HU2.out _).mono ?_); rintro e w2 ⟨rfl, hd⟩; have n_ := Aside0.mk (below_step HB.out hd.below); clear HB hd; have HB := n_; clear n_))
    go_ret
    exact ⟨by rw [HQ.out]; rfl, HB.out⟩
 · have hb : ((needs.length : Int) == (l0.length : Int)) = false := by rw [beq_eq_false_iff_ne]; omega
   rw [decide_eq_false hl, Bool.false_and] at HQ
   clear hr hc
   have HU2 := Aside0.mk (fun (w : World) => HU.out false w)
   go_enter Try.func96, Try.ntmps96
   go_wp2_with (first | (go_at_call 62; (with_reducible refine (HU2.out _).mono ?_); rintro e w2 ⟨rfl, hd⟩; have n_ := Aside0.mk (below_step HB.out hd.below); clear HB hd; have HB := n_; clear n_))
   go_ret
   exact ⟨by rw [HQ.out]; rfl, HB.out⟩
theorem needCode_walk (W : World) (g g2 cap : Nat) (l0 : List S55) (a1 a2 a3 : Int) (A1 : Option Addr) (cN : Nat) (needs : List Int) (H : InH W g g2 cap l0 a1 a2 a3 W) (hr : Kd.C (Kd.int .i64) W A1 needs.length needs) (hc : needs.length ≤ cN) :
 Calls Try.prog 96 #[.pointer (some ⟨g, 0, none⟩), .slice A1 needs.length cN] W fun e w' => e = .returned (.int .i64 (codeB (needOk l0 needs) 2)) ∧ Below W.heap.size W w' := needCode_at W g _ cap l0 A1 cN needs (H.cell 0) hr hc
end Go.Proofs.Ytggjdcijplgpdaa.H
end
