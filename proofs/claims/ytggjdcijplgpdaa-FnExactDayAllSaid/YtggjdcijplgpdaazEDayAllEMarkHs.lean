import Derived.Test.YtggjdcijplgpdaazEDayAllEMarkSt
import Derived.Test.YtggjdcijplgpdaazEDayAllEPredInt64
import Derived.Test.YtggjdcijplgpdaazEDayAllEIdx8
import Derived.Shelf.Abstract
namespace Go.Proofs.Ytggjdcijplgpdaa.H
open Go.RowKit Go.Proofs.YtggjdcijplgpdaaW.PrintWords Go.Proofs.YtggjdcijplgpdaaW.PrintLast Go.Proofs.YtggjdcijplgpdaaW.PrintMore
attribute [local go_sem] max2_int min2_int max_two min_two max_three min_three max_four min_four
set_option linter.unusedVariables false
set_option linter.unusedSimpArgs false
set_option maxHeartbeats 8000000 in
set_option maxRecDepth 100000 in
theorem markSt_none (W : World) (A : Option Addr) (cap : Nat) (a : Int) :
    Calls Try.prog 68 #[.slice A 0 cap, .int .i64 a] W fun e w' => e = .returned (.int .i64 a) ∧ w' = W := by
  go_enter Try.func68, Try.ntmps68
  go_wp2
  go_loopg [1, 5] 0 (fun gk v1 v5 w' => v1 = .int .i64 a ∧ v5 = .int .i64 0 ∧ w' = W)
  case atStart => exact ⟨rfl, rfl, rfl⟩
  case round =>
    obtain ⟨rfl, rfl, rfl⟩ := hrel
    go_wp2
    go_ret
    exact ⟨rfl, rfl⟩
set_option maxHeartbeats 8000000 in
set_option maxRecDepth 100000 in
theorem heldSt_none (W : World) (A : Option Addr) (cap : Nat) (a : Int) :
    Calls Try.prog 69 #[.slice A 0 cap, .int .i64 a] W fun e w' => e = .returned (.int .i64 a) ∧ w' = W := by
  go_enter Try.func69, Try.ntmps69
  go_wp2
  go_loopg [1, 5] 0 (fun gk v1 v5 w' => v1 = .int .i64 a ∧ v5 = .int .i64 0 ∧ w' = W)
  case atStart => exact ⟨rfl, rfl, rfl⟩
  case round =>
    obtain ⟨rfl, rfl, rfl⟩ := hrel
    go_wp2
    go_ret
    exact ⟨rfl, rfl⟩
theorem markSt_calls (W : World) (v : Value) (l : List S55) (a : Int) (base : Nat) (ok : Nat → Prop) (hr : Kd.R k55 55 W base ok v l) (ha : 0 ≤ a ∧ a ≤ 1000000000) (hl : l.length ≤ 10000000) :
    Calls Try.prog 68 #[v, .int .i64 a] W fun e w' => e = .returned (.int .i64 (a + 25 * (l.length : Int))) ∧ ∃ l' : List S55, l'.length = l.length ∧ MarkedL l' a l'.length ∧ Kd.R k55 55 w' base ok v l' ∧ W.grownBy w' v.ownBlock := by
  by_cases hp : 0 < l.length
  · obtain ⟨g, cap, rfl, hb, hok, hrow⟩ := row_of_R hr hp
    refine (markSt_walk W g cap l a hrow ha hl).mono ?_
    rintro e w' ⟨he, l', h1, h2, h3, h4⟩
    refine ⟨he, l', h1, by rw [h1]; exact h2, ?_, h4⟩
    rw [← h1]
    exact R_of_row h3 hb hok
  · obtain ⟨A, cap, hv⟩ := Kd.R_slice hr
    have h0 : l = [] := List.eq_nil_of_length_eq_zero (by omega)
    subst h0
    subst hv
    refine (markSt_none W A cap a).mono ?_
    rintro e w' ⟨he, rfl⟩
    exact ⟨by rw [he]; simp, [], rfl, fun k hk => absurd hk (by simp), hr, World.grownBy.refl _ _⟩
theorem heldSt_calls (W : World) (v : Value) (l : List S55) (a : Int) (base : Nat) (ok : Nat → Prop) (hr : Kd.R k55 55 W base ok v l) (hm : MarkedL l a l.length) (ha : 0 ≤ a ∧ a ≤ 1000000000) (hl : l.length ≤ 10000000) :
    Calls Try.prog 69 #[v, .int .i64 a] W fun e w' => e = .returned (.int .i64 (a + 25 * (l.length : Int))) ∧ Below W.heap.size W w' := by
  by_cases hp : 0 < l.length
  · obtain ⟨g, cap, rfl, hb, hok, hrow⟩ := row_of_R hr hp
    exact heldSt_walk W g cap l a hrow hm ha hl
  · obtain ⟨A, cap, hv⟩ := Kd.R_slice hr
    have h0 : l = [] := List.eq_nil_of_length_eq_zero (by omega)
    subst h0
    subst hv
    refine (heldSt_none W A cap a).mono ?_
    rintro e w' ⟨he, rfl⟩
    exact ⟨by rw [he]; simp, Below.refl _ _⟩
theorem grown_after {w0 w1 w2 : World} {r : Option Nat} (h : Below w0.heap.size w0 w1) (h2 : w1.grownBy w2 r) : w0.grownBy w2 r :=
  ⟨h2.os.trans h.os, h2.tape.trans h.tape, h2.output.trans h.output, Nat.le_trans h.size h2.size, fun b hb hn => (h2.block b (Nat.lt_of_lt_of_le hb h.size) hn).trans (h.block b hb)⟩
set_option maxHeartbeats 8000000 in
set_option maxRecDepth 100000 in
theorem markHs_calls (W : World) (A : Option Addr) (c : Nat) (l : List S55) (a1 a2 a3 : Int) (a : Int) (base : Nat) (ok : Nat → Prop) (hr : Kd.R k55 55 W base ok (.slice A l.length c) l) (ha : 0 ≤ a ∧ a ≤ 1000000000) (hl : l.length ≤ 10000000) :
    Calls Try.prog 15 #[.agg #[.slice A l.length c, .int .i16 a1, .int .i8 a2, .int .i16 a3], .int .i64 a] W fun e w' => e = .returned (.int .i64 (a + 25 * (l.length : Int))) ∧ ∃ l' : List S55, l'.length = l.length ∧ MarkedL l' a l'.length ∧ Kd.R k55 55 w' base ok (.slice A l.length c) l' ∧ W.grownBy w' (Value.slice A l.length c).ownBlock := by
  have hu32 := Try.underlying32
  have HC := Aside0.mk (fun (w : World) (hb : Below W.heap.size W w) => markSt_calls w _ l a base ok (Kd.R_below hr hb) ha hl)
  clear hr ha hl
  go_enter Try.func15, Try.ntmps15
  go_wp2_with (first | ((with_reducible refine gate_dst (N := 2) rfl ?_); refine box_event ?hg (N := 2) ?hd (cs := #[.slice A l.length c, .int .i16 a1, .int .i8 a2, .int .i16 a3]) (t := 32) ?hr ?_; (case hd => rfl); (case hg => rfl); (case hr => first | (go_simp; done) | (go_simp; rfl)); intro g1 hg_ w1 hbox hb; have HB := Aside0.mk hb; have c0 : w1.cell? ⟨g1, 0, none⟩ = some (.slice A l.length c) := (blk_cell hbox 0).trans rfl; clear hb hbox hg_) | (go_at_call 68; (with_reducible refine (HC.out _ ?side1).mono ?_); (case side1 => exact HB.out); rintro e w2 ⟨rfl, hl'⟩; have HL' := Aside0.mk hl'; clear hl' c0))
  go_ret
  obtain ⟨l', h1, h2, h3, h4⟩ := HL'.out
  exact ⟨rfl, l', h1, h2, h3, grown_after HB.out h4⟩
set_option maxHeartbeats 8000000 in
set_option maxRecDepth 100000 in
theorem heldHs_calls (W : World) (A : Option Addr) (c : Nat) (l : List S55) (a1 a2 a3 : Int) (a : Int) (base : Nat) (ok : Nat → Prop) (hr : Kd.R k55 55 W base ok (.slice A l.length c) l) (hm : MarkedL l a l.length) (ha : 0 ≤ a ∧ a ≤ 1000000000) (hl : l.length ≤ 10000000) :
    Calls Try.prog 17 #[.agg #[.slice A l.length c, .int .i16 a1, .int .i8 a2, .int .i16 a3], .int .i64 a] W fun e w' => e = .returned (.int .i64 (a + 25 * (l.length : Int))) ∧ Below W.heap.size W w' := by
  have hu32 := Try.underlying32
  have HC := Aside0.mk (fun (w : World) (hb : Below W.heap.size W w) => heldSt_calls w _ l a base ok (Kd.R_below hr hb) hm ha hl)
  obtain ⟨t, ht⟩ : ∃ t, a + 25 * (l.length : Int) = t := ⟨_, rfl⟩
  have hz : ¬ t < 0 := by omega
  have hzb : decide (t < 0) = false := decide_eq_false hz
  rw [ht] at HC ⊢
  clear hr ha hl hm ht hz
  go_enter Try.func17, Try.ntmps17
  go_wp2_with (first | ((with_reducible refine gate_dst (N := 2) rfl ?_); refine box_event ?hg (N := 2) ?hd (cs := #[.slice A l.length c, .int .i16 a1, .int .i8 a2, .int .i16 a3]) (t := 32) ?hr ?_; (case hd => rfl); (case hg => rfl); (case hr => first | (go_simp; done) | (go_simp; rfl)); intro g1 hg_ w1 hbox hb; have HB := Aside0.mk hb; have c0 : w1.cell? ⟨g1, 0, none⟩ = some (.slice A l.length c) := (blk_cell hbox 0).trans rfl; clear hb hbox hg_) | (go_at_call 69; (with_reducible refine (HC.out _ ?side1).mono ?_); (case side1 => exact HB.out); rintro e w2 ⟨rfl, hb⟩; have n_ := Aside0.mk (below_step HB.out hb); clear HB hb c0; have HB := n_; clear n_))
  go_ret
  exact ⟨rfl, HB.out⟩
end Go.Proofs.Ytggjdcijplgpdaa.H
