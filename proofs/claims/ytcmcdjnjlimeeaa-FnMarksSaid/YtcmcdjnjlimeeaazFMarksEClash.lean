import Derived.Test.YtcmcdjnjlimeeaazFMarksEPredMark
import Derived.Test.YtcmcdjnjlimeeaazFMarksM0
import Derived.Test.YtcmcdjnjlimeeaazFMarksM4
import Derived.Test.YtcmcdjnjlimeeaazFMarksM5
import Derived.Shelf.Abstract
namespace Go.Proofs.Ytcmcdjnjlimeeaa.M
open Go.RowKit Go.Proofs.YtcmcdjnjlimeeaaW.PrintWords Go.Proofs.YtcmcdjnjlimeeaaW.PrintLast Go.Proofs.YtcmcdjnjlimeeaaW.PrintMore
attribute [local go_sem] max2_int min2_int max_two min_two max_three min_three max_four min_four
set_option linter.unusedVariables false
set_option linter.unusedSimpArgs false
theorem rd_at (l : List Int) (i : Nat) (h : i < l.length) : rd l (i : Int) = l[i] := by
  rw [rd_getD, List.getD_eq_getElem?_getD, List.getElem?_eq_getElem h]
  rfl
theorem index_mark (l : List Int) (a : Int) (hm : l.length ≤ 9223372036854775807) (d : Nat) : ∀ i : Nat, i + d = l.length → ∃ r, slices_Index_impl_Mark_impl_Mark.l0 (d + 1) l a (l.length : Int) (i : Int) = some r ∧ decide (r ≥ 0) = (l.drop i).contains a := by
  induction d with
  | zero =>
    intro i h
    refine ⟨-1, ?_, ?_⟩
    · rw [slices_Index_impl_Mark_impl_Mark.l0]
      rw [if_neg (by omega)]
    · rw [List.drop_eq_nil_of_le (by omega)]
      rfl
  | succ d ih =>
    intro i h
    have hi : i < l.length := by omega
    have hd : l.drop i = l[i] :: l.drop (i + 1) := List.drop_eq_getElem_cons hi
    obtain ⟨r, hr, hc⟩ := ih (i + 1) (by omega)
    by_cases c : a = l[i]
    · refine ⟨i, ?_, ?_⟩
      · rw [slices_Index_impl_Mark_impl_Mark.l0]
        rw [if_pos (by omega), if_pos (by omega), if_pos (by omega), rd_at l i hi, if_pos c]
      · rw [hd, ← c]
        simp
    · refine ⟨r, ?_, ?_⟩
      · rw [slices_Index_impl_Mark_impl_Mark.l0]
        rw [if_pos (by omega), if_pos (by omega), if_pos (by omega), rd_at l i hi, if_neg c, IntWalk.wrap64_in ((i : Int) + 1) ⟨by omega, by omega⟩]
        exact hr
      · rw [hd, hc]
        simp only [List.contains_cons]
        have : (a == l[i]) = false := beq_eq_false_iff_ne.mpr c
        rw [this]
        rfl
theorem contains_mark (l : List Int) (a : Int) (hm : l.length ≤ 9223372036854775807) : slices_Contains_impl_Mark_impl_Mark.f (l.length + 1) l a = some (l.contains a) := by
  obtain ⟨r, hr, hc⟩ := index_mark l a hm l.length 0 (by omega)
  unfold slices_Contains_impl_Mark_impl_Mark.f slices_Index_impl_Mark_impl_Mark.f
  have hr' : slices_Index_impl_Mark_impl_Mark.l0 (l.length + 1) l a (l.length : Int) 0 = some r := hr
  rw [hr', Option.bind_some, hc]
  rfl
def impl_clash.f (k : Nat) (a0 : Int) (a1 : Int) : Option Bool := (impl_Mark_lost.f k a0).bind fun x => (impl_Mark_lost.f k a1).bind fun y => some (x.any fun m => y.contains m)
theorem impl_clash.mono : ∀ a0 a1 k, LeO (impl_clash.f k a0 a1) (impl_clash.f (k + 1) a0 a1) := by
  intro a0 a1 k
  unfold impl_clash.f
  exact LeO.bind (impl_Mark_lost.mono a0 k) (fun _ => LeO.bind (impl_Mark_lost.mono a1 k) (fun _ => LeO.refl _))
set_option maxHeartbeats 8000000 in
set_option maxRecDepth 100000 in
theorem clash_pred (k : Nat) (a1 x : Int) (y : List Int) (B : Nat) (W : World) (hB : B < W.heap.size) (hc : W.cell? ⟨B, 0, none⟩ = some (.int .u16 a1)) (hy : impl_Mark_lost.f k a1 = some y) :
    Calls Try.prog 53 #[.int .u16 x, .pointer (some ⟨B, 0, none⟩)] W fun e w' => e = .returned (.bool (y.contains x)) ∧ Below W.heap.size W w' := by
  have HY := Aside0.mk hy
  clear hy
  have HK := contains_mark y x
  generalize y.contains x = r at *
  replace HK := Aside0.mk HK
  go_enter Try.func53, Try.ntmps53
  go_wp2_with (first
    | (go_at_call 27; (with_reducible refine (impl_Mark_lost.calls k a1 y _ HY.out).mono ?_); rintro e w' ⟨v, rfl, ho, hb⟩; obtain ⟨Ao, co, rfl, hco, hC⟩ := Kd.R_reads ho; have HM := Aside0.mk (HK.out (Kd.C_max hC)); have HB := Aside0.mk hb; have HC := Aside0.mk hC; clear hb hC ho)
    | (go_at_call 54; (refine (slices_Contains_impl_Mark_impl_Mark.calls (y.length + 1) _ _ y x _ _ HC.out hco HM.out).mono ?_); rintro e w' ⟨rfl, ⟨nd, rfl⟩⟩))
  go_ret
  exact ⟨rfl, pw_below_drewN HB.out _⟩
set_option maxHeartbeats 8000000 in
set_option maxRecDepth 100000 in
theorem impl_clash.calls (k : Nat) (a0 : Int) (a1 : Int) (r : Bool) (w : World) (h : impl_clash.f k a0 a1 = some r) :
    Calls Try.prog 40 #[.int .u16 a0, .int .u16 a1] w fun e w' => e = .returned (.bool r) ∧ Below w.heap.size w w' := by
  unfold impl_clash.f at h
  replace h := Option.bind_eq_some_iff.mp h
  obtain ⟨x, hx, h⟩ := h
  replace h := Option.bind_eq_some_iff.mp h
  obtain ⟨y, hy, h⟩ := h
  obtain rfl := Option.some.inj h
  have eg : ∀ args w, (callFunc 53 args).run Try.prog w = .ok (.enter 53 args) w := enters_of Try.func53 (by kernel_rfl) rfl
  have HX := Aside0.mk hx
  have HC := fun (W : World) (Ao : Option Addr) (co : Nat) (hC : Kd.C (Kd.int .u16) W Ao x.length x) (hc : W.cell? ⟨w.heap.size, 0, none⟩ = some (.int .u16 a1)) (hlt : w.heap.size < W.heap.size) =>
    containsFunc_mark 53 #[.pointer (some ⟨w.heap.size, 0, none⟩)] eg (fun m => y.contains m) Ao co x W hC
      (fun W' z _ hb' => (clash_pred k a1 z y w.heap.size W' (Nat.lt_of_lt_of_le hlt hb'.size) ((hb'.cell (p := ⟨w.heap.size, 0, none⟩) hlt).trans hc) hy).mono fun e w' ⟨he, hd⟩ => ⟨he, hb'.trans (hd.mono hb'.size)⟩)
  replace HC := Aside0.mk HC
  clear hx hy eg
  generalize x.any (fun m => y.contains m) = r at *
  go_enter Try.func40, Try.ntmps40
  go_wp2_with (first
    | (go_at_call 27; (with_reducible refine (impl_Mark_lost.calls k a0 x _ HX.out).mono ?_); rintro e w' ⟨v, rfl, ho, hb⟩; obtain ⟨Ao, co, rfl, hco, hC⟩ := Kd.R_reads ho; have H1 := Aside0.mk ((hb.cell (p := ⟨w.heap.size, 0, none⟩) (box_lt _ _ 0)).trans (box_cell _ _ _ 0)); have H2 := Aside0.mk (Nat.lt_of_lt_of_le (box_lt _ _ 0) hb.size); have HB := Aside0.mk (below_step (box_below _ _ 0) hb); have HD := Aside0.mk hC; clear hb hC ho)
    | (go_at_call 38; (refine (HC.out _ _ _ HD.out H1.out H2.out).mono ?_); rintro e w' ⟨rfl, hb'⟩))
  go_ret
  exact ⟨rfl, below_step HB.out hb'⟩
end Go.Proofs.Ytcmcdjnjlimeeaa.M
