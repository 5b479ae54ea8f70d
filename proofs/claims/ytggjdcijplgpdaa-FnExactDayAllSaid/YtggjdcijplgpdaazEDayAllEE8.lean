import Derived.Test.YtggjdcijplgpdaazEDayAllEA8
import Derived.Test.YtggjdcijplgpdaazEDayAllEIdx8
import Derived.Shelf.Abstract
import Derived.Deep.QuietTactic
import Derived.BigQuiet
namespace Go.Proofs.Ytggjdcijplgpdaa.H
open Go.RowKit Go.Proofs.YtggjdcijplgpdaaW.PrintWords Go.Proofs.YtggjdcijplgpdaaW.PrintLast Go.Proofs.YtggjdcijplgpdaaW.PrintMore
attribute [local go_sem] max2_int min2_int max_two min_two max_three min_three max_four min_four
set_option linter.unusedVariables false
set_option linter.unusedSimpArgs false
def laws_eqInt16A8.f (a0_0 : Int) (a0_1 : Int) (a0_2 : Int) (a0_3 : Int) (a0_4 : Int) (a0_5 : Int) (a0_6 : Int) (a0_7 : Int) (a1_0 : Int) (a1_1 : Int) (a1_2 : Int) (a1_3 : Int) (a1_4 : Int) (a1_5 : Int) (a1_6 : Int) (a1_7 : Int) : Option Bool := some (decide ([a0_0, a0_1, a0_2, a0_3, a0_4, a0_5, a0_6, a0_7] = [a1_0, a1_1, a1_2, a1_3, a1_4, a1_5, a1_6, a1_7] ))
theorem take_eq_succ (a b : List Int) (i : Nat) (h : a.take i = b.take i) (he : a[i]? = b[i]?) : a.take (i + 1) = b.take (i + 1) := by rw [List.take_add_one, List.take_add_one, h, he]
structure EqEnv (a b : List Int) (g1 g2 : Nat) (w wr : World) : Prop where
  k1 : wr.heap[g1]? = some (.cells (mix8 a 8) 53 (0, 0))
  k2 : wr.heap[g2]? = some (.cells (mix8 b 8) 53 (0, 0))
  hb : Below w.heap.size w wr
theorem EqEnv.drewN {a b : List Int} {g1 g2 : Nat} {w wr : World} (h : EqEnv a b g1 g2 w wr) (n : Nat) : EqEnv a b g1 g2 w (wr.drewN n) := ⟨blk_drewN h.k1 n, blk_drewN h.k2 n, pw_below_drewN h.hb n⟩
set_option maxHeartbeats 8000000 in
set_option maxRecDepth 100000 in
theorem laws_eqInt16A8.calls (a0_0 : Int) (a0_1 : Int) (a0_2 : Int) (a0_3 : Int) (a0_4 : Int) (a0_5 : Int) (a0_6 : Int) (a0_7 : Int) (a1_0 : Int) (a1_1 : Int) (a1_2 : Int) (a1_3 : Int) (a1_4 : Int) (a1_5 : Int) (a1_6 : Int) (a1_7 : Int) (r : Bool) (w : World) (h : laws_eqInt16A8.f a0_0 a0_1 a0_2 a0_3 a0_4 a0_5 a0_6 a0_7 a1_0 a1_1 a1_2 a1_3 a1_4 a1_5 a1_6 a1_7 = some r) :
    Calls Try.prog 146 #[.agg #[.int .i16 a0_0, .int .i16 a0_1, .int .i16 a0_2, .int .i16 a0_3, .int .i16 a0_4, .int .i16 a0_5, .int .i16 a0_6, .int .i16 a0_7], .agg #[.int .i16 a1_0, .int .i16 a1_1, .int .i16 a1_2, .int .i16 a1_3, .int .i16 a1_4, .int .i16 a1_5, .int .i16 a1_6, .int .i16 a1_7]] w fun e w' => e = .returned (.bool r) ∧ Below w.heap.size w w' := by
  have mixed : Try.prog.follows .mixedOrders = true := by kernel_rfl
  obtain ⟨a, ha⟩ : ∃ a : List Int, a = [a0_0, a0_1, a0_2, a0_3, a0_4, a0_5, a0_6, a0_7] := ⟨_, rfl⟩
  obtain ⟨b, hb⟩ : ∃ b : List Int, b = [a1_0, a1_1, a1_2, a1_3, a1_4, a1_5, a1_6, a1_7] := ⟨_, rfl⟩
  unfold laws_eqInt16A8.f at h
  rw [← ha, ← hb] at h
  have HRR := Aside0.mk (Option.some.inj h)
  clear h
  go_enter Try.func146, Try.ntmps146
  have HA := Aside0.mk ha
  have HBB := Aside0.mk hb
  clear ha hb
  go_wp2_with (first | ((with_reducible refine gate_dst (N := 2) rfl ?_); refine box_event ?hg (N := 2) ?hd (cs := #[.int .i16 a0_0, .int .i16 a0_1, .int .i16 a0_2, .int .i16 a0_3, .int .i16 a0_4, .int .i16 a0_5, .int .i16 a0_6, .int .i16 a0_7]) (t := 53) ?hr ?_; (case hd => rfl); (case hg => rfl); (case hr => first | (go_simp; done) | (go_simp; rfl)); intro g1 hg_ w1 hb_ hb; have K1 := Aside0.mk hb_; have HB := Aside0.mk hb; clear hb_ hb hg_) | ((with_reducible refine gate_dst (N := 3) rfl ?_); refine box_event ?hg (N := 3) ?hd (cs := #[.int .i16 a1_0, .int .i16 a1_1, .int .i16 a1_2, .int .i16 a1_3, .int .i16 a1_4, .int .i16 a1_5, .int .i16 a1_6, .int .i16 a1_7]) (t := 53) ?hr ?_; (case hd => rfl); (case hg => rfl); (case hr => first | (go_simp; done) | (go_simp; rfl)); intro g2 hg_ w2 hb_ hb; have n_ := Aside0.mk (blk_below K1.out hb); clear K1; have K1 := n_; clear n_; have K2 := Aside0.mk hb_; have n_ := Aside0.mk (below_step HB.out hb); clear HB; have HB := n_; clear n_ hb_ hb hg_))
  go_loopg [5] 8 (fun gk v5 wr => ∃ (i : Nat), i ≤ 8 ∧ 8 - i ≤ gk ∧ v5 = .int .i64 i ∧ Aside0 (a.take i = b.take i) ∧ Aside0 (EqEnv a b g1 g2 w wr))
  case atStart => exact ⟨0, by omega, by omega, rfl, ⟨rfl⟩, ⟨⟨by rw [HA.out]; exact K1.out, by rw [HBB.out]; exact K2.out, HB.out⟩⟩⟩
  case round =>
    clear K1 K2 HB
    obtain ⟨i, hi, hgk, rfl, HT, E⟩ := hrel
    rcases (show i = 0 ∨ i = 1 ∨ i = 2 ∨ i = 3 ∨ i = 4 ∨ i = 5 ∨ i = 6 ∨ i = 7 ∨ i = 8 by omega) with rfl | rfl | rfl | rfl | rfl | rfl | rfl | rfl | rfl
    · have c1 : wr.cell? ⟨g1, 0, none⟩ = some (.int .i16 a0_0) := (blk_cell E.out.k1 0).trans (by rw [HA.out]; rfl)
      have c2 : wr.cell? ⟨g2, 0, none⟩ = some (.int .i16 a1_0) := (blk_cell E.out.k2 0).trans (by rw [HBB.out]; rfl)
      by_cases c : a0_0 = a1_0
      · have cb : (a0_0 != a1_0) = false := by rw [c]; simp
        have HT2 := Aside0.mk (take_eq_succ a b 0 HT.out (by rw [HA.out, HBB.out]; exact congrArg some c))
        clear c
        go_wp2
        go_quiet (fail)
        go_wp2
        go_roundg 7
        case measure => omega
        case rel => exact ⟨1, by omega, by omega, by go_num, HT2, ⟨E.out.drewN _⟩⟩
      · have cb : (a0_0 != a1_0) = true := by simp [c]
        have hr : decide (a = b) = false := by rw [HA.out, HBB.out]; simp [c]
        have HR2 := Aside0.mk (show r = false by rw [← HRR.out, hr])
        clear hr c
        go_wp2
        go_quiet (fail)
        go_wp2
        go_ret
        exact ⟨by rw [HR2.out]; rfl, (E.out.drewN _).hb⟩
    · have c1 : wr.cell? ⟨g1, 1, none⟩ = some (.int .i16 a0_1) := (blk_cell E.out.k1 1).trans (by rw [HA.out]; rfl)
      have c2 : wr.cell? ⟨g2, 1, none⟩ = some (.int .i16 a1_1) := (blk_cell E.out.k2 1).trans (by rw [HBB.out]; rfl)
      by_cases c : a0_1 = a1_1
      · have cb : (a0_1 != a1_1) = false := by rw [c]; simp
        have HT2 := Aside0.mk (take_eq_succ a b 1 HT.out (by rw [HA.out, HBB.out]; exact congrArg some c))
        clear c
        go_wp2
        go_quiet (fail)
        go_wp2
        go_roundg 6
        case measure => omega
        case rel => exact ⟨2, by omega, by omega, by go_num, HT2, ⟨E.out.drewN _⟩⟩
      · have cb : (a0_1 != a1_1) = true := by simp [c]
        have hr : decide (a = b) = false := by rw [HA.out, HBB.out]; simp [c]
        have HR2 := Aside0.mk (show r = false by rw [← HRR.out, hr])
        clear hr c
        go_wp2
        go_quiet (fail)
        go_wp2
        go_ret
        exact ⟨by rw [HR2.out]; rfl, (E.out.drewN _).hb⟩
    · have c1 : wr.cell? ⟨g1, 2, none⟩ = some (.int .i16 a0_2) := (blk_cell E.out.k1 2).trans (by rw [HA.out]; rfl)
      have c2 : wr.cell? ⟨g2, 2, none⟩ = some (.int .i16 a1_2) := (blk_cell E.out.k2 2).trans (by rw [HBB.out]; rfl)
      by_cases c : a0_2 = a1_2
      · have cb : (a0_2 != a1_2) = false := by rw [c]; simp
        have HT2 := Aside0.mk (take_eq_succ a b 2 HT.out (by rw [HA.out, HBB.out]; exact congrArg some c))
        clear c
        go_wp2
        go_quiet (fail)
        go_wp2
        go_roundg 5
        case measure => omega
        case rel => exact ⟨3, by omega, by omega, by go_num, HT2, ⟨E.out.drewN _⟩⟩
      · have cb : (a0_2 != a1_2) = true := by simp [c]
        have hr : decide (a = b) = false := by rw [HA.out, HBB.out]; simp [c]
        have HR2 := Aside0.mk (show r = false by rw [← HRR.out, hr])
        clear hr c
        go_wp2
        go_quiet (fail)
        go_wp2
        go_ret
        exact ⟨by rw [HR2.out]; rfl, (E.out.drewN _).hb⟩
    · have c1 : wr.cell? ⟨g1, 3, none⟩ = some (.int .i16 a0_3) := (blk_cell E.out.k1 3).trans (by rw [HA.out]; rfl)
      have c2 : wr.cell? ⟨g2, 3, none⟩ = some (.int .i16 a1_3) := (blk_cell E.out.k2 3).trans (by rw [HBB.out]; rfl)
      by_cases c : a0_3 = a1_3
      · have cb : (a0_3 != a1_3) = false := by rw [c]; simp
        have HT2 := Aside0.mk (take_eq_succ a b 3 HT.out (by rw [HA.out, HBB.out]; exact congrArg some c))
        clear c
        go_wp2
        go_quiet (fail)
        go_wp2
        go_roundg 4
        case measure => omega
        case rel => exact ⟨4, by omega, by omega, by go_num, HT2, ⟨E.out.drewN _⟩⟩
      · have cb : (a0_3 != a1_3) = true := by simp [c]
        have hr : decide (a = b) = false := by rw [HA.out, HBB.out]; simp [c]
        have HR2 := Aside0.mk (show r = false by rw [← HRR.out, hr])
        clear hr c
        go_wp2
        go_quiet (fail)
        go_wp2
        go_ret
        exact ⟨by rw [HR2.out]; rfl, (E.out.drewN _).hb⟩
    · have c1 : wr.cell? ⟨g1, 4, none⟩ = some (.int .i16 a0_4) := (blk_cell E.out.k1 4).trans (by rw [HA.out]; rfl)
      have c2 : wr.cell? ⟨g2, 4, none⟩ = some (.int .i16 a1_4) := (blk_cell E.out.k2 4).trans (by rw [HBB.out]; rfl)
      by_cases c : a0_4 = a1_4
      · have cb : (a0_4 != a1_4) = false := by rw [c]; simp
        have HT2 := Aside0.mk (take_eq_succ a b 4 HT.out (by rw [HA.out, HBB.out]; exact congrArg some c))
        clear c
        go_wp2
        go_quiet (fail)
        go_wp2
        go_roundg 3
        case measure => omega
        case rel => exact ⟨5, by omega, by omega, by go_num, HT2, ⟨E.out.drewN _⟩⟩
      · have cb : (a0_4 != a1_4) = true := by simp [c]
        have hr : decide (a = b) = false := by rw [HA.out, HBB.out]; simp [c]
        have HR2 := Aside0.mk (show r = false by rw [← HRR.out, hr])
        clear hr c
        go_wp2
        go_quiet (fail)
        go_wp2
        go_ret
        exact ⟨by rw [HR2.out]; rfl, (E.out.drewN _).hb⟩
    · have c1 : wr.cell? ⟨g1, 5, none⟩ = some (.int .i16 a0_5) := (blk_cell E.out.k1 5).trans (by rw [HA.out]; rfl)
      have c2 : wr.cell? ⟨g2, 5, none⟩ = some (.int .i16 a1_5) := (blk_cell E.out.k2 5).trans (by rw [HBB.out]; rfl)
      by_cases c : a0_5 = a1_5
      · have cb : (a0_5 != a1_5) = false := by rw [c]; simp
        have HT2 := Aside0.mk (take_eq_succ a b 5 HT.out (by rw [HA.out, HBB.out]; exact congrArg some c))
        clear c
        go_wp2
        go_quiet (fail)
        go_wp2
        go_roundg 2
        case measure => omega
        case rel => exact ⟨6, by omega, by omega, by go_num, HT2, ⟨E.out.drewN _⟩⟩
      · have cb : (a0_5 != a1_5) = true := by simp [c]
        have hr : decide (a = b) = false := by rw [HA.out, HBB.out]; simp [c]
        have HR2 := Aside0.mk (show r = false by rw [← HRR.out, hr])
        clear hr c
        go_wp2
        go_quiet (fail)
        go_wp2
        go_ret
        exact ⟨by rw [HR2.out]; rfl, (E.out.drewN _).hb⟩
    · have c1 : wr.cell? ⟨g1, 6, none⟩ = some (.int .i16 a0_6) := (blk_cell E.out.k1 6).trans (by rw [HA.out]; rfl)
      have c2 : wr.cell? ⟨g2, 6, none⟩ = some (.int .i16 a1_6) := (blk_cell E.out.k2 6).trans (by rw [HBB.out]; rfl)
      by_cases c : a0_6 = a1_6
      · have cb : (a0_6 != a1_6) = false := by rw [c]; simp
        have HT2 := Aside0.mk (take_eq_succ a b 6 HT.out (by rw [HA.out, HBB.out]; exact congrArg some c))
        clear c
        go_wp2
        go_quiet (fail)
        go_wp2
        go_roundg 1
        case measure => omega
        case rel => exact ⟨7, by omega, by omega, by go_num, HT2, ⟨E.out.drewN _⟩⟩
      · have cb : (a0_6 != a1_6) = true := by simp [c]
        have hr : decide (a = b) = false := by rw [HA.out, HBB.out]; simp [c]
        have HR2 := Aside0.mk (show r = false by rw [← HRR.out, hr])
        clear hr c
        go_wp2
        go_quiet (fail)
        go_wp2
        go_ret
        exact ⟨by rw [HR2.out]; rfl, (E.out.drewN _).hb⟩
    · have c1 : wr.cell? ⟨g1, 7, none⟩ = some (.int .i16 a0_7) := (blk_cell E.out.k1 7).trans (by rw [HA.out]; rfl)
      have c2 : wr.cell? ⟨g2, 7, none⟩ = some (.int .i16 a1_7) := (blk_cell E.out.k2 7).trans (by rw [HBB.out]; rfl)
      by_cases c : a0_7 = a1_7
      · have cb : (a0_7 != a1_7) = false := by rw [c]; simp
        have HT2 := Aside0.mk (take_eq_succ a b 7 HT.out (by rw [HA.out, HBB.out]; exact congrArg some c))
        clear c
        go_wp2
        go_quiet (fail)
        go_wp2
        go_roundg 0
        case measure => omega
        case rel => exact ⟨8, by omega, by omega, by go_num, HT2, ⟨E.out.drewN _⟩⟩
      · have cb : (a0_7 != a1_7) = true := by simp [c]
        have hr : decide (a = b) = false := by rw [HA.out, HBB.out]; simp [c]
        have HR2 := Aside0.mk (show r = false by rw [← HRR.out, hr])
        clear hr c
        go_wp2
        go_quiet (fail)
        go_wp2
        go_ret
        exact ⟨by rw [HR2.out]; rfl, (E.out.drewN _).hb⟩
    · have hr : decide (a = b) = true := by
        have := HT.out
        rw [HA.out, HBB.out] at this ⊢
        exact decide_eq_true this
      have HR2 := Aside0.mk (show r = true by rw [← HRR.out, hr])
      clear hr
      go_wp2
      go_ret
      exact ⟨by rw [HR2.out]; rfl, E.out.hb⟩
end Go.Proofs.Ytggjdcijplgpdaa.H
