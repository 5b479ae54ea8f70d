import Derived.Test.YtggjdcijplgpdaazEDayAllEIdx8
import Derived.Shelf.Abstract
namespace Go.Proofs.Ytggjdcijplgpdaa.H
open Go.RowKit Go.Proofs.YtggjdcijplgpdaaW.PrintWords Go.Proofs.YtggjdcijplgpdaaW.PrintLast Go.Proofs.YtggjdcijplgpdaaW.PrintMore
attribute [local go_sem] max2_int min2_int max_two min_two max_three min_three max_four min_four
set_option linter.unusedVariables false
set_option linter.unusedSimpArgs false
def laws_toInt16A8.f (a0_0 : Int) (a0_1 : Int) (a0_2 : Int) (a0_3 : Int) (a0_4 : Int) (a0_5 : Int) (a0_6 : Int) (a0_7 : Int) : Option (Int × Int × Int × Int × Int × Int × Int × Int) := some (a0_0, a0_1, a0_2, a0_3, a0_4, a0_5, a0_6, a0_7)
def mix8 (a : List Int) (i : Nat) : Array Value := ((a.take i ++ List.replicate (8 - i) 0).map (fun x => Value.int .i16 x)).toArray
structure CopyEnv (a : List Int) (g1 g2 g3 i : Nat) (w wr : World) : Prop where
  k1 : wr.heap[g1]? = some (.cells (mix8 a 8) 53 (0, 0))
  k2 : wr.heap[g2]? = some (.cells (mix8 a 0) 53 (0, 0))
  k3 : wr.heap[g3]? = some (.cells (mix8 a i) 53 (0, 0))
  n13 : g1 ≠ g3
  n23 : g2 ≠ g3
  l2 : w.heap.size ≤ g2
  l3 : w.heap.size ≤ g3
  hb : Below w.heap.size w wr
set_option maxHeartbeats 8000000 in
set_option maxRecDepth 100000 in
theorem laws_toInt16A8.calls (a0_0 : Int) (a0_1 : Int) (a0_2 : Int) (a0_3 : Int) (a0_4 : Int) (a0_5 : Int) (a0_6 : Int) (a0_7 : Int) (r1 : Int) (r2 : Int) (r3 : Int) (r4 : Int) (r5 : Int) (r6 : Int) (r7 : Int) (r8 : Int) (w : World) (h : laws_toInt16A8.f a0_0 a0_1 a0_2 a0_3 a0_4 a0_5 a0_6 a0_7 = some (r1, r2, r3, r4, r5, r6, r7, r8)) :
    Calls Try.prog 144 #[.agg #[.int .i16 a0_0, .int .i16 a0_1, .int .i16 a0_2, .int .i16 a0_3, .int .i16 a0_4, .int .i16 a0_5, .int .i16 a0_6, .int .i16 a0_7]] w fun e w' => e = .returned (.agg #[.int .i16 r1, .int .i16 r2, .int .i16 r3, .int .i16 r4, .int .i16 r5, .int .i16 r6, .int .i16 r7, .int .i16 r8]) ∧ Below w.heap.size w w' := by
  have hu53 := Try.underlying53
  cases h
  obtain ⟨a, ha⟩ : ∃ a : List Int, a = [a0_0, a0_1, a0_2, a0_3, a0_4, a0_5, a0_6, a0_7] := ⟨_, rfl⟩
  go_enter Try.func144, Try.ntmps144
  have HA := Aside0.mk ha
  clear ha
  go_wp2_with (first | ((with_reducible refine gate_dst (N := 1) rfl ?_); refine box_event ?hg (N := 1) ?hd (cs := #[.int .i16 a0_0, .int .i16 a0_1, .int .i16 a0_2, .int .i16 a0_3, .int .i16 a0_4, .int .i16 a0_5, .int .i16 a0_6, .int .i16 a0_7]) (t := 53) ?hr ?_; (case hd => rfl); (case hg => rfl); (case hr => first | (go_simp; done) | (go_simp; rfl)); intro g1 hg_ w1 hb_ hb; have K1 := Aside0.mk hb_; have HB := Aside0.mk hb; have G1 := Aside0.mk hg_; clear hb_ hb hg_) | ((with_reducible refine gate_dst (N := 2) rfl ?_); refine box_event ?hg (N := 2) ?hd (cs := #[.int .i16 0, .int .i16 0, .int .i16 0, .int .i16 0, .int .i16 0, .int .i16 0, .int .i16 0, .int .i16 0]) (t := 53) ?hr ?_; (case hd => rfl); (case hg => rfl); (case hr => first | (go_simp; done) | (go_simp; rfl)); intro g2 hg_ w2 hb_ hb; have N12 := Aside0.mk (show g1 < g2 by have := blk_lt K1.out; omega); have n_ := Aside0.mk (blk_below K1.out hb); clear K1; have K1 := n_; clear n_; have L2 := Aside0.mk (show w.heap.size ≤ g2 by rw [hg_]; exact HB.out.size); have K2 := Aside0.mk hb_; have n_ := Aside0.mk (below_step HB.out hb); clear HB; have HB := n_; clear n_ hb_ hb hg_) | ((with_reducible refine gate_dst (N := 3) rfl ?_); refine box_event ?hg (N := 3) ?hd (cs := #[.int .i16 0, .int .i16 0, .int .i16 0, .int .i16 0, .int .i16 0, .int .i16 0, .int .i16 0, .int .i16 0]) (t := 53) ?hr ?_; (case hd => rfl); (case hg => rfl); (case hr => first | (go_simp; done) | (go_simp; rfl)); intro g3 hg_ w3 hb_ hb; have N23 := Aside0.mk (show g2 < g3 by have := blk_lt K2.out; omega); have n_ := Aside0.mk (blk_below K1.out hb); clear K1; have K1 := n_; clear n_; have n_ := Aside0.mk (blk_below K2.out hb); clear K2; have K2 := n_; clear n_; have L3 := Aside0.mk (show w.heap.size ≤ g3 by rw [hg_]; exact HB.out.size); have K3 := Aside0.mk hb_; have n_ := Aside0.mk (below_step HB.out hb); clear HB; have HB := n_; clear n_ hb_ hb hg_))
  go_loopg [4] 8 (fun gk v4 wr => ∃ (i : Nat), i ≤ 8 ∧ 8 - i ≤ gk ∧ v4 = .int .i64 i ∧ Aside0 (CopyEnv a g1 g2 g3 i w wr))
  case atStart => exact ⟨0, by omega, by omega, rfl, ⟨⟨by rw [HA.out]; exact K1.out, by rw [HA.out]; exact K2.out, by rw [HA.out]; exact K3.out, by have := N12.out; have := N23.out; omega, by have := N23.out; omega, L2.out, L3.out, HB.out⟩⟩⟩
  case round =>
    clear K1 K2 K3 HB L2 L3 N12 N23 G1
    obtain ⟨i, hi, hgk, rfl, E⟩ := hrel
    rcases (show i = 0 ∨ i = 1 ∨ i = 2 ∨ i = 3 ∨ i = 4 ∨ i = 5 ∨ i = 6 ∨ i = 7 ∨ i = 8 by omega) with rfl | rfl | rfl | rfl | rfl | rfl | rfl | rfl | rfl
    · have c1 : wr.cell? ⟨g1, 0, none⟩ = some (.int .i16 a0_0) := (blk_cell E.out.k1 0).trans (by rw [HA.out]; rfl)
      have c3 : wr.cell? ⟨g3, 0, none⟩ = some (.int .i16 0) := (blk_cell E.out.k3 0).trans (by rw [HA.out]; rfl)
      have f3 := blk_frozen E.out.k3 0
      go_wp2
      go_roundg 7
      case measure => omega
      case rel => exact ⟨1, by omega, by omega, by go_num, ⟨⟨blk_far (p := ⟨g3, 0, none⟩) E.out.k1 E.out.n13 _, blk_far (p := ⟨g3, 0, none⟩) E.out.k2 E.out.n23 _, blk_put E.out.k3 0 (.int .i16 a0_0) (by rw [HA.out]; rfl), E.out.n13, E.out.n23, E.out.l2, E.out.l3, below_set E.out.hb E.out.l3⟩⟩⟩
    · have c1 : wr.cell? ⟨g1, 1, none⟩ = some (.int .i16 a0_1) := (blk_cell E.out.k1 1).trans (by rw [HA.out]; rfl)
      have c3 : wr.cell? ⟨g3, 1, none⟩ = some (.int .i16 0) := (blk_cell E.out.k3 1).trans (by rw [HA.out]; rfl)
      have f3 := blk_frozen E.out.k3 1
      go_wp2
      go_roundg 6
      case measure => omega
      case rel => exact ⟨2, by omega, by omega, by go_num, ⟨⟨blk_far (p := ⟨g3, 1, none⟩) E.out.k1 E.out.n13 _, blk_far (p := ⟨g3, 1, none⟩) E.out.k2 E.out.n23 _, blk_put E.out.k3 1 (.int .i16 a0_1) (by rw [HA.out]; rfl), E.out.n13, E.out.n23, E.out.l2, E.out.l3, below_set E.out.hb E.out.l3⟩⟩⟩
    · have c1 : wr.cell? ⟨g1, 2, none⟩ = some (.int .i16 a0_2) := (blk_cell E.out.k1 2).trans (by rw [HA.out]; rfl)
      have c3 : wr.cell? ⟨g3, 2, none⟩ = some (.int .i16 0) := (blk_cell E.out.k3 2).trans (by rw [HA.out]; rfl)
      have f3 := blk_frozen E.out.k3 2
      go_wp2
      go_roundg 5
      case measure => omega
      case rel => exact ⟨3, by omega, by omega, by go_num, ⟨⟨blk_far (p := ⟨g3, 2, none⟩) E.out.k1 E.out.n13 _, blk_far (p := ⟨g3, 2, none⟩) E.out.k2 E.out.n23 _, blk_put E.out.k3 2 (.int .i16 a0_2) (by rw [HA.out]; rfl), E.out.n13, E.out.n23, E.out.l2, E.out.l3, below_set E.out.hb E.out.l3⟩⟩⟩
    · have c1 : wr.cell? ⟨g1, 3, none⟩ = some (.int .i16 a0_3) := (blk_cell E.out.k1 3).trans (by rw [HA.out]; rfl)
      have c3 : wr.cell? ⟨g3, 3, none⟩ = some (.int .i16 0) := (blk_cell E.out.k3 3).trans (by rw [HA.out]; rfl)
      have f3 := blk_frozen E.out.k3 3
      go_wp2
      go_roundg 4
      case measure => omega
      case rel => exact ⟨4, by omega, by omega, by go_num, ⟨⟨blk_far (p := ⟨g3, 3, none⟩) E.out.k1 E.out.n13 _, blk_far (p := ⟨g3, 3, none⟩) E.out.k2 E.out.n23 _, blk_put E.out.k3 3 (.int .i16 a0_3) (by rw [HA.out]; rfl), E.out.n13, E.out.n23, E.out.l2, E.out.l3, below_set E.out.hb E.out.l3⟩⟩⟩
    · have c1 : wr.cell? ⟨g1, 4, none⟩ = some (.int .i16 a0_4) := (blk_cell E.out.k1 4).trans (by rw [HA.out]; rfl)
      have c3 : wr.cell? ⟨g3, 4, none⟩ = some (.int .i16 0) := (blk_cell E.out.k3 4).trans (by rw [HA.out]; rfl)
      have f3 := blk_frozen E.out.k3 4
      go_wp2
      go_roundg 3
      case measure => omega
      case rel => exact ⟨5, by omega, by omega, by go_num, ⟨⟨blk_far (p := ⟨g3, 4, none⟩) E.out.k1 E.out.n13 _, blk_far (p := ⟨g3, 4, none⟩) E.out.k2 E.out.n23 _, blk_put E.out.k3 4 (.int .i16 a0_4) (by rw [HA.out]; rfl), E.out.n13, E.out.n23, E.out.l2, E.out.l3, below_set E.out.hb E.out.l3⟩⟩⟩
    · have c1 : wr.cell? ⟨g1, 5, none⟩ = some (.int .i16 a0_5) := (blk_cell E.out.k1 5).trans (by rw [HA.out]; rfl)
      have c3 : wr.cell? ⟨g3, 5, none⟩ = some (.int .i16 0) := (blk_cell E.out.k3 5).trans (by rw [HA.out]; rfl)
      have f3 := blk_frozen E.out.k3 5
      go_wp2
      go_roundg 2
      case measure => omega
      case rel => exact ⟨6, by omega, by omega, by go_num, ⟨⟨blk_far (p := ⟨g3, 5, none⟩) E.out.k1 E.out.n13 _, blk_far (p := ⟨g3, 5, none⟩) E.out.k2 E.out.n23 _, blk_put E.out.k3 5 (.int .i16 a0_5) (by rw [HA.out]; rfl), E.out.n13, E.out.n23, E.out.l2, E.out.l3, below_set E.out.hb E.out.l3⟩⟩⟩
    · have c1 : wr.cell? ⟨g1, 6, none⟩ = some (.int .i16 a0_6) := (blk_cell E.out.k1 6).trans (by rw [HA.out]; rfl)
      have c3 : wr.cell? ⟨g3, 6, none⟩ = some (.int .i16 0) := (blk_cell E.out.k3 6).trans (by rw [HA.out]; rfl)
      have f3 := blk_frozen E.out.k3 6
      go_wp2
      go_roundg 1
      case measure => omega
      case rel => exact ⟨7, by omega, by omega, by go_num, ⟨⟨blk_far (p := ⟨g3, 6, none⟩) E.out.k1 E.out.n13 _, blk_far (p := ⟨g3, 6, none⟩) E.out.k2 E.out.n23 _, blk_put E.out.k3 6 (.int .i16 a0_6) (by rw [HA.out]; rfl), E.out.n13, E.out.n23, E.out.l2, E.out.l3, below_set E.out.hb E.out.l3⟩⟩⟩
    · have c1 : wr.cell? ⟨g1, 7, none⟩ = some (.int .i16 a0_7) := (blk_cell E.out.k1 7).trans (by rw [HA.out]; rfl)
      have c3 : wr.cell? ⟨g3, 7, none⟩ = some (.int .i16 0) := (blk_cell E.out.k3 7).trans (by rw [HA.out]; rfl)
      have f3 := blk_frozen E.out.k3 7
      go_wp2
      go_roundg 0
      case measure => omega
      case rel => exact ⟨8, by omega, by omega, by go_num, ⟨⟨blk_far (p := ⟨g3, 7, none⟩) E.out.k1 E.out.n13 _, blk_far (p := ⟨g3, 7, none⟩) E.out.k2 E.out.n23 _, blk_put E.out.k3 7 (.int .i16 a0_7) (by rw [HA.out]; rfl), E.out.n13, E.out.n23, E.out.l2, E.out.l3, below_set E.out.hb E.out.l3⟩⟩⟩
    · have hk3 : wr.heap[g3]? = some (.cells #[.int .i16 a0_0, .int .i16 a0_1, .int .i16 a0_2, .int .i16 a0_3, .int .i16 a0_4, .int .i16 a0_5, .int .i16 a0_6, .int .i16 a0_7] 53 (0, 0)) := E.out.k3.trans (by rw [HA.out]; rfl)
      have hk2 : wr.heap[g2]? = some (.cells #[.int .i16 0, .int .i16 0, .int .i16 0, .int .i16 0, .int .i16 0, .int .i16 0, .int .i16 0, .int .i16 0] 53 (0, 0)) := E.out.k2.trans (by rw [HA.out]; rfl)
      have x0 := (blk_cell hk3 0).trans rfl
      have x1 := (blk_cell hk3 1).trans rfl
      have x2 := (blk_cell hk3 2).trans rfl
      have x3 := (blk_cell hk3 3).trans rfl
      have x4 := (blk_cell hk3 4).trans rfl
      have x5 := (blk_cell hk3 5).trans rfl
      have x6 := (blk_cell hk3 6).trans rfl
      have x7 := (blk_cell hk3 7).trans rfl
      have y0 := (blk_cell hk2 0).trans rfl
      have z0 := blk_frozen hk2 0
      have y1 := (blk_cell hk2 1).trans rfl
      have z1 := blk_frozen hk2 1
      have y2 := (blk_cell hk2 2).trans rfl
      have z2 := blk_frozen hk2 2
      have y3 := (blk_cell hk2 3).trans rfl
      have z3 := blk_frozen hk2 3
      have y4 := (blk_cell hk2 4).trans rfl
      have z4 := blk_frozen hk2 4
      have y5 := (blk_cell hk2 5).trans rfl
      have z5 := blk_frozen hk2 5
      have y6 := (blk_cell hk2 6).trans rfl
      have z6 := blk_frozen hk2 6
      have y7 := (blk_cell hk2 7).trans rfl
      have z7 := blk_frozen hk2 7
      have HK2 := Aside0.mk hk2
      clear hk2 hk3
      go_wp2
      refine bodyPost_ret (results_cell_row rfl _ _ g2 53 #[.int .i16 a0_0, .int .i16 a0_1, .int .i16 a0_2, .int .i16 a0_3, .int .i16 a0_4, .int .i16 a0_5, .int .i16 a0_6, .int .i16 a0_7] (0, 0) _ rfl (blk_put (cs := #[.int .i16 a0_0, .int .i16 a0_1, .int .i16 a0_2, .int .i16 a0_3, .int .i16 a0_4, .int .i16 a0_5, .int .i16 a0_6, .int .i16 0]) (cs' := #[.int .i16 a0_0, .int .i16 a0_1, .int .i16 a0_2, .int .i16 a0_3, .int .i16 a0_4, .int .i16 a0_5, .int .i16 a0_6, .int .i16 a0_7]) (blk_put (cs := #[.int .i16 a0_0, .int .i16 a0_1, .int .i16 a0_2, .int .i16 a0_3, .int .i16 a0_4, .int .i16 a0_5, .int .i16 0, .int .i16 0]) (cs' := #[.int .i16 a0_0, .int .i16 a0_1, .int .i16 a0_2, .int .i16 a0_3, .int .i16 a0_4, .int .i16 a0_5, .int .i16 a0_6, .int .i16 0]) (blk_put (cs := #[.int .i16 a0_0, .int .i16 a0_1, .int .i16 a0_2, .int .i16 a0_3, .int .i16 a0_4, .int .i16 0, .int .i16 0, .int .i16 0]) (cs' := #[.int .i16 a0_0, .int .i16 a0_1, .int .i16 a0_2, .int .i16 a0_3, .int .i16 a0_4, .int .i16 a0_5, .int .i16 0, .int .i16 0]) (blk_put (cs := #[.int .i16 a0_0, .int .i16 a0_1, .int .i16 a0_2, .int .i16 a0_3, .int .i16 0, .int .i16 0, .int .i16 0, .int .i16 0]) (cs' := #[.int .i16 a0_0, .int .i16 a0_1, .int .i16 a0_2, .int .i16 a0_3, .int .i16 a0_4, .int .i16 0, .int .i16 0, .int .i16 0]) (blk_put (cs := #[.int .i16 a0_0, .int .i16 a0_1, .int .i16 a0_2, .int .i16 0, .int .i16 0, .int .i16 0, .int .i16 0, .int .i16 0]) (cs' := #[.int .i16 a0_0, .int .i16 a0_1, .int .i16 a0_2, .int .i16 a0_3, .int .i16 0, .int .i16 0, .int .i16 0, .int .i16 0]) (blk_put (cs := #[.int .i16 a0_0, .int .i16 a0_1, .int .i16 0, .int .i16 0, .int .i16 0, .int .i16 0, .int .i16 0, .int .i16 0]) (cs' := #[.int .i16 a0_0, .int .i16 a0_1, .int .i16 a0_2, .int .i16 0, .int .i16 0, .int .i16 0, .int .i16 0, .int .i16 0]) (blk_put (cs := #[.int .i16 a0_0, .int .i16 0, .int .i16 0, .int .i16 0, .int .i16 0, .int .i16 0, .int .i16 0, .int .i16 0]) (cs' := #[.int .i16 a0_0, .int .i16 a0_1, .int .i16 0, .int .i16 0, .int .i16 0, .int .i16 0, .int .i16 0, .int .i16 0]) (blk_put (cs := #[.int .i16 0, .int .i16 0, .int .i16 0, .int .i16 0, .int .i16 0, .int .i16 0, .int .i16 0, .int .i16 0]) (cs' := #[.int .i16 a0_0, .int .i16 0, .int .i16 0, .int .i16 0, .int .i16 0, .int .i16 0, .int .i16 0, .int .i16 0]) HK2.out 0 (.int .i16 a0_0) rfl) 1 (.int .i16 a0_1) rfl) 2 (.int .i16 a0_2) rfl) 3 (.int .i16 a0_3) rfl) 4 (.int .i16 a0_4) rfl) 5 (.int .i16 a0_5) rfl) 6 (.int .i16 a0_6) rfl) 7 (.int .i16 a0_7) rfl) Try.underlying53 rfl (by kernel_rfl)) rfl ?_
      exact ⟨rfl, (below_set (below_set (below_set (below_set (below_set (below_set (below_set (below_set E.out.hb E.out.l2) E.out.l2) E.out.l2) E.out.l2) E.out.l2) E.out.l2) E.out.l2) E.out.l2)⟩
end Go.Proofs.Ytggjdcijplgpdaa.H
