/- The law of PiecesText, for all lists. Condition: where strconv's table is as it is laid. -/
import Derived.Test.YthkccaclmodjiaaDoorD0
import Derived.Test.YthkccaclmodjiaaDoorD1
import Derived.Test.YthkccaclmodjiaaDoorD4
import Derived.Test.YthkccaclmodjiaaDoorD7
import Derived.Test.YthkccaclmodjiaaDoorEDText
import Derived.Test.YthkccaclmodjiaaDoorEEvLoop
import Derived.Test.YthkccaclmodjiaaDoorEListsPiece
import Derived.Test.YthkccaclmodjiaaDoorEPText
namespace Go.Proofs.YthkccaclmodjiaaDoor.D
open Go.RowKit Go.Proofs.YthkccaclmodjiaaDoorW.PrintWords Go.Proofs.YthkccaclmodjiaaDoorW.PrintLast Go.Proofs.YthkccaclmodjiaaDoorW.PrintMore
attribute [local go_sem] max2_int min2_int max_two min_two max_three min_three max_four min_four
set_option linter.unusedVariables false
set_option linter.unusedSimpArgs false
set_option maxHeartbeats 16000000 in
set_option maxRecDepth 100000 in
theorem pieceLaw_calls (A0 : Option Addr) (c0 : Nat) (l : List S37) (W : World) (hr : Kd.C k37 W A0 l.length l) (hc : l.length ≤ c0) (TB0 : Tab W) (z : Int) (hz : ¬ z < 0) (m : List S35) (r : ByteArray) (kt ks ki ke : Nat)
    (sz : laws_szPieceS.f l 1048576 = some z) (t : laws_toPieceS.f kt l = some m) (hs : spec_PiecesText.f ks m = some r) (hi : impl_PiecesText.f ki m = some r) (e : laws_eqPieceS.f ke m m = some true) :
    Calls Tryd.prog 3 #[.slice A0 l.length c0] W fun e w' => e = .returned (.bool true) ∧ Below W.heap.size W w' := by
  have P1 := Aside0.mk (fun (w' : World) (hb : Below W.heap.size W w') => Kd.C_below hr hb)
  have C1 := Aside0.mk hc
  have TB := Aside0.mk TB0
  have SZ := Aside0.mk sz
  have TT := Aside0.mk t
  have HSP := Aside0.mk hs
  have HIM := Aside0.mk hi
  have EQ := Aside0.mk e
  have d1 : decide (z < 0) = false := decide_eq_false hz
  clear hr hc TB0 sz t hs hi e hz
  have HB := Aside0.mk (Below.refl W.heap.size W)
  go_enter Tryd.func3, Tryd.ntmps3
  have ST0 := Aside0.mk True.intro
  go_wp2_with (first
    | (have s_ := ST0; go_at_call 4; refine (laws_szPieceS.calls A0 c0 l 1048576 z _ (P1.out _ (by repeat (first | (with_reducible first | exact HB.out | apply below_alloc | apply pw_below_drewN | apply below_drew1) | exact HB.out))) C1.out SZ.out).mono ?_; rintro e w' ⟨rfl, ⟨nd, rfl⟩⟩; clear ST0 s_; have ST1 := Aside0.mk True.intro)
    | (have s_ := ST1; go_at_call 6; refine (laws_toPieceS.calls kt A0 c0 l m _ (P1.out _ (by repeat (first | (with_reducible first | exact HB.out | apply below_alloc | apply pw_below_drewN | apply below_drew1) | exact HB.out))) C1.out TT.out).mono ?_; rintro e wa ⟨v, rfl, hR, hb⟩; obtain ⟨Aa, ca, rfl⟩ := Kd.R_slice hR; have Xa := Aside0.mk hR; clear hR; have n_HB := Aside0.mk (below_step (by repeat (first | (with_reducible first | exact HB.out | apply below_alloc | apply pw_below_drewN | apply below_drew1) | exact HB.out)) hb); clear HB  hb; have HB := n_HB; clear n_HB; clear ST1 s_; have ST2 := Aside0.mk True.intro)
    | (have s_ := ST2; go_at_call 5; refine (spec_PiecesText.calls ks Aa ca m r _ (Kd.R_reads' (by (with_reducible repeat (first | apply Kd.R_alloc | apply Kd.R_drewN | apply Kd.R_drew)); exact Xa.out)).2.2 (Kd.R_reads' Xa.out).2.1 HSP.out).mono ?_; rintro e wb ⟨rfl, hb⟩; clear Xa; have n_HB := Aside0.mk (below_step (by repeat (first | (with_reducible first | exact HB.out | apply below_alloc | apply pw_below_drewN | apply below_drew1) | exact HB.out)) hb); clear HB  hb; have HB := n_HB; clear n_HB; clear ST2 s_; have ST3 := Aside0.mk True.intro)
    | (have s_ := ST3; go_at_call 6; refine (laws_toPieceS.calls kt A0 c0 l m _ (P1.out _ (by repeat (first | (with_reducible first | exact HB.out | apply below_alloc | apply pw_below_drewN | apply below_drew1) | exact HB.out))) C1.out TT.out).mono ?_; rintro e wc ⟨v, rfl, hR, hb⟩; obtain ⟨Ax, cx, rfl⟩ := Kd.R_slice hR; have X1 := Aside0.mk hR; clear hR; have n_HB := Aside0.mk (below_step (by repeat (first | (with_reducible first | exact HB.out | apply below_alloc | apply pw_below_drewN | apply below_drew1) | exact HB.out)) hb); clear HB  hb; have HB := n_HB; clear n_HB; clear ST3 s_; have ST4 := Aside0.mk True.intro)
    | (have s_ := ST4; go_at_call 7; refine (impl_PiecesText.calls ki Ax cx m r _ (Kd.R_reads' (by (with_reducible repeat (first | apply Kd.R_alloc | apply Kd.R_drewN | apply Kd.R_drew)); exact X1.out)).2.2 (Kd.R_reads' X1.out).2.1 (tab_below TB.out (by repeat (first | (with_reducible first | exact HB.out | apply below_alloc | apply pw_below_drewN | apply below_drew1) | exact HB.out))) HIM.out).mono ?_; rintro e wd ⟨rfl, hb⟩; have n_X1 := Aside0.mk (Kd.R_below (by (with_reducible repeat (first | apply Kd.R_alloc | apply Kd.R_drewN | apply Kd.R_drew)); exact X1.out) hb); have n_HB := Aside0.mk (below_step (by repeat (first | (with_reducible first | exact HB.out | apply below_alloc | apply pw_below_drewN | apply below_drew1) | exact HB.out)) hb); clear HB X1 hb; have X1 := n_X1; clear n_X1; have HB := n_HB; clear n_HB; clear ST4 s_; have ST5 := Aside0.mk True.intro)
    | (have s_ := ST5; go_at_call 6; refine (laws_toPieceS.calls kt A0 c0 l m _ (P1.out _ (by repeat (first | (with_reducible first | exact HB.out | apply below_alloc | apply pw_below_drewN | apply below_drew1) | exact HB.out))) C1.out TT.out).mono ?_; rintro e we ⟨v, rfl, hR, hb⟩; obtain ⟨Ay, cy, rfl⟩ := Kd.R_slice hR; have Y1 := Aside0.mk hR; clear hR; have n_X1 := Aside0.mk (Kd.R_below (by (with_reducible repeat (first | apply Kd.R_alloc | apply Kd.R_drewN | apply Kd.R_drew)); exact X1.out) hb); have n_HB := Aside0.mk (below_step (by repeat (first | (with_reducible first | exact HB.out | apply below_alloc | apply pw_below_drewN | apply below_drew1) | exact HB.out)) hb); clear HB X1 hb; have X1 := n_X1; clear n_X1; have HB := n_HB; clear n_HB; clear ST5 s_; have ST6 := Aside0.mk True.intro)
    | (have s_ := ST6; go_at_call 8; refine (laws_eqPieceS.calls ke Ax cx m Ay cy m true _ (Kd.R_reads' (by (with_reducible repeat (first | apply Kd.R_alloc | apply Kd.R_drewN | apply Kd.R_drew)); exact X1.out)).2.2 (Kd.R_reads' X1.out).2.1 (Kd.R_reads' (by (with_reducible repeat (first | apply Kd.R_alloc | apply Kd.R_drewN | apply Kd.R_drew)); exact Y1.out)).2.2 (Kd.R_reads' Y1.out).2.1 EQ.out).mono ?_; rintro e wf ⟨rfl, hb⟩; clear X1 Y1; have n_HB := Aside0.mk (below_step (by repeat (first | (with_reducible first | exact HB.out | apply below_alloc | apply pw_below_drewN | apply below_drew1) | exact HB.out)) hb); clear HB  hb; have HB := n_HB; clear n_HB; clear ST6 s_; have ST7 := Aside0.mk True.intro))
  go_ret
  exact ⟨rfl, (by repeat (first | (with_reducible first | exact HB.out | apply below_alloc | apply pw_below_drewN | apply below_drew1) | exact HB.out))⟩
set_option maxHeartbeats 4000000 in
set_option maxRecDepth 100000 in
theorem pieceLaw_long (A0 : Option Addr) (c0 : Nat) (l : List S37) (W : World) (hr : Kd.C k37 W A0 l.length l) (hc : l.length ≤ c0) (z : Int) (hz : z < 0) (sz : laws_szPieceS.f l 1048576 = some z) :
    Calls Tryd.prog 3 #[.slice A0 l.length c0] W fun e w' => e = .returned (.bool true) ∧ Below W.heap.size W w' := by
  have P1 := Aside0.mk (fun (w' : World) (hb : Below W.heap.size W w') => Kd.C_below hr hb)
  have C1 := Aside0.mk hc
  have SZ := Aside0.mk sz
  have d1 : decide (z < 0) = true := decide_eq_true hz
  clear hr hc sz hz
  have HB := Aside0.mk (Below.refl W.heap.size W)
  go_enter Tryd.func3, Tryd.ntmps3
  go_wp2_with (go_at_call 4; refine (laws_szPieceS.calls A0 c0 l 1048576 z _ (P1.out _ (by repeat (first | (with_reducible first | exact HB.out | apply below_alloc | apply pw_below_drewN | apply below_drew1) | exact HB.out))) C1.out SZ.out).mono ?_; rintro e w' ⟨rfl, ⟨nd, rfl⟩⟩)
  go_ret
  exact ⟨rfl, (by repeat (first | (with_reducible first | exact HB.out | apply below_alloc | apply pw_below_drewN | apply below_drew1) | exact HB.out))⟩
theorem pieceLaw_all (A0 : Option Addr) (c0 : Nat) (l : List S37) (W : World) (hr : Kd.C k37 W A0 l.length l) (hc : l.length ≤ c0) (hm : l.length * 4 ≤ 140737488351232) (TB : Tab W) :
    Calls Tryd.prog 3 #[.slice A0 l.length c0] W fun e w' => e = .returned (.bool true) ∧ Below W.heap.size W w' := by
  have hw : wrap64 (1048576 - (l.length : Int)) = 1048576 - (l.length : Int) := w64 _ (by omega) (by omega)
  by_cases b : l.length ≤ 1048576
  · have sz : laws_szPieceS.f l 1048576 = some (1048576 - (l.length : Int)) := by unfold laws_szPieceS.f; rw [hw, if_neg (by omega)]
    obtain ⟨r, es, ei⟩ := PiecesText_both (l.map toP) (by rw [List.length_map]; omega)
    obtain ⟨ks, hs⟩ := Ev.get es
    obtain ⟨ki, hi⟩ := Ev.get ei
    obtain ⟨kt, t⟩ := Ev.get (laws_toPieceS.ev l (by omega))
    obtain ⟨ke, e⟩ := Ev.get (laws_eqPieceS.same (l.map toP) (by rw [List.length_map]; omega))
    exact pieceLaw_calls A0 c0 l W hr hc TB _ (by omega) (l.map toP) r kt ks ki ke sz t hs hi e
  · exact pieceLaw_long A0 c0 l W hr hc (-1) (by decide) (by unfold laws_szPieceS.f; rw [hw, if_pos (by omega)])

end Go.Proofs.YthkccaclmodjiaaDoor.D
