import Derived.Test.YtcmcdjnjlimeeaazFMarksEEvLoop
import Derived.Test.YtcmcdjnjlimeeaazFMarksEGreedyMarks
import Derived.Test.YtcmcdjnjlimeeaazFMarksEMTold
import Derived.Test.YtcmcdjnjlimeeaazFMarksM0
import Derived.Test.YtcmcdjnjlimeeaazFMarksM1
import Derived.Test.YtcmcdjnjlimeeaazFMarksM10
import Derived.Test.YtcmcdjnjlimeeaazFMarksM12
import Derived.Test.YtcmcdjnjlimeeaazFMarksM2
import Derived.Test.YtcmcdjnjlimeeaazFMarksM3
import Derived.Test.YtcmcdjnjlimeeaazFMarksM4
import Derived.Test.YtcmcdjnjlimeeaazFMarksM5
import Derived.Test.YtcmcdjnjlimeeaazFMarksM6
import Derived.Test.YtcmcdjnjlimeeaazFMarksM8
import Derived.Test.YtcmcdjnjlimeeaazFMarksM9
import Derived.OwnWalk
namespace Go.Proofs.Ytcmcdjnjlimeeaa.M
open Go.RowKit Go.Proofs.YtcmcdjnjlimeeaaW.PrintWords Go.Proofs.YtcmcdjnjlimeeaaW.PrintLast Go.Proofs.YtcmcdjnjlimeeaaW.PrintMore
attribute [local go_sem] max2_int min2_int max_two min_two max_three min_three max_four min_four
set_option linter.unusedVariables false
set_option linter.unusedSimpArgs false
open Go.Lib
set_option maxHeartbeats 40000000 in
set_option maxRecDepth 100000 in
theorem marksLawF_calls (A0 : Option Addr) (c0 : Nat) (l0 : List Int) (A1 : Option Addr) (c1 : Nat) (l1 : List Int) (W : World) (hr0 : Kd.C (Kd.int .u8) W A0 l0.length l0) (hc0 : l0.length ≤ c0) (hr1 : Kd.C (Kd.int .u8) W A1 l1.length l1) (hc1 : l1.length ≤ c1)
    (n m most : Int) (LS D G : List Int) (a b four : Int) (T : MarksTold l0 l1 n m most LS D G false a b four) :
    Calls Try.prog 3 #[.slice A0 l0.length c0, .slice A1 l1.length c1] W fun e w' => e = .returned (.bool true) ∧ Below W.heap.size W w' := by
  have P0 := Aside0.mk (fun (w' : World) (hb : Below W.heap.size W w') => Kd.C_below hr0 hb)
  have P1 := Aside0.mk (fun (w' : World) (hb : Below W.heap.size W w') => Kd.C_below hr1 hb)
  have C0 := Aside0.mk hc0
  have C1 := Aside0.mk hc1
  have TL := Aside0.mk T.long
  obtain ⟨t0, ta1, hn⟩ := T.at1
  have TA1 := Aside0.mk ta1
  have TM := Aside0.mk T.mark
  obtain ⟨kms, tms⟩ := T.marks
  have TMS := Aside0.mk tms
  have TA2 := Aside0.mk T.at2
  obtain ⟨kmt, tx, tmt, krm, trm⟩ := T.text
  have TMT := Aside0.mk tmt
  have TRM := Aside0.mk trm
  obtain ⟨klf, tlf⟩ := T.lost
  have TLF := Aside0.mk tlf
  obtain ⟨ksf, tsf⟩ := T.lostS
  have TSF := Aside0.mk tsf
  obtain ⟨kck, tck⟩ := T.check
  have TCK := Aside0.mk tck
  obtain ⟨ksk, tsk⟩ := T.checkS
  have TSK := Aside0.mk tsk
  obtain ⟨kfc, tfc⟩ := T.clash
  have TFC := Aside0.mk tfc
  obtain ⟨ksc, tsc⟩ := T.clashS
  have TSC := Aside0.mk tsc
  obtain ⟨kgm, tgm⟩ := T.gr
  have TGM := Aside0.mk tgm
  obtain ⟨ksg, tsg⟩ := T.grS
  have TSG := Aside0.mk tsg
  have TV := Aside0.mk T.valid
  obtain ⟨ksd, tsd⟩ := T.sameD
  have TSD := Aside0.mk tsd
  obtain ⟨kse, tse⟩ := T.sameG
  have TSE := Aside0.mk tse
  obtain ⟨st, tst, hst⟩ := T.count
  have TST := Aside0.mk tst
  have hsame := T.same
  have hshort : decide (most < (G.length : Int)) = false := decide_eq_false T.short
  have TT := Aside0.mk T
  clear hr0 hr1 hc0 hc1 ta1 tms tmt trm tlf tsf tck tsk tfc tsc tgm tsg tsd tse tst T
  have HB := Aside0.mk (Below.refl W.heap.size W)
  go_enter Try.func3, Try.ntmps3
  have ST0 := Aside0.mk True.intro
  go_wp2_with (first
    | (have s_ := ST0; go_at_call 4; refine (laws_a2Long.calls A0 c0 l0 A1 c1 l1 false _ (P0.out _ (by repeat (first | (with_reducible first | exact HB.out | apply below_alloc | apply pw_below_drewN | apply below_drew1) | exact HB.out))) C0.out (P1.out _ (by repeat (first | (with_reducible first | exact HB.out | apply below_alloc | apply pw_below_drewN | apply below_drew1) | exact HB.out))) C1.out TL.out).mono ?_; rintro e w' ⟨rfl, ⟨nd, rfl⟩⟩; clear ST0 s_; have ST1 := Aside0.mk True.intro)
    | (have s_ := ST1; go_at_call 5; refine (laws_a2At.calls A0 c0 l0 0 6 t0 _ (P0.out _ (by repeat (first | (with_reducible first | exact HB.out | apply below_alloc | apply pw_below_drewN | apply below_drew1) | exact HB.out))) C0.out TA1.out).mono ?_; rintro e w' ⟨rfl, ⟨nd, rfl⟩⟩; clear ST1 s_; have ST2 := Aside0.mk True.intro)
    | (have s_ := ST2; go_at_call 6; refine (spec_A2Mark.calls A1 c1 l1 n m _ (P1.out _ (by repeat (first | (with_reducible first | exact HB.out | apply below_alloc | apply pw_below_drewN | apply below_drew1) | exact HB.out))) C1.out TM.out).mono ?_; rintro e wa ⟨rfl, hb⟩; have n_HB := Aside0.mk (below_step (by repeat (first | (with_reducible first | exact HB.out | apply below_alloc | apply pw_below_drewN | apply below_drew1) | exact HB.out)) hb); clear HB  hb; have HB := n_HB; clear n_HB; clear ST2 s_; have ST3 := Aside0.mk True.intro)
    | (have s_ := ST3; go_at_call 7; refine (spec_A2Marks.calls kms A0 c0 l0 n LS _ (P0.out _ (by repeat (first | (with_reducible first | exact HB.out | apply below_alloc | apply pw_below_drewN | apply below_drew1) | exact HB.out))) C0.out TMS.out).mono ?_; rintro e wb ⟨v, rfl, hR, hb⟩; obtain ⟨Al, cl, rfl⟩ := Kd.R_slice hR; have XL := Aside0.mk hR; clear hR; have n_HB := Aside0.mk (below_step (by repeat (first | (with_reducible first | exact HB.out | apply below_alloc | apply pw_below_drewN | apply below_drew1) | exact HB.out)) hb); clear HB  hb; have HB := n_HB; clear n_HB; clear ST3 s_; have ST4 := Aside0.mk True.intro)
    | (have s_ := ST4; go_at_call 5; refine (laws_a2At.calls A1 c1 l1 2 12 most _ (P1.out _ (by repeat (first | (with_reducible first | exact HB.out | apply below_alloc | apply pw_below_drewN | apply below_drew1) | exact HB.out))) C1.out TA2.out).mono ?_; rintro e w' ⟨rfl, ⟨nd, rfl⟩⟩; clear ST4 s_; have ST5 := Aside0.mk True.intro)
    | (have s_ := ST5; go_at_call 9; refine (impl_MarkText.calls kmt n m tx _ TMT.out).mono ?_; rintro e wc ⟨rfl, hb⟩; have n_XL := Aside0.mk (Kd.R_below (by (with_reducible repeat (first | apply Kd.R_alloc | apply Kd.R_drewN | apply Kd.R_drew)); exact XL.out) hb); have n_HB := Aside0.mk (below_step (by repeat (first | (with_reducible first | exact HB.out | apply below_alloc | apply pw_below_drewN | apply below_drew1) | exact HB.out)) hb); clear HB XL hb; have XL := n_XL; clear n_XL; have HB := n_HB; clear n_HB; clear ST5 s_; have ST6 := Aside0.mk True.intro)
    | (have s_ := ST6; go_at_call 8; refine (impl_ReadMark.calls krm tx m n 0 _ TRM.out).mono ?_; rintro e wd ⟨rfl, hb⟩; have n_XL := Aside0.mk (Kd.R_below (by (with_reducible repeat (first | apply Kd.R_alloc | apply Kd.R_drewN | apply Kd.R_drew)); exact XL.out) hb); have n_HB := Aside0.mk (below_step (by repeat (first | (with_reducible first | exact HB.out | apply below_alloc | apply pw_below_drewN | apply below_drew1) | exact HB.out)) hb); clear HB XL hb; have XL := n_XL; clear n_XL; have HB := n_HB; clear n_HB; clear ST6 s_; have ST7 := Aside0.mk True.intro)
    | (have s_ := ST7; go_at_call 10; refine (impl_LostFrom.calls klf n m D 0 _ TLF.out).mono ?_; rintro e we ⟨v, rfl, hR, hb⟩; obtain ⟨Ad, cd, rfl⟩ := Kd.R_slice hR; have XD := Aside0.mk hR; clear hR; have n_XL := Aside0.mk (Kd.R_below (by (with_reducible repeat (first | apply Kd.R_alloc | apply Kd.R_drewN | apply Kd.R_drew)); exact XL.out) hb); have n_HB := Aside0.mk (below_step (by repeat (first | (with_reducible first | exact HB.out | apply below_alloc | apply pw_below_drewN | apply below_drew1) | exact HB.out)) hb); clear HB XL hb; have XL := n_XL; clear n_XL; have HB := n_HB; clear n_HB; clear ST7 s_; have ST8 := Aside0.mk True.intro)
    | (have s_ := ST8; go_at_call 11; refine (spec_LostFrom.calls ksf n m D 0 _ TSF.out).mono ?_; rintro e wf ⟨v, rfl, hR, hb⟩; obtain ⟨Ae, ce, rfl⟩ := Kd.R_slice hR; have XE := Aside0.mk hR; clear hR; have n_XL := Aside0.mk (Kd.R_below (by (with_reducible repeat (first | apply Kd.R_alloc | apply Kd.R_drewN | apply Kd.R_drew)); exact XL.out) hb); have n_XD := Aside0.mk (Kd.R_below (by (with_reducible repeat (first | apply Kd.R_alloc | apply Kd.R_drewN | apply Kd.R_drew)); exact XD.out) hb); have n_HB := Aside0.mk (below_step (by repeat (first | (with_reducible first | exact HB.out | apply below_alloc | apply pw_below_drewN | apply below_drew1) | exact HB.out)) hb); clear HB XL XD hb; have XL := n_XL; clear n_XL; have XD := n_XD; clear n_XD; have HB := n_HB; clear n_HB; clear ST8 s_; have ST9 := Aside0.mk True.intro)
    | (have s_ := ST9; go_at_call 12; refine (impl_CheckMarks.calls kck n Al cl LS false 0 _ (Kd.R_reads' (by (with_reducible repeat (first | apply Kd.R_alloc | apply Kd.R_drewN | apply Kd.R_drew)); exact XL.out)).2.2 (Kd.R_reads' XL.out).2.1 TCK.out).mono ?_; rintro e wg ⟨rfl, hb⟩; have n_XL := Aside0.mk (Kd.R_below (by (with_reducible repeat (first | apply Kd.R_alloc | apply Kd.R_drewN | apply Kd.R_drew)); exact XL.out) hb); have n_XD := Aside0.mk (Kd.R_below (by (with_reducible repeat (first | apply Kd.R_alloc | apply Kd.R_drewN | apply Kd.R_drew)); exact XD.out) hb); have n_XE := Aside0.mk (Kd.R_below (by (with_reducible repeat (first | apply Kd.R_alloc | apply Kd.R_drewN | apply Kd.R_drew)); exact XE.out) hb); have n_HB := Aside0.mk (below_step (by repeat (first | (with_reducible first | exact HB.out | apply below_alloc | apply pw_below_drewN | apply below_drew1) | exact HB.out)) hb); clear HB XL XD XE hb; have XL := n_XL; clear n_XL; have XD := n_XD; clear n_XD; have XE := n_XE; clear n_XE; have HB := n_HB; clear n_HB; clear ST9 s_; have ST10 := Aside0.mk True.intro)
    | (have s_ := ST10; go_at_call 13; refine (spec_CheckMarks.calls ksk n Al cl LS false 0 _ (Kd.R_reads' (by (with_reducible repeat (first | apply Kd.R_alloc | apply Kd.R_drewN | apply Kd.R_drew)); exact XL.out)).2.2 (Kd.R_reads' XL.out).2.1 TSK.out).mono ?_; rintro e wg ⟨rfl, hb⟩; have n_XL := Aside0.mk (Kd.R_below (by (with_reducible repeat (first | apply Kd.R_alloc | apply Kd.R_drewN | apply Kd.R_drew)); exact XL.out) hb); have n_XD := Aside0.mk (Kd.R_below (by (with_reducible repeat (first | apply Kd.R_alloc | apply Kd.R_drewN | apply Kd.R_drew)); exact XD.out) hb); have n_XE := Aside0.mk (Kd.R_below (by (with_reducible repeat (first | apply Kd.R_alloc | apply Kd.R_drewN | apply Kd.R_drew)); exact XE.out) hb); have n_HB := Aside0.mk (below_step (by repeat (first | (with_reducible first | exact HB.out | apply below_alloc | apply pw_below_drewN | apply below_drew1) | exact HB.out)) hb); clear HB XL XD XE hb; have XL := n_XL; clear n_XL; have XD := n_XD; clear n_XD; have XE := n_XE; clear n_XE; have HB := n_HB; clear n_HB; clear ST10 s_; have ST11 := Aside0.mk True.intro)
    | (have s_ := ST11; go_at_call 14; refine (impl_FirstClash.calls kfc n Al cl LS a b four _ (Kd.R_reads' (by (with_reducible repeat (first | apply Kd.R_alloc | apply Kd.R_drewN | apply Kd.R_drew)); exact XL.out)).2.2 (Kd.R_reads' XL.out).2.1 TFC.out).mono ?_; rintro e wh ⟨rfl, hb⟩; have n_XL := Aside0.mk (Kd.R_below (by (with_reducible repeat (first | apply Kd.R_alloc | apply Kd.R_drewN | apply Kd.R_drew)); exact XL.out) hb); have n_XD := Aside0.mk (Kd.R_below (by (with_reducible repeat (first | apply Kd.R_alloc | apply Kd.R_drewN | apply Kd.R_drew)); exact XD.out) hb); have n_XE := Aside0.mk (Kd.R_below (by (with_reducible repeat (first | apply Kd.R_alloc | apply Kd.R_drewN | apply Kd.R_drew)); exact XE.out) hb); have n_HB := Aside0.mk (below_step (by repeat (first | (with_reducible first | exact HB.out | apply below_alloc | apply pw_below_drewN | apply below_drew1) | exact HB.out)) hb); clear HB XL XD XE hb; have XL := n_XL; clear n_XL; have XD := n_XD; clear n_XD; have XE := n_XE; clear n_XE; have HB := n_HB; clear n_HB; clear ST11 s_; have ST12 := Aside0.mk True.intro)
    | (have s_ := ST12; go_at_call 15; refine (spec_FirstClash.calls ksc n Al cl LS a b four _ (Kd.R_reads' (by (with_reducible repeat (first | apply Kd.R_alloc | apply Kd.R_drewN | apply Kd.R_drew)); exact XL.out)).2.2 (Kd.R_reads' XL.out).2.1 TSC.out).mono ?_; rintro e wh ⟨rfl, hb⟩; have n_XL := Aside0.mk (Kd.R_below (by (with_reducible repeat (first | apply Kd.R_alloc | apply Kd.R_drewN | apply Kd.R_drew)); exact XL.out) hb); have n_XD := Aside0.mk (Kd.R_below (by (with_reducible repeat (first | apply Kd.R_alloc | apply Kd.R_drewN | apply Kd.R_drew)); exact XD.out) hb); have n_XE := Aside0.mk (Kd.R_below (by (with_reducible repeat (first | apply Kd.R_alloc | apply Kd.R_drewN | apply Kd.R_drew)); exact XE.out) hb); have n_HB := Aside0.mk (below_step (by repeat (first | (with_reducible first | exact HB.out | apply below_alloc | apply pw_below_drewN | apply below_drew1) | exact HB.out)) hb); clear HB XL XD XE hb; have XL := n_XL; clear n_XL; have XD := n_XD; clear n_XD; have XE := n_XE; clear n_XE; have HB := n_HB; clear n_HB; clear ST12 s_; have ST13 := Aside0.mk True.intro)
    | (have s_ := ST13; go_at_call 16; refine (impl_GreedyMarks.calls kgm n most G 0 _ TGM.out).mono ?_; rintro e wi ⟨v, rfl, hR, hb⟩; obtain ⟨Ag, cg, rfl⟩ := Kd.R_slice hR; have XG := Aside0.mk hR; clear hR; have n_XL := Aside0.mk (Kd.R_below (by (with_reducible repeat (first | apply Kd.R_alloc | apply Kd.R_drewN | apply Kd.R_drew)); exact XL.out) hb); have n_XD := Aside0.mk (Kd.R_below (by (with_reducible repeat (first | apply Kd.R_alloc | apply Kd.R_drewN | apply Kd.R_drew)); exact XD.out) hb); have n_XE := Aside0.mk (Kd.R_below (by (with_reducible repeat (first | apply Kd.R_alloc | apply Kd.R_drewN | apply Kd.R_drew)); exact XE.out) hb); have n_HB := Aside0.mk (below_step (by repeat (first | (with_reducible first | exact HB.out | apply below_alloc | apply pw_below_drewN | apply below_drew1) | exact HB.out)) hb); clear HB XL XD XE hb; have XL := n_XL; clear n_XL; have XD := n_XD; clear n_XD; have XE := n_XE; clear n_XE; have HB := n_HB; clear n_HB; clear ST13 s_; have ST14 := Aside0.mk True.intro)
    | (have s_ := ST14; go_at_call 17; refine (spec_GreedyMarks.calls ksg n most G 0 _ TSG.out).mono ?_; rintro e w9 ⟨v, rfl, hR, hb⟩; obtain ⟨Ah, ch, rfl⟩ := Kd.R_slice hR; have XH := Aside0.mk hR; clear hR; have n_XL := Aside0.mk (Kd.R_below (by (with_reducible repeat (first | apply Kd.R_alloc | apply Kd.R_drewN | apply Kd.R_drew)); exact XL.out) hb); have n_XD := Aside0.mk (Kd.R_below (by (with_reducible repeat (first | apply Kd.R_alloc | apply Kd.R_drewN | apply Kd.R_drew)); exact XD.out) hb); have n_XE := Aside0.mk (Kd.R_below (by (with_reducible repeat (first | apply Kd.R_alloc | apply Kd.R_drewN | apply Kd.R_drew)); exact XE.out) hb); have n_XG := Aside0.mk (Kd.R_below (by (with_reducible repeat (first | apply Kd.R_alloc | apply Kd.R_drewN | apply Kd.R_drew)); exact XG.out) hb); have n_HB := Aside0.mk (below_step (by repeat (first | (with_reducible first | exact HB.out | apply below_alloc | apply pw_below_drewN | apply below_drew1) | exact HB.out)) hb); clear HB XL XD XE XG hb; have XL := n_XL; clear n_XL; have XD := n_XD; clear n_XD; have XE := n_XE; clear n_XE; have XG := n_XG; clear n_XG; have HB := n_HB; clear n_HB; have RL := Aside0.mk (fun (w' : World) (hb : Below w9.heap.size w9 w') => Kd.C_below (Kd.R_reads' XL.out).2.2 hb); have CL := Aside0.mk (Kd.R_reads' XL.out).2.1; have RE := Aside0.mk (fun (w' : World) (hb : Below w9.heap.size w9 w') => Kd.C_below (Kd.R_reads' XE.out).2.2 hb); have CE := Aside0.mk (Kd.R_reads' XE.out).2.1; have RH := Aside0.mk (fun (w' : World) (hb : Below w9.heap.size w9 w') => Kd.C_below (Kd.R_reads' XH.out).2.2 hb); have CH := Aside0.mk (Kd.R_reads' XH.out).2.1; have W9 := HB; clear HB; have HB := Aside0.mk (Below.refl w9.heap.size w9); clear ST14 s_; have ST15 := Aside0.mk True.intro)
    | (have s_ := ST15; go_at_call 18; refine (impl_ValidMark.calls n m true _ TV.out).mono ?_; rintro e w' ⟨rfl, ⟨nd, rfl⟩⟩; clear ST15 s_; have ST16 := Aside0.mk True.intro)
    | (have s_ := ST16; go_at_call 19; refine (spec_A2SameMarks.calls ksd Ad cd D Ae ce D true _ (Kd.R_reads' (by (with_reducible repeat (first | apply Kd.R_alloc | apply Kd.R_drewN | apply Kd.R_drew)); exact XD.out)).2.2 (Kd.R_reads' XD.out).2.1 (Kd.R_reads' (by (with_reducible repeat (first | apply Kd.R_alloc | apply Kd.R_drewN | apply Kd.R_drew)); exact XE.out)).2.2 (Kd.R_reads' XE.out).2.1 TSD.out).mono ?_; rintro e w' ⟨rfl, ⟨nd, rfl⟩⟩; clear ST16 s_; have ST17 := Aside0.mk True.intro)
    | (have s_ := ST17; go_at_call 20; refine (impl_StitchesIn.calls m st _ TST.out).mono ?_; rintro e w' ⟨rfl, ⟨nd, rfl⟩⟩; clear ST17 s_; have ST18 := Aside0.mk True.intro)
    | (have s_ := ST18; go_at_call 19; refine (spec_A2SameMarks.calls kse Ag cg G Ah ch G true _ (Kd.R_reads' (by (with_reducible repeat (first | apply Kd.R_alloc | apply Kd.R_drewN | apply Kd.R_drew)); exact XG.out)).2.2 (Kd.R_reads' XG.out).2.1 (Kd.R_reads' (by (with_reducible repeat (first | apply Kd.R_alloc | apply Kd.R_drewN | apply Kd.R_drew)); exact XH.out)).2.2 (Kd.R_reads' XH.out).2.1 TSE.out).mono ?_; rintro e w' ⟨rfl, ⟨nd, rfl⟩⟩; clear XL XD XE XG XH; clear ST18 s_; have ST19 := Aside0.mk True.intro))
  clear hn hst hsame hshort P0 P1 C0 C1 TL TA1 TM TMS TA2 TMT TRM TLF TSF TCK TSK TFC TSC TGM TSG TV TSD TSE TST ST19
  go_loopg [30] D.length (fun gg v30 w' => ∃ (kk : Nat), kk ≤ D.length ∧ D.length - kk ≤ gg ∧ v30 = .int .i64 (kk : Int) ∧ Aside0 (Below w9.heap.size w9 w'))
  case atStart => exact ⟨0, Nat.zero_le _, by omega, rfl, ⟨(by repeat (first | (with_reducible first | exact HB.out | apply below_alloc | apply pw_below_drewN | apply below_drew1) | exact HB.out))⟩⟩
  case round =>
    clear HB
    obtain ⟨kk, hkk, hg, rfl, HB⟩ := hrel
    by_cases hlt : kk < D.length
    · have hltz : (kk : Int) < (D.length : Int) := by omega
      obtain ⟨y, ty, hy1, hy2, hy3⟩ := TT.out.apart kk hlt
      have TY := Aside0.mk ty
      have dy : decide (1 < y) = false := decide_eq_false hy1
      have hk1 : wrap64 ((kk : Int) + 1) = ((kk + 1 : Nat) : Int) := by have := TT.out.dlen; unfold wrap64; omega
      obtain ⟨ad, e, hx⟩ := at_u16 (RE.out _ HB.out) kk hlt
      cases e
      have AT := Aside0.mk (fun (w' : World) (hb : Below w9.heap.size w9 w') => (by obtain ⟨ad2, e2, h2⟩ := at_u16 (RE.out w' hb) kk hlt; cases e2; exact h2 : w'.cell? (ad.add kk) = some (.int .u16 (rd D (kk : Int)))))
      clear ty hy1
      generalize hz : rd D (kk : Int) = z at hx hy3 TY AT
      go_wp2_with (go_at_call 21; refine (impl_ApartBy.calls n m z y 0 _ TY.out).mono ?_; rintro e w2 ⟨rfl, hb⟩; clear hx; have n_HB := Aside0.mk (below_step (by repeat (first | (with_reducible first | exact HB.out | apply below_alloc | apply pw_below_drewN | apply below_drew1) | exact HB.out)) hb); clear HB hb; have HB := n_HB; clear n_HB; have hx := AT.out _ HB.out)
      go_roundg (D.length - (kk + 1))
      case measure => omega
      case rel => exact ⟨kk + 1, by omega, by omega, by first | rfl | rw [hk1], HB⟩
    · have hltz : ¬ (kk : Int) < (D.length : Int) := by omega
      clear hlt hg hkk
      obtain ⟨kcg, tcg⟩ := TT.out.fine
      have TCG := Aside0.mk tcg
      clear tcg
      go_wp2_with (go_at_call 12; refine (impl_CheckMarks.calls kcg n Ah ch G true 0 _ (RH.out _ (by repeat (first | (with_reducible first | exact HB.out | apply below_alloc | apply pw_below_drewN | apply below_drew1) | exact HB.out))) CH.out TCG.out).mono ?_; rintro e w2 ⟨rfl, hb⟩; have n_HB := Aside0.mk (below_step (by repeat (first | (with_reducible first | exact HB.out | apply below_alloc | apply pw_below_drewN | apply below_drew1) | exact HB.out)) hb); clear HB hb; have HB := n_HB; clear n_HB)
      go_loopg [35] G.length (fun gg v35 w' => ∃ (ii : Nat), ii ≤ G.length ∧ G.length - ii ≤ gg ∧ v35 = .int .i64 (ii : Int) ∧ Aside0 (Below w9.heap.size w9 w'))
      case atStart => exact ⟨0, Nat.zero_le _, by omega, rfl, HB⟩
      case round =>
        clear HB hltz TCG
        obtain ⟨ii, hii, hg, rfl, HB⟩ := hrel
        by_cases hlt : ii < G.length
        · have hltz : (ii : Int) < (G.length : Int) := by omega
          obtain ⟨S, kS, tS, hSl, hdec, hrs⟩ := TT.out.each ii hlt
          have TS := Aside0.mk tS
          have HRS := Aside0.mk hrs
          have hk2 : wrap64 ((ii : Int) + 1) = ((ii + 1 : Nat) : Int) := by have := TT.out.glen; unfold wrap64; omega
          obtain ⟨ad, e, hx⟩ := at_u16 (RH.out _ HB.out) ii hlt
          cases e
          have AT := Aside0.mk (fun (w' : World) (hb : Below w9.heap.size w9 w') => (by obtain ⟨ad2, e2, h2⟩ := at_u16 (RH.out w' hb) ii hlt; cases e2; exact h2 : w'.cell? (ad.add ii) = some (.int .u16 (rd G (ii : Int)))))
          have HLT := Aside0.mk hlt
          clear tS hrs
          by_cases cpos : 0 < ii
          · have dpos : decide (0 < (ii : Int)) = true := decide_eq_true (by omega)
            have hprev : wrap64 ((ii : Int) - 1) = ((ii - 1 : Nat) : Int) := by have := TT.out.glen; unfold wrap64; omega
            have hd2 := hdec (by omega)
            rw [show (ii : Int) - 1 = ((ii - 1 : Nat) : Int) by omega] at hd2
            have dge : decide (rd G ((ii - 1 : Nat) : Int) ≤ rd G (ii : Int)) = false := decide_eq_false hd2
            have hpz : ((ii - 1 : Nat) : Int) < (G.length : Int) := by omega
            have AU := Aside0.mk (fun (w' : World) (hb : Below w9.heap.size w9 w') => (by obtain ⟨ad2, e2, h2⟩ := at_u16 (RH.out w' hb) (ii - 1) (by omega); cases e2; exact h2 : w'.cell? (ad.add (ii - 1)) = some (.int .u16 (rd G ((ii - 1 : Nat) : Int)))))
            clear hdec hd2
            generalize hzq : rd G ((ii - 1 : Nat) : Int) = z' at dge AU
            generalize hz : rd G (ii : Int) = z at hx AT TS dge
            go_upto_region 31 with (go_at_call 11; refine (spec_LostFrom.calls kS n z S 0 _ TS.out).mono ?_; rintro e wS ⟨v2, rfl, hR, hb⟩; obtain ⟨At, ct, rfl⟩ := Kd.R_slice hR; have RS := Aside0.mk (fun (w' : World) (hb2 : Below wS.heap.size wS w') => Kd.C_below (Kd.R_reads' hR).2.2 hb2); clear hR hx; have n_HB := Aside0.mk (below_step (by repeat (first | (with_reducible first | exact HB.out | apply below_alloc | apply pw_below_drewN | apply below_drew1) | exact HB.out)) hb); clear HB hb; have HB := n_HB; clear n_HB; have HS := Aside0.mk (Below.refl wS.heap.size wS); have hx := AT.out _ HB.out; have hy := AU.out _ HB.out)
            repeat (go_quiet (fail))
            go_wp2
            clear hprev dge hpz dpos AU AT hy cpos hx
            go_loopg [38] S.length (fun gg v38 w' => ∃ (jj : Nat), jj ≤ S.length ∧ S.length - jj ≤ gg ∧ v38 = .int .i64 (jj : Int) ∧ Aside0 (Below w9.heap.size w9 w') ∧ Aside0 (Below wS.heap.size wS w'))
            case atStart => exact ⟨0, Nat.zero_le _, by omega, rfl, ⟨(by repeat (first | (with_reducible first | exact HB.out | apply below_alloc | apply pw_below_drewN | apply below_drew1) | exact HB.out))⟩, ⟨(by repeat (first | (with_reducible first | exact HS.out | apply below_alloc | apply pw_below_drewN | apply below_drew1) | exact HS.out))⟩⟩
            case round =>
              clear HB HS
              obtain ⟨jj, hjj, hgj, rfl, HB, HS⟩ := hrel
              by_cases hltj : jj < S.length
              · have hltzj : (jj : Int) < (S.length : Int) := by omega
                have hk1 : wrap64 ((jj : Int) + 1) = ((jj + 1 : Nat) : Int) := by unfold wrap64; omega
                obtain ⟨kr, tr⟩ := HRS.out jj hltj
                have TR := Aside0.mk tr
                obtain ⟨ad3, e3, hx3⟩ := at_u16 (RS.out _ HS.out) jj hltj
                cases e3
                clear tr
                generalize hzz : rd S (jj : Int) = zz at hx3 TR
                clear hltj hjj hk2 hltz hlt hii hg HLT HRS TS TT RL CL RE CE W9 hzz hz
                go_wp2_with (go_at_call 22; refine (impl_ReadStitches.calls kr n (some ad) ch G zz (ii : Int) 0 _ (RH.out _ (by repeat (first | (with_reducible first | exact HB.out | apply below_alloc | apply pw_below_drewN | apply below_drew1) | exact HB.out))) CH.out TR.out).mono ?_; rintro e w4 ⟨rfl, hb⟩; have n_HS := Aside0.mk (below_step (by repeat (first | (with_reducible first | exact HS.out | apply below_alloc | apply pw_below_drewN | apply below_drew1) | exact HS.out)) hb); clear HS; have HS := n_HS; clear n_HS; have n_HB := Aside0.mk (below_step (by repeat (first | (with_reducible first | exact HB.out | apply below_alloc | apply pw_below_drewN | apply below_drew1) | exact HB.out)) hb); clear HB hb; have HB := n_HB; clear n_HB; clear hx3)
                go_roundg (S.length - (jj + 1))
                case measure => omega
                case rel => exact ⟨jj + 1, by omega, by omega, by first | rfl | rw [hk1], HB, HS⟩
              · have hltzj : ¬ (jj : Int) < (S.length : Int) := by omega
                have HLT2 := HLT.out
                go_wp2
                go_roundg (G.length - (ii + 1))
                case measure => omega
                case rel => exact ⟨ii + 1, by omega, by omega, by first | rfl | rw [hk2], HB⟩
          · have dpos : decide (0 < (ii : Int)) = false := decide_eq_false (by omega)
            clear hdec
            generalize hz : rd G (ii : Int) = z at hx AT TS
            go_upto_region 31 with (go_at_call 11; refine (spec_LostFrom.calls kS n z S 0 _ TS.out).mono ?_; rintro e wS ⟨v2, rfl, hR, hb⟩; obtain ⟨At, ct, rfl⟩ := Kd.R_slice hR; have RS := Aside0.mk (fun (w' : World) (hb2 : Below wS.heap.size wS w') => Kd.C_below (Kd.R_reads' hR).2.2 hb2); clear hR hx; have n_HB := Aside0.mk (below_step (by repeat (first | (with_reducible first | exact HB.out | apply below_alloc | apply pw_below_drewN | apply below_drew1) | exact HB.out)) hb); clear HB hb; have HB := n_HB; clear n_HB; have HS := Aside0.mk (Below.refl wS.heap.size wS); have hx := AT.out _ HB.out)
            repeat (go_quiet (fail))
            go_wp2
            clear dpos AT cpos hx
            go_loopg [38] S.length (fun gg v38 w' => ∃ (jj : Nat), jj ≤ S.length ∧ S.length - jj ≤ gg ∧ v38 = .int .i64 (jj : Int) ∧ Aside0 (Below w9.heap.size w9 w') ∧ Aside0 (Below wS.heap.size wS w'))
            case atStart => exact ⟨0, Nat.zero_le _, by omega, rfl, ⟨(by repeat (first | (with_reducible first | exact HB.out | apply below_alloc | apply pw_below_drewN | apply below_drew1) | exact HB.out))⟩, ⟨(by repeat (first | (with_reducible first | exact HS.out | apply below_alloc | apply pw_below_drewN | apply below_drew1) | exact HS.out))⟩⟩
            case round =>
              clear HB HS
              obtain ⟨jj, hjj, hgj, rfl, HB, HS⟩ := hrel
              by_cases hltj : jj < S.length
              · have hltzj : (jj : Int) < (S.length : Int) := by omega
                have hk1 : wrap64 ((jj : Int) + 1) = ((jj + 1 : Nat) : Int) := by unfold wrap64; omega
                obtain ⟨kr, tr⟩ := HRS.out jj hltj
                have TR := Aside0.mk tr
                obtain ⟨ad3, e3, hx3⟩ := at_u16 (RS.out _ HS.out) jj hltj
                cases e3
                clear tr
                generalize hzz : rd S (jj : Int) = zz at hx3 TR
                clear hltj hjj hk2 hltz hlt hii hg HLT HRS TS TT RL CL RE CE W9 hzz hz
                go_wp2_with (go_at_call 22; refine (impl_ReadStitches.calls kr n (some ad) ch G zz (ii : Int) 0 _ (RH.out _ (by repeat (first | (with_reducible first | exact HB.out | apply below_alloc | apply pw_below_drewN | apply below_drew1) | exact HB.out))) CH.out TR.out).mono ?_; rintro e w4 ⟨rfl, hb⟩; have n_HS := Aside0.mk (below_step (by repeat (first | (with_reducible first | exact HS.out | apply below_alloc | apply pw_below_drewN | apply below_drew1) | exact HS.out)) hb); clear HS; have HS := n_HS; clear n_HS; have n_HB := Aside0.mk (below_step (by repeat (first | (with_reducible first | exact HB.out | apply below_alloc | apply pw_below_drewN | apply below_drew1) | exact HB.out)) hb); clear HB hb; have HB := n_HB; clear n_HB; clear hx3)
                go_roundg (S.length - (jj + 1))
                case measure => omega
                case rel => exact ⟨jj + 1, by omega, by omega, by first | rfl | rw [hk1], HB, HS⟩
              · have hltzj : ¬ (jj : Int) < (S.length : Int) := by omega
                have HLT2 := HLT.out
                go_wp2
                go_roundg (G.length - (ii + 1))
                case measure => omega
                case rel => exact ⟨ii + 1, by omega, by omega, by first | rfl | rw [hk2], HB⟩
        · have hltz : ¬ (ii : Int) < (G.length : Int) := by omega
          clear hlt hg hii
          obtain ⟨kcf, fu, tcf, hfu⟩ := TT.out.further
          obtain ⟨H, hH⟩ : ∃ H : List Int, H = G ++ [m] := ⟨_, rfl⟩
          rw [← hH] at tcf
          have HH := Aside0.mk hH
          have TCF := Aside0.mk tcf
          have GL := Aside0.mk TT.out.glen
          have hrest := TT.out.rest.resolve_left (by decide)
          clear hH tcf TT RE CE
          by_cases cm : (G.length : Int) < most
          · have dm : decide ((G.length : Int) < most) = true := decide_eq_true cm
            obtain rfl := hfu cm
            clear hfu cm
            obtain ⟨hap, p, q, S1, S2, v, rfl, rfl, hpq, hq, ⟨ke1, te1⟩, ⟨ke2, te2⟩, hS1, hhas, hany, ⟨kl, tl⟩⟩ := hrest
            clear hap
            have TE1 := Aside0.mk te1
            have TE2 := Aside0.mk te2
            have TLL := Aside0.mk tl
            have HHAS := Aside0.mk hhas
            have HANY := Aside0.mk hany
            have dpq : decide ((p : Int) < (q : Int)) = true := decide_eq_true (by omega)
            have hplt : (p : Int) < (LS.length : Int) := by omega
            have hqlt : (q : Int) < (LS.length : Int) := by omega
            obtain ⟨ad, e, hxp⟩ := at_u16 (RL.out _ (by repeat (first | (with_reducible first | exact HB.out | apply below_alloc | apply pw_below_drewN | apply below_drew1) | exact HB.out))) p (by omega)
            cases e
            have ATp := Aside0.mk (fun (w' : World) (hb : Below w9.heap.size w9 w') => (by obtain ⟨ad2, e2, h2⟩ := at_u16 (RL.out w' hb) p (by omega); cases e2; exact h2 : w'.cell? (ad.add p) = some (.int .u16 (rd LS (p : Int)))))
            have ATq := Aside0.mk (fun (w' : World) (hb : Below w9.heap.size w9 w') => (by obtain ⟨ad2, e2, h2⟩ := at_u16 (RL.out w' hb) q (by omega); cases e2; exact h2 : w'.cell? (ad.add q) = some (.int .u16 (rd LS (q : Int)))))
            clear hxp
            generalize hzp : rd LS (p : Int) = zp at ATp TE1
            generalize hzq : rd LS (q : Int) = zq at ATq TE2
            clear hzp hzq
            have ST0 := Aside0.mk True.intro
            clear te1 te2 tl hhas hany
            go_wp2_with (first
              | ((with_reducible refine gate_dst (N := 328) rfl ?_); (try (refine gate_guard (by rfl) ?_; dsimp only)); refine Kd.R_lit (Kd.int .u16) _ 26 ?hg (N := 328) ?hd (xs := ([] : List Int)) (inner := []) (ok := fun _ => True) (okp := fun _ => True) ?hr ?hp (fun _ hk => hk) trivial (Below.refl _ _) (Nat.le_refl _) (by simp) ?_; (case hd => rfl); (case hg => rfl); (case hr => first | (go_simp; done) | (go_simp; rfl)); (case hp => exact (Reps.none _ _)); intro v315 w137 ho138 hb hg_ hnew_; clear hg_ hnew_; have n1_ := Aside0.mk (Kd.R_lower ho138 (below_size (by repeat (first | (with_reducible first | exact HB.out | apply below_alloc | apply pw_below_drewN | apply below_drew1) | exact HB.out)))); clear ho138; have n_HB := Aside0.mk (below_step (by repeat (first | (with_reducible first | exact HB.out | apply below_alloc | apply pw_below_drewN | apply below_drew1) | exact HB.out)) hb); clear HB hb; have HB := n_HB; clear n_HB; have Y0 := n1_; clear n1_)
              | ((with_reducible refine gate_builtin (b := .append) (xs := #[.tmp 328, .tmp 329]) rfl ?_); (try (refine gate_guard (by rfl) ?_; dsimp only)); at_builtin; refine Kd.R_append_rows (Kd.int .u16) (w0 := w9) w9.heap.size rfl (.tmp 328) (.tmp 329) 28 26 (.int .u16 0) 2 rfl Try.underlying28 info26 rfl (by decide) (by omega) v315 [] G _ _ _ (fun _ => True) (fun _ => False) rfl rfl ?aO ?aR (fun _ _ h => h) (fun _ h => h.elim) ?aF ?aB ?aS ?aL ?_; (case aR => exact (RH.out _ (by repeat (first | (with_reducible first | exact HB.out | apply below_alloc | apply pw_below_drewN | apply below_drew1) | exact HB.out)))); (case aB => exact (by repeat (first | (with_reducible first | exact HB.out | apply below_alloc | apply pw_below_drewN | apply below_drew1) | exact HB.out))); (case aF => exact (fun _ _ => trivial)); (case aO => exact (by (with_reducible repeat (first | apply Kd.R_alloc | apply Kd.R_drewN | apply Kd.R_drew)); exact Y0.out)); (case aS => exact (below_size (by repeat (first | (with_reducible first | exact HB.out | apply below_alloc | apply pw_below_drewN | apply below_drew1) | exact HB.out)))); (case aL => have := GL.out; simp only [List.length_nil]; omega); intro v318 w139 ho hb hg hat; rw [List.nil_append] at ho; have Y1 := Aside0.mk ho; clear HB; have HB := Aside0.mk hb; clear ho hb hg hat Y0)
              | ((with_reducible refine gate_builtin (b := .append) (xs := #[.tmp 330, .tmp 332]) rfl ?_); (try (refine gate_guard (by rfl) ?_; dsimp only)); at_builtin; refine Kd.R_append (Kd.int .u16) (w0 := w9) w9.heap.size rfl (.tmp 330) (.tmp 332) 28 26 (.int .u16 0) 2 rfl Try.underlying28 info26 rfl (by decide) (by omega) v318 G m [.int .u16 m] (fun _ => True) (fun _ => False) rfl rfl ?aP (fun _ hk => hk.elim) ?aF ?aO ?aB ?aS ?aL ?_; (case aP => exact rfl); (case aB => exact (by repeat (first | (with_reducible first | exact HB.out | apply below_alloc | apply pw_below_drewN | apply below_drew1) | exact HB.out))); (case aF => exact (fun _ _ => trivial)); (case aO => exact (by (with_reducible repeat (first | apply Kd.R_alloc | apply Kd.R_drewN | apply Kd.R_drew)); exact Y1.out)); (case aS => exact (below_size (by repeat (first | (with_reducible first | exact HB.out | apply below_alloc | apply pw_below_drewN | apply below_drew1) | exact HB.out)))); (case aL => have := GL.out; omega); intro v321 w140 ho hb hg hat; rw [← HH.out] at ho; have Y2 := Aside0.mk ho; clear HB; have HB := Aside0.mk hb; clear ho hb hg hat Y1; obtain ⟨Ay, cy, ey⟩ := Kd.R_slice Y2.out; subst ey)
              | (go_at_call 12; refine (impl_CheckMarks.calls kcf n Ay cy H _ 0 _ (Kd.R_reads' (by (with_reducible repeat (first | apply Kd.R_alloc | apply Kd.R_drewN | apply Kd.R_drew)); exact Y2.out)).2.2 (Kd.R_reads' Y2.out).2.1 TCF.out).mono ?_; rintro e wk ⟨rfl, hb⟩; clear Y2; have n_HB := Aside0.mk (below_step (by repeat (first | (with_reducible first | exact HB.out | apply below_alloc | apply pw_below_drewN | apply below_drew1) | exact HB.out)) hb); clear HB hb; have HB := n_HB; clear n_HB; (try have hxp := ATp.out _ HB.out))
              | (have s_ := ST0; go_at_call 11; refine (spec_LostFrom.calls ke1 n zp S1 0 _ TE1.out).mono ?_; rintro e wp ⟨v1, rfl, hR, hb⟩; obtain ⟨As, cs, rfl⟩ := Kd.R_slice hR; have X1 := Aside0.mk hR; clear hR; have n_HB := Aside0.mk (below_step (by repeat (first | (with_reducible first | exact HB.out | apply below_alloc | apply pw_below_drewN | apply below_drew1) | exact HB.out)) hb); clear HB hb; have HB := n_HB; clear n_HB; clear hxp; have hxq := ATq.out _ HB.out; clear ST0 s_; have ST1 := Aside0.mk True.intro)
              | (have s_ := ST1; go_at_call 11; refine (spec_LostFrom.calls ke2 n zq S2 0 _ TE2.out).mono ?_; rintro e wq ⟨v2, rfl, hR, hb⟩; obtain ⟨At, ct, rfl⟩ := Kd.R_slice hR; have RS1 := Aside0.mk (fun (w' : World) (hb2 : Below wq.heap.size wq w') => Kd.C_below (Kd.R_reads' (Kd.R_below (by (with_reducible repeat (first | apply Kd.R_alloc | apply Kd.R_drewN | apply Kd.R_drew)); exact X1.out) hb)).2.2 hb2); have RS2 := Aside0.mk (fun (w' : World) (hb2 : Below wq.heap.size wq w') => Kd.C_below (Kd.R_reads' hR).2.2 hb2); have CS2 := Aside0.mk (Kd.R_reads' hR).2.1; clear hR hxq; have n_HB := Aside0.mk (below_step (by repeat (first | (with_reducible first | exact HB.out | apply below_alloc | apply pw_below_drewN | apply below_drew1) | exact HB.out)) hb); clear HB hb; have HB := n_HB; clear n_HB; clear X1 ST1 s_; have HQ := Aside0.mk (Below.refl wq.heap.size wq); have ST2 := Aside0.mk True.intro))
            obtain ⟨bf, hbf⟩ : ∃ bf : Nat → Bool, ∀ jj, bf jj = (S1.take jj).any fun s => S2.contains s := ⟨_, fun _ => rfl⟩
            have BF := Aside0.mk hbf
            clear hbf
            go_loopg [47, 48] S1.length (fun gg v47 v48 w' => ∃ (jj : Nat), jj ≤ S1.length ∧ S1.length - jj ≤ gg ∧ v47 = .bool (bf jj) ∧ v48 = .int .i64 (jj : Int) ∧ Aside0 (Below w9.heap.size w9 w') ∧ Aside0 (Below wq.heap.size wq w'))
            case atStart => exact ⟨0, Nat.zero_le _, by omega, by rw [BF.out]; rfl, rfl, HB, HQ⟩
            case round =>
              clear HB HQ
              obtain ⟨jj, hjj, hg, rfl, rfl, HB, HQ⟩ := hrel
              by_cases hlt : jj < S1.length
              · have hltz : (jj : Int) < (S1.length : Int) := by omega
                have hk1 : wrap64 ((jj : Int) + 1) = ((jj + 1 : Nat) : Int) := by unfold wrap64; omega
                have hnext : bf (jj + 1) = (bf jj || S2.contains (rd S1 (jj : Int))) := by
                  rw [BF.out, BF.out, List.take_succ_eq_append_getElem hlt, List.any_append, rd_of_lt S1 jj hlt]
                  simp
                cases hbq : bf jj with
                | true =>
                  rw [hbq, Bool.true_or] at hnext
                  have HN := Aside0.mk hnext
                  clear hnext hbq hjj hlt RL CL RH CH W9 GL TLL HANY HHAS RS1 RS2 CS2 ATp ATq dpq hplt hqlt hpq hq hS1 BF
                  go_wp2
                  go_roundg (S1.length - (jj + 1))
                  case measure => omega
                  case rel => exact ⟨jj + 1, by omega, by omega, by rw [HN.out], by first | rfl | rw [hk1], HB, HQ⟩
                | false =>
                  rw [hbq, Bool.false_or] at hnext
                  have HN := Aside0.mk hnext
                  obtain ⟨kh, th⟩ := HHAS.out jj hlt
                  have TH := Aside0.mk th
                  obtain ⟨ad3, e3, hx3⟩ := at_u16 (RS1.out _ HQ.out) jj hlt
                  cases e3
                  clear hnext hbq th hjj RL CL RH CH W9 GL TLL HANY HHAS ATp ATq dpq hplt hqlt hpq hq BF
                  generalize hzz : rd S1 (jj : Int) = zz at hx3 TH HN
                  generalize hcc : S2.contains zz = cc at TH HN
                  clear hzz hcc
                  go_wp2_with (go_at_call 23; refine (spec_A2HasMark.calls kh At ct S2 zz cc _ (RS2.out _ (by repeat (first | (with_reducible first | exact HQ.out | apply below_alloc | apply pw_below_drewN | apply below_drew1) | exact HQ.out))) CS2.out TH.out).mono ?_; rintro e w' ⟨rfl, ⟨nd, rfl⟩⟩)
                  go_roundg (S1.length - (jj + 1))
                  case measure => omega
                  case rel => exact ⟨jj + 1, by omega, by omega, by rw [HN.out], by first | rfl | rw [hk1], ⟨(by repeat (first | (with_reducible first | exact HB.out | apply below_alloc | apply pw_below_drewN | apply below_drew1) | exact HB.out))⟩, ⟨(by repeat (first | (with_reducible first | exact HQ.out | apply below_alloc | apply pw_below_drewN | apply below_drew1) | exact HQ.out))⟩⟩
              · have hltz : ¬ (jj : Int) < (S1.length : Int) := by omega
                obtain rfl : jj = S1.length := by omega
                have hfull : bf S1.length = true := by rw [BF.out, List.take_length]; exact HANY.out
                go_wp2_with (go_at_call 22; refine (impl_ReadStitches.calls kl n (some ad) cl LS m v 4 _ (RL.out _ (by repeat (first | (with_reducible first | exact HB.out | apply below_alloc | apply pw_below_drewN | apply below_drew1) | exact HB.out))) CL.out TLL.out).mono ?_; rintro e wz ⟨rfl, hb⟩; have n_HB := Aside0.mk (below_step (by repeat (first | (with_reducible first | exact HB.out | apply below_alloc | apply pw_below_drewN | apply below_drew1) | exact HB.out)) hb); clear HB hb; have HB := n_HB; clear n_HB)
                go_ret
                exact ⟨rfl, W9.out.trans (Below.mono (by repeat (first | (with_reducible first | exact HB.out | apply below_alloc | apply pw_below_drewN | apply below_drew1) | exact HB.out)) W9.out.size)⟩
          · have dm : decide ((G.length : Int) < most) = false := decide_eq_false cm
            clear hfu cm
            obtain ⟨hap, p, q, S1, S2, v, rfl, rfl, hpq, hq, ⟨ke1, te1⟩, ⟨ke2, te2⟩, hS1, hhas, hany, ⟨kl, tl⟩⟩ := hrest
            clear hap
            have TE1 := Aside0.mk te1
            have TE2 := Aside0.mk te2
            have TLL := Aside0.mk tl
            have HHAS := Aside0.mk hhas
            have HANY := Aside0.mk hany
            have dpq : decide ((p : Int) < (q : Int)) = true := decide_eq_true (by omega)
            have hplt : (p : Int) < (LS.length : Int) := by omega
            have hqlt : (q : Int) < (LS.length : Int) := by omega
            obtain ⟨ad, e, hxp⟩ := at_u16 (RL.out _ (by repeat (first | (with_reducible first | exact HB.out | apply below_alloc | apply pw_below_drewN | apply below_drew1) | exact HB.out))) p (by omega)
            cases e
            have ATp := Aside0.mk (fun (w' : World) (hb : Below w9.heap.size w9 w') => (by obtain ⟨ad2, e2, h2⟩ := at_u16 (RL.out w' hb) p (by omega); cases e2; exact h2 : w'.cell? (ad.add p) = some (.int .u16 (rd LS (p : Int)))))
            have ATq := Aside0.mk (fun (w' : World) (hb : Below w9.heap.size w9 w') => (by obtain ⟨ad2, e2, h2⟩ := at_u16 (RL.out w' hb) q (by omega); cases e2; exact h2 : w'.cell? (ad.add q) = some (.int .u16 (rd LS (q : Int)))))
            clear hxp
            generalize hzp : rd LS (p : Int) = zp at ATp TE1
            generalize hzq : rd LS (q : Int) = zq at ATq TE2
            clear hzp hzq
            have ST0 := Aside0.mk True.intro
            clear te1 te2 tl hhas hany
            go_wp2_with (first
              | ((with_reducible refine gate_dst (N := 328) rfl ?_); (try (refine gate_guard (by rfl) ?_; dsimp only)); refine Kd.R_lit (Kd.int .u16) _ 26 ?hg (N := 328) ?hd (xs := ([] : List Int)) (inner := []) (ok := fun _ => True) (okp := fun _ => True) ?hr ?hp (fun _ hk => hk) trivial (Below.refl _ _) (Nat.le_refl _) (by simp) ?_; (case hd => rfl); (case hg => rfl); (case hr => first | (go_simp; done) | (go_simp; rfl)); (case hp => exact (Reps.none _ _)); intro v315 w137 ho138 hb hg_ hnew_; clear hg_ hnew_; have n1_ := Aside0.mk (Kd.R_lower ho138 (below_size (by repeat (first | (with_reducible first | exact HB.out | apply below_alloc | apply pw_below_drewN | apply below_drew1) | exact HB.out)))); clear ho138; have n_HB := Aside0.mk (below_step (by repeat (first | (with_reducible first | exact HB.out | apply below_alloc | apply pw_below_drewN | apply below_drew1) | exact HB.out)) hb); clear HB hb; have HB := n_HB; clear n_HB; have Y0 := n1_; clear n1_)
              | ((with_reducible refine gate_builtin (b := .append) (xs := #[.tmp 328, .tmp 329]) rfl ?_); (try (refine gate_guard (by rfl) ?_; dsimp only)); at_builtin; refine Kd.R_append_rows (Kd.int .u16) (w0 := w9) w9.heap.size rfl (.tmp 328) (.tmp 329) 28 26 (.int .u16 0) 2 rfl Try.underlying28 info26 rfl (by decide) (by omega) v315 [] G _ _ _ (fun _ => True) (fun _ => False) rfl rfl ?aO ?aR (fun _ _ h => h) (fun _ h => h.elim) ?aF ?aB ?aS ?aL ?_; (case aR => exact (RH.out _ (by repeat (first | (with_reducible first | exact HB.out | apply below_alloc | apply pw_below_drewN | apply below_drew1) | exact HB.out)))); (case aB => exact (by repeat (first | (with_reducible first | exact HB.out | apply below_alloc | apply pw_below_drewN | apply below_drew1) | exact HB.out))); (case aF => exact (fun _ _ => trivial)); (case aO => exact (by (with_reducible repeat (first | apply Kd.R_alloc | apply Kd.R_drewN | apply Kd.R_drew)); exact Y0.out)); (case aS => exact (below_size (by repeat (first | (with_reducible first | exact HB.out | apply below_alloc | apply pw_below_drewN | apply below_drew1) | exact HB.out)))); (case aL => have := GL.out; simp only [List.length_nil]; omega); intro v318 w139 ho hb hg hat; rw [List.nil_append] at ho; have Y1 := Aside0.mk ho; clear HB; have HB := Aside0.mk hb; clear ho hb hg hat Y0)
              | ((with_reducible refine gate_builtin (b := .append) (xs := #[.tmp 330, .tmp 332]) rfl ?_); (try (refine gate_guard (by rfl) ?_; dsimp only)); at_builtin; refine Kd.R_append (Kd.int .u16) (w0 := w9) w9.heap.size rfl (.tmp 330) (.tmp 332) 28 26 (.int .u16 0) 2 rfl Try.underlying28 info26 rfl (by decide) (by omega) v318 G m [.int .u16 m] (fun _ => True) (fun _ => False) rfl rfl ?aP (fun _ hk => hk.elim) ?aF ?aO ?aB ?aS ?aL ?_; (case aP => exact rfl); (case aB => exact (by repeat (first | (with_reducible first | exact HB.out | apply below_alloc | apply pw_below_drewN | apply below_drew1) | exact HB.out))); (case aF => exact (fun _ _ => trivial)); (case aO => exact (by (with_reducible repeat (first | apply Kd.R_alloc | apply Kd.R_drewN | apply Kd.R_drew)); exact Y1.out)); (case aS => exact (below_size (by repeat (first | (with_reducible first | exact HB.out | apply below_alloc | apply pw_below_drewN | apply below_drew1) | exact HB.out)))); (case aL => have := GL.out; omega); intro v321 w140 ho hb hg hat; rw [← HH.out] at ho; have Y2 := Aside0.mk ho; clear HB; have HB := Aside0.mk hb; clear ho hb hg hat Y1; obtain ⟨Ay, cy, ey⟩ := Kd.R_slice Y2.out; subst ey)
              | (go_at_call 12; refine (impl_CheckMarks.calls kcf n Ay cy H _ 0 _ (Kd.R_reads' (by (with_reducible repeat (first | apply Kd.R_alloc | apply Kd.R_drewN | apply Kd.R_drew)); exact Y2.out)).2.2 (Kd.R_reads' Y2.out).2.1 TCF.out).mono ?_; rintro e wk ⟨rfl, hb⟩; clear Y2; have n_HB := Aside0.mk (below_step (by repeat (first | (with_reducible first | exact HB.out | apply below_alloc | apply pw_below_drewN | apply below_drew1) | exact HB.out)) hb); clear HB hb; have HB := n_HB; clear n_HB; (try have hxp := ATp.out _ HB.out))
              | (have s_ := ST0; go_at_call 11; refine (spec_LostFrom.calls ke1 n zp S1 0 _ TE1.out).mono ?_; rintro e wp ⟨v1, rfl, hR, hb⟩; obtain ⟨As, cs, rfl⟩ := Kd.R_slice hR; have X1 := Aside0.mk hR; clear hR; have n_HB := Aside0.mk (below_step (by repeat (first | (with_reducible first | exact HB.out | apply below_alloc | apply pw_below_drewN | apply below_drew1) | exact HB.out)) hb); clear HB hb; have HB := n_HB; clear n_HB; clear hxp; have hxq := ATq.out _ HB.out; clear ST0 s_; have ST1 := Aside0.mk True.intro)
              | (have s_ := ST1; go_at_call 11; refine (spec_LostFrom.calls ke2 n zq S2 0 _ TE2.out).mono ?_; rintro e wq ⟨v2, rfl, hR, hb⟩; obtain ⟨At, ct, rfl⟩ := Kd.R_slice hR; have RS1 := Aside0.mk (fun (w' : World) (hb2 : Below wq.heap.size wq w') => Kd.C_below (Kd.R_reads' (Kd.R_below (by (with_reducible repeat (first | apply Kd.R_alloc | apply Kd.R_drewN | apply Kd.R_drew)); exact X1.out) hb)).2.2 hb2); have RS2 := Aside0.mk (fun (w' : World) (hb2 : Below wq.heap.size wq w') => Kd.C_below (Kd.R_reads' hR).2.2 hb2); have CS2 := Aside0.mk (Kd.R_reads' hR).2.1; clear hR hxq; have n_HB := Aside0.mk (below_step (by repeat (first | (with_reducible first | exact HB.out | apply below_alloc | apply pw_below_drewN | apply below_drew1) | exact HB.out)) hb); clear HB hb; have HB := n_HB; clear n_HB; clear X1 ST1 s_; have HQ := Aside0.mk (Below.refl wq.heap.size wq); have ST2 := Aside0.mk True.intro))
            obtain ⟨bf, hbf⟩ : ∃ bf : Nat → Bool, ∀ jj, bf jj = (S1.take jj).any fun s => S2.contains s := ⟨_, fun _ => rfl⟩
            have BF := Aside0.mk hbf
            clear hbf
            go_loopg [47, 48] S1.length (fun gg v47 v48 w' => ∃ (jj : Nat), jj ≤ S1.length ∧ S1.length - jj ≤ gg ∧ v47 = .bool (bf jj) ∧ v48 = .int .i64 (jj : Int) ∧ Aside0 (Below w9.heap.size w9 w') ∧ Aside0 (Below wq.heap.size wq w'))
            case atStart => exact ⟨0, Nat.zero_le _, by omega, by rw [BF.out]; rfl, rfl, HB, HQ⟩
            case round =>
              clear HB HQ
              obtain ⟨jj, hjj, hg, rfl, rfl, HB, HQ⟩ := hrel
              by_cases hlt : jj < S1.length
              · have hltz : (jj : Int) < (S1.length : Int) := by omega
                have hk1 : wrap64 ((jj : Int) + 1) = ((jj + 1 : Nat) : Int) := by unfold wrap64; omega
                have hnext : bf (jj + 1) = (bf jj || S2.contains (rd S1 (jj : Int))) := by
                  rw [BF.out, BF.out, List.take_succ_eq_append_getElem hlt, List.any_append, rd_of_lt S1 jj hlt]
                  simp
                cases hbq : bf jj with
                | true =>
                  rw [hbq, Bool.true_or] at hnext
                  have HN := Aside0.mk hnext
                  clear hnext hbq hjj hlt RL CL RH CH W9 GL TLL HANY HHAS RS1 RS2 CS2 ATp ATq dpq hplt hqlt hpq hq hS1 BF
                  go_wp2
                  go_roundg (S1.length - (jj + 1))
                  case measure => omega
                  case rel => exact ⟨jj + 1, by omega, by omega, by rw [HN.out], by first | rfl | rw [hk1], HB, HQ⟩
                | false =>
                  rw [hbq, Bool.false_or] at hnext
                  have HN := Aside0.mk hnext
                  obtain ⟨kh, th⟩ := HHAS.out jj hlt
                  have TH := Aside0.mk th
                  obtain ⟨ad3, e3, hx3⟩ := at_u16 (RS1.out _ HQ.out) jj hlt
                  cases e3
                  clear hnext hbq th hjj RL CL RH CH W9 GL TLL HANY HHAS ATp ATq dpq hplt hqlt hpq hq BF
                  generalize hzz : rd S1 (jj : Int) = zz at hx3 TH HN
                  generalize hcc : S2.contains zz = cc at TH HN
                  clear hzz hcc
                  go_wp2_with (go_at_call 23; refine (spec_A2HasMark.calls kh At ct S2 zz cc _ (RS2.out _ (by repeat (first | (with_reducible first | exact HQ.out | apply below_alloc | apply pw_below_drewN | apply below_drew1) | exact HQ.out))) CS2.out TH.out).mono ?_; rintro e w' ⟨rfl, ⟨nd, rfl⟩⟩)
                  go_roundg (S1.length - (jj + 1))
                  case measure => omega
                  case rel => exact ⟨jj + 1, by omega, by omega, by rw [HN.out], by first | rfl | rw [hk1], ⟨(by repeat (first | (with_reducible first | exact HB.out | apply below_alloc | apply pw_below_drewN | apply below_drew1) | exact HB.out))⟩, ⟨(by repeat (first | (with_reducible first | exact HQ.out | apply below_alloc | apply pw_below_drewN | apply below_drew1) | exact HQ.out))⟩⟩
              · have hltz : ¬ (jj : Int) < (S1.length : Int) := by omega
                obtain rfl : jj = S1.length := by omega
                have hfull : bf S1.length = true := by rw [BF.out, List.take_length]; exact HANY.out
                go_wp2_with (go_at_call 22; refine (impl_ReadStitches.calls kl n (some ad) cl LS m v 4 _ (RL.out _ (by repeat (first | (with_reducible first | exact HB.out | apply below_alloc | apply pw_below_drewN | apply below_drew1) | exact HB.out))) CL.out TLL.out).mono ?_; rintro e wz ⟨rfl, hb⟩; have n_HB := Aside0.mk (below_step (by repeat (first | (with_reducible first | exact HB.out | apply below_alloc | apply pw_below_drewN | apply below_drew1) | exact HB.out)) hb); clear HB hb; have HB := n_HB; clear n_HB)
                go_ret
                exact ⟨rfl, W9.out.trans (Below.mono (by repeat (first | (with_reducible first | exact HB.out | apply below_alloc | apply pw_below_drewN | apply below_drew1) | exact HB.out)) W9.out.size)⟩
end Go.Proofs.Ytcmcdjnjlimeeaa.M
