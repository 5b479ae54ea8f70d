import Derived.Test.YthkccaclmodjiaazFLateI0
import Derived.Test.YthkccaclmodjiaazFLateI13
import Derived.Test.YthkccaclmodjiaazFLateI28
import Derived.Test.YthkccaclmodjiaazFLateI29
import Derived.Test.YthkccaclmodjiaazFLateI30
import Derived.Test.YthkccaclmodjiaazFLateI31
import Derived.Test.YthkccaclmodjiaazFLateI32
import Derived.Test.YthkccaclmodjiaazFLateI44
import Derived.Test.YthkccaclmodjiaazFLateEBLem1
import Derived.Test.YthkccaclmodjiaazFLateI54
import Derived.Test.YthkccaclmodjiaazFLateEOrders2
import Derived.Test.YthkccaclmodjiaazFLateEIron2
import Derived.Test.YthkccaclmodjiaazFLateEShort
import Derived.Test.YthkccaclmodjiaazFLateIS0
import Derived.Test.YthkccaclmodjiaazFLateISB
namespace Go.Proofs.Ythkccaclmodjiaa.I
open Go.RowKit Go.Proofs.YthkccaclmodjiaaW.PrintWords Go.Proofs.YthkccaclmodjiaaW.PrintLast Go.Proofs.YthkccaclmodjiaaW.PrintMore
attribute [local go_sem] max2_int min2_int max_two min_two max_three min_three max_four min_four   -- for this text's walks alone
set_option linter.unusedVariables false
set_option linter.unusedSimpArgs false
set_option maxHeartbeats 8000000 in
set_option maxRecDepth 100000 in
def laws_FnLate.callsC : PSigma fun P : Prop => Aside0 P → laws_FnLate.callsB.1 := by
 apply PSigma.mk
 case snd =>
  intro REST
  intro k A0 c0 l0 A1 c1 l1 r w hu27 hu57 HR0 HC0 HR1 HC1 zz0A zz1A zz2A u40 u41 u42 u43 u44 kj2 HJ2 t389 t390 A8 t392 A9 t395 t398 t399 A10 t400 t403 t404 A11 t405 t408 t409 A12 t410 t413 t414 A13 t415 t416 A14 t419 t420 A15 w17 gb391 w18 GW391 GE391 w20 Ao22 co22 w23 v396 w25 v401 w27 v406 w29 v411 w30 v417 w31 v421 HO394 HO397 HO402 HO407 HO412 HO418 HO422 zz0B zz1B wc u80 u81 u82 u83 u84 u85 u86 u87 u88 u89 u90 u91 u92 u93 u94 u95 u96 u97 u98 u99 u100 u101 u102 u103 u104 u105 u106 u107 u108 u109 u110 u111 u112 u113 u114 u115 u116 u117 u118 u119 u120 u121 u122 u123 u124 u125 u126 u127 u128 u129 u130 u131 u132 u133 u134 u135 u136 u137 u138 u139 u140 u141 u142 u143 u144 u145 u146 u147 u148 u149 u150 u151 u152 u153 u154 u155 u156 u157 u158 u159 u160 u161 u162 u163 u164 u165 u166 u167 HO_6 HO_10 HO_16 HO_21 BK391 HB kj15 HJ15 H' zz2B zz3B gk wr u4 u23 u24 u25 u169 u170 u171 u172 u173 u174 u175 u176 u177 u178 u179 u180 u181 u182 u183 u184 u185 u186 u187 u188 u189 u190 u191 u192 u193 u194 u195 u196 u197 u198 u199 u200 u201 u202 u203 u204 u205 u206 u207 u208 u209 u210 u211 u212 u213 hrel zz4B zz5B zz6B zz7B
  clear H'
  try clear c1
  try clear p2
  try clear c3
  try clear c4
  try clear c5
  try clear c6
  try clear c7
  try clear c10
  try clear c18
  try clear c32
  try clear c32b0
  try clear c32b1
  try clear c33
  try clear c33b0
  try clear c33b1
  try clear c35
  try clear c36
  try clear c36b0
  try clear c36b1
  try clear c37
  try clear c37b0
  try clear c37b1
  try clear c38
  try clear c38b0
  try clear c38b1
  try clear c40
  try clear c41
  try clear c41b0
  try clear c41b1
  try clear c42
  try clear c42b0
  try clear c42b1
  try clear c43
  try clear c43b0
  try clear c43b1
  try clear c45
  try clear c46
  try clear c46b0
  try clear c46b1
  try clear c46b2
  try clear c47
  try clear c47b0
  try clear c47b1
  try clear c47b2
  try clear c48
  try clear c48b0
  try clear c48b1
  try clear c48b2
  try clear c54
  try clear c55
  try clear c56
  try clear c57
  try clear c58
  try clear c59
  try clear c60
  try clear c103
  try clear hcz19_0
  try clear hcz19_1
  try clear hcz21_0
  try clear hcz21_1
  try clear hcz24_0
  try clear hcz24_1
  try clear hcz26_0
  try clear hcz26_1
  try clear hcz28_0
  try clear hcz28_1
  try clear hfz19_0
  try clear hfz19_1
  try clear hfz21_0
  try clear hfz21_1
  try clear hfz24_0
  try clear hfz24_1
  try clear hfz26_0
  try clear hfz26_1
  try clear hfz28_0
  try clear hfz28_1
  try clear p2
  obtain ⟨x23_3, rfl, HA, HK3, HO_6, HO_10, HO_16, HO_21, BK391, HB⟩ := hrel
  cases gk with
  | zero => exact absurd HA.out (by simp [laws_FnLate.l0])
  | succ k3 =>
   have H := HA.out
   clear HA
   simp only [laws_FnLate.l0] at H
   by_cases c104 : x23_3 < (t419.length : Int)
   · rw [if_pos c104] at H
     have c104b0 : decide (x23_3 < (t419.length : Int)) = true := decide_eq_true c104
     clear c104
     obtain ⟨ji105, hji105⟩ : ∃ j_ : Int, (wrap64 (x23_3 - 1)) = j_ := ⟨_, rfl⟩
     replace H : (if 0 ≤ (ji105) then (if (ji105) < (t419.length : Int) then (if 0 ≤ (rd t419 (ji105)) then (if (rd t419 (ji105)) < (t392.length : Int) then (if 0 ≤ x23_3 then (if 0 ≤ (rd t419 x23_3) then (if (rd t419 x23_3) < (t392.length : Int) then (if ((rd_T57 t392 (rd t419 (ji105))).f2) > ((rd_T57 t392 (rd t419 x23_3)).f2) then (some false) else (if ((rd_T57 t392 (rd t419 (ji105))).f2) = ((rd_T57 t392 (rd t419 x23_3)).f2) then (if (rd t419 (ji105)) > (rd t419 x23_3) then (some false) else (laws_FnLate.l0 k3 l0 t392 t400 t403 t410 t413 t419 (wrap64 (x23_3 + 1)) t389 t390)) else (laws_FnLate.l0 k3 l0 t392 t400 t403 t410 t413 t419 (wrap64 (x23_3 + 1)) t389 t390))) else (none)) else (none)) else (none)) else (none)) else (none)) else (none)) else (none)) = some true := by first | (rw [hji105] at H; exact H) | (simp only [hji105] at H ⊢; exact H)
     have hji105w : (IntKind.i64.wrap (x23_3 - 1)) = ji105 := (i64_w _).trans hji105
     by_cases c106 : 0 ≤ (ji105)
     · rw [if_pos c106] at H
       have c106b0 : decide (0 ≤ (ji105)) = true := decide_eq_true c106
       clear c106
       by_cases c107 : (ji105) < (t419.length : Int)
       · rw [if_pos c107] at H
         have c107b0 : decide ((ji105) < (t419.length : Int)) = true := decide_eq_true c107
         clear c107
         by_cases c108 : 0 ≤ (rd t419 (ji105))
         · rw [if_pos c108] at H
           have c108b0 : decide (0 ≤ (rd t419 (ji105))) = true := decide_eq_true c108
           clear c108
           by_cases c109 : (rd t419 (ji105)) < (t392.length : Int)
           · rw [if_pos c109] at H
             have c109b0 : decide ((rd t419 (ji105)) < (t392.length : Int)) = true := decide_eq_true c109
             clear c109
             by_cases c110 : 0 ≤ x23_3
             · rw [if_pos c110] at H
               have c110b0 : decide (0 ≤ x23_3) = true := decide_eq_true c110
               clear c110
               by_cases c111 : 0 ≤ (rd t419 x23_3)
               · rw [if_pos c111] at H
                 have c111b0 : decide (0 ≤ (rd t419 x23_3)) = true := decide_eq_true c111
                 clear c111
                 by_cases c112 : (rd t419 x23_3) < (t392.length : Int)
                 · rw [if_pos c112] at H
                   have c112b0 : decide ((rd t419 x23_3) < (t392.length : Int)) = true := decide_eq_true c112
                   clear c112
                   by_cases c113 : ((rd_T57 t392 (rd t419 (ji105))).f2) > ((rd_T57 t392 (rd t419 x23_3)).f2)
                   · rw [if_pos c113] at H
                     have c113b0 : decide (((rd_T57 t392 (rd t419 x23_3)).f2) < ((rd_T57 t392 (rd t419 (ji105))).f2)) = true := decide_eq_true c113
                     clear c113
                     exact absurd H (by simp)
                   · rw [if_neg c113] at H
                     have c113b0 : decide (((rd_T57 t392 (rd t419 x23_3)).f2) < ((rd_T57 t392 (rd t419 (ji105))).f2)) = false := decide_eq_false c113
                     clear c113
                     by_cases c124 : ((rd_T57 t392 (rd t419 (ji105))).f2) = ((rd_T57 t392 (rd t419 x23_3)).f2)
                     · rw [if_pos c124] at H
                       have c124b0 : (((rd_T57 t392 (rd t419 (ji105))).f2) == ((rd_T57 t392 (rd t419 x23_3)).f2)) = true := beq_iff_eq.mpr c124
                       have c124b1 : (((rd_T57 t392 (rd t419 (ji105))).f2) != ((rd_T57 t392 (rd t419 x23_3)).f2)) = false := bne_eq_false_iff_eq.mpr c124
                       clear c124
                       by_cases c125 : (rd t419 (ji105)) > (rd t419 x23_3)
                       · rw [if_pos c125] at H
                         have c125b0 : decide ((rd t419 x23_3) < (rd t419 (ji105))) = true := decide_eq_true c125
                         clear c125
                         exact absurd H (by simp)
                       · rw [if_neg c125] at H
                         have c125b0 : decide ((rd t419 x23_3) < (rd t419 (ji105))) = false := decide_eq_false c125
                         clear c125
                         have H' := Aside0.mk H
                         clear H
                         obtain ⟨Ao136, co136, eo136⟩ := Kd.R_slice HO_21.out
                         subst eo136
                         have p426 : 0 ≤ ((ji105) : Int) := dtB
                         have q426 : (ji105) < (t419.length : Int) := dtB
                         obtain ⟨ad426, e426, hx426_0⟩ := Kd.at_int (Kd.R_reads' HO_21.out).2.2 (ji105) p426 q426
                         cases e426
                         replace p426 := eq_true p426
                         replace q426 := eq_true q426
                         have p427 : 0 ≤ ((rd t419 (ji105)) : Int) := dtB
                         have q427 : (rd t419 (ji105)) < (t392.length : Int) := dtB
                         obtain ⟨ad427, e427, hx427_0, hx427_1, hx427_2⟩ := at_T57 (Kd.R_reads' HO_6.out).2.2 (rd t419 (ji105)) p427 q427
                         cases e427
                         replace p427 := eq_true p427
                         replace q427 := eq_true q427
                         try go_wp2_with (first | ((with_reducible refine gate_dst (N := 24) rfl ?_); (try (refine gate_guard (by rfl) ?_; dsimp only)); refine box_event ?hg (N := 24) ?hd (cs := #[.int .i8 0, .int .i8 0, .int .i16 0]) (t := 57) ?hr ?_; (case hd => rfl); (case hg => rfl); (case hr => first | (go_simp; done) | (go_simp; rfl)); intro gb428 hg w137 hbox hb; have n0_ := Aside0.mk (Kd.R_below (Kd.R_elderB (mvR HO_6) gb428 (Nat.le_of_eq hg.symm)) hb); have n1_ := Aside0.mk (Kd.R_below (mvR HO_10) hb); have n2_ := Aside0.mk (Kd.R_below (mvR HO_16) hb); have n3_ := Aside0.mk (Kd.R_below (mvR HO_21) hb); have n4_ := Aside0.mk (blk_below (g := gb391) (o := .cells #[.int .i8 t389, .int .i8 t390] 27 (0, 0)) (by (with_reducible repeat (first | refine blk_drewN ?_ _ | refine blk_drew ?_ | refine blk_alloc ?_ _)); exact BK391.out) hb); have n5_ := Aside0.mk (below_step (by repeat (first | (with_reducible first | exact HB.out | apply below_alloc | apply pw_below_drewN | apply below_drew1 | refine below_set ?_ GE391.out) | exact HB.out)) hb); have n6_ := Aside0.mk (hbox); have n7_ := Aside0.mk ((by rw [hg]; exact (below_size (by repeat (first | (with_reducible first | exact HB.out | apply below_alloc | apply pw_below_drewN | apply below_drew1 | refine below_set ?_ GE391.out) | exact HB.out))) : w.heap.size ≤ gb428)); have n8_ := Aside0.mk ((by rw [hg]; exact (below_size (by repeat (first | (with_reducible first | exact HB.out | apply below_alloc | apply pw_below_drewN | apply below_drew1 | refine below_set ?_ GE391.out) | exact HB.out))) : w.heap.size ≤ gb428)); have n9_ := Aside0.mk ((by rw [hg]; exact Nat.ne_of_lt (blk_lt (g := gb391) (o := .cells #[.int .i8 t389, .int .i8 t390] 27 (0, 0)) (by (with_reducible repeat (first | refine blk_drewN ?_ _ | refine blk_drew ?_ | refine blk_alloc ?_ _)); exact BK391.out)) : gb391 ≠ gb428)); have n10_ := Aside0.mk ((by rw [hg]; exact Nat.ne_of_gt (blk_lt (g := gb391) (o := .cells #[.int .i8 t389, .int .i8 t390] 27 (0, 0)) (by (with_reducible repeat (first | refine blk_drewN ?_ _ | refine blk_drew ?_ | refine blk_alloc ?_ _)); exact BK391.out)) : gb428 ≠ gb391)); clear HO_6; clear HO_10; clear HO_16; clear HO_21; clear BK391; clear HB; have HO_6 := n0_; have HO_10 := n1_; have HO_16 := n2_; have HO_21 := n3_; have BK391 := n4_; have HB := n5_; have BK428 := n6_; have GW428 := n7_; have GE428 := n8_; have NB391_428 := n9_; have NB428_391 := n10_; clear n0_ n1_ n2_ n3_ n4_ n5_ n6_ n7_ n8_ n9_ n10_; clear hb hbox hg; have hnb138 := NB428_391.out; have hnc138 := NB391_428.out; have hcz139_0 : w137.cell? ⟨gb428, 0, none⟩ = some (.int .i8 0) := (blk_cell BK428.out 0).trans rfl; have hcz139_1 : w137.cell? ⟨gb428, 1, none⟩ = some (.int .i8 0) := (blk_cell BK428.out 1).trans rfl; have hcz139_2 : w137.cell? ⟨gb428, 2, none⟩ = some (.int .i16 0) := (blk_cell BK428.out 2).trans rfl; have hfz139_0 := blk_frozen BK428.out 0; have hfz139_1 := blk_frozen BK428.out 1; have hfz139_2 := blk_frozen BK428.out 2; have p429 : 0 ≤ (x23_3 : Int) := dtB; have q429 : x23_3 < (t419.length : Int) := dtB; obtain ⟨ad429, e429, hx429_0⟩ := Kd.at_int (Kd.R_reads' HO_21.out).2.2 x23_3 p429 q429; obtain rfl : ad426 = ad429 := (by injection e429); have hn429_0 : ad426.block ≠ gb428 := Kd.own_blk (Kd.R_ne HO_21.out BK428.out (by decide)); have hn429_1 : ad426.block ≠ gb428 := Kd.own_blk (Kd.R_ne HO_21.out BK428.out (by decide)); have hn429_2 : ad426.block ≠ gb428 := Kd.own_blk (Kd.R_ne HO_21.out BK428.out (by decide)); replace hx429_0 := (cell_far (p := ⟨gb428, 0, none⟩) (by first | (rw [add_block]; exact hn429_0) | (show (Addr.add _ _).block ≠ _; rw [add_block]; exact hn429_0) | exact hn429_0) (.int .i8 ((rd_T57 t392 (rd t419 (ji105))).f0))).trans hx429_0; replace hx429_0 := (cell_far (p := ⟨gb428, 1, none⟩) (by first | (rw [add_block]; exact hn429_1) | (show (Addr.add _ _).block ≠ _; rw [add_block]; exact hn429_1) | exact hn429_1) (.int .i8 ((rd_T57 t392 (rd t419 (ji105))).f1))).trans hx429_0; replace hx429_0 := (cell_far (p := ⟨gb428, 2, none⟩) (by first | (rw [add_block]; exact hn429_2) | (show (Addr.add _ _).block ≠ _; rw [add_block]; exact hn429_2) | exact hn429_2) (.int .i16 ((rd_T57 t392 (rd t419 (ji105))).f2))).trans hx429_0; clear hn429_0; clear hn429_1; clear hn429_2; replace p429 := eq_true p429; replace q429 := eq_true q429; have p430 : 0 ≤ ((rd t419 x23_3) : Int) := dtB; have q430 : (rd t419 x23_3) < (t392.length : Int) := dtB; obtain ⟨ad430, e430, hx430_0, hx430_1, hx430_2⟩ := at_T57 (Kd.R_reads' HO_6.out).2.2 (rd t419 x23_3) p430 q430; obtain rfl : ad427 = ad430 := (by injection e430); have hn430_0 : ad427.block ≠ gb428 := Kd.own_blk (Kd.R_away HO_6.out (fun _ hk => hk.2)); have hn430_1 : ad427.block ≠ gb428 := Kd.own_blk (Kd.R_away HO_6.out (fun _ hk => hk.2)); have hn430_2 : ad427.block ≠ gb428 := Kd.own_blk (Kd.R_away HO_6.out (fun _ hk => hk.2)); replace hx430_0 := (cell_far (p := ⟨gb428, 0, none⟩) (by first | (rw [add_block]; exact hn430_0) | (show (Addr.add _ _).block ≠ _; rw [add_block]; exact hn430_0) | exact hn430_0) (.int .i8 ((rd_T57 t392 (rd t419 (ji105))).f0))).trans hx430_0; replace hx430_1 := (cell_far (p := ⟨gb428, 0, none⟩) (by first | (rw [add_block]; exact hn430_0) | (show (Addr.add _ _).block ≠ _; rw [add_block]; exact hn430_0) | exact hn430_0) (.int .i8 ((rd_T57 t392 (rd t419 (ji105))).f0))).trans hx430_1; replace hx430_2 := (cell_far (p := ⟨gb428, 0, none⟩) (by first | (rw [add_block]; exact hn430_0) | (show (Addr.add _ _).block ≠ _; rw [add_block]; exact hn430_0) | exact hn430_0) (.int .i8 ((rd_T57 t392 (rd t419 (ji105))).f0))).trans hx430_2; replace hx430_0 := (cell_far (p := ⟨gb428, 1, none⟩) (by first | (rw [add_block]; exact hn430_1) | (show (Addr.add _ _).block ≠ _; rw [add_block]; exact hn430_1) | exact hn430_1) (.int .i8 ((rd_T57 t392 (rd t419 (ji105))).f1))).trans hx430_0; replace hx430_1 := (cell_far (p := ⟨gb428, 1, none⟩) (by first | (rw [add_block]; exact hn430_1) | (show (Addr.add _ _).block ≠ _; rw [add_block]; exact hn430_1) | exact hn430_1) (.int .i8 ((rd_T57 t392 (rd t419 (ji105))).f1))).trans hx430_1; replace hx430_2 := (cell_far (p := ⟨gb428, 1, none⟩) (by first | (rw [add_block]; exact hn430_1) | (show (Addr.add _ _).block ≠ _; rw [add_block]; exact hn430_1) | exact hn430_1) (.int .i8 ((rd_T57 t392 (rd t419 (ji105))).f1))).trans hx430_2; replace hx430_0 := (cell_far (p := ⟨gb428, 2, none⟩) (by first | (rw [add_block]; exact hn430_2) | (show (Addr.add _ _).block ≠ _; rw [add_block]; exact hn430_2) | exact hn430_2) (.int .i16 ((rd_T57 t392 (rd t419 (ji105))).f2))).trans hx430_0; replace hx430_1 := (cell_far (p := ⟨gb428, 2, none⟩) (by first | (rw [add_block]; exact hn430_2) | (show (Addr.add _ _).block ≠ _; rw [add_block]; exact hn430_2) | exact hn430_2) (.int .i16 ((rd_T57 t392 (rd t419 (ji105))).f2))).trans hx430_1; replace hx430_2 := (cell_far (p := ⟨gb428, 2, none⟩) (by first | (rw [add_block]; exact hn430_2) | (show (Addr.add _ _).block ≠ _; rw [add_block]; exact hn430_2) | exact hn430_2) (.int .i16 ((rd_T57 t392 (rd t419 (ji105))).f2))).trans hx430_2; clear hn430_0; clear hn430_1; clear hn430_2; replace p430 := eq_true p430; replace q430 := eq_true q430) | ((with_reducible refine gate_dst (N := 25) rfl ?_); (try (refine gate_guard (by rfl) ?_; dsimp only)); refine box_event ?hg (N := 25) ?hd (cs := #[.int .i8 0, .int .i8 0, .int .i16 0]) (t := 57) ?hr ?_; (case hd => rfl); (case hg => rfl); (case hr => first | (go_simp; done) | (go_simp; rfl)); intro gb431 hg w140 hbox hb; have n0_ := Aside0.mk (Kd.R_below (Kd.R_elderB (by (with_reducible repeat (first | apply Kd.R_alloc | apply Kd.R_drewN | apply Kd.R_drew)); exact (Kd.R_mono (Kd.R_far (p := ⟨gb428, 2, none⟩) (Kd.R_far (p := ⟨gb428, 1, none⟩) (Kd.R_far (p := ⟨gb428, 0, none⟩) (Kd.R_mono HO_6.out (fun k_ hk => (⟨hk, hk.2⟩ : _ ∧ k_ ≠ gb428))) (fun _ hk => hk.2) (.int .i8 ((rd_T57 t392 (rd t419 (ji105))).f0))) (fun _ hk => hk.2) (.int .i8 ((rd_T57 t392 (rd t419 (ji105))).f1))) (fun _ hk => hk.2) (.int .i16 ((rd_T57 t392 (rd t419 (ji105))).f2))) (fun _ h_ => h_.1))) gb431 (Nat.le_of_eq hg.symm)) hb); have n1_ := Aside0.mk (Kd.R_below (by (with_reducible repeat (first | apply Kd.R_alloc | apply Kd.R_drewN | apply Kd.R_drew)); exact (Kd.R_mono (Kd.R_far (p := ⟨gb428, 2, none⟩) (Kd.R_far (p := ⟨gb428, 1, none⟩) (Kd.R_far (p := ⟨gb428, 0, none⟩) (Kd.R_types HO_10.out BK428.out (by decide)) (fun _ hk => hk.2) (.int .i8 ((rd_T57 t392 (rd t419 (ji105))).f0))) (fun _ hk => hk.2) (.int .i8 ((rd_T57 t392 (rd t419 (ji105))).f1))) (fun _ hk => hk.2) (.int .i16 ((rd_T57 t392 (rd t419 (ji105))).f2))) (fun _ h_ => h_.1))) hb); have n2_ := Aside0.mk (Kd.R_below (by (with_reducible repeat (first | apply Kd.R_alloc | apply Kd.R_drewN | apply Kd.R_drew)); exact (Kd.R_mono (Kd.R_far (p := ⟨gb428, 2, none⟩) (Kd.R_far (p := ⟨gb428, 1, none⟩) (Kd.R_far (p := ⟨gb428, 0, none⟩) (Kd.R_types HO_16.out BK428.out (by decide)) (fun _ hk => hk.2) (.int .i8 ((rd_T57 t392 (rd t419 (ji105))).f0))) (fun _ hk => hk.2) (.int .i8 ((rd_T57 t392 (rd t419 (ji105))).f1))) (fun _ hk => hk.2) (.int .i16 ((rd_T57 t392 (rd t419 (ji105))).f2))) (fun _ h_ => h_.1))) hb); have n3_ := Aside0.mk (Kd.R_below (by (with_reducible repeat (first | apply Kd.R_alloc | apply Kd.R_drewN | apply Kd.R_drew)); exact (Kd.R_mono (Kd.R_far (p := ⟨gb428, 2, none⟩) (Kd.R_far (p := ⟨gb428, 1, none⟩) (Kd.R_far (p := ⟨gb428, 0, none⟩) (Kd.R_types HO_21.out BK428.out (by decide)) (fun _ hk => hk.2) (.int .i8 ((rd_T57 t392 (rd t419 (ji105))).f0))) (fun _ hk => hk.2) (.int .i8 ((rd_T57 t392 (rd t419 (ji105))).f1))) (fun _ hk => hk.2) (.int .i16 ((rd_T57 t392 (rd t419 (ji105))).f2))) (fun _ h_ => h_.1))) hb); have n4_ := Aside0.mk (blk_below (g := gb391) (o := .cells #[.int .i8 t389, .int .i8 t390] 27 (0, 0)) (by (with_reducible repeat (first | refine blk_drewN ?_ _ | refine blk_drew ?_ | refine blk_alloc ?_ _)); refine blk_far ?_ NB391_428.out _; (with_reducible repeat (first | refine blk_drewN ?_ _ | refine blk_drew ?_ | refine blk_alloc ?_ _)); refine blk_far ?_ NB391_428.out _; (with_reducible repeat (first | refine blk_drewN ?_ _ | refine blk_drew ?_ | refine blk_alloc ?_ _)); refine blk_far ?_ NB391_428.out _; (with_reducible repeat (first | refine blk_drewN ?_ _ | refine blk_drew ?_ | refine blk_alloc ?_ _)); exact BK391.out) hb); have n5_ := Aside0.mk (blk_below (g := gb428) (o := .cells #[.int .i8 ((rd_T57 t392 (rd t419 (ji105))).f0), .int .i8 ((rd_T57 t392 (rd t419 (ji105))).f1), .int .i16 ((rd_T57 t392 (rd t419 (ji105))).f2)] 57 (0, 0)) (by (with_reducible repeat (first | refine blk_drewN ?_ _ | refine blk_drew ?_ | refine blk_alloc ?_ _)); refine blk_put (cs := #[.int .i8 ((rd_T57 t392 (rd t419 (ji105))).f0), .int .i8 ((rd_T57 t392 (rd t419 (ji105))).f1), .int .i16 0]) ?_ 2 _ rfl; (with_reducible repeat (first | refine blk_drewN ?_ _ | refine blk_drew ?_ | refine blk_alloc ?_ _)); refine blk_put (cs := #[.int .i8 ((rd_T57 t392 (rd t419 (ji105))).f0), .int .i8 0, .int .i16 0]) ?_ 1 _ rfl; (with_reducible repeat (first | refine blk_drewN ?_ _ | refine blk_drew ?_ | refine blk_alloc ?_ _)); refine blk_put (cs := #[.int .i8 0, .int .i8 0, .int .i16 0]) ?_ 0 _ rfl; (with_reducible repeat (first | refine blk_drewN ?_ _ | refine blk_drew ?_ | refine blk_alloc ?_ _)); exact BK428.out) hb); have n6_ := Aside0.mk (below_step (by repeat (first | (with_reducible first | exact HB.out | apply below_alloc | apply pw_below_drewN | apply below_drew1 | refine below_set ?_ GE391.out | refine below_set ?_ GE428.out) | exact HB.out)) hb); have n7_ := Aside0.mk (hbox); have n8_ := Aside0.mk ((by rw [hg]; exact (below_size (by repeat (first | (with_reducible first | exact HB.out | apply below_alloc | apply pw_below_drewN | apply below_drew1 | refine below_set ?_ GE391.out | refine below_set ?_ GE428.out) | exact HB.out))) : w.heap.size ≤ gb431)); have n9_ := Aside0.mk ((by rw [hg]; exact (below_size (by repeat (first | (with_reducible first | exact HB.out | apply below_alloc | apply pw_below_drewN | apply below_drew1 | refine below_set ?_ GE391.out | refine below_set ?_ GE428.out) | exact HB.out))) : w.heap.size ≤ gb431)); have n10_ := Aside0.mk ((by rw [hg]; exact Nat.ne_of_lt (blk_lt (g := gb391) (o := .cells #[.int .i8 t389, .int .i8 t390] 27 (0, 0)) (by (with_reducible repeat (first | refine blk_drewN ?_ _ | refine blk_drew ?_ | refine blk_alloc ?_ _)); refine blk_far ?_ NB391_428.out _; (with_reducible repeat (first | refine blk_drewN ?_ _ | refine blk_drew ?_ | refine blk_alloc ?_ _)); refine blk_far ?_ NB391_428.out _; (with_reducible repeat (first | refine blk_drewN ?_ _ | refine blk_drew ?_ | refine blk_alloc ?_ _)); refine blk_far ?_ NB391_428.out _; (with_reducible repeat (first | refine blk_drewN ?_ _ | refine blk_drew ?_ | refine blk_alloc ?_ _)); exact BK391.out)) : gb391 ≠ gb431)); have n11_ := Aside0.mk ((by rw [hg]; exact Nat.ne_of_gt (blk_lt (g := gb391) (o := .cells #[.int .i8 t389, .int .i8 t390] 27 (0, 0)) (by (with_reducible repeat (first | refine blk_drewN ?_ _ | refine blk_drew ?_ | refine blk_alloc ?_ _)); refine blk_far ?_ NB391_428.out _; (with_reducible repeat (first | refine blk_drewN ?_ _ | refine blk_drew ?_ | refine blk_alloc ?_ _)); refine blk_far ?_ NB391_428.out _; (with_reducible repeat (first | refine blk_drewN ?_ _ | refine blk_drew ?_ | refine blk_alloc ?_ _)); refine blk_far ?_ NB391_428.out _; (with_reducible repeat (first | refine blk_drewN ?_ _ | refine blk_drew ?_ | refine blk_alloc ?_ _)); exact BK391.out)) : gb431 ≠ gb391)); have n12_ := Aside0.mk ((by rw [hg]; exact Nat.ne_of_lt (blk_lt (g := gb428) (o := .cells #[.int .i8 ((rd_T57 t392 (rd t419 (ji105))).f0), .int .i8 ((rd_T57 t392 (rd t419 (ji105))).f1), .int .i16 ((rd_T57 t392 (rd t419 (ji105))).f2)] 57 (0, 0)) (by (with_reducible repeat (first | refine blk_drewN ?_ _ | refine blk_drew ?_ | refine blk_alloc ?_ _)); refine blk_put (cs := #[.int .i8 ((rd_T57 t392 (rd t419 (ji105))).f0), .int .i8 ((rd_T57 t392 (rd t419 (ji105))).f1), .int .i16 0]) ?_ 2 _ rfl; (with_reducible repeat (first | refine blk_drewN ?_ _ | refine blk_drew ?_ | refine blk_alloc ?_ _)); refine blk_put (cs := #[.int .i8 ((rd_T57 t392 (rd t419 (ji105))).f0), .int .i8 0, .int .i16 0]) ?_ 1 _ rfl; (with_reducible repeat (first | refine blk_drewN ?_ _ | refine blk_drew ?_ | refine blk_alloc ?_ _)); refine blk_put (cs := #[.int .i8 0, .int .i8 0, .int .i16 0]) ?_ 0 _ rfl; (with_reducible repeat (first | refine blk_drewN ?_ _ | refine blk_drew ?_ | refine blk_alloc ?_ _)); exact BK428.out)) : gb428 ≠ gb431)); have n13_ := Aside0.mk ((by rw [hg]; exact Nat.ne_of_gt (blk_lt (g := gb428) (o := .cells #[.int .i8 ((rd_T57 t392 (rd t419 (ji105))).f0), .int .i8 ((rd_T57 t392 (rd t419 (ji105))).f1), .int .i16 ((rd_T57 t392 (rd t419 (ji105))).f2)] 57 (0, 0)) (by (with_reducible repeat (first | refine blk_drewN ?_ _ | refine blk_drew ?_ | refine blk_alloc ?_ _)); refine blk_put (cs := #[.int .i8 ((rd_T57 t392 (rd t419 (ji105))).f0), .int .i8 ((rd_T57 t392 (rd t419 (ji105))).f1), .int .i16 0]) ?_ 2 _ rfl; (with_reducible repeat (first | refine blk_drewN ?_ _ | refine blk_drew ?_ | refine blk_alloc ?_ _)); refine blk_put (cs := #[.int .i8 ((rd_T57 t392 (rd t419 (ji105))).f0), .int .i8 0, .int .i16 0]) ?_ 1 _ rfl; (with_reducible repeat (first | refine blk_drewN ?_ _ | refine blk_drew ?_ | refine blk_alloc ?_ _)); refine blk_put (cs := #[.int .i8 0, .int .i8 0, .int .i16 0]) ?_ 0 _ rfl; (with_reducible repeat (first | refine blk_drewN ?_ _ | refine blk_drew ?_ | refine blk_alloc ?_ _)); exact BK428.out)) : gb431 ≠ gb428)); clear HO_6; clear HO_10; clear HO_16; clear HO_21; clear BK391; clear BK428; clear HB; have HO_6 := n0_; have HO_10 := n1_; have HO_16 := n2_; have HO_21 := n3_; have BK391 := n4_; have BK428 := n5_; have HB := n6_; have BK431 := n7_; have GW431 := n8_; have GE431 := n9_; have NB391_431 := n10_; have NB431_391 := n11_; have NB428_431 := n12_; have NB431_428 := n13_; clear n0_ n1_ n2_ n3_ n4_ n5_ n6_ n7_ n8_ n9_ n10_ n11_ n12_ n13_; clear hb hbox hg; have hnb141 := NB431_391.out; have hnc141 := NB391_431.out; have hnb142 := NB431_428.out; have hnc142 := NB428_431.out; have hcz143_0 : w140.cell? ⟨gb431, 0, none⟩ = some (.int .i8 0) := (blk_cell BK431.out 0).trans rfl; have hcz143_1 : w140.cell? ⟨gb431, 1, none⟩ = some (.int .i8 0) := (blk_cell BK431.out 1).trans rfl; have hcz143_2 : w140.cell? ⟨gb431, 2, none⟩ = some (.int .i16 0) := (blk_cell BK431.out 2).trans rfl; have hfz143_0 := blk_frozen BK431.out 0; have hfz143_1 := blk_frozen BK431.out 1; have hfz143_2 := blk_frozen BK431.out 2))
                         have n0_ : Aside0 (Kd.R k57 57 (((w140.setCell ⟨gb431, 0, none⟩ (.int .i8 ((rd_T57 t392 (rd t419 x23_3)).f0))).setCell ⟨gb431, 1, none⟩ (.int .i8 ((rd_T57 t392 (rd t419 x23_3)).f1))).setCell ⟨gb431, 2, none⟩ (.int .i16 ((rd_T57 t392 (rd t419 x23_3)).f2))) w.heap.size (fun k_ => k_ ≠ gb428 ∧ k_ ≠ gb431) (.slice (some ad427) t392.length co22) t392) := ⟨by (with_reducible repeat (first | apply Kd.R_alloc | apply Kd.R_drewN | apply Kd.R_drew)); exact Kd.R_mono (Kd.R_far (p := ⟨gb431, 2, none⟩) (Kd.R_far (p := ⟨gb431, 1, none⟩) (Kd.R_far (p := ⟨gb431, 0, none⟩) (Kd.R_mono HO_6.out (fun k_ hk => (⟨hk, hk.2⟩ : _ ∧ k_ ≠ gb431))) (fun _ hk => hk.2) (.int .i8 ((rd_T57 t392 (rd t419 x23_3)).f0))) (fun _ hk => hk.2) (.int .i8 ((rd_T57 t392 (rd t419 x23_3)).f1))) (fun _ hk => hk.2) (.int .i16 ((rd_T57 t392 (rd t419 x23_3)).f2))) (fun _ hk => ⟨hk.1.1.2, hk.1.2⟩)⟩
                         have n1_ : Aside0 (Kd.R (Kd.int .i64) 2 (((w140.setCell ⟨gb431, 0, none⟩ (.int .i8 ((rd_T57 t392 (rd t419 x23_3)).f0))).setCell ⟨gb431, 1, none⟩ (.int .i8 ((rd_T57 t392 (rd t419 x23_3)).f1))).setCell ⟨gb431, 2, none⟩ (.int .i16 ((rd_T57 t392 (rd t419 x23_3)).f2))) w.heap.size (fun k_ => some k_ ≠ (v411 : Value).ownBlock ∧ some k_ ≠ (.slice (some ad426) t419.length co136 : Value).ownBlock) v401 t400) := ⟨by (with_reducible repeat (first | apply Kd.R_alloc | apply Kd.R_drewN | apply Kd.R_drew)); exact Kd.R_mono (Kd.R_far (p := ⟨gb431, 2, none⟩) (Kd.R_far (p := ⟨gb431, 1, none⟩) (Kd.R_far (p := ⟨gb431, 0, none⟩) (Kd.R_types HO_10.out BK431.out (by decide)) (fun _ hk => hk.2) (.int .i8 ((rd_T57 t392 (rd t419 x23_3)).f0))) (fun _ hk => hk.2) (.int .i8 ((rd_T57 t392 (rd t419 x23_3)).f1))) (fun _ hk => hk.2) (.int .i16 ((rd_T57 t392 (rd t419 x23_3)).f2))) (fun _ hk => ⟨hk.1.1, hk.1.2⟩)⟩
                         have n2_ : Aside0 (Kd.R (Kd.int .i64) 2 (((w140.setCell ⟨gb431, 0, none⟩ (.int .i8 ((rd_T57 t392 (rd t419 x23_3)).f0))).setCell ⟨gb431, 1, none⟩ (.int .i8 ((rd_T57 t392 (rd t419 x23_3)).f1))).setCell ⟨gb431, 2, none⟩ (.int .i16 ((rd_T57 t392 (rd t419 x23_3)).f2))) w.heap.size (fun k_ => some k_ ≠ (v401 : Value).ownBlock ∧ some k_ ≠ (.slice (some ad426) t419.length co136 : Value).ownBlock) v411 t410) := ⟨by (with_reducible repeat (first | apply Kd.R_alloc | apply Kd.R_drewN | apply Kd.R_drew)); exact Kd.R_mono (Kd.R_far (p := ⟨gb431, 2, none⟩) (Kd.R_far (p := ⟨gb431, 1, none⟩) (Kd.R_far (p := ⟨gb431, 0, none⟩) (Kd.R_types HO_16.out BK431.out (by decide)) (fun _ hk => hk.2) (.int .i8 ((rd_T57 t392 (rd t419 x23_3)).f0))) (fun _ hk => hk.2) (.int .i8 ((rd_T57 t392 (rd t419 x23_3)).f1))) (fun _ hk => hk.2) (.int .i16 ((rd_T57 t392 (rd t419 x23_3)).f2))) (fun _ hk => ⟨hk.1.1, hk.1.2⟩)⟩
                         have n3_ : Aside0 (Kd.R (Kd.int .i64) 2 (((w140.setCell ⟨gb431, 0, none⟩ (.int .i8 ((rd_T57 t392 (rd t419 x23_3)).f0))).setCell ⟨gb431, 1, none⟩ (.int .i8 ((rd_T57 t392 (rd t419 x23_3)).f1))).setCell ⟨gb431, 2, none⟩ (.int .i16 ((rd_T57 t392 (rd t419 x23_3)).f2))) w.heap.size (fun k_ => some k_ ≠ (v401 : Value).ownBlock ∧ some k_ ≠ (v411 : Value).ownBlock) (.slice (some ad426) t419.length co136) t419) := ⟨by (with_reducible repeat (first | apply Kd.R_alloc | apply Kd.R_drewN | apply Kd.R_drew)); exact Kd.R_mono (Kd.R_far (p := ⟨gb431, 2, none⟩) (Kd.R_far (p := ⟨gb431, 1, none⟩) (Kd.R_far (p := ⟨gb431, 0, none⟩) (Kd.R_types HO_21.out BK431.out (by decide)) (fun _ hk => hk.2) (.int .i8 ((rd_T57 t392 (rd t419 x23_3)).f0))) (fun _ hk => hk.2) (.int .i8 ((rd_T57 t392 (rd t419 x23_3)).f1))) (fun _ hk => hk.2) (.int .i16 ((rd_T57 t392 (rd t419 x23_3)).f2))) (fun _ hk => ⟨hk.1.1, hk.1.2⟩)⟩
                         have n4_ : Aside0 ((((w140.setCell ⟨gb431, 0, none⟩ (.int .i8 ((rd_T57 t392 (rd t419 x23_3)).f0))).setCell ⟨gb431, 1, none⟩ (.int .i8 ((rd_T57 t392 (rd t419 x23_3)).f1))).setCell ⟨gb431, 2, none⟩ (.int .i16 ((rd_T57 t392 (rd t419 x23_3)).f2))).heap[gb391]? = some (.cells #[.int .i8 t389, .int .i8 t390] 27 (0, 0))) := ⟨by (with_reducible repeat (first | refine blk_drewN ?_ _ | refine blk_drew ?_ | refine blk_alloc ?_ _)); refine blk_far ?_ NB391_431.out _; (with_reducible repeat (first | refine blk_drewN ?_ _ | refine blk_drew ?_ | refine blk_alloc ?_ _)); refine blk_far ?_ NB391_431.out _; (with_reducible repeat (first | refine blk_drewN ?_ _ | refine blk_drew ?_ | refine blk_alloc ?_ _)); refine blk_far ?_ NB391_431.out _; (with_reducible repeat (first | refine blk_drewN ?_ _ | refine blk_drew ?_ | refine blk_alloc ?_ _)); exact BK391.out⟩
                         have n5_ : Aside0 ((((w140.setCell ⟨gb431, 0, none⟩ (.int .i8 ((rd_T57 t392 (rd t419 x23_3)).f0))).setCell ⟨gb431, 1, none⟩ (.int .i8 ((rd_T57 t392 (rd t419 x23_3)).f1))).setCell ⟨gb431, 2, none⟩ (.int .i16 ((rd_T57 t392 (rd t419 x23_3)).f2))).heap[gb428]? = some (.cells #[.int .i8 ((rd_T57 t392 (rd t419 (ji105))).f0), .int .i8 ((rd_T57 t392 (rd t419 (ji105))).f1), .int .i16 ((rd_T57 t392 (rd t419 (ji105))).f2)] 57 (0, 0))) := ⟨by (with_reducible repeat (first | refine blk_drewN ?_ _ | refine blk_drew ?_ | refine blk_alloc ?_ _)); refine blk_far ?_ NB428_431.out _; (with_reducible repeat (first | refine blk_drewN ?_ _ | refine blk_drew ?_ | refine blk_alloc ?_ _)); refine blk_far ?_ NB428_431.out _; (with_reducible repeat (first | refine blk_drewN ?_ _ | refine blk_drew ?_ | refine blk_alloc ?_ _)); refine blk_far ?_ NB428_431.out _; (with_reducible repeat (first | refine blk_drewN ?_ _ | refine blk_drew ?_ | refine blk_alloc ?_ _)); exact BK428.out⟩
                         have n6_ : Aside0 ((((w140.setCell ⟨gb431, 0, none⟩ (.int .i8 ((rd_T57 t392 (rd t419 x23_3)).f0))).setCell ⟨gb431, 1, none⟩ (.int .i8 ((rd_T57 t392 (rd t419 x23_3)).f1))).setCell ⟨gb431, 2, none⟩ (.int .i16 ((rd_T57 t392 (rd t419 x23_3)).f2))).heap[gb431]? = some (.cells #[.int .i8 ((rd_T57 t392 (rd t419 x23_3)).f0), .int .i8 ((rd_T57 t392 (rd t419 x23_3)).f1), .int .i16 ((rd_T57 t392 (rd t419 x23_3)).f2)] 57 (0, 0))) := ⟨by (with_reducible repeat (first | refine blk_drewN ?_ _ | refine blk_drew ?_ | refine blk_alloc ?_ _)); refine blk_put (cs := #[.int .i8 ((rd_T57 t392 (rd t419 x23_3)).f0), .int .i8 ((rd_T57 t392 (rd t419 x23_3)).f1), .int .i16 0]) ?_ 2 _ rfl; (with_reducible repeat (first | refine blk_drewN ?_ _ | refine blk_drew ?_ | refine blk_alloc ?_ _)); refine blk_put (cs := #[.int .i8 ((rd_T57 t392 (rd t419 x23_3)).f0), .int .i8 0, .int .i16 0]) ?_ 1 _ rfl; (with_reducible repeat (first | refine blk_drewN ?_ _ | refine blk_drew ?_ | refine blk_alloc ?_ _)); refine blk_put (cs := #[.int .i8 0, .int .i8 0, .int .i16 0]) ?_ 0 _ rfl; (with_reducible repeat (first | refine blk_drewN ?_ _ | refine blk_drew ?_ | refine blk_alloc ?_ _)); exact BK431.out⟩
                         have n7_ : Aside0 (Below w.heap.size w (((w140.setCell ⟨gb431, 0, none⟩ (.int .i8 ((rd_T57 t392 (rd t419 x23_3)).f0))).setCell ⟨gb431, 1, none⟩ (.int .i8 ((rd_T57 t392 (rd t419 x23_3)).f1))).setCell ⟨gb431, 2, none⟩ (.int .i16 ((rd_T57 t392 (rd t419 x23_3)).f2)))) := ⟨by repeat (first | (with_reducible first | exact HB.out | apply below_alloc | apply pw_below_drewN | apply below_drew1 | refine below_set ?_ GE391.out | refine below_set ?_ GE428.out | refine below_set ?_ GE431.out) | exact HB.out)⟩
                         (try clear HO_6)
                         (try clear HO_10)
                         (try clear HO_16)
                         (try clear HO_21)
                         (try clear BK391)
                         (try clear BK428)
                         (try clear BK431)
                         (try clear HB)
                         generalize (((w140.setCell ⟨gb431, 0, none⟩ (.int .i8 ((rd_T57 t392 (rd t419 x23_3)).f0))).setCell ⟨gb431, 1, none⟩ (.int .i8 ((rd_T57 t392 (rd t419 x23_3)).f1))).setCell ⟨gb431, 2, none⟩ (.int .i16 ((rd_T57 t392 (rd t419 x23_3)).f2))) = w144 at n0_ n1_ n2_ n3_ n4_ n5_ n6_ n7_ ⊢
                         have HO_6 := n0_
                         have HO_10 := n1_
                         have HO_16 := n2_
                         have HO_21 := n3_
                         have BK391 := n4_
                         have BK428 := n5_
                         have BK431 := n6_
                         have HB := n7_
                         clear n0_ n1_ n2_ n3_ n4_ n5_ n6_ n7_
                         have n0_ := Aside0.mk (Kd.R_drew HO_6.out)
                         have n1_ := Aside0.mk (Kd.R_drew HO_10.out)
                         have n2_ := Aside0.mk (Kd.R_drew HO_16.out)
                         have n3_ := Aside0.mk (Kd.R_drew HO_21.out)
                         have n4_ := Aside0.mk (blk_drew BK391.out)
                         have n5_ := Aside0.mk (blk_drew BK428.out)
                         have n6_ := Aside0.mk (blk_drew BK431.out)
                         have n7_ := Aside0.mk (below_drew1 HB.out)
                         clear HO_6
                         clear HO_10
                         clear HO_16
                         clear HO_21
                         clear BK391
                         clear BK428
                         clear BK431
                         clear HB
                         have HO_6 := n0_
                         have HO_10 := n1_
                         have HO_16 := n2_
                         have HO_21 := n3_
                         have BK391 := n4_
                         have BK428 := n5_
                         have BK431 := n6_
                         have HB := n7_
                         clear n0_ n1_ n2_ n3_ n4_ n5_ n6_ n7_
                         have p432 : 0 ≤ ((ji105) : Int) := dtB
                         have q432 : (ji105) < (t419.length : Int) := dtB
                         obtain ⟨ad432, e432, hx432_0⟩ := Kd.at_int (Kd.R_reads' HO_21.out).2.2 (ji105) p432 q432
                         obtain rfl : ad426 = ad432 := (by injection e432)
                         replace p432 := eq_true p432
                         replace q432 := eq_true q432
                         have p433 : 0 ≤ (x23_3 : Int) := dtB
                         have q433 : x23_3 < (t419.length : Int) := dtB
                         obtain ⟨ad433, e433, hx433_0⟩ := Kd.at_int (Kd.R_reads' HO_21.out).2.2 x23_3 p433 q433
                         obtain rfl : ad426 = ad433 := (by injection e433)
                         replace p433 := eq_true p433
                         replace q433 := eq_true q433
                         refine start_ (n := 24) (S := fun w' => w'.cell? ⟨gb428, 0, none⟩ = some (.int .i8 ((rd_T57 t392 (rd t419 (ji105))).f0)) ∧ w'.cell? ⟨gb428, 1, none⟩ = some (.int .i8 ((rd_T57 t392 (rd t419 (ji105))).f1)) ∧ w'.cell? ⟨gb428, 2, none⟩ = some (.int .i16 ((rd_T57 t392 (rd t419 (ji105))).f2)) ∧ w'.cell? ⟨gb431, 0, none⟩ = some (.int .i8 ((rd_T57 t392 (rd t419 x23_3)).f0)) ∧ w'.cell? ⟨gb431, 1, none⟩ = some (.int .i8 ((rd_T57 t392 (rd t419 x23_3)).f1)) ∧ w'.cell? ⟨gb431, 2, none⟩ = some (.int .i16 ((rd_T57 t392 (rd t419 x23_3)).f2)) ∧ w'.cell? (ad426.add ((ji105)).toNat) = some (.int .i64 (rd t419 (ji105))) ∧ w'.cell? (ad426.add (x23_3).toNat) = some (.int .i64 (rd t419 x23_3))) (ds := []) #[false, false, false, false, false, false, false, false, false, false, false, false, false, false, false, false, false, false, false, false, false, false, false, false] (by kernel_rfl) rfl rfl ⟨(blk_cell BK428.out 0).trans rfl, (blk_cell BK428.out 1).trans rfl, (blk_cell BK428.out 2).trans rfl, (blk_cell BK431.out 0).trans rfl, (blk_cell BK431.out 1).trans rfl, (blk_cell BK431.out 2).trans rfl, hx432_0, hx433_0⟩ (fun hHeld => ?_); refine with_tabW laws_FnLate.tab18 laws_FnLate.bits18 (fun HT_ HW_ => ?_)
                         generalize w144.drew = w145 at HO_6 HO_10 HO_16 HO_21 BK391 BK428 BK431 HB hx432_0 hx433_0 hHeld ⊢
                         refine pure_ (i := 0) (N := some 190) (v := ?_) (a' := ?_) #[true, false, false, false, false, false, false, false, false, false, false, false, false, false, false, false, false, false, false, false, false, false, false, false] rfl rfl (any_of HT_.out (by kernel_rfl)) (fun _ _ _ h => h) (Or.inl ⟨by rfl, ?_⟩) ?_ ?_
                         rotate_left
                         · intro w'
                           go_simp
                           with_reducible rfl
                         rotate_left
                         · simp only [Act.put, List.setIfInBounds_toArray, List.set_cons_zero, List.set_cons_succ, i64_w, i32_w]
                           rfl
                         refine pure_ (i := 2) (N := some 192) (v := ?_) (a' := ?_) #[true, false, true, false, false, false, false, false, false, false, false, false, false, false, false, false, false, false, false, false, false, false, false, false] rfl rfl (any_of HT_.out (by kernel_rfl)) (fun _ _ _ h => h) (Or.inl ⟨by rfl, ?_⟩) ?_ ?_
                         rotate_left
                         · intro w'
                           go_simp
                           with_reducible rfl
                         rotate_left
                         · simp only [Act.put, List.setIfInBounds_toArray, List.set_cons_zero, List.set_cons_succ, i64_w, i32_w]
                           rfl
                         refine take_ (i := 1) (N := some 191) (v := ?_) (a' := ?_) #[true, true, true, false, false, false, false, false, false, false, false, false, false, false, false, false, false, false, false, false, false, false, false, false] rfl rfl (take_ofW HT_.out HW_.out (by kernel_rfl)) (fun _ _ _ h => h) (Or.inl ⟨by rfl, ?_⟩) hHeld ?_ ?_
                         rotate_left
                         · rintro w' ⟨s0, s1, s2, s3, s4, s5, s6, s7⟩
                           go_simp
                           with_reducible rfl
                         rotate_left
                         · simp only [Act.put, List.setIfInBounds_toArray, List.set_cons_zero, List.set_cons_succ, i64_w, i32_w]
                           rfl
                         refine take_ (i := 3) (N := some 193) (v := ?_) (a' := ?_) #[true, true, true, true, false, false, false, false, false, false, false, false, false, false, false, false, false, false, false, false, false, false, false, false] rfl rfl (take_ofW HT_.out HW_.out (by kernel_rfl)) (fun _ _ _ h => h) (Or.inl ⟨by rfl, ?_⟩) hHeld ?_ ?_
                         rotate_left
                         · rintro w' ⟨s0, s1, s2, s3, s4, s5, s6, s7⟩
                           go_simp
                           with_reducible rfl
                         rotate_left
                         · simp only [Act.put, List.setIfInBounds_toArray, List.set_cons_zero, List.set_cons_succ, i64_w, i32_w]
                           rfl
                         refine pure_ (i := 4) (N := some 194) (v := ?_) (a' := ?_) #[true, true, true, true, true, false, false, false, false, false, false, false, false, false, false, false, false, false, false, false, false, false, false, false] rfl rfl (any_of HT_.out (by kernel_rfl)) (fun _ _ _ h => h) (Or.inl ⟨by rfl, ?_⟩) ?_ ?_
                         rotate_left
                         · intro w'
                           go_simp
                           with_reducible rfl
                         rotate_left
                         · simp only [Act.put, List.setIfInBounds_toArray, List.set_cons_zero, List.set_cons_succ, i64_w, i32_w]
                           rfl
                         refine pure_ (i := 5) (N := some 195) (v := ?_) (a' := ?_) #[true, true, true, true, true, true, false, false, false, false, false, false, false, false, false, false, false, false, false, false, false, false, false, false] rfl rfl (any_of HT_.out (by kernel_rfl)) (fun _ _ _ h => h) (Or.inl ⟨by rfl, ?_⟩) ?_ ?_
                         rotate_left
                         · intro w'
                           go_simp
                           with_reducible rfl
                         rotate_left
                         · simp only [Act.put, List.setIfInBounds_toArray, List.set_cons_zero, List.set_cons_succ, i64_w, i32_w]
                           rfl
                         refine pure_ (i := 6) (N := some 196) (v := ?_) (a' := ?_) #[true, true, true, true, true, true, true, false, false, false, false, false, false, false, false, false, false, false, false, false, false, false, false, false] rfl rfl (any_of HT_.out (by kernel_rfl)) (fun _ _ _ h => h) (Or.inl ⟨by rfl, ?_⟩) ?_ ?_
                         rotate_left
                         · intro w'
                           go_simp
                           with_reducible rfl
                         rotate_left
                         · simp only [Act.put, List.setIfInBounds_toArray, List.set_cons_zero, List.set_cons_succ, i64_w, i32_w]
                           rfl
                         refine pure_ (i := 8) (N := some 198) (v := ?_) (a' := ?_) #[true, true, true, true, true, true, true, false, true, false, false, false, false, false, false, false, false, false, false, false, false, false, false, false] rfl rfl (any_of HT_.out (by kernel_rfl)) (fun _ _ _ h => h) (Or.inl ⟨by rfl, ?_⟩) ?_ ?_
                         rotate_left
                         · intro w'
                           go_simp
                           with_reducible rfl
                         rotate_left
                         · simp only [Act.put, List.setIfInBounds_toArray, List.set_cons_zero, List.set_cons_succ, i64_w, i32_w]
                           rfl
                         refine take_ (i := 7) (N := some 197) (v := ?_) (a' := ?_) #[true, true, true, true, true, true, true, true, true, false, false, false, false, false, false, false, false, false, false, false, false, false, false, false] rfl rfl (take_ofW HT_.out HW_.out (by kernel_rfl)) (fun _ _ _ h => h) (Or.inl ⟨by rfl, ?_⟩) hHeld ?_ ?_
                         rotate_left
                         · rintro w' ⟨s0, s1, s2, s3, s4, s5, s6, s7⟩
                           go_simp
                           with_reducible rfl
                         rotate_left
                         · simp only [Act.put, List.setIfInBounds_toArray, List.set_cons_zero, List.set_cons_succ, i64_w, i32_w]
                           rfl
                         refine take_ (i := 9) (N := some 199) (v := ?_) (a' := ?_) #[true, true, true, true, true, true, true, true, true, true, false, false, false, false, false, false, false, false, false, false, false, false, false, false] rfl rfl (take_ofW HT_.out HW_.out (by kernel_rfl)) (fun _ _ _ h => h) (Or.inl ⟨by rfl, ?_⟩) hHeld ?_ ?_
                         rotate_left
                         · rintro w' ⟨s0, s1, s2, s3, s4, s5, s6, s7⟩
                           go_simp
                           with_reducible rfl
                         rotate_left
                         · simp only [Act.put, List.setIfInBounds_toArray, List.set_cons_zero, List.set_cons_succ, i64_w, i32_w]
                           rfl
                         refine pure_ (i := 10) (N := some 200) (v := ?_) (a' := ?_) #[true, true, true, true, true, true, true, true, true, true, true, false, false, false, false, false, false, false, false, false, false, false, false, false] rfl rfl (any_of HT_.out (by kernel_rfl)) (fun _ _ _ h => h) (Or.inl ⟨by rfl, ?_⟩) ?_ ?_
                         rotate_left
                         · intro w'
                           go_simp
                           with_reducible rfl
                         rotate_left
                         · simp only [Act.put, List.setIfInBounds_toArray, List.set_cons_zero, List.set_cons_succ, i64_w, i32_w]
                           rfl
                         refine pure_ (i := 11) (N := some 201) (v := ?_) (a' := ?_) #[true, true, true, true, true, true, true, true, true, true, true, true, false, false, false, false, false, false, false, false, false, false, false, false] rfl rfl (any_of HT_.out (by kernel_rfl)) (fun _ _ _ h => h) (Or.inl ⟨by rfl, ?_⟩) ?_ ?_
                         rotate_left
                         · intro w'
                           go_simp
                           with_reducible rfl
                         rotate_left
                         · simp only [Act.put, List.setIfInBounds_toArray, List.set_cons_zero, List.set_cons_succ, i64_w, i32_w]
                           rfl
                         refine pure_ (i := 12) (N := some 202) (v := ?_) (a' := ?_) #[true, true, true, true, true, true, true, true, true, true, true, true, true, false, false, false, false, false, false, false, false, false, false, false] rfl rfl (any_of HT_.out (by kernel_rfl)) (fun _ _ _ h => h) (Or.inl ⟨by rfl, ?_⟩) ?_ ?_
                         rotate_left
                         · intro w'
                           go_simp
                           with_reducible rfl
                         rotate_left
                         · simp only [Act.put, List.setIfInBounds_toArray, List.set_cons_zero, List.set_cons_succ, i64_w, i32_w]
                           rfl
                         refine pure_ (i := 13) (N := some 203) (v := ?_) (a' := ?_) #[true, true, true, true, true, true, true, true, true, true, true, true, true, true, false, false, false, false, false, false, false, false, false, false] rfl rfl (any_of HT_.out (by kernel_rfl)) (fun _ _ _ h => h) (Or.inl ⟨by rfl, ?_⟩) ?_ ?_
                         rotate_left
                         · intro w'
                           go_simp
                           with_reducible rfl
                         rotate_left
                         · simp only [Act.put, List.setIfInBounds_toArray, List.set_cons_zero, List.set_cons_succ, i64_w, i32_w]
                           rfl
                         refine pure_ (i := 14) (N := some 204) (v := ?_) (a' := ?_) #[true, true, true, true, true, true, true, true, true, true, true, true, true, true, true, false, false, false, false, false, false, false, false, false] rfl rfl (any_of HT_.out (by kernel_rfl)) (fun _ _ _ h => h) (Or.inl ⟨by rfl, ?_⟩) ?_ ?_
                         rotate_left
                         · intro w'
                           go_simp
                           with_reducible rfl
                         rotate_left
                         · simp only [Act.put, List.setIfInBounds_toArray, List.set_cons_zero, List.set_cons_succ, i64_w, i32_w]
                           rfl
                         refine pure_ (i := 15) (N := some 205) (v := ?_) (a' := ?_) #[true, true, true, true, true, true, true, true, true, true, true, true, true, true, true, true, false, false, false, false, false, false, false, false] rfl rfl (any_of HT_.out (by kernel_rfl)) (fun _ _ _ h => h) (Or.inl ⟨by rfl, ?_⟩) ?_ ?_
                         rotate_left
                         · intro w'
                           go_simp
                           with_reducible rfl
                         rotate_left
                         · simp only [Act.put, List.setIfInBounds_toArray, List.set_cons_zero, List.set_cons_succ, i64_w, i32_w]
                           rfl
                         refine pure_ (i := 17) (N := some 207) (v := ?_) (a' := ?_) #[true, true, true, true, true, true, true, true, true, true, true, true, true, true, true, true, false, true, false, false, false, false, false, false] rfl rfl (any_of HT_.out (by kernel_rfl)) (fun _ _ _ h => h) (Or.inl ⟨by rfl, ?_⟩) ?_ ?_
                         rotate_left
                         · intro w'
                           go_simp
                           with_reducible rfl
                         rotate_left
                         · simp only [Act.put, List.setIfInBounds_toArray, List.set_cons_zero, List.set_cons_succ, i64_w, i32_w]
                           rfl
                         refine pure_ (i := 18) (N := some 208) (v := ?_) (a' := ?_) #[true, true, true, true, true, true, true, true, true, true, true, true, true, true, true, true, false, true, true, false, false, false, false, false] rfl rfl (any_of HT_.out (by kernel_rfl)) (fun _ _ _ h => h) (Or.inl ⟨by rfl, ?_⟩) ?_ ?_
                         rotate_left
                         · intro w'
                           go_simp
                           with_reducible rfl
                         rotate_left
                         · simp only [Act.put, List.setIfInBounds_toArray, List.set_cons_zero, List.set_cons_succ, i64_w, i32_w]
                           rfl
                         refine pure_ (i := 19) (N := some 209) (v := ?_) (a' := ?_) #[true, true, true, true, true, true, true, true, true, true, true, true, true, true, true, true, false, true, true, true, false, false, false, false] rfl rfl (any_of HT_.out (by kernel_rfl)) (fun _ _ _ h => h) (Or.inl ⟨by rfl, ?_⟩) ?_ ?_
                         rotate_left
                         · intro w'
                           go_simp
                           with_reducible rfl
                         rotate_left
                         · simp only [Act.put, List.setIfInBounds_toArray, List.set_cons_zero, List.set_cons_succ, i64_w, i32_w]
                           rfl
                         refine take_ (i := 16) (N := some 206) (v := ?_) (a' := ?_) #[true, true, true, true, true, true, true, true, true, true, true, true, true, true, true, true, true, true, true, true, false, false, false, false] rfl rfl (take_ofW HT_.out HW_.out (by kernel_rfl)) (fun _ _ _ h => h) (Or.inl ⟨by rfl, ?_⟩) hHeld ?_ ?_
                         rotate_left
                         · rintro w' ⟨s0, s1, s2, s3, s4, s5, s6, s7⟩
                           go_simp
                           with_reducible rfl
                         rotate_left
                         · simp only [Act.put, List.setIfInBounds_toArray, List.set_cons_zero, List.set_cons_succ, i64_w, i32_w]
                           rfl
                         refine take_ (i := 20) (N := some 210) (v := ?_) (a' := ?_) #[true, true, true, true, true, true, true, true, true, true, true, true, true, true, true, true, true, true, true, true, true, false, false, false] rfl rfl (take_ofW HT_.out HW_.out (by kernel_rfl)) (fun _ _ _ h => h) (Or.inl ⟨by rfl, ?_⟩) hHeld ?_ ?_
                         rotate_left
                         · rintro w' ⟨s0, s1, s2, s3, s4, s5, s6, s7⟩
                           go_simp
                           with_reducible rfl
                         rotate_left
                         · simp only [Act.put, List.setIfInBounds_toArray, List.set_cons_zero, List.set_cons_succ, i64_w, i32_w]
                           rfl
                         refine pure_ (i := 21) (N := some 211) (v := ?_) (a' := ?_) #[true, true, true, true, true, true, true, true, true, true, true, true, true, true, true, true, true, true, true, true, true, true, false, false] rfl rfl (any_of HT_.out (by kernel_rfl)) (fun _ _ _ h => h) (Or.inl ⟨by rfl, ?_⟩) ?_ ?_
                         rotate_left
                         · intro w'
                           go_simp
                           with_reducible rfl
                         rotate_left
                         · simp only [Act.put, List.setIfInBounds_toArray, List.set_cons_zero, List.set_cons_succ, i64_w, i32_w]
                           rfl
                         refine pure_ (i := 22) (N := some 212) (v := ?_) (a' := ?_) #[true, true, true, true, true, true, true, true, true, true, true, true, true, true, true, true, true, true, true, true, true, true, true, false] rfl rfl (any_of HT_.out (by kernel_rfl)) (fun _ _ _ h => h) (Or.inl ⟨by rfl, ?_⟩) ?_ ?_
                         rotate_left
                         · intro w'
                           go_simp
                           with_reducible rfl
                         rotate_left
                         · simp only [Act.put, List.setIfInBounds_toArray, List.set_cons_zero, List.set_cons_succ, i64_w, i32_w]
                           rfl
                         refine pure_ (i := 23) (N := some 213) (v := ?_) (a' := ?_) #[true, true, true, true, true, true, true, true, true, true, true, true, true, true, true, true, true, true, true, true, true, true, true, true] rfl rfl (any_of HT_.out (by kernel_rfl)) (fun _ _ _ h => h) (Or.inl ⟨by rfl, ?_⟩) ?_ ?_
                         rotate_left
                         · intro w'
                           go_simp
                           with_reducible rfl
                         rotate_left
                         · simp only [Act.put, List.setIfInBounds_toArray, List.set_cons_zero, List.set_cons_succ, i64_w, i32_w]
                           rfl
                         refine done_ (done_of HT_.out (by kernel_rfl)) ?_
                         try go_wp2
                         go_roundg k3
                         case measure => have := HJ2.out; have := HJ15.out; have := HK3.out; omega
                         case rel => exact ⟨(wrap64 (x23_3 + 1)), (by first | rfl | (simp; done) | (simp [*]; done)), H', ⟨by have := HJ2.out; have := HJ15.out; have := HK3.out; omega⟩, ⟨by (with_reducible repeat (first | apply Kd.R_alloc | apply Kd.R_drewN | apply Kd.R_drew)); exact Kd.R_mono HO_6.out (fun _ hk => trivial)⟩, ⟨mvR HO_10⟩, ⟨mvR HO_16⟩, ⟨mvR HO_21⟩, ⟨by (with_reducible repeat (first | refine blk_drewN ?_ _ | refine blk_drew ?_ | refine blk_alloc ?_ _)); exact BK391.out⟩, ⟨by repeat (first | (with_reducible first | exact HB.out | apply below_alloc | apply pw_below_drewN | apply below_drew1 | refine below_set ?_ GE391.out | refine below_set ?_ GE428.out | refine below_set ?_ GE431.out) | exact HB.out)⟩⟩
                     · rw [if_neg c124] at H
                       have c124b0 : (((rd_T57 t392 (rd t419 (ji105))).f2) == ((rd_T57 t392 (rd t419 x23_3)).f2)) = false := beq_eq_false_iff_ne.mpr c124
                       have c124b1 : (((rd_T57 t392 (rd t419 (ji105))).f2) != ((rd_T57 t392 (rd t419 x23_3)).f2)) = true := bne_iff_ne.mpr c124
                       have H' := Aside0.mk H
                       clear H
                       obtain ⟨Ao146, co146, eo146⟩ := Kd.R_slice HO_21.out
                       subst eo146
                       have p426 : 0 ≤ ((ji105) : Int) := dtB
                       have q426 : (ji105) < (t419.length : Int) := dtB
                       obtain ⟨ad426, e426, hx426_0⟩ := Kd.at_int (Kd.R_reads' HO_21.out).2.2 (ji105) p426 q426
                       cases e426
                       replace p426 := eq_true p426
                       replace q426 := eq_true q426
                       have p427 : 0 ≤ ((rd t419 (ji105)) : Int) := dtB
                       have q427 : (rd t419 (ji105)) < (t392.length : Int) := dtB
                       obtain ⟨ad427, e427, hx427_0, hx427_1, hx427_2⟩ := at_T57 (Kd.R_reads' HO_6.out).2.2 (rd t419 (ji105)) p427 q427
                       cases e427
                       replace p427 := eq_true p427
                       replace q427 := eq_true q427
                       try go_wp2_with (first | ((with_reducible refine gate_dst (N := 24) rfl ?_); (try (refine gate_guard (by rfl) ?_; dsimp only)); refine box_event ?hg (N := 24) ?hd (cs := #[.int .i8 0, .int .i8 0, .int .i16 0]) (t := 57) ?hr ?_; (case hd => rfl); (case hg => rfl); (case hr => first | (go_simp; done) | (go_simp; rfl)); intro gb428 hg w147 hbox hb; have n0_ := Aside0.mk (Kd.R_below (Kd.R_elderB (mvR HO_6) gb428 (Nat.le_of_eq hg.symm)) hb); have n1_ := Aside0.mk (Kd.R_below (mvR HO_10) hb); have n2_ := Aside0.mk (Kd.R_below (mvR HO_16) hb); have n3_ := Aside0.mk (Kd.R_below (mvR HO_21) hb); have n4_ := Aside0.mk (blk_below (g := gb391) (o := .cells #[.int .i8 t389, .int .i8 t390] 27 (0, 0)) (by (with_reducible repeat (first | refine blk_drewN ?_ _ | refine blk_drew ?_ | refine blk_alloc ?_ _)); exact BK391.out) hb); have n5_ := Aside0.mk (below_step (by repeat (first | (with_reducible first | exact HB.out | apply below_alloc | apply pw_below_drewN | apply below_drew1 | refine below_set ?_ GE391.out) | exact HB.out)) hb); have n6_ := Aside0.mk (hbox); have n7_ := Aside0.mk ((by rw [hg]; exact (below_size (by repeat (first | (with_reducible first | exact HB.out | apply below_alloc | apply pw_below_drewN | apply below_drew1 | refine below_set ?_ GE391.out) | exact HB.out))) : w.heap.size ≤ gb428)); have n8_ := Aside0.mk ((by rw [hg]; exact (below_size (by repeat (first | (with_reducible first | exact HB.out | apply below_alloc | apply pw_below_drewN | apply below_drew1 | refine below_set ?_ GE391.out) | exact HB.out))) : w.heap.size ≤ gb428)); have n9_ := Aside0.mk ((by rw [hg]; exact Nat.ne_of_lt (blk_lt (g := gb391) (o := .cells #[.int .i8 t389, .int .i8 t390] 27 (0, 0)) (by (with_reducible repeat (first | refine blk_drewN ?_ _ | refine blk_drew ?_ | refine blk_alloc ?_ _)); exact BK391.out)) : gb391 ≠ gb428)); have n10_ := Aside0.mk ((by rw [hg]; exact Nat.ne_of_gt (blk_lt (g := gb391) (o := .cells #[.int .i8 t389, .int .i8 t390] 27 (0, 0)) (by (with_reducible repeat (first | refine blk_drewN ?_ _ | refine blk_drew ?_ | refine blk_alloc ?_ _)); exact BK391.out)) : gb428 ≠ gb391)); clear HO_6; clear HO_10; clear HO_16; clear HO_21; clear BK391; clear HB; have HO_6 := n0_; have HO_10 := n1_; have HO_16 := n2_; have HO_21 := n3_; have BK391 := n4_; have HB := n5_; have BK428 := n6_; have GW428 := n7_; have GE428 := n8_; have NB391_428 := n9_; have NB428_391 := n10_; clear n0_ n1_ n2_ n3_ n4_ n5_ n6_ n7_ n8_ n9_ n10_; clear hb hbox hg; have hnb148 := NB428_391.out; have hnc148 := NB391_428.out; have hcz149_0 : w147.cell? ⟨gb428, 0, none⟩ = some (.int .i8 0) := (blk_cell BK428.out 0).trans rfl; have hcz149_1 : w147.cell? ⟨gb428, 1, none⟩ = some (.int .i8 0) := (blk_cell BK428.out 1).trans rfl; have hcz149_2 : w147.cell? ⟨gb428, 2, none⟩ = some (.int .i16 0) := (blk_cell BK428.out 2).trans rfl; have hfz149_0 := blk_frozen BK428.out 0; have hfz149_1 := blk_frozen BK428.out 1; have hfz149_2 := blk_frozen BK428.out 2; have p429 : 0 ≤ (x23_3 : Int) := dtB; have q429 : x23_3 < (t419.length : Int) := dtB; obtain ⟨ad429, e429, hx429_0⟩ := Kd.at_int (Kd.R_reads' HO_21.out).2.2 x23_3 p429 q429; obtain rfl : ad426 = ad429 := (by injection e429); have hn429_0 : ad426.block ≠ gb428 := Kd.own_blk (Kd.R_ne HO_21.out BK428.out (by decide)); have hn429_1 : ad426.block ≠ gb428 := Kd.own_blk (Kd.R_ne HO_21.out BK428.out (by decide)); have hn429_2 : ad426.block ≠ gb428 := Kd.own_blk (Kd.R_ne HO_21.out BK428.out (by decide)); replace hx429_0 := (cell_far (p := ⟨gb428, 0, none⟩) (by first | (rw [add_block]; exact hn429_0) | (show (Addr.add _ _).block ≠ _; rw [add_block]; exact hn429_0) | exact hn429_0) (.int .i8 ((rd_T57 t392 (rd t419 (ji105))).f0))).trans hx429_0; replace hx429_0 := (cell_far (p := ⟨gb428, 1, none⟩) (by first | (rw [add_block]; exact hn429_1) | (show (Addr.add _ _).block ≠ _; rw [add_block]; exact hn429_1) | exact hn429_1) (.int .i8 ((rd_T57 t392 (rd t419 (ji105))).f1))).trans hx429_0; replace hx429_0 := (cell_far (p := ⟨gb428, 2, none⟩) (by first | (rw [add_block]; exact hn429_2) | (show (Addr.add _ _).block ≠ _; rw [add_block]; exact hn429_2) | exact hn429_2) (.int .i16 ((rd_T57 t392 (rd t419 (ji105))).f2))).trans hx429_0; clear hn429_0; clear hn429_1; clear hn429_2; replace p429 := eq_true p429; replace q429 := eq_true q429; have p430 : 0 ≤ ((rd t419 x23_3) : Int) := dtB; have q430 : (rd t419 x23_3) < (t392.length : Int) := dtB; obtain ⟨ad430, e430, hx430_0, hx430_1, hx430_2⟩ := at_T57 (Kd.R_reads' HO_6.out).2.2 (rd t419 x23_3) p430 q430; obtain rfl : ad427 = ad430 := (by injection e430); have hn430_0 : ad427.block ≠ gb428 := Kd.own_blk (Kd.R_away HO_6.out (fun _ hk => hk.2)); have hn430_1 : ad427.block ≠ gb428 := Kd.own_blk (Kd.R_away HO_6.out (fun _ hk => hk.2)); have hn430_2 : ad427.block ≠ gb428 := Kd.own_blk (Kd.R_away HO_6.out (fun _ hk => hk.2)); replace hx430_0 := (cell_far (p := ⟨gb428, 0, none⟩) (by first | (rw [add_block]; exact hn430_0) | (show (Addr.add _ _).block ≠ _; rw [add_block]; exact hn430_0) | exact hn430_0) (.int .i8 ((rd_T57 t392 (rd t419 (ji105))).f0))).trans hx430_0; replace hx430_1 := (cell_far (p := ⟨gb428, 0, none⟩) (by first | (rw [add_block]; exact hn430_0) | (show (Addr.add _ _).block ≠ _; rw [add_block]; exact hn430_0) | exact hn430_0) (.int .i8 ((rd_T57 t392 (rd t419 (ji105))).f0))).trans hx430_1; replace hx430_2 := (cell_far (p := ⟨gb428, 0, none⟩) (by first | (rw [add_block]; exact hn430_0) | (show (Addr.add _ _).block ≠ _; rw [add_block]; exact hn430_0) | exact hn430_0) (.int .i8 ((rd_T57 t392 (rd t419 (ji105))).f0))).trans hx430_2; replace hx430_0 := (cell_far (p := ⟨gb428, 1, none⟩) (by first | (rw [add_block]; exact hn430_1) | (show (Addr.add _ _).block ≠ _; rw [add_block]; exact hn430_1) | exact hn430_1) (.int .i8 ((rd_T57 t392 (rd t419 (ji105))).f1))).trans hx430_0; replace hx430_1 := (cell_far (p := ⟨gb428, 1, none⟩) (by first | (rw [add_block]; exact hn430_1) | (show (Addr.add _ _).block ≠ _; rw [add_block]; exact hn430_1) | exact hn430_1) (.int .i8 ((rd_T57 t392 (rd t419 (ji105))).f1))).trans hx430_1; replace hx430_2 := (cell_far (p := ⟨gb428, 1, none⟩) (by first | (rw [add_block]; exact hn430_1) | (show (Addr.add _ _).block ≠ _; rw [add_block]; exact hn430_1) | exact hn430_1) (.int .i8 ((rd_T57 t392 (rd t419 (ji105))).f1))).trans hx430_2; replace hx430_0 := (cell_far (p := ⟨gb428, 2, none⟩) (by first | (rw [add_block]; exact hn430_2) | (show (Addr.add _ _).block ≠ _; rw [add_block]; exact hn430_2) | exact hn430_2) (.int .i16 ((rd_T57 t392 (rd t419 (ji105))).f2))).trans hx430_0; replace hx430_1 := (cell_far (p := ⟨gb428, 2, none⟩) (by first | (rw [add_block]; exact hn430_2) | (show (Addr.add _ _).block ≠ _; rw [add_block]; exact hn430_2) | exact hn430_2) (.int .i16 ((rd_T57 t392 (rd t419 (ji105))).f2))).trans hx430_1; replace hx430_2 := (cell_far (p := ⟨gb428, 2, none⟩) (by first | (rw [add_block]; exact hn430_2) | (show (Addr.add _ _).block ≠ _; rw [add_block]; exact hn430_2) | exact hn430_2) (.int .i16 ((rd_T57 t392 (rd t419 (ji105))).f2))).trans hx430_2; clear hn430_0; clear hn430_1; clear hn430_2; replace p430 := eq_true p430; replace q430 := eq_true q430) | ((with_reducible refine gate_dst (N := 25) rfl ?_); (try (refine gate_guard (by rfl) ?_; dsimp only)); refine box_event ?hg (N := 25) ?hd (cs := #[.int .i8 0, .int .i8 0, .int .i16 0]) (t := 57) ?hr ?_; (case hd => rfl); (case hg => rfl); (case hr => first | (go_simp; done) | (go_simp; rfl)); intro gb431 hg w150 hbox hb; have n0_ := Aside0.mk (Kd.R_below (Kd.R_elderB (by (with_reducible repeat (first | apply Kd.R_alloc | apply Kd.R_drewN | apply Kd.R_drew)); exact (Kd.R_mono (Kd.R_far (p := ⟨gb428, 2, none⟩) (Kd.R_far (p := ⟨gb428, 1, none⟩) (Kd.R_far (p := ⟨gb428, 0, none⟩) (Kd.R_mono HO_6.out (fun k_ hk => (⟨hk, hk.2⟩ : _ ∧ k_ ≠ gb428))) (fun _ hk => hk.2) (.int .i8 ((rd_T57 t392 (rd t419 (ji105))).f0))) (fun _ hk => hk.2) (.int .i8 ((rd_T57 t392 (rd t419 (ji105))).f1))) (fun _ hk => hk.2) (.int .i16 ((rd_T57 t392 (rd t419 (ji105))).f2))) (fun _ h_ => h_.1))) gb431 (Nat.le_of_eq hg.symm)) hb); have n1_ := Aside0.mk (Kd.R_below (by (with_reducible repeat (first | apply Kd.R_alloc | apply Kd.R_drewN | apply Kd.R_drew)); exact (Kd.R_mono (Kd.R_far (p := ⟨gb428, 2, none⟩) (Kd.R_far (p := ⟨gb428, 1, none⟩) (Kd.R_far (p := ⟨gb428, 0, none⟩) (Kd.R_types HO_10.out BK428.out (by decide)) (fun _ hk => hk.2) (.int .i8 ((rd_T57 t392 (rd t419 (ji105))).f0))) (fun _ hk => hk.2) (.int .i8 ((rd_T57 t392 (rd t419 (ji105))).f1))) (fun _ hk => hk.2) (.int .i16 ((rd_T57 t392 (rd t419 (ji105))).f2))) (fun _ h_ => h_.1))) hb); have n2_ := Aside0.mk (Kd.R_below (by (with_reducible repeat (first | apply Kd.R_alloc | apply Kd.R_drewN | apply Kd.R_drew)); exact (Kd.R_mono (Kd.R_far (p := ⟨gb428, 2, none⟩) (Kd.R_far (p := ⟨gb428, 1, none⟩) (Kd.R_far (p := ⟨gb428, 0, none⟩) (Kd.R_types HO_16.out BK428.out (by decide)) (fun _ hk => hk.2) (.int .i8 ((rd_T57 t392 (rd t419 (ji105))).f0))) (fun _ hk => hk.2) (.int .i8 ((rd_T57 t392 (rd t419 (ji105))).f1))) (fun _ hk => hk.2) (.int .i16 ((rd_T57 t392 (rd t419 (ji105))).f2))) (fun _ h_ => h_.1))) hb); have n3_ := Aside0.mk (Kd.R_below (by (with_reducible repeat (first | apply Kd.R_alloc | apply Kd.R_drewN | apply Kd.R_drew)); exact (Kd.R_mono (Kd.R_far (p := ⟨gb428, 2, none⟩) (Kd.R_far (p := ⟨gb428, 1, none⟩) (Kd.R_far (p := ⟨gb428, 0, none⟩) (Kd.R_types HO_21.out BK428.out (by decide)) (fun _ hk => hk.2) (.int .i8 ((rd_T57 t392 (rd t419 (ji105))).f0))) (fun _ hk => hk.2) (.int .i8 ((rd_T57 t392 (rd t419 (ji105))).f1))) (fun _ hk => hk.2) (.int .i16 ((rd_T57 t392 (rd t419 (ji105))).f2))) (fun _ h_ => h_.1))) hb); have n4_ := Aside0.mk (blk_below (g := gb391) (o := .cells #[.int .i8 t389, .int .i8 t390] 27 (0, 0)) (by (with_reducible repeat (first | refine blk_drewN ?_ _ | refine blk_drew ?_ | refine blk_alloc ?_ _)); refine blk_far ?_ NB391_428.out _; (with_reducible repeat (first | refine blk_drewN ?_ _ | refine blk_drew ?_ | refine blk_alloc ?_ _)); refine blk_far ?_ NB391_428.out _; (with_reducible repeat (first | refine blk_drewN ?_ _ | refine blk_drew ?_ | refine blk_alloc ?_ _)); refine blk_far ?_ NB391_428.out _; (with_reducible repeat (first | refine blk_drewN ?_ _ | refine blk_drew ?_ | refine blk_alloc ?_ _)); exact BK391.out) hb); have n5_ := Aside0.mk (blk_below (g := gb428) (o := .cells #[.int .i8 ((rd_T57 t392 (rd t419 (ji105))).f0), .int .i8 ((rd_T57 t392 (rd t419 (ji105))).f1), .int .i16 ((rd_T57 t392 (rd t419 (ji105))).f2)] 57 (0, 0)) (by (with_reducible repeat (first | refine blk_drewN ?_ _ | refine blk_drew ?_ | refine blk_alloc ?_ _)); refine blk_put (cs := #[.int .i8 ((rd_T57 t392 (rd t419 (ji105))).f0), .int .i8 ((rd_T57 t392 (rd t419 (ji105))).f1), .int .i16 0]) ?_ 2 _ rfl; (with_reducible repeat (first | refine blk_drewN ?_ _ | refine blk_drew ?_ | refine blk_alloc ?_ _)); refine blk_put (cs := #[.int .i8 ((rd_T57 t392 (rd t419 (ji105))).f0), .int .i8 0, .int .i16 0]) ?_ 1 _ rfl; (with_reducible repeat (first | refine blk_drewN ?_ _ | refine blk_drew ?_ | refine blk_alloc ?_ _)); refine blk_put (cs := #[.int .i8 0, .int .i8 0, .int .i16 0]) ?_ 0 _ rfl; (with_reducible repeat (first | refine blk_drewN ?_ _ | refine blk_drew ?_ | refine blk_alloc ?_ _)); exact BK428.out) hb); have n6_ := Aside0.mk (below_step (by repeat (first | (with_reducible first | exact HB.out | apply below_alloc | apply pw_below_drewN | apply below_drew1 | refine below_set ?_ GE391.out | refine below_set ?_ GE428.out) | exact HB.out)) hb); have n7_ := Aside0.mk (hbox); have n8_ := Aside0.mk ((by rw [hg]; exact (below_size (by repeat (first | (with_reducible first | exact HB.out | apply below_alloc | apply pw_below_drewN | apply below_drew1 | refine below_set ?_ GE391.out | refine below_set ?_ GE428.out) | exact HB.out))) : w.heap.size ≤ gb431)); have n9_ := Aside0.mk ((by rw [hg]; exact (below_size (by repeat (first | (with_reducible first | exact HB.out | apply below_alloc | apply pw_below_drewN | apply below_drew1 | refine below_set ?_ GE391.out | refine below_set ?_ GE428.out) | exact HB.out))) : w.heap.size ≤ gb431)); have n10_ := Aside0.mk ((by rw [hg]; exact Nat.ne_of_lt (blk_lt (g := gb391) (o := .cells #[.int .i8 t389, .int .i8 t390] 27 (0, 0)) (by (with_reducible repeat (first | refine blk_drewN ?_ _ | refine blk_drew ?_ | refine blk_alloc ?_ _)); refine blk_far ?_ NB391_428.out _; (with_reducible repeat (first | refine blk_drewN ?_ _ | refine blk_drew ?_ | refine blk_alloc ?_ _)); refine blk_far ?_ NB391_428.out _; (with_reducible repeat (first | refine blk_drewN ?_ _ | refine blk_drew ?_ | refine blk_alloc ?_ _)); refine blk_far ?_ NB391_428.out _; (with_reducible repeat (first | refine blk_drewN ?_ _ | refine blk_drew ?_ | refine blk_alloc ?_ _)); exact BK391.out)) : gb391 ≠ gb431)); have n11_ := Aside0.mk ((by rw [hg]; exact Nat.ne_of_gt (blk_lt (g := gb391) (o := .cells #[.int .i8 t389, .int .i8 t390] 27 (0, 0)) (by (with_reducible repeat (first | refine blk_drewN ?_ _ | refine blk_drew ?_ | refine blk_alloc ?_ _)); refine blk_far ?_ NB391_428.out _; (with_reducible repeat (first | refine blk_drewN ?_ _ | refine blk_drew ?_ | refine blk_alloc ?_ _)); refine blk_far ?_ NB391_428.out _; (with_reducible repeat (first | refine blk_drewN ?_ _ | refine blk_drew ?_ | refine blk_alloc ?_ _)); refine blk_far ?_ NB391_428.out _; (with_reducible repeat (first | refine blk_drewN ?_ _ | refine blk_drew ?_ | refine blk_alloc ?_ _)); exact BK391.out)) : gb431 ≠ gb391)); have n12_ := Aside0.mk ((by rw [hg]; exact Nat.ne_of_lt (blk_lt (g := gb428) (o := .cells #[.int .i8 ((rd_T57 t392 (rd t419 (ji105))).f0), .int .i8 ((rd_T57 t392 (rd t419 (ji105))).f1), .int .i16 ((rd_T57 t392 (rd t419 (ji105))).f2)] 57 (0, 0)) (by (with_reducible repeat (first | refine blk_drewN ?_ _ | refine blk_drew ?_ | refine blk_alloc ?_ _)); refine blk_put (cs := #[.int .i8 ((rd_T57 t392 (rd t419 (ji105))).f0), .int .i8 ((rd_T57 t392 (rd t419 (ji105))).f1), .int .i16 0]) ?_ 2 _ rfl; (with_reducible repeat (first | refine blk_drewN ?_ _ | refine blk_drew ?_ | refine blk_alloc ?_ _)); refine blk_put (cs := #[.int .i8 ((rd_T57 t392 (rd t419 (ji105))).f0), .int .i8 0, .int .i16 0]) ?_ 1 _ rfl; (with_reducible repeat (first | refine blk_drewN ?_ _ | refine blk_drew ?_ | refine blk_alloc ?_ _)); refine blk_put (cs := #[.int .i8 0, .int .i8 0, .int .i16 0]) ?_ 0 _ rfl; (with_reducible repeat (first | refine blk_drewN ?_ _ | refine blk_drew ?_ | refine blk_alloc ?_ _)); exact BK428.out)) : gb428 ≠ gb431)); have n13_ := Aside0.mk ((by rw [hg]; exact Nat.ne_of_gt (blk_lt (g := gb428) (o := .cells #[.int .i8 ((rd_T57 t392 (rd t419 (ji105))).f0), .int .i8 ((rd_T57 t392 (rd t419 (ji105))).f1), .int .i16 ((rd_T57 t392 (rd t419 (ji105))).f2)] 57 (0, 0)) (by (with_reducible repeat (first | refine blk_drewN ?_ _ | refine blk_drew ?_ | refine blk_alloc ?_ _)); refine blk_put (cs := #[.int .i8 ((rd_T57 t392 (rd t419 (ji105))).f0), .int .i8 ((rd_T57 t392 (rd t419 (ji105))).f1), .int .i16 0]) ?_ 2 _ rfl; (with_reducible repeat (first | refine blk_drewN ?_ _ | refine blk_drew ?_ | refine blk_alloc ?_ _)); refine blk_put (cs := #[.int .i8 ((rd_T57 t392 (rd t419 (ji105))).f0), .int .i8 0, .int .i16 0]) ?_ 1 _ rfl; (with_reducible repeat (first | refine blk_drewN ?_ _ | refine blk_drew ?_ | refine blk_alloc ?_ _)); refine blk_put (cs := #[.int .i8 0, .int .i8 0, .int .i16 0]) ?_ 0 _ rfl; (with_reducible repeat (first | refine blk_drewN ?_ _ | refine blk_drew ?_ | refine blk_alloc ?_ _)); exact BK428.out)) : gb431 ≠ gb428)); clear HO_6; clear HO_10; clear HO_16; clear HO_21; clear BK391; clear BK428; clear HB; have HO_6 := n0_; have HO_10 := n1_; have HO_16 := n2_; have HO_21 := n3_; have BK391 := n4_; have BK428 := n5_; have HB := n6_; have BK431 := n7_; have GW431 := n8_; have GE431 := n9_; have NB391_431 := n10_; have NB431_391 := n11_; have NB428_431 := n12_; have NB431_428 := n13_; clear n0_ n1_ n2_ n3_ n4_ n5_ n6_ n7_ n8_ n9_ n10_ n11_ n12_ n13_; clear hb hbox hg; have hnb151 := NB431_391.out; have hnc151 := NB391_431.out; have hnb152 := NB431_428.out; have hnc152 := NB428_431.out; have hcz153_0 : w150.cell? ⟨gb431, 0, none⟩ = some (.int .i8 0) := (blk_cell BK431.out 0).trans rfl; have hcz153_1 : w150.cell? ⟨gb431, 1, none⟩ = some (.int .i8 0) := (blk_cell BK431.out 1).trans rfl; have hcz153_2 : w150.cell? ⟨gb431, 2, none⟩ = some (.int .i16 0) := (blk_cell BK431.out 2).trans rfl; have hfz153_0 := blk_frozen BK431.out 0; have hfz153_1 := blk_frozen BK431.out 1; have hfz153_2 := blk_frozen BK431.out 2))
                       have n0_ : Aside0 (Kd.R k57 57 (((w150.setCell ⟨gb431, 0, none⟩ (.int .i8 ((rd_T57 t392 (rd t419 x23_3)).f0))).setCell ⟨gb431, 1, none⟩ (.int .i8 ((rd_T57 t392 (rd t419 x23_3)).f1))).setCell ⟨gb431, 2, none⟩ (.int .i16 ((rd_T57 t392 (rd t419 x23_3)).f2))) w.heap.size (fun k_ => k_ ≠ gb428 ∧ k_ ≠ gb431) (.slice (some ad427) t392.length co22) t392) := ⟨by (with_reducible repeat (first | apply Kd.R_alloc | apply Kd.R_drewN | apply Kd.R_drew)); exact Kd.R_mono (Kd.R_far (p := ⟨gb431, 2, none⟩) (Kd.R_far (p := ⟨gb431, 1, none⟩) (Kd.R_far (p := ⟨gb431, 0, none⟩) (Kd.R_mono HO_6.out (fun k_ hk => (⟨hk, hk.2⟩ : _ ∧ k_ ≠ gb431))) (fun _ hk => hk.2) (.int .i8 ((rd_T57 t392 (rd t419 x23_3)).f0))) (fun _ hk => hk.2) (.int .i8 ((rd_T57 t392 (rd t419 x23_3)).f1))) (fun _ hk => hk.2) (.int .i16 ((rd_T57 t392 (rd t419 x23_3)).f2))) (fun _ hk => ⟨hk.1.1.2, hk.1.2⟩)⟩
                       have n1_ : Aside0 (Kd.R (Kd.int .i64) 2 (((w150.setCell ⟨gb431, 0, none⟩ (.int .i8 ((rd_T57 t392 (rd t419 x23_3)).f0))).setCell ⟨gb431, 1, none⟩ (.int .i8 ((rd_T57 t392 (rd t419 x23_3)).f1))).setCell ⟨gb431, 2, none⟩ (.int .i16 ((rd_T57 t392 (rd t419 x23_3)).f2))) w.heap.size (fun k_ => some k_ ≠ (v411 : Value).ownBlock ∧ some k_ ≠ (.slice (some ad426) t419.length co146 : Value).ownBlock) v401 t400) := ⟨by (with_reducible repeat (first | apply Kd.R_alloc | apply Kd.R_drewN | apply Kd.R_drew)); exact Kd.R_mono (Kd.R_far (p := ⟨gb431, 2, none⟩) (Kd.R_far (p := ⟨gb431, 1, none⟩) (Kd.R_far (p := ⟨gb431, 0, none⟩) (Kd.R_types HO_10.out BK431.out (by decide)) (fun _ hk => hk.2) (.int .i8 ((rd_T57 t392 (rd t419 x23_3)).f0))) (fun _ hk => hk.2) (.int .i8 ((rd_T57 t392 (rd t419 x23_3)).f1))) (fun _ hk => hk.2) (.int .i16 ((rd_T57 t392 (rd t419 x23_3)).f2))) (fun _ hk => ⟨hk.1.1, hk.1.2⟩)⟩
                       have n2_ : Aside0 (Kd.R (Kd.int .i64) 2 (((w150.setCell ⟨gb431, 0, none⟩ (.int .i8 ((rd_T57 t392 (rd t419 x23_3)).f0))).setCell ⟨gb431, 1, none⟩ (.int .i8 ((rd_T57 t392 (rd t419 x23_3)).f1))).setCell ⟨gb431, 2, none⟩ (.int .i16 ((rd_T57 t392 (rd t419 x23_3)).f2))) w.heap.size (fun k_ => some k_ ≠ (v401 : Value).ownBlock ∧ some k_ ≠ (.slice (some ad426) t419.length co146 : Value).ownBlock) v411 t410) := ⟨by (with_reducible repeat (first | apply Kd.R_alloc | apply Kd.R_drewN | apply Kd.R_drew)); exact Kd.R_mono (Kd.R_far (p := ⟨gb431, 2, none⟩) (Kd.R_far (p := ⟨gb431, 1, none⟩) (Kd.R_far (p := ⟨gb431, 0, none⟩) (Kd.R_types HO_16.out BK431.out (by decide)) (fun _ hk => hk.2) (.int .i8 ((rd_T57 t392 (rd t419 x23_3)).f0))) (fun _ hk => hk.2) (.int .i8 ((rd_T57 t392 (rd t419 x23_3)).f1))) (fun _ hk => hk.2) (.int .i16 ((rd_T57 t392 (rd t419 x23_3)).f2))) (fun _ hk => ⟨hk.1.1, hk.1.2⟩)⟩
                       have n3_ : Aside0 (Kd.R (Kd.int .i64) 2 (((w150.setCell ⟨gb431, 0, none⟩ (.int .i8 ((rd_T57 t392 (rd t419 x23_3)).f0))).setCell ⟨gb431, 1, none⟩ (.int .i8 ((rd_T57 t392 (rd t419 x23_3)).f1))).setCell ⟨gb431, 2, none⟩ (.int .i16 ((rd_T57 t392 (rd t419 x23_3)).f2))) w.heap.size (fun k_ => some k_ ≠ (v401 : Value).ownBlock ∧ some k_ ≠ (v411 : Value).ownBlock) (.slice (some ad426) t419.length co146) t419) := ⟨by (with_reducible repeat (first | apply Kd.R_alloc | apply Kd.R_drewN | apply Kd.R_drew)); exact Kd.R_mono (Kd.R_far (p := ⟨gb431, 2, none⟩) (Kd.R_far (p := ⟨gb431, 1, none⟩) (Kd.R_far (p := ⟨gb431, 0, none⟩) (Kd.R_types HO_21.out BK431.out (by decide)) (fun _ hk => hk.2) (.int .i8 ((rd_T57 t392 (rd t419 x23_3)).f0))) (fun _ hk => hk.2) (.int .i8 ((rd_T57 t392 (rd t419 x23_3)).f1))) (fun _ hk => hk.2) (.int .i16 ((rd_T57 t392 (rd t419 x23_3)).f2))) (fun _ hk => ⟨hk.1.1, hk.1.2⟩)⟩
                       have n4_ : Aside0 ((((w150.setCell ⟨gb431, 0, none⟩ (.int .i8 ((rd_T57 t392 (rd t419 x23_3)).f0))).setCell ⟨gb431, 1, none⟩ (.int .i8 ((rd_T57 t392 (rd t419 x23_3)).f1))).setCell ⟨gb431, 2, none⟩ (.int .i16 ((rd_T57 t392 (rd t419 x23_3)).f2))).heap[gb391]? = some (.cells #[.int .i8 t389, .int .i8 t390] 27 (0, 0))) := ⟨by (with_reducible repeat (first | refine blk_drewN ?_ _ | refine blk_drew ?_ | refine blk_alloc ?_ _)); refine blk_far ?_ NB391_431.out _; (with_reducible repeat (first | refine blk_drewN ?_ _ | refine blk_drew ?_ | refine blk_alloc ?_ _)); refine blk_far ?_ NB391_431.out _; (with_reducible repeat (first | refine blk_drewN ?_ _ | refine blk_drew ?_ | refine blk_alloc ?_ _)); refine blk_far ?_ NB391_431.out _; (with_reducible repeat (first | refine blk_drewN ?_ _ | refine blk_drew ?_ | refine blk_alloc ?_ _)); exact BK391.out⟩
                       have n5_ : Aside0 ((((w150.setCell ⟨gb431, 0, none⟩ (.int .i8 ((rd_T57 t392 (rd t419 x23_3)).f0))).setCell ⟨gb431, 1, none⟩ (.int .i8 ((rd_T57 t392 (rd t419 x23_3)).f1))).setCell ⟨gb431, 2, none⟩ (.int .i16 ((rd_T57 t392 (rd t419 x23_3)).f2))).heap[gb428]? = some (.cells #[.int .i8 ((rd_T57 t392 (rd t419 (ji105))).f0), .int .i8 ((rd_T57 t392 (rd t419 (ji105))).f1), .int .i16 ((rd_T57 t392 (rd t419 (ji105))).f2)] 57 (0, 0))) := ⟨by (with_reducible repeat (first | refine blk_drewN ?_ _ | refine blk_drew ?_ | refine blk_alloc ?_ _)); refine blk_far ?_ NB428_431.out _; (with_reducible repeat (first | refine blk_drewN ?_ _ | refine blk_drew ?_ | refine blk_alloc ?_ _)); refine blk_far ?_ NB428_431.out _; (with_reducible repeat (first | refine blk_drewN ?_ _ | refine blk_drew ?_ | refine blk_alloc ?_ _)); refine blk_far ?_ NB428_431.out _; (with_reducible repeat (first | refine blk_drewN ?_ _ | refine blk_drew ?_ | refine blk_alloc ?_ _)); exact BK428.out⟩
                       have n6_ : Aside0 ((((w150.setCell ⟨gb431, 0, none⟩ (.int .i8 ((rd_T57 t392 (rd t419 x23_3)).f0))).setCell ⟨gb431, 1, none⟩ (.int .i8 ((rd_T57 t392 (rd t419 x23_3)).f1))).setCell ⟨gb431, 2, none⟩ (.int .i16 ((rd_T57 t392 (rd t419 x23_3)).f2))).heap[gb431]? = some (.cells #[.int .i8 ((rd_T57 t392 (rd t419 x23_3)).f0), .int .i8 ((rd_T57 t392 (rd t419 x23_3)).f1), .int .i16 ((rd_T57 t392 (rd t419 x23_3)).f2)] 57 (0, 0))) := ⟨by (with_reducible repeat (first | refine blk_drewN ?_ _ | refine blk_drew ?_ | refine blk_alloc ?_ _)); refine blk_put (cs := #[.int .i8 ((rd_T57 t392 (rd t419 x23_3)).f0), .int .i8 ((rd_T57 t392 (rd t419 x23_3)).f1), .int .i16 0]) ?_ 2 _ rfl; (with_reducible repeat (first | refine blk_drewN ?_ _ | refine blk_drew ?_ | refine blk_alloc ?_ _)); refine blk_put (cs := #[.int .i8 ((rd_T57 t392 (rd t419 x23_3)).f0), .int .i8 0, .int .i16 0]) ?_ 1 _ rfl; (with_reducible repeat (first | refine blk_drewN ?_ _ | refine blk_drew ?_ | refine blk_alloc ?_ _)); refine blk_put (cs := #[.int .i8 0, .int .i8 0, .int .i16 0]) ?_ 0 _ rfl; (with_reducible repeat (first | refine blk_drewN ?_ _ | refine blk_drew ?_ | refine blk_alloc ?_ _)); exact BK431.out⟩
                       have n7_ : Aside0 (Below w.heap.size w (((w150.setCell ⟨gb431, 0, none⟩ (.int .i8 ((rd_T57 t392 (rd t419 x23_3)).f0))).setCell ⟨gb431, 1, none⟩ (.int .i8 ((rd_T57 t392 (rd t419 x23_3)).f1))).setCell ⟨gb431, 2, none⟩ (.int .i16 ((rd_T57 t392 (rd t419 x23_3)).f2)))) := ⟨by repeat (first | (with_reducible first | exact HB.out | apply below_alloc | apply pw_below_drewN | apply below_drew1 | refine below_set ?_ GE391.out | refine below_set ?_ GE428.out | refine below_set ?_ GE431.out) | exact HB.out)⟩
                       (try clear HO_6)
                       (try clear HO_10)
                       (try clear HO_16)
                       (try clear HO_21)
                       (try clear BK391)
                       (try clear BK428)
                       (try clear BK431)
                       (try clear HB)
                       generalize (((w150.setCell ⟨gb431, 0, none⟩ (.int .i8 ((rd_T57 t392 (rd t419 x23_3)).f0))).setCell ⟨gb431, 1, none⟩ (.int .i8 ((rd_T57 t392 (rd t419 x23_3)).f1))).setCell ⟨gb431, 2, none⟩ (.int .i16 ((rd_T57 t392 (rd t419 x23_3)).f2))) = w154 at n0_ n1_ n2_ n3_ n4_ n5_ n6_ n7_ ⊢
                       have HO_6 := n0_
                       have HO_10 := n1_
                       have HO_16 := n2_
                       have HO_21 := n3_
                       have BK391 := n4_
                       have BK428 := n5_
                       have BK431 := n6_
                       have HB := n7_
                       clear n0_ n1_ n2_ n3_ n4_ n5_ n6_ n7_
                       have n0_ := Aside0.mk (Kd.R_drew HO_6.out)
                       have n1_ := Aside0.mk (Kd.R_drew HO_10.out)
                       have n2_ := Aside0.mk (Kd.R_drew HO_16.out)
                       have n3_ := Aside0.mk (Kd.R_drew HO_21.out)
                       have n4_ := Aside0.mk (blk_drew BK391.out)
                       have n5_ := Aside0.mk (blk_drew BK428.out)
                       have n6_ := Aside0.mk (blk_drew BK431.out)
                       have n7_ := Aside0.mk (below_drew1 HB.out)
                       clear HO_6
                       clear HO_10
                       clear HO_16
                       clear HO_21
                       clear BK391
                       clear BK428
                       clear BK431
                       clear HB
                       have HO_6 := n0_
                       have HO_10 := n1_
                       have HO_16 := n2_
                       have HO_21 := n3_
                       have BK391 := n4_
                       have BK428 := n5_
                       have BK431 := n6_
                       have HB := n7_
                       clear n0_ n1_ n2_ n3_ n4_ n5_ n6_ n7_
                       refine start_ (n := 24) (S := fun w' => w'.cell? ⟨gb428, 0, none⟩ = some (.int .i8 ((rd_T57 t392 (rd t419 (ji105))).f0)) ∧ w'.cell? ⟨gb428, 1, none⟩ = some (.int .i8 ((rd_T57 t392 (rd t419 (ji105))).f1)) ∧ w'.cell? ⟨gb428, 2, none⟩ = some (.int .i16 ((rd_T57 t392 (rd t419 (ji105))).f2)) ∧ w'.cell? ⟨gb431, 0, none⟩ = some (.int .i8 ((rd_T57 t392 (rd t419 x23_3)).f0)) ∧ w'.cell? ⟨gb431, 1, none⟩ = some (.int .i8 ((rd_T57 t392 (rd t419 x23_3)).f1)) ∧ w'.cell? ⟨gb431, 2, none⟩ = some (.int .i16 ((rd_T57 t392 (rd t419 x23_3)).f2))) (ds := []) #[false, false, false, false, false, false, false, false, false, false, false, false, false, false, false, false, false, false, false, false, false, false, false, false] (by kernel_rfl) rfl rfl ⟨(blk_cell BK428.out 0).trans rfl, (blk_cell BK428.out 1).trans rfl, (blk_cell BK428.out 2).trans rfl, (blk_cell BK431.out 0).trans rfl, (blk_cell BK431.out 1).trans rfl, (blk_cell BK431.out 2).trans rfl⟩ (fun hHeld => ?_); refine with_tabW laws_FnLate.tab18 laws_FnLate.bits18 (fun HT_ HW_ => ?_)
                       generalize w154.drew = w155 at HO_6 HO_10 HO_16 HO_21 BK391 BK428 BK431 HB hHeld ⊢
                       refine pure_ (i := 0) (N := some 190) (v := ?_) (a' := ?_) #[true, false, false, false, false, false, false, false, false, false, false, false, false, false, false, false, false, false, false, false, false, false, false, false] rfl rfl (any_of HT_.out (by kernel_rfl)) (fun _ _ _ h => h) (Or.inl ⟨by rfl, ?_⟩) ?_ ?_
                       rotate_left
                       · intro w'
                         go_simp
                         with_reducible rfl
                       rotate_left
                       · simp only [Act.put, List.setIfInBounds_toArray, List.set_cons_zero, List.set_cons_succ, i64_w, i32_w]
                         rfl
                       refine pure_ (i := 2) (N := some 192) (v := ?_) (a' := ?_) #[true, false, true, false, false, false, false, false, false, false, false, false, false, false, false, false, false, false, false, false, false, false, false, false] rfl rfl (any_of HT_.out (by kernel_rfl)) (fun _ _ _ h => h) (Or.inl ⟨by rfl, ?_⟩) ?_ ?_
                       rotate_left
                       · intro w'
                         go_simp
                         with_reducible rfl
                       rotate_left
                       · simp only [Act.put, List.setIfInBounds_toArray, List.set_cons_zero, List.set_cons_succ, i64_w, i32_w]
                         rfl
                       refine take_ (i := 1) (N := some 191) (v := ?_) (a' := ?_) #[true, true, true, false, false, false, false, false, false, false, false, false, false, false, false, false, false, false, false, false, false, false, false, false] rfl rfl (take_ofW HT_.out HW_.out (by kernel_rfl)) (fun _ _ _ h => h) (Or.inl ⟨by rfl, ?_⟩) hHeld ?_ ?_
                       rotate_left
                       · rintro w' ⟨s0, s1, s2, s3, s4, s5⟩
                         go_simp
                         with_reducible rfl
                       rotate_left
                       · simp only [Act.put, List.setIfInBounds_toArray, List.set_cons_zero, List.set_cons_succ, i64_w, i32_w]
                         rfl
                       refine take_ (i := 3) (N := some 193) (v := ?_) (a' := ?_) #[true, true, true, true, false, false, false, false, false, false, false, false, false, false, false, false, false, false, false, false, false, false, false, false] rfl rfl (take_ofW HT_.out HW_.out (by kernel_rfl)) (fun _ _ _ h => h) (Or.inl ⟨by rfl, ?_⟩) hHeld ?_ ?_
                       rotate_left
                       · rintro w' ⟨s0, s1, s2, s3, s4, s5⟩
                         go_simp
                         with_reducible rfl
                       rotate_left
                       · simp only [Act.put, List.setIfInBounds_toArray, List.set_cons_zero, List.set_cons_succ, i64_w, i32_w]
                         rfl
                       refine pure_ (i := 4) (N := some 194) (v := ?_) (a' := ?_) #[true, true, true, true, true, false, false, false, false, false, false, false, false, false, false, false, false, false, false, false, false, false, false, false] rfl rfl (any_of HT_.out (by kernel_rfl)) (fun _ _ _ h => h) (Or.inl ⟨by rfl, ?_⟩) ?_ ?_
                       rotate_left
                       · intro w'
                         go_simp
                         with_reducible rfl
                       rotate_left
                       · simp only [Act.put, List.setIfInBounds_toArray, List.set_cons_zero, List.set_cons_succ, i64_w, i32_w]
                         rfl
                       refine pure_ (i := 5) (N := some 195) (v := ?_) (a' := ?_) #[true, true, true, true, true, true, false, false, false, false, false, false, false, false, false, false, false, false, false, false, false, false, false, false] rfl rfl (any_of HT_.out (by kernel_rfl)) (fun _ _ _ h => h) (Or.inl ⟨by rfl, ?_⟩) ?_ ?_
                       rotate_left
                       · intro w'
                         go_simp
                         with_reducible rfl
                       rotate_left
                       · simp only [Act.put, List.setIfInBounds_toArray, List.set_cons_zero, List.set_cons_succ, i64_w, i32_w]
                         rfl
                       refine pure_ (i := 6) (N := some 196) (v := ?_) (a' := ?_) #[true, true, true, true, true, true, true, false, false, false, false, false, false, false, false, false, false, false, false, false, false, false, false, false] rfl rfl (any_of HT_.out (by kernel_rfl)) (fun _ _ _ h => h) (Or.inl ⟨by rfl, ?_⟩) ?_ ?_
                       rotate_left
                       · intro w'
                         go_simp
                         with_reducible rfl
                       rotate_left
                       · simp only [Act.put, List.setIfInBounds_toArray, List.set_cons_zero, List.set_cons_succ, i64_w, i32_w]
                         rfl
                       refine pure_ (i := 8) (N := some 198) (v := ?_) (a' := ?_) #[true, true, true, true, true, true, true, false, true, false, false, false, false, false, false, false, false, false, false, false, false, false, false, false] rfl rfl (any_of HT_.out (by kernel_rfl)) (fun _ _ _ h => h) (Or.inl ⟨by rfl, ?_⟩) ?_ ?_
                       rotate_left
                       · intro w'
                         go_simp
                         with_reducible rfl
                       rotate_left
                       · simp only [Act.put, List.setIfInBounds_toArray, List.set_cons_zero, List.set_cons_succ, i64_w, i32_w]
                         rfl
                       refine take_ (i := 7) (N := some 197) (v := ?_) (a' := ?_) #[true, true, true, true, true, true, true, true, true, false, false, false, false, false, false, false, false, false, false, false, false, false, false, false] rfl rfl (take_ofW HT_.out HW_.out (by kernel_rfl)) (fun _ _ _ h => h) (Or.inl ⟨by rfl, ?_⟩) hHeld ?_ ?_
                       rotate_left
                       · rintro w' ⟨s0, s1, s2, s3, s4, s5⟩
                         go_simp
                         with_reducible rfl
                       rotate_left
                       · simp only [Act.put, List.setIfInBounds_toArray, List.set_cons_zero, List.set_cons_succ, i64_w, i32_w]
                         rfl
                       refine take_ (i := 9) (N := some 199) (v := ?_) (a' := ?_) #[true, true, true, true, true, true, true, true, true, true, false, false, false, false, false, false, false, false, false, false, false, false, false, false] rfl rfl (take_ofW HT_.out HW_.out (by kernel_rfl)) (fun _ _ _ h => h) (Or.inl ⟨by rfl, ?_⟩) hHeld ?_ ?_
                       rotate_left
                       · rintro w' ⟨s0, s1, s2, s3, s4, s5⟩
                         go_simp
                         with_reducible rfl
                       rotate_left
                       · simp only [Act.put, List.setIfInBounds_toArray, List.set_cons_zero, List.set_cons_succ, i64_w, i32_w]
                         rfl
                       refine pure_ (i := 10) (N := some 200) (v := ?_) (a' := ?_) #[true, true, true, true, true, true, true, true, true, true, true, false, false, false, false, false, false, false, false, false, false, false, false, false] rfl rfl (any_of HT_.out (by kernel_rfl)) (fun _ _ _ h => h) (Or.inl ⟨by rfl, ?_⟩) ?_ ?_
                       rotate_left
                       · intro w'
                         go_simp
                         with_reducible rfl
                       rotate_left
                       · simp only [Act.put, List.setIfInBounds_toArray, List.set_cons_zero, List.set_cons_succ, i64_w, i32_w]
                         rfl
                       refine pure_ (i := 11) (N := some 201) (v := ?_) (a' := ?_) #[true, true, true, true, true, true, true, true, true, true, true, true, false, false, false, false, false, false, false, false, false, false, false, false] rfl rfl (any_of HT_.out (by kernel_rfl)) (fun _ _ _ h => h) (Or.inl ⟨by rfl, ?_⟩) ?_ ?_
                       rotate_left
                       · intro w'
                         go_simp
                         with_reducible rfl
                       rotate_left
                       · simp only [Act.put, List.setIfInBounds_toArray, List.set_cons_zero, List.set_cons_succ, i64_w, i32_w]
                         rfl
                       refine pure_ (i := 12) (N := some 202) (v := undef) (a' := ?_) #[true, true, true, true, true, true, true, true, true, true, true, true, true, false, false, false, false, false, false, false, false, false, false, false] rfl rfl (any_of HT_.out (by kernel_rfl)) (fun _ _ _ h => h) (Or.inr ⟨by rfl, rfl⟩) ?_ ?_
                       rotate_left
                       · simp only [Act.put, List.setIfInBounds_toArray, List.set_cons_zero, List.set_cons_succ, i64_w, i32_w]
                         rfl
                       refine pure_ (i := 13) (N := some 203) (v := undef) (a' := ?_) #[true, true, true, true, true, true, true, true, true, true, true, true, true, true, false, false, false, false, false, false, false, false, false, false] rfl rfl (any_of HT_.out (by kernel_rfl)) (fun _ _ _ h => h) (Or.inr ⟨by rfl, rfl⟩) ?_ ?_
                       rotate_left
                       · simp only [Act.put, List.setIfInBounds_toArray, List.set_cons_zero, List.set_cons_succ, i64_w, i32_w]
                         rfl
                       refine pure_ (i := 14) (N := some 204) (v := undef) (a' := ?_) #[true, true, true, true, true, true, true, true, true, true, true, true, true, true, true, false, false, false, false, false, false, false, false, false] rfl rfl (any_of HT_.out (by kernel_rfl)) (fun _ _ _ h => h) (Or.inr ⟨by rfl, rfl⟩) ?_ ?_
                       rotate_left
                       · simp only [Act.put, List.setIfInBounds_toArray, List.set_cons_zero, List.set_cons_succ, i64_w, i32_w]
                         rfl
                       refine pure_ (i := 15) (N := some 205) (v := undef) (a' := ?_) #[true, true, true, true, true, true, true, true, true, true, true, true, true, true, true, true, false, false, false, false, false, false, false, false] rfl rfl (any_of HT_.out (by kernel_rfl)) (fun _ _ _ h => h) (Or.inr ⟨by rfl, rfl⟩) ?_ ?_
                       rotate_left
                       · simp only [Act.put, List.setIfInBounds_toArray, List.set_cons_zero, List.set_cons_succ, i64_w, i32_w]
                         rfl
                       refine pure_ (i := 16) (N := some 206) (v := undef) (a' := ?_) #[true, true, true, true, true, true, true, true, true, true, true, true, true, true, true, true, true, false, false, false, false, false, false, false] rfl rfl (any_of HT_.out (by kernel_rfl)) (fun _ _ _ h => h) (Or.inr ⟨by rfl, rfl⟩) ?_ ?_
                       rotate_left
                       · simp only [Act.put, List.setIfInBounds_toArray, List.set_cons_zero, List.set_cons_succ, i64_w, i32_w]
                         rfl
                       refine pure_ (i := 17) (N := some 207) (v := undef) (a' := ?_) #[true, true, true, true, true, true, true, true, true, true, true, true, true, true, true, true, true, true, false, false, false, false, false, false] rfl rfl (any_of HT_.out (by kernel_rfl)) (fun _ _ _ h => h) (Or.inr ⟨by rfl, rfl⟩) ?_ ?_
                       rotate_left
                       · simp only [Act.put, List.setIfInBounds_toArray, List.set_cons_zero, List.set_cons_succ, i64_w, i32_w]
                         rfl
                       refine pure_ (i := 18) (N := some 208) (v := undef) (a' := ?_) #[true, true, true, true, true, true, true, true, true, true, true, true, true, true, true, true, true, true, true, false, false, false, false, false] rfl rfl (any_of HT_.out (by kernel_rfl)) (fun _ _ _ h => h) (Or.inr ⟨by rfl, rfl⟩) ?_ ?_
                       rotate_left
                       · simp only [Act.put, List.setIfInBounds_toArray, List.set_cons_zero, List.set_cons_succ, i64_w, i32_w]
                         rfl
                       refine pure_ (i := 19) (N := some 209) (v := undef) (a' := ?_) #[true, true, true, true, true, true, true, true, true, true, true, true, true, true, true, true, true, true, true, true, false, false, false, false] rfl rfl (any_of HT_.out (by kernel_rfl)) (fun _ _ _ h => h) (Or.inr ⟨by rfl, rfl⟩) ?_ ?_
                       rotate_left
                       · simp only [Act.put, List.setIfInBounds_toArray, List.set_cons_zero, List.set_cons_succ, i64_w, i32_w]
                         rfl
                       refine pure_ (i := 20) (N := some 210) (v := undef) (a' := ?_) #[true, true, true, true, true, true, true, true, true, true, true, true, true, true, true, true, true, true, true, true, true, false, false, false] rfl rfl (any_of HT_.out (by kernel_rfl)) (fun _ _ _ h => h) (Or.inr ⟨by rfl, rfl⟩) ?_ ?_
                       rotate_left
                       · simp only [Act.put, List.setIfInBounds_toArray, List.set_cons_zero, List.set_cons_succ, i64_w, i32_w]
                         rfl
                       refine pure_ (i := 21) (N := some 211) (v := undef) (a' := ?_) #[true, true, true, true, true, true, true, true, true, true, true, true, true, true, true, true, true, true, true, true, true, true, false, false] rfl rfl (any_of HT_.out (by kernel_rfl)) (fun _ _ _ h => h) (Or.inr ⟨by rfl, rfl⟩) ?_ ?_
                       rotate_left
                       · simp only [Act.put, List.setIfInBounds_toArray, List.set_cons_zero, List.set_cons_succ, i64_w, i32_w]
                         rfl
                       refine pure_ (i := 22) (N := some 212) (v := ?_) (a' := ?_) #[true, true, true, true, true, true, true, true, true, true, true, true, true, true, true, true, true, true, true, true, true, true, true, false] rfl rfl (any_of HT_.out (by kernel_rfl)) (fun _ _ _ h => h) (Or.inl ⟨by rfl, ?_⟩) ?_ ?_
                       rotate_left
                       · intro w'
                         go_simp
                         with_reducible rfl
                       rotate_left
                       · simp only [Act.put, List.setIfInBounds_toArray, List.set_cons_zero, List.set_cons_succ, i64_w, i32_w]
                         rfl
                       refine pure_ (i := 23) (N := some 213) (v := ?_) (a' := ?_) #[true, true, true, true, true, true, true, true, true, true, true, true, true, true, true, true, true, true, true, true, true, true, true, true] rfl rfl (any_of HT_.out (by kernel_rfl)) (fun _ _ _ h => h) (Or.inl ⟨by rfl, ?_⟩) ?_ ?_
                       rotate_left
                       · intro w'
                         go_simp
                         with_reducible rfl
                       rotate_left
                       · simp only [Act.put, List.setIfInBounds_toArray, List.set_cons_zero, List.set_cons_succ, i64_w, i32_w]
                         rfl
                       refine done_ (done_of HT_.out (by kernel_rfl)) ?_
                       try go_wp2
                       go_roundg k3
                       case measure => have := HJ2.out; have := HJ15.out; have := HK3.out; omega
                       case rel => exact ⟨(wrap64 (x23_3 + 1)), (by first | rfl | (simp; done) | (simp [*]; done)), H', ⟨by have := HJ2.out; have := HJ15.out; have := HK3.out; omega⟩, ⟨by (with_reducible repeat (first | apply Kd.R_alloc | apply Kd.R_drewN | apply Kd.R_drew)); exact Kd.R_mono HO_6.out (fun _ hk => trivial)⟩, ⟨mvR HO_10⟩, ⟨mvR HO_16⟩, ⟨mvR HO_21⟩, ⟨by (with_reducible repeat (first | refine blk_drewN ?_ _ | refine blk_drew ?_ | refine blk_alloc ?_ _)); exact BK391.out⟩, ⟨by repeat (first | (with_reducible first | exact HB.out | apply below_alloc | apply pw_below_drewN | apply below_drew1 | refine below_set ?_ GE391.out | refine below_set ?_ GE428.out | refine below_set ?_ GE431.out) | exact HB.out)⟩⟩
                 · rw [if_neg c112] at H
                   exact absurd H (by simp)
               · rw [if_neg c111] at H
                 exact absurd H (by simp)
             · rw [if_neg c110] at H
               exact absurd H (by simp)
           · rw [if_neg c109] at H
             exact absurd H (by simp)
         · rw [if_neg c108] at H
           exact absurd H (by simp)
       · rw [if_neg c107] at H
         exact absurd H (by simp)
     · rw [if_neg c106] at H
       exact absurd H (by simp)
   · rw [if_neg c104] at H
     have c104b0 : decide (x23_3 < (t419.length : Int)) = false := decide_eq_false c104
     clear c104
     replace H := Option.bind_eq_some_iff.mp H
     obtain ⟨t434, A1560, H⟩ := H
     replace H : (laws_FnLate.l1 k3 t392 t403 t413 (([t400, t410, t419, t434] : List (List Int))) 0 t389 t390) = some true := H
     have A156 := Aside0.mk A1560
     clear A1560
     obtain ⟨y437, hy437⟩ : ∃ y_ : List (List Int), y_ = (([t400, t410, t419, t434] : List (List Int))) := ⟨_, rfl⟩
     replace H : (laws_FnLate.l1 k3 t392 t403 t413 y437 0 t389 t390) = some true := by first | (rw [hy437]; with_reducible exact H) | (have H2_ := (Option.bind_some _ _).symm.trans H; rw [hy437]; with_reducible exact H2_) | (have H2_ := (Option.bind_some _ _).symm.trans H; with_reducible exact H2_) | with_reducible exact H | (rw [hy437]; exact H) | exact H
     have Ny437 := Aside0.mk hy437
     clear hy437
     have H' := Aside0.mk H
     clear H
     obtain ⟨Ao157, co157, eo157⟩ := Kd.R_slice HO_21.out
     subst eo157
     go_wp2_with (first | ((with_reducible refine gate_callee (f := 62) rfl ?_); refine goesL_ (some 220) rfl rfl Try.func62 (by kernel_rfl) rfl #[.slice A0 l0.length c0, .int .i64 (t392.length : Int)] rfl (by (try simp only [List.map_toArray, List.map_cons, List.map_nil]); first | done | rfl | (simp only [List.length_drop, List.length_take]; rfl)) ?_; (with_reducible refine (spec_P6Order.calls k3 _ _ l0 (t392.length : Int) t434 _ ?side1 ?side2 A156.out).mono ?_); (case side1 => exact cvC ((Kd.C_below HR0.out HB.out))); (case side2 => exact HC0.out); rintro e w158 ⟨v435, rfl, ho0, hb⟩; refine ⟨_, rfl, ?_⟩; have n0_ := Aside0.mk (Kd.R_below (mvR HO_6) hb); have n1_ := Aside0.mk (Kd.R_elder' (mvR HO_10) (Kd.R_base ho0) hb); have n2_ := Aside0.mk (Kd.R_elder' (mvR HO_16) (Kd.R_base ho0) hb); have n3_ := Aside0.mk (Kd.R_elder' (mvR HO_21) (Kd.R_base ho0) hb); have n4_ := Aside0.mk (Kd.R_lower (Kd.R_new' (Kd.R_new' (Kd.R_new' ho0 (Kd.R_lt (mvR HO_10))) (Kd.R_lt (mvR HO_16))) (Kd.R_lt (mvR HO_21))) (below_size (by repeat (first | (with_reducible first | exact HB.out | apply below_alloc | apply pw_below_drewN | apply below_drew1 | refine below_set ?_ GE391.out) | exact HB.out)))); have n5_ := Aside0.mk (blk_below (g := gb391) (o := .cells #[.int .i8 t389, .int .i8 t390] 27 (0, 0)) (by (with_reducible repeat (first | refine blk_drewN ?_ _ | refine blk_drew ?_ | refine blk_alloc ?_ _)); exact BK391.out) hb); have n6_ := Aside0.mk (below_step (by repeat (first | (with_reducible first | exact HB.out | apply below_alloc | apply pw_below_drewN | apply below_drew1 | refine below_set ?_ GE391.out) | exact HB.out)) hb); clear HO_6; clear HO_10; clear HO_16; clear HO_21; clear BK391; clear HB; have HO_6 := n0_; have HO_10 := n1_; have HO_16 := n2_; have HO_21 := n3_; have HO436 := n4_; have BK391 := n5_; have HB := n6_; clear n0_ n1_ n2_ n3_ n4_ n5_ n6_; (try clear hb); (try clear hb2); (try clear hk); (try clear hi); (try clear ho0); obtain ⟨Ao159, co159, eo159⟩ := Kd.R_slice HO_10.out; subst eo159; obtain ⟨Ao160, co160, eo160⟩ := Kd.R_slice HO_16.out; subst eo160; obtain ⟨Ao161, co161, eo161⟩ := Kd.R_slice HO436.out; subst eo161) | ((with_reducible refine gate_dst (N := 221) rfl ?_); (try (refine gate_guard (by rfl) ?_; dsimp only)); refine Kd.N_lit (Kd.slice 2 (Kd.int .i64)) _ 37 ?hg (N' := 221) ?hd (xs := ([t400, t410, t419, t434] : List (List Int))) (inner := [.slice Ao159 t400.length co159, .slice Ao160 t410.length co160, .slice Ao157 t419.length co157, .slice Ao161 t434.length co161]) (ok := (fun k_ => some k_ ≠ (.slice Ao22 t392.length co22 : Value).ownBlock ∧ k_ ≠ gb391)) (okp := (fun k_ => some k_ ≠ (.slice Ao22 t392.length co22 : Value).ownBlock ∧ k_ ≠ gb391)) ?hr ?hp (fun _ hk => hk) ((show ∀ k_, w158.heap.size ≤ k_ → (fun k_ => some k_ ≠ (.slice Ao22 t392.length co22 : Value).ownBlock ∧ k_ ≠ gb391) k_ from fun k_ hk => ⟨Kd.fresh' (Kd.R_lt (mvR HO_6)) k_ hk, Kd.freshB (g := gb391) (o := .cells #[.int .i8 t389, .int .i8 t390] 27 (0, 0)) (by (with_reducible repeat (first | refine blk_drewN ?_ _ | refine blk_drew ?_ | refine blk_alloc ?_ _)); exact BK391.out) k_ hk⟩) _ (Nat.le_refl _)) (Below.refl _ _) (Nat.le_refl _) (by simp) ?_; (case hd => rfl); (case hg => rfl); (case hr => first | (go_simp; done) | (go_simp; rfl)); (case hp => exact (Reps.one (show Kd.FK (Kd.slice 2 (Kd.int .i64)) _ _ t400 [.slice Ao159 t400.length co159] from (Kd.FK_slice_mk (Kd.R_reads' (Kd.R_mono (ok' := (fun k_ => some k_ ≠ (.slice Ao22 t392.length co22 : Value).ownBlock ∧ k_ ≠ gb391)) (Kd.R_types (Kd.R_apart' (HO_10.out) (Kd.R_typed HO_6.out) (by decide)) BK391.out (by decide)) (fun k_ hk => ⟨hk.1.2, hk.2⟩))).2.1 (Kd.R_F (Kd.R_mono (ok' := (fun k_ => some k_ ≠ (.slice Ao22 t392.length co22 : Value).ownBlock ∧ k_ ≠ gb391)) (Kd.R_types (Kd.R_apart' (HO_10.out) (Kd.R_typed HO_6.out) (by decide)) BK391.out (by decide)) (fun k_ hk => ⟨hk.1.2, hk.2⟩))))) (Reps.one (show Kd.FK (Kd.slice 2 (Kd.int .i64)) _ _ t410 [.slice Ao160 t410.length co160] from (Kd.FK_slice_mk (Kd.R_reads' (Kd.R_mono (ok' := (fun k_ => some k_ ≠ (.slice Ao22 t392.length co22 : Value).ownBlock ∧ k_ ≠ gb391)) (Kd.R_types (Kd.R_apart' (HO_16.out) (Kd.R_typed HO_6.out) (by decide)) BK391.out (by decide)) (fun k_ hk => ⟨hk.1.2, hk.2⟩))).2.1 (Kd.R_F (Kd.R_mono (ok' := (fun k_ => some k_ ≠ (.slice Ao22 t392.length co22 : Value).ownBlock ∧ k_ ≠ gb391)) (Kd.R_types (Kd.R_apart' (HO_16.out) (Kd.R_typed HO_6.out) (by decide)) BK391.out (by decide)) (fun k_ hk => ⟨hk.1.2, hk.2⟩))))) (Reps.one (show Kd.FK (Kd.slice 2 (Kd.int .i64)) _ _ t419 [.slice Ao157 t419.length co157] from (Kd.FK_slice_mk (Kd.R_reads' (Kd.R_mono (ok' := (fun k_ => some k_ ≠ (.slice Ao22 t392.length co22 : Value).ownBlock ∧ k_ ≠ gb391)) (Kd.R_types (Kd.R_apart' (HO_21.out) (Kd.R_typed HO_6.out) (by decide)) BK391.out (by decide)) (fun k_ hk => ⟨hk.1.2, hk.2⟩))).2.1 (Kd.R_F (Kd.R_mono (ok' := (fun k_ => some k_ ≠ (.slice Ao22 t392.length co22 : Value).ownBlock ∧ k_ ≠ gb391)) (Kd.R_types (Kd.R_apart' (HO_21.out) (Kd.R_typed HO_6.out) (by decide)) BK391.out (by decide)) (fun k_ hk => ⟨hk.1.2, hk.2⟩))))) (Reps.one (show Kd.FK (Kd.slice 2 (Kd.int .i64)) _ _ t434 [.slice Ao161 t434.length co161] from (Kd.FK_slice_mk (Kd.R_reads' (Kd.R_mono (ok' := (fun k_ => some k_ ≠ (.slice Ao22 t392.length co22 : Value).ownBlock ∧ k_ ≠ gb391)) (Kd.R_types (Kd.R_apart' (HO436.out) (Kd.R_typed HO_6.out) (by decide)) BK391.out (by decide)) (fun k_ hk => ⟨hk.1.2, hk.2⟩))).2.1 (Kd.R_F (Kd.R_mono (ok' := (fun k_ => some k_ ≠ (.slice Ao22 t392.length co22 : Value).ownBlock ∧ k_ ≠ gb391)) (Kd.R_types (Kd.R_apart' (HO436.out) (Kd.R_typed HO_6.out) (by decide)) BK391.out (by decide)) (fun k_ hk => ⟨hk.1.2, hk.2⟩))))) (Reps.none _ _)))))); intro v438 w162 ho163 hb hg_ hnew_; clear hg_ hnew_; (first | rw [← Ny437.out] at ho163 | (simp only [Int.reduceToNat] at ho163; rw [← Ny437.out] at ho163)); have n0_ := Aside0.mk (Kd.R_below (mvR HO_6) hb); have n1_ := Aside0.mk (Kd.N_lower ho163 (below_size (by repeat (first | (with_reducible first | exact HB.out | apply below_alloc | apply pw_below_drewN | apply below_drew1 | refine below_set ?_ GE391.out) | exact HB.out)))); have n2_ := Aside0.mk (blk_below (g := gb391) (o := .cells #[.int .i8 t389, .int .i8 t390] 27 (0, 0)) (by (with_reducible repeat (first | refine blk_drewN ?_ _ | refine blk_drew ?_ | refine blk_alloc ?_ _)); exact BK391.out) hb); have n3_ := Aside0.mk (below_step (by repeat (first | (with_reducible first | exact HB.out | apply below_alloc | apply pw_below_drewN | apply below_drew1 | refine below_set ?_ GE391.out) | exact HB.out)) hb); clear HO_6; clear BK391; clear HB; clear HO436; clear HO_10; clear HO_16; clear HO_21; have HO_6 := n0_; have HO439 := n1_; have BK391 := n2_; have HB := n3_; clear n0_ n1_ n2_ n3_; clear hb ho163))
     go_loopg [27] k3 (fun kq v27 w' => ∃ (x27_4 : Int), v27 = .int .i64 x27_4 ∧ Aside0 (laws_FnLate.l1 kq t392 t403 t413 y437 x27_4 t389 t390 = some true) ∧ Aside0 (kq ≤ k3) ∧ Aside0 (Kd.R k57 57 w' w.heap.size (fun _ => True) (.slice Ao22 t392.length co22) t392) ∧ Aside0 (Kd.N (Kd.slice 2 (Kd.int .i64)) 37 w' w.heap.size (fun k_ => some k_ ≠ ((.slice Ao22 t392.length co22) : Value).ownBlock ∧ k_ ≠ gb391) v438 y437) ∧ Aside0 (w'.heap[gb391]? = some (.cells #[.int .i8 t389, .int .i8 t390] 27 (0, 0))) ∧ Aside0 (Below w.heap.size w w'))
     case atStart => exact ⟨(0), (by first | rfl | (simp; done) | (simp [*]; done)), H', ⟨Nat.le_refl _⟩, ⟨mvR HO_6⟩, ⟨by (with_reducible repeat (first | apply Kd.N_alloc | apply Kd.N_drewN | apply Kd.N_drew)); exact HO439.out⟩, ⟨by (with_reducible repeat (first | refine blk_drewN ?_ _ | refine blk_drew ?_ | refine blk_alloc ?_ _)); exact BK391.out⟩, ⟨by repeat (first | (with_reducible first | exact HB.out | apply below_alloc | apply pw_below_drewN | apply below_drew1 | refine below_set ?_ GE391.out) | exact HB.out)⟩⟩
     case round =>
      rename_i zz0C zz1C zz2C zz3C zz4C zz5C zz6C zz7C zz8C zz9C zz10C zz11C zz12C
      revert k A0 c0 l0 A1 c1 l1 r w hu27 hu57 HR0 HC0 HR1 HC1 zz0A zz1A zz2A u40 u41 u42 u43 u44 kj2 HJ2 t389 t390 A8 t392 A9 t395 t398 t399 A10 t400 t403 t404 A11 t405 t408 t409 A12 t410 t413 t414 A13 t415 t416 A14 t419 t420 A15 w17 gb391 w18 GW391 GE391 w20 Ao22 co22 w23 v396 w25 w27 v406 w29 w30 v417 w31 HO394 zz0B zz1B wc u80 u81 u82 u83 u84 u85 u86 u87 u88 u89 u90 u91 u92 u93 u94 u95 u96 u97 u98 u99 u100 u101 u102 u103 u104 u105 u106 u107 u108 u109 u110 u111 u112 u113 u114 u115 u116 u117 u118 u119 u120 u121 u122 u123 u124 u125 u126 u127 u128 u129 u130 u131 u132 u133 u134 u135 u136 u137 u138 u139 u140 u141 u142 u143 u144 u145 u146 u147 u148 u149 u150 u151 u152 u153 u154 u155 u156 u157 u158 u159 u160 u161 u162 u163 u164 u165 u166 u167 zz0C zz1C zz2C kj15 HJ15 zz2B zz3C zz4C u24 u25 u169 u170 u171 u172 u173 u174 u175 u176 u177 u178 u179 u180 u181 u182 u183 u184 u185 u186 u187 u188 u189 u190 u191 u192 u193 u194 u195 u196 u197 u198 u199 u200 u201 u202 u203 u204 u205 u206 u207 u208 u209 u210 u211 u212 u213 zz4B zz5B x23_3 k3 zz7B HK3 c104b0 t434 A156 y437 Ny437 H' Ao157 co157 zz5C zz6C w158 Ao159 co159 Ao160 co160 HO397 HO402 HO407 HO412 HO418 HO422 HO_10 HO_16 HO_21 zz6B Ao161 co161 v438 w162 HO_6 HO439 BK391 HB zz7C zz8C gk wr u4 u27 u28 u29 u30 u31 u32 u33 u34 u35 u36 u37 u38 u222 u223 u224 u225 u226 u227 u228 u229 u230 u231 u232 u233 u234 u235 u236 u237 u238 u239 u240 u241 u242 u243 u244 u245 u246 u247 u248 u249 u250 u251 u252 u253 u254 u255 u256 u257 u258 u259 u260 u261 u262 u263 u264 u265 u266 u267 u268 u269 u270 u271 u272 u273 u274 u275 u276 u277 u278 u279 u280 u281 u282 u283 u284 u285 u286 u287 u288 u289 u290 u291 u292 u293 u294 u295 u296 u297 u298 u299 u300 u301 u302 u303 u304 u305 u306 u307 u308 u309 u310 u311 u312 u313 u314 u315 u316 u317 u318 u319 u320 u321 u322 u323 u324 u325 u326 u327 u328 u329 u330 u331 u332 u333 u334 u335 u336 u337 u338 u339 u340 u341 u342 u343 u344 u345 u346 u347 u348 u349 u350 u351 u352 u353 u354 u355 u356 u357 u358 u359 u360 u361 u362 u363 u364 u365 u366 u367 hrel zz9C zz10C zz11C zz12C
      exact REST.out
end Go.Proofs.Ythkccaclmodjiaa.I
