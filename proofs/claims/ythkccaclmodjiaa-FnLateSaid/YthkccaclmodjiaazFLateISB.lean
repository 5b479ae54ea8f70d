import Derived.Test.YthkccaclmodjiaazFLateI0
import Derived.Test.YthkccaclmodjiaazFLateI13
import Derived.Test.YthkccaclmodjiaazFLateI28
import Derived.Test.YthkccaclmodjiaazFLateI29
import Derived.Test.YthkccaclmodjiaazFLateI30
import Derived.Test.YthkccaclmodjiaazFLateI31
import Derived.Test.YthkccaclmodjiaazFLateI32
import Derived.Test.YthkccaclmodjiaazFLateI44
import Derived.Test.YthkccaclmodjiaazFLateEBLem1
import Derived.Test.YthkccaclmodjiaazFLateI54
import Derived.Test.YthkccaclmodjiaazFLateEOrders2
import Derived.Test.YthkccaclmodjiaazFLateEIron2
import Derived.Test.YthkccaclmodjiaazFLateEShort
import Derived.Test.YthkccaclmodjiaazFLateIS0
import Derived.Test.YthkccaclmodjiaazFLateISA
namespace Go.Proofs.Ythkccaclmodjiaa.I
open Go.RowKit Go.Proofs.YthkccaclmodjiaaW.PrintWords Go.Proofs.YthkccaclmodjiaaW.PrintLast Go.Proofs.YthkccaclmodjiaaW.PrintMore
attribute [local go_sem] max2_int min2_int max_two min_two max_three min_three max_four min_four   -- for this text's walks alone
set_option linter.unusedVariables false
set_option linter.unusedSimpArgs false
set_option maxHeartbeats 8000000 in
set_option maxRecDepth 100000 in
def laws_FnLate.callsB : PSigma fun P : Prop => Aside0 P → laws_FnLate.callsA.1 := by
 apply PSigma.mk
 case snd =>
  intro REST
  intro k A0 c0 l0 A1 c1 l1 r w hu27 hu57 HR0 HC0 HR1 HC1 zz0A zz1A zz2A u40 u41 u42 u43 u44 kj2 HJ2 t389 t390 A8 t392 A9 t395 t398 t399 A10 t400 t403 t404 A11 t405 t408 t409 A12 t410 t413 t414 A13 t415 t416 A14 t419 t420 A15 HC16 w17 gb391 w18 GW391 GE391 hcz19_0 hcz19_1 hfz19_0 hfz19_1 w20 hcz21_0 hcz21_1 hfz21_0 hfz21_1 Ao22 co22 w23 v396 hcz24_0 hcz24_1 hfz24_0 hfz24_1 w25 v401 hcz26_0 hcz26_1 hfz26_0 hfz26_1 w27 v406 hcz28_0 hcz28_1 hfz28_0 hfz28_1 w29 v411 w30 v417 w31 v421 HO394 HO397 HO402 HO407 HO412 HO418 HO422 BK391 HB zz3A zz4A zz5A zz6A wc u80 u81 u82 u83 u84 u85 u86 u87 u88 u89 u90 u91 u92 u93 u94 u95 u96 u97 u98 u99 u100 u101 u102 u103 u104 u105 u106 u107 u108 u109 u110 u111 u112 u113 u114 u115 u116 u117 u118 u119 u120 u121 u122 u123 u124 u125 u126 u127 u128 u129 u130 u131 u132 u133 u134 u135 u136 u137 u138 u139 u140 u141 u142 u143 u144 u145 u146 u147 u148 u149 u150 u151 u152 u153 u154 u155 u156 u157 u158 u159 u160 u161 u162 u163 u164 u165 u166 u167 u168 hcut
  clear HC16
  try clear c1
  try clear p2
  try clear c3
  try clear c4
  try clear c5
  try clear c6
  try clear c7
  try clear c18
  try clear c32
  try clear c32b0
  try clear c32b1
  try clear c33
  try clear c33b0
  try clear c33b1
  try clear c35
  try clear c36
  try clear c36b0
  try clear c36b1
  try clear c37
  try clear c37b0
  try clear c37b1
  try clear c38
  try clear c38b0
  try clear c38b1
  try clear c40
  try clear c41
  try clear c41b0
  try clear c41b1
  try clear c42
  try clear c42b0
  try clear c42b1
  try clear c43
  try clear c43b0
  try clear c43b1
  try clear c45
  try clear c46
  try clear c46b0
  try clear c46b1
  try clear c46b2
  try clear c47
  try clear c47b0
  try clear c47b1
  try clear c47b2
  try clear c48
  try clear c48b0
  try clear c48b1
  try clear c48b2
  try clear c54
  try clear c55
  try clear c56
  try clear c57
  try clear c58
  try clear c59
  try clear c60
  try clear hcz19_0
  try clear hcz19_1
  try clear hcz21_0
  try clear hcz21_1
  try clear hcz24_0
  try clear hcz24_1
  try clear hcz26_0
  try clear hcz26_1
  try clear hcz28_0
  try clear hcz28_1
  try clear hfz19_0
  try clear hfz19_1
  try clear hfz21_0
  try clear hfz21_1
  try clear hfz24_0
  try clear hfz24_1
  try clear hfz26_0
  try clear hfz26_1
  try clear hfz28_0
  try clear hfz28_1
  try clear p2
  obtain ⟨kq, x168_15, rfl, HA, HJ15, HO_6, HO_10, HO_16, HO_21, BK391, HB⟩ := hcut
  cases kq with
  | zero => exact absurd HA.out (by simp [laws_FnLate.j1])
  | succ kj15 =>
   have H := HA.out
   clear HA
   simp only [laws_FnLate.j1] at H
   by_cases c103 : x168_15 = true
   · subst c103
     have H1 : (some false) = some true := by rw [if_pos rfl] at H; exact H
     clear H
     have H := H1
     clear H1
     exact absurd H (by simp)
   · replace c103 := Bool.eq_false_iff.mpr c103
     subst c103
     have H1 : (laws_FnLate.l0 kj15 l0 t392 t400 t403 t410 t413 t419 1 t389 t390) = some true := by rw [if_neg (show ¬ (false = true) by decide)] at H; exact H
     clear H
     have H := H1
     clear H1
     have H' := Aside0.mk H
     clear H
     go_wp2
     go_loopg [23] kj15 (fun kq v23 w' => ∃ (x23_3 : Int), v23 = .int .i64 x23_3 ∧ Aside0 (laws_FnLate.l0 kq l0 t392 t400 t403 t410 t413 t419 x23_3 t389 t390 = some true) ∧ Aside0 (kq ≤ kj15) ∧ Aside0 (Kd.R k57 57 w' w.heap.size (fun _ => True) (.slice Ao22 t392.length co22) t392) ∧ Aside0 (Kd.R (Kd.int .i64) 2 w' w.heap.size (fun k_ => some k_ ≠ (v411 : Value).ownBlock ∧ some k_ ≠ (v421 : Value).ownBlock) v401 t400) ∧ Aside0 (Kd.R (Kd.int .i64) 2 w' w.heap.size (fun k_ => some k_ ≠ (v401 : Value).ownBlock ∧ some k_ ≠ (v421 : Value).ownBlock) v411 t410) ∧ Aside0 (Kd.R (Kd.int .i64) 2 w' w.heap.size (fun k_ => some k_ ≠ (v401 : Value).ownBlock ∧ some k_ ≠ (v411 : Value).ownBlock) v421 t419) ∧ Aside0 (w'.heap[gb391]? = some (.cells #[.int .i8 t389, .int .i8 t390] 27 (0, 0))) ∧ Aside0 (Below w.heap.size w w'))
     case atStart => exact ⟨(1), (by first | rfl | (simp; done) | (simp [*]; done)), H', ⟨Nat.le_refl _⟩, ⟨mvR HO_6⟩, ⟨mvR HO_10⟩, ⟨mvR HO_16⟩, ⟨mvR HO_21⟩, ⟨by (with_reducible repeat (first | refine blk_drewN ?_ _ | refine blk_drew ?_ | refine blk_alloc ?_ _)); exact BK391.out⟩, ⟨by repeat (first | (with_reducible first | exact HB.out | apply below_alloc | apply pw_below_drewN | apply below_drew1 | refine below_set ?_ GE391.out) | exact HB.out)⟩⟩
     case round =>
      rename_i zz0B zz1B zz2B zz3B zz4B zz5B zz6B zz7B
      revert k A0 c0 l0 A1 c1 l1 r w hu27 hu57 HR0 HC0 HR1 HC1 zz0A zz1A zz2A u40 u41 u42 u43 u44 kj2 HJ2 t389 t390 A8 t392 A9 t395 t398 t399 A10 t400 t403 t404 A11 t405 t408 t409 A12 t410 t413 t414 A13 t415 t416 A14 t419 t420 A15 w17 gb391 w18 GW391 GE391 w20 Ao22 co22 w23 v396 w25 v401 w27 v406 w29 v411 w30 v417 w31 v421 HO394 HO397 HO402 HO407 HO412 HO418 HO422 zz0B zz1B wc u80 u81 u82 u83 u84 u85 u86 u87 u88 u89 u90 u91 u92 u93 u94 u95 u96 u97 u98 u99 u100 u101 u102 u103 u104 u105 u106 u107 u108 u109 u110 u111 u112 u113 u114 u115 u116 u117 u118 u119 u120 u121 u122 u123 u124 u125 u126 u127 u128 u129 u130 u131 u132 u133 u134 u135 u136 u137 u138 u139 u140 u141 u142 u143 u144 u145 u146 u147 u148 u149 u150 u151 u152 u153 u154 u155 u156 u157 u158 u159 u160 u161 u162 u163 u164 u165 u166 u167 HO_6 HO_10 HO_16 HO_21 BK391 HB kj15 HJ15 H' zz2B zz3B gk wr u4 u23 u24 u25 u169 u170 u171 u172 u173 u174 u175 u176 u177 u178 u179 u180 u181 u182 u183 u184 u185 u186 u187 u188 u189 u190 u191 u192 u193 u194 u195 u196 u197 u198 u199 u200 u201 u202 u203 u204 u205 u206 u207 u208 u209 u210 u211 u212 u213 hrel zz4B zz5B zz6B zz7B
      exact REST.out
end Go.Proofs.Ythkccaclmodjiaa.I
