import Derived.Test.YthkccaclmodjiaazFLateI0
import Derived.Test.YthkccaclmodjiaazFLateI13
import Derived.Test.YthkccaclmodjiaazFLateI28
import Derived.Test.YthkccaclmodjiaazFLateI29
import Derived.Test.YthkccaclmodjiaazFLateI30
import Derived.Test.YthkccaclmodjiaazFLateI31
import Derived.Test.YthkccaclmodjiaazFLateI32
import Derived.Test.YthkccaclmodjiaazFLateI44
import Derived.Test.YthkccaclmodjiaazFLateEBLem1
import Derived.Test.YthkccaclmodjiaazFLateI54
import Derived.Test.YthkccaclmodjiaazFLateEOrders2
import Derived.Test.YthkccaclmodjiaazFLateEIron2
import Derived.Test.YthkccaclmodjiaazFLateEShort
import Derived.Test.YthkccaclmodjiaazFLateIS0
import Derived.Test.YthkccaclmodjiaazFLateISC
namespace Go.Proofs.Ythkccaclmodjiaa.I
open Go.RowKit Go.Proofs.YthkccaclmodjiaaW.PrintWords Go.Proofs.YthkccaclmodjiaaW.PrintLast Go.Proofs.YthkccaclmodjiaaW.PrintMore
attribute [local go_sem] max2_int min2_int max_two min_two max_three min_three max_four min_four   -- for this text's walks alone
set_option linter.unusedVariables false
set_option linter.unusedSimpArgs false
set_option maxHeartbeats 8000000 in
set_option maxRecDepth 100000 in
theorem laws_FnLate.callsD : laws_FnLate.callsC.1 := by
 intro k A0 c0 l0 A1 c1 l1 r w hu27 hu57 HR0 HC0 HR1 HC1 zz0A zz1A zz2A u40 u41 u42 u43 u44 kj2 HJ2 t389 t390 A8 t392 A9 t395 t398 t399 A10 t400 t403 t404 A11 t405 t408 t409 A12 t410 t413 t414 A13 t415 t416 A14 t419 t420 A15 w17 gb391 w18 GW391 GE391 w20 Ao22 co22 w23 v396 w25 w27 v406 w29 w30 v417 w31 HO394 zz0B zz1B wc u80 u81 u82 u83 u84 u85 u86 u87 u88 u89 u90 u91 u92 u93 u94 u95 u96 u97 u98 u99 u100 u101 u102 u103 u104 u105 u106 u107 u108 u109 u110 u111 u112 u113 u114 u115 u116 u117 u118 u119 u120 u121 u122 u123 u124 u125 u126 u127 u128 u129 u130 u131 u132 u133 u134 u135 u136 u137 u138 u139 u140 u141 u142 u143 u144 u145 u146 u147 u148 u149 u150 u151 u152 u153 u154 u155 u156 u157 u158 u159 u160 u161 u162 u163 u164 u165 u166 u167 zz0C zz1C zz2C kj15 HJ15 zz2B zz3C zz4C u24 u25 u169 u170 u171 u172 u173 u174 u175 u176 u177 u178 u179 u180 u181 u182 u183 u184 u185 u186 u187 u188 u189 u190 u191 u192 u193 u194 u195 u196 u197 u198 u199 u200 u201 u202 u203 u204 u205 u206 u207 u208 u209 u210 u211 u212 u213 zz4B zz5B x23_3 k3 zz7B HK3 c104b0 t434 A156 y437 Ny437 H' Ao157 co157 zz5C zz6C w158 Ao159 co159 Ao160 co160 HO397 HO402 HO407 HO412 HO418 HO422 HO_10 HO_16 HO_21 zz6B Ao161 co161 v438 w162 HO_6 HO439 BK391 HB zz7C zz8C gk wr u4 u27 u28 u29 u30 u31 u32 u33 u34 u35 u36 u37 u38 u222 u223 u224 u225 u226 u227 u228 u229 u230 u231 u232 u233 u234 u235 u236 u237 u238 u239 u240 u241 u242 u243 u244 u245 u246 u247 u248 u249 u250 u251 u252 u253 u254 u255 u256 u257 u258 u259 u260 u261 u262 u263 u264 u265 u266 u267 u268 u269 u270 u271 u272 u273 u274 u275 u276 u277 u278 u279 u280 u281 u282 u283 u284 u285 u286 u287 u288 u289 u290 u291 u292 u293 u294 u295 u296 u297 u298 u299 u300 u301 u302 u303 u304 u305 u306 u307 u308 u309 u310 u311 u312 u313 u314 u315 u316 u317 u318 u319 u320 u321 u322 u323 u324 u325 u326 u327 u328 u329 u330 u331 u332 u333 u334 u335 u336 u337 u338 u339 u340 u341 u342 u343 u344 u345 u346 u347 u348 u349 u350 u351 u352 u353 u354 u355 u356 u357 u358 u359 u360 u361 u362 u363 u364 u365 u366 u367 hrel zz9C zz10C zz11C zz12C
 clear H'
 try clear c1
 try clear p2
 try clear p4
 try clear q4
 try clear hx4
 try clear c6
 try clear p6
 try clear c10
 try clear c11
 try clear c12
 try clear c13
 try clear c14
 try clear c15
 try clear p42
 try clear q42
 try clear hx42
 try clear p43
 try clear q43
 try clear hx43
 try clear c62
 try clear p64
 try clear c104
 try clear c104b0
 try clear c106
 try clear c107
 try clear c108
 try clear c109
 try clear c110
 try clear c111
 try clear c112
 try clear c124
 try clear c124b0
 try clear c124b1
 try clear c125
 try clear c125b0
 try clear c138
 try clear c141
 try clear c142
 try clear c148
 try clear c151
 try clear c152
 try clear hcz139_0
 try clear hcz139_1
 try clear hcz139_2
 try clear hcz143_0
 try clear hcz143_1
 try clear hcz143_2
 try clear hcz149_0
 try clear hcz149_1
 try clear hcz149_2
 try clear hcz153_0
 try clear hcz153_1
 try clear hcz153_2
 try clear hfz139_0
 try clear hfz139_1
 try clear hfz139_2
 try clear hfz143_0
 try clear hfz143_1
 try clear hfz143_2
 try clear hfz149_0
 try clear hfz149_1
 try clear hfz149_2
 try clear hfz153_0
 try clear hfz153_1
 try clear hfz153_2
 try clear hx426_0
 try clear hx427_0
 try clear hx427_1
 try clear hx427_2
 try clear hx429_0
 try clear hx430_0
 try clear hx430_1
 try clear hx430_2
 try clear hx432_0
 try clear hx433_0
 try clear p426
 try clear p427
 try clear p429
 try clear p430
 try clear p432
 try clear p433
 try clear q426
 try clear q427
 try clear q429
 try clear q430
 try clear q432
 try clear q433
 obtain ⟨x27_4, rfl, HA, HK4, HO_6, HO_26, BK391, HB⟩ := hrel
 cases gk with
 | zero => exact absurd HA.out (by simp [laws_FnLate.l1])
 | succ k4 =>
  have H := HA.out
  clear HA
  simp only [laws_FnLate.l1] at H
  by_cases c164 : x27_4 < (y437.length : Int)
  · rw [if_pos c164] at H
    have c164b0 : decide (x27_4 < (y437.length : Int)) = true := decide_eq_true c164
    clear c164
    by_cases c165 : 0 ≤ x27_4
    · rw [if_pos c165] at H
      have c165b0 : decide (0 ≤ x27_4) = true := decide_eq_true c165
      clear c165
      replace H := Option.bind_eq_some_iff.mp H
      obtain ⟨⟨t441, t444⟩, A1660, H⟩ := H
      replace H : ((spec_LateIn.f k4 t389 t390 t392 (rd_L6 y437 x27_4)).bind fun bt446 => ((impl_LatenessOf.f k4 t389 t390 t392 (rd_L6 y437 x27_4)).bind fun bt451 => ((spec_FinishTimes.f k4 t389 t390 t392 (rd_L6 y437 x27_4)).bind fun bt454 => (if t444 = bt446.2 then (if t444 = 0 then ((spec_SameNumbers.f k4 t441 bt446.1).bind fun t458 => (if t458 = true then (if bt451.2 = 0 then (if bt454.2 = 0 then (if (bt454.1.length : Int) = (t392.length : Int) then (if (bt446.1.length : Int) < t403 then (laws_FnLate.j4 k4 t392 t403 t413 y437 x27_4 bt446.1 bt451.1 bt454.1 true t389 t390) else (if bt451.1 < t413 then (laws_FnLate.j4 k4 t392 t403 t413 y437 x27_4 bt446.1 bt451.1 bt454.1 true t389 t390) else (if x27_4 = 0 then (if (bt446.1.length : Int) = t403 then (if x27_4 = 1 then (laws_FnLate.j4 k4 t392 t403 t413 y437 x27_4 bt446.1 bt451.1 bt454.1 (bt451.1 != t413) t389 t390) else (laws_FnLate.j4 k4 t392 t403 t413 y437 x27_4 bt446.1 bt451.1 bt454.1 false t389 t390)) else (laws_FnLate.j4 k4 t392 t403 t413 y437 x27_4 bt446.1 bt451.1 bt454.1 true t389 t390)) else (if x27_4 = 1 then (laws_FnLate.j4 k4 t392 t403 t413 y437 x27_4 bt446.1 bt451.1 bt454.1 (bt451.1 != t413) t389 t390) else (laws_FnLate.j4 k4 t392 t403 t413 y437 x27_4 bt446.1 bt451.1 bt454.1 false t389 t390))))) else (laws_FnLate.j4 k4 t392 t403 t413 y437 x27_4 bt446.1 bt451.1 bt454.1 true t389 t390)) else (laws_FnLate.j4 k4 t392 t403 t413 y437 x27_4 bt446.1 bt451.1 bt454.1 true t389 t390)) else (laws_FnLate.j4 k4 t392 t403 t413 y437 x27_4 bt446.1 bt451.1 bt454.1 true t389 t390)) else (laws_FnLate.j4 k4 t392 t403 t413 y437 x27_4 bt446.1 bt451.1 bt454.1 true t389 t390))) else (laws_FnLate.j4 k4 t392 t403 t413 y437 x27_4 bt446.1 bt451.1 bt454.1 true t389 t390)) else (laws_FnLate.j4 k4 t392 t403 t413 y437 x27_4 bt446.1 bt451.1 bt454.1 true t389 t390))))) = some true := H
      have A166 := Aside0.mk A1660
      clear A1660
      replace H := Option.bind_eq_some_iff.mp H
      obtain ⟨⟨t446, t449⟩, A1670, H⟩ := H
      replace H : ((impl_LatenessOf.f k4 t389 t390 t392 (rd_L6 y437 x27_4)).bind fun bt451 => ((spec_FinishTimes.f k4 t389 t390 t392 (rd_L6 y437 x27_4)).bind fun bt454 => (if t444 = t449 then (if t444 = 0 then ((spec_SameNumbers.f k4 t441 t446).bind fun t458 => (if t458 = true then (if bt451.2 = 0 then (if bt454.2 = 0 then (if (bt454.1.length : Int) = (t392.length : Int) then (if (t446.length : Int) < t403 then (laws_FnLate.j4 k4 t392 t403 t413 y437 x27_4 t446 bt451.1 bt454.1 true t389 t390) else (if bt451.1 < t413 then (laws_FnLate.j4 k4 t392 t403 t413 y437 x27_4 t446 bt451.1 bt454.1 true t389 t390) else (if x27_4 = 0 then (if (t446.length : Int) = t403 then (if x27_4 = 1 then (laws_FnLate.j4 k4 t392 t403 t413 y437 x27_4 t446 bt451.1 bt454.1 (bt451.1 != t413) t389 t390) else (laws_FnLate.j4 k4 t392 t403 t413 y437 x27_4 t446 bt451.1 bt454.1 false t389 t390)) else (laws_FnLate.j4 k4 t392 t403 t413 y437 x27_4 t446 bt451.1 bt454.1 true t389 t390)) else (if x27_4 = 1 then (laws_FnLate.j4 k4 t392 t403 t413 y437 x27_4 t446 bt451.1 bt454.1 (bt451.1 != t413) t389 t390) else (laws_FnLate.j4 k4 t392 t403 t413 y437 x27_4 t446 bt451.1 bt454.1 false t389 t390))))) else (laws_FnLate.j4 k4 t392 t403 t413 y437 x27_4 t446 bt451.1 bt454.1 true t389 t390)) else (laws_FnLate.j4 k4 t392 t403 t413 y437 x27_4 t446 bt451.1 bt454.1 true t389 t390)) else (laws_FnLate.j4 k4 t392 t403 t413 y437 x27_4 t446 bt451.1 bt454.1 true t389 t390)) else (laws_FnLate.j4 k4 t392 t403 t413 y437 x27_4 t446 bt451.1 bt454.1 true t389 t390))) else (laws_FnLate.j4 k4 t392 t403 t413 y437 x27_4 t446 bt451.1 bt454.1 true t389 t390)) else (laws_FnLate.j4 k4 t392 t403 t413 y437 x27_4 t446 bt451.1 bt454.1 true t389 t390)))) = some true := H
      have A167 := Aside0.mk A1670
      clear A1670
      replace H := Option.bind_eq_some_iff.mp H
      obtain ⟨⟨t451, t452⟩, A1680, H⟩ := H
      replace H : ((spec_FinishTimes.f k4 t389 t390 t392 (rd_L6 y437 x27_4)).bind fun bt454 => (if t444 = t449 then (if t444 = 0 then ((spec_SameNumbers.f k4 t441 t446).bind fun t458 => (if t458 = true then (if t452 = 0 then (if bt454.2 = 0 then (if (bt454.1.length : Int) = (t392.length : Int) then (if (t446.length : Int) < t403 then (laws_FnLate.j4 k4 t392 t403 t413 y437 x27_4 t446 t451 bt454.1 true t389 t390) else (if t451 < t413 then (laws_FnLate.j4 k4 t392 t403 t413 y437 x27_4 t446 t451 bt454.1 true t389 t390) else (if x27_4 = 0 then (if (t446.length : Int) = t403 then (if x27_4 = 1 then (laws_FnLate.j4 k4 t392 t403 t413 y437 x27_4 t446 t451 bt454.1 (t451 != t413) t389 t390) else (laws_FnLate.j4 k4 t392 t403 t413 y437 x27_4 t446 t451 bt454.1 false t389 t390)) else (laws_FnLate.j4 k4 t392 t403 t413 y437 x27_4 t446 t451 bt454.1 true t389 t390)) else (if x27_4 = 1 then (laws_FnLate.j4 k4 t392 t403 t413 y437 x27_4 t446 t451 bt454.1 (t451 != t413) t389 t390) else (laws_FnLate.j4 k4 t392 t403 t413 y437 x27_4 t446 t451 bt454.1 false t389 t390))))) else (laws_FnLate.j4 k4 t392 t403 t413 y437 x27_4 t446 t451 bt454.1 true t389 t390)) else (laws_FnLate.j4 k4 t392 t403 t413 y437 x27_4 t446 t451 bt454.1 true t389 t390)) else (laws_FnLate.j4 k4 t392 t403 t413 y437 x27_4 t446 t451 bt454.1 true t389 t390)) else (laws_FnLate.j4 k4 t392 t403 t413 y437 x27_4 t446 t451 bt454.1 true t389 t390))) else (laws_FnLate.j4 k4 t392 t403 t413 y437 x27_4 t446 t451 bt454.1 true t389 t390)) else (laws_FnLate.j4 k4 t392 t403 t413 y437 x27_4 t446 t451 bt454.1 true t389 t390))) = some true := H
      have A168 := Aside0.mk A1680
      clear A1680
      replace H := Option.bind_eq_some_iff.mp H
      obtain ⟨⟨t454, t457⟩, A1690, H⟩ := H
      replace H : (if t444 = t449 then (if t444 = 0 then ((spec_SameNumbers.f k4 t441 t446).bind fun t458 => (if t458 = true then (if t452 = 0 then (if t457 = 0 then (if (t454.length : Int) = (t392.length : Int) then (if (t446.length : Int) < t403 then (laws_FnLate.j4 k4 t392 t403 t413 y437 x27_4 t446 t451 t454 true t389 t390) else (if t451 < t413 then (laws_FnLate.j4 k4 t392 t403 t413 y437 x27_4 t446 t451 t454 true t389 t390) else (if x27_4 = 0 then (if (t446.length : Int) = t403 then (if x27_4 = 1 then (laws_FnLate.j4 k4 t392 t403 t413 y437 x27_4 t446 t451 t454 (t451 != t413) t389 t390) else (laws_FnLate.j4 k4 t392 t403 t413 y437 x27_4 t446 t451 t454 false t389 t390)) else (laws_FnLate.j4 k4 t392 t403 t413 y437 x27_4 t446 t451 t454 true t389 t390)) else (if x27_4 = 1 then (laws_FnLate.j4 k4 t392 t403 t413 y437 x27_4 t446 t451 t454 (t451 != t413) t389 t390) else (laws_FnLate.j4 k4 t392 t403 t413 y437 x27_4 t446 t451 t454 false t389 t390))))) else (laws_FnLate.j4 k4 t392 t403 t413 y437 x27_4 t446 t451 t454 true t389 t390)) else (laws_FnLate.j4 k4 t392 t403 t413 y437 x27_4 t446 t451 t454 true t389 t390)) else (laws_FnLate.j4 k4 t392 t403 t413 y437 x27_4 t446 t451 t454 true t389 t390)) else (laws_FnLate.j4 k4 t392 t403 t413 y437 x27_4 t446 t451 t454 true t389 t390))) else (laws_FnLate.j4 k4 t392 t403 t413 y437 x27_4 t446 t451 t454 true t389 t390)) else (laws_FnLate.j4 k4 t392 t403 t413 y437 x27_4 t446 t451 t454 true t389 t390)) = some true := H
      have A169 := Aside0.mk A1690
      clear A1690
      have HC170 := Aside0.mk H
      clear H
      obtain ⟨Ao171, co171, eo171⟩ := Kd.N_slice HO_26.out
      subst eo171
      try go_wp2
      have n0_ := Aside0.mk (Kd.R_drew HO_6.out)
      have n1_ := Aside0.mk (Kd.N_drew HO_26.out)
      have n2_ := Aside0.mk (blk_drew BK391.out)
      have n3_ := Aside0.mk (below_drew1 HB.out)
      clear HO_6
      clear HO_26
      clear BK391
      clear HB
      have HO_6 := n0_
      have HO_26 := n1_
      have BK391 := n2_
      have HB := n3_
      clear n0_ n1_ n2_ n3_
      have p440 : 0 ≤ (x27_4 : Int) := dtB
      have q440 : x27_4 < (y437.length : Int) := dtB
      obtain ⟨ad440, A440_0, c440_0, e440, hx440_0, hl440_0, hi440_0⟩ := at_L6 (Kd.N_reads' HO_26.out).2.2 x27_4 p440 q440
      cases e440
      obtain ⟨ce440, hce440, hMe440, hcc440⟩ := Kd.N_get HO_26.out [] x27_4 p440 (by first | exact q440 | exact dtB | (have e_ := (Kd.N_reads' HO_26.out).1; omega))
      obtain ⟨ua440_0, uc440_0, rfl, ul440_0, ge440_0⟩ := Kd.FK_slice_open hMe440
      have hv440_0 := hcc440 0 _ rfl
      rw [Nat.add_zero, show ((Kd.slice 2 (Kd.int .i64))).sz = 1 from rfl, Nat.mul_one] at hv440_0
      replace hv440_0 := Option.some.inj (hv440_0.symm.trans hx440_0)
      injection hv440_0 with hva_ hvn_ hvc_
      rw [hva_] at ge440_0
      rw [hvc_] at ul440_0
      have HL440_0 := Aside0.mk (show Kd.V (Kd.int .i64) 2 _ w.heap.size _ _ (rd_L6 y437 x27_4) from Kd.V_mk ul440_0 ge440_0)
      clear hva_ hvn_ hvc_ ge440_0 ul440_0
      clear hcc440 hce440
      have HR440_0 := Aside0.mk hi440_0
      have HC440_0 := Aside0.mk hl440_0
      clear hi440_0 hl440_0
      replace p440 := eq_true p440
      replace q440 := eq_true q440
      refine start_ (n := 12) (S := fun w' => w'.cell? ⟨gb391, 0, none⟩ = some (.int .i8 t389) ∧ w'.cell? ⟨gb391, 1, none⟩ = some (.int .i8 t390) ∧ w'.cell? (ad440.add (x27_4).toNat) = some (.slice A440_0 (rd_L6 y437 x27_4).length c440_0)) (ds := []) #[false, false, false, false, false, false, false, false, false, false, false, false] (by kernel_rfl) rfl rfl ⟨(blk_cell BK391.out 0).trans rfl, (blk_cell BK391.out 1).trans rfl, hx440_0⟩ (fun hHeld => ?_); refine with_tabW laws_FnLate.tab24 laws_FnLate.bits24 (fun HT_ HW_ => ?_)
      generalize wr.drew = w172 at HO_6 HO_26 BK391 HB HL440_0 HR440_0 hx440_0 hHeld ⊢
      refine pure_ (i := 1) (N := some 230) (v := ?_) (a' := ?_) #[false, true, false, false, false, false, false, false, false, false, false, false] rfl rfl (any_of HT_.out (by kernel_rfl)) (fun _ _ _ h => h) (Or.inl ⟨by rfl, ?_⟩) ?_ ?_
      rotate_left
      · intro w'
        go_simp
        with_reducible rfl
      rotate_left
      · simp only [Act.put, List.setIfInBounds_toArray, List.set_cons_zero, List.set_cons_succ, i64_w, i32_w]
        rfl
      refine pure_ (i := 2) (N := some 231) (v := ?_) (a' := ?_) #[false, true, true, false, false, false, false, false, false, false, false, false] rfl rfl (any_of HT_.out (by kernel_rfl)) (fun _ _ _ h => h) (Or.inl ⟨by rfl, ?_⟩) ?_ ?_
      rotate_left
      · intro w'
        go_simp
        with_reducible rfl
      rotate_left
      · simp only [Act.put, List.setIfInBounds_toArray, List.set_cons_zero, List.set_cons_succ, i64_w, i32_w]
        rfl
      refine pure_ (i := 3) (N := some 232) (v := ?_) (a' := ?_) #[false, true, true, true, false, false, false, false, false, false, false, false] rfl rfl (any_of HT_.out (by kernel_rfl)) (fun _ _ _ h => h) (Or.inl ⟨by rfl, ?_⟩) ?_ ?_
      rotate_left
      · intro w'
        go_simp
        with_reducible rfl
      rotate_left
      · simp only [Act.put, List.setIfInBounds_toArray, List.set_cons_zero, List.set_cons_succ, i64_w, i32_w]
        rfl
      refine pure_ (i := 4) (N := some 233) (v := ?_) (a' := ?_) #[false, true, true, true, true, false, false, false, false, false, false, false] rfl rfl (any_of HT_.out (by kernel_rfl)) (fun _ _ _ h => h) (Or.inl ⟨by rfl, ?_⟩) ?_ ?_
      rotate_left
      · intro w'
        go_simp
        with_reducible rfl
      rotate_left
      · simp only [Act.put, List.setIfInBounds_toArray, List.set_cons_zero, List.set_cons_succ, i64_w, i32_w]
        rfl
      refine take_ (i := 0) (N := some 229) (v := ?_) (a' := ?_) #[true, true, true, true, true, false, false, false, false, false, false, false] rfl rfl (take_ofW HT_.out HW_.out (by kernel_rfl)) (fun _ _ _ h => h) (Or.inl ⟨by rfl, ?_⟩) hHeld ?_ ?_
      rotate_left
      · rintro w' ⟨s0, s1, s2⟩
        go_simp
        with_reducible rfl
      rotate_left
      · simp only [Act.put, List.setIfInBounds_toArray, List.set_cons_zero, List.set_cons_succ, i64_w, i32_w]
        rfl
      refine take_ (i := 5) (N := some 234) (v := ?_) (a' := ?_) #[true, true, true, true, true, true, false, false, false, false, false, false] rfl rfl (take_ofW HT_.out HW_.out (by kernel_rfl)) (fun _ _ _ h => h) (Or.inl ⟨by rfl, ?_⟩) hHeld ?_ ?_
      rotate_left
      · rintro w' ⟨s0, s1, s2⟩
        go_simp
        with_reducible rfl
      rotate_left
      · simp only [Act.put, List.setIfInBounds_toArray, List.set_cons_zero, List.set_cons_succ, i64_w, i32_w]
        rfl
      refine one_ (i := 6) (N := some 235) #[true, true, true, true, true, true, true, false, false, false, false, false] rfl rfl (one_of HT_.out (by kernel_rfl)) (by decide) (fun K hK => ?_)
      refine goes_ Try.func53 (by kernel_rfl) rfl #[.agg #[.int .i8 t389, .int .i8 t390], .slice Ao22 t392.length co22, .slice A440_0 (rd_L6 y437 x27_4).length c440_0] (by rfl) rfl rfl (by (try simp only [List.map_toArray, List.map_cons, List.map_nil]); first | done | rfl | (simp only [List.length_drop, List.length_take]; rfl)) ?_
      with_reducible refine (impl_LateIn.calls k4 t389 t390 _ _ t392 _ _ (rd_L6 y437 x27_4) t441 t444 _ ?side1 ?side2 ?side3 ?side4 A166.out).mono ?_
      (case side1 => exact cvC ((Kd.R_reads' HO_6.out).2.2))
      (case side2 => exact (Kd.R_reads' HO_6.out).2.1)
      (case side3 => repeat (first | exact (by repeat (first | (with_reducible exact HR440_0.out) | (with_reducible refine Kd.C_alloc ?_ _) | (with_reducible refine Kd.C_drewN ?_ _) | (with_reducible refine Kd.C_drew ?_) | exact HR440_0.out)) | (with_reducible refine Kd.C_alloc ?_ _) | (with_reducible refine Kd.C_drewN ?_ _) | (with_reducible refine Kd.C_drew ?_)))
      (case side4 => exact HC440_0.out)
      rintro e w173 ⟨v442, rfl, ho0, hb⟩
      have HS2_ := (hb.cell (World.block_lt_of_cell? _ _ (hHeld.2.2))).trans (hHeld.2.2)
      refine ⟨_, rfl, ?_⟩
      have n0_ := Aside0.mk (Kd.R_below (mvR HO_6) hb)
      have n1_ := Aside0.mk (Kd.N_elder' (by (with_reducible repeat (first | apply Kd.N_alloc | apply Kd.N_drewN | apply Kd.N_drew)); exact HO_26.out) (Kd.R_base ho0) hb)
      have n2_ := Aside0.mk (Kd.V_elder' (by (with_reducible repeat (first | apply Kd.V_alloc | apply Kd.V_drewN | apply Kd.V_drew)); exact HL440_0.out) (Kd.R_base ho0) hb)
      have n3_ := Aside0.mk (Kd.R_lower ho0 (below_size (by repeat (first | (with_reducible first | exact HB.out | apply below_alloc | apply pw_below_drewN | apply below_drew1 | refine below_set ?_ GE391.out) | exact HB.out))))
      have n4_ := Aside0.mk (blk_below (g := gb391) (o := .cells #[.int .i8 t389, .int .i8 t390] 27 (0, 0)) (by (with_reducible repeat (first | refine blk_drewN ?_ _ | refine blk_drew ?_ | refine blk_alloc ?_ _)); exact BK391.out) hb)
      have n5_ := Aside0.mk (Kd.C_below (by repeat (first | (with_reducible exact HR440_0.out) | (with_reducible refine Kd.C_alloc ?_ _) | (with_reducible refine Kd.C_drewN ?_ _) | (with_reducible refine Kd.C_drew ?_) | exact HR440_0.out)) hb)
      have n6_ := Aside0.mk (below_step (by repeat (first | (with_reducible first | exact HB.out | apply below_alloc | apply pw_below_drewN | apply below_drew1 | refine below_set ?_ GE391.out) | exact HB.out)) hb)
      clear HO_6
      clear HO_26
      clear HL440_0
      clear BK391
      clear HR440_0
      clear HB
      have HO_6 := n0_
      have HO_26 := n1_
      have HL440_0 := n2_
      have HO443 := n3_
      have BK391 := n4_
      have HR440_0 := n5_
      have HB := n6_
      clear n0_ n1_ n2_ n3_ n4_ n5_ n6_
      (try clear hb)
      (try clear hb2)
      (try clear hk)
      (try clear hi)
      (try clear ho0)
      refine hK.out _ _ ⟨(blk_cell BK391.out 0).trans rfl, (blk_cell BK391.out 1).trans rfl, HS2_⟩ (fun hHeld => ?_)
      clear hK K
      refine norm_ (a' := ?_) ?_ ?_
      rotate_left
      · show Act.put _ (some 235) _ = _
        simp only [Act.put, List.setIfInBounds_toArray, List.set_cons_zero, List.set_cons_succ, i64_w, i32_w]
        rfl
      refine pure_ (i := 7) (N := some 228) (v := ?_) (a' := ?_) #[true, true, true, true, true, true, true, true, false, false, false, false] rfl rfl (any_of HT_.out (by kernel_rfl)) (fun _ _ _ h => h) (Or.inl ⟨by rfl, ?_⟩) ?_ ?_
      rotate_left
      · intro w'
        go_simp
        with_reducible rfl
      rotate_left
      · simp only [Act.put, List.setIfInBounds_toArray, List.set_cons_zero, List.set_cons_succ, i64_w, i32_w]
        rfl
      refine pure_ (i := 8) (N := some 236) (v := ?_) (a' := ?_) #[true, true, true, true, true, true, true, true, true, false, false, false] rfl rfl (any_of HT_.out (by kernel_rfl)) (fun _ _ _ h => h) (Or.inl ⟨by rfl, ?_⟩) ?_ ?_
      rotate_left
      · intro w'
        go_simp
        with_reducible rfl
      rotate_left
      · simp only [Act.put, List.setIfInBounds_toArray, List.set_cons_zero, List.set_cons_succ, i64_w, i32_w]
        rfl
      refine pure_ (i := 9) (N := some 237) (v := ?_) (a' := ?_) #[true, true, true, true, true, true, true, true, true, true, false, false] rfl rfl (any_of HT_.out (by kernel_rfl)) (fun _ _ _ h => h) (Or.inl ⟨by rfl, ?_⟩) ?_ ?_
      rotate_left
      · intro w'
        go_simp
        with_reducible rfl
      rotate_left
      · simp only [Act.put, List.setIfInBounds_toArray, List.set_cons_zero, List.set_cons_succ, i64_w, i32_w]
        rfl
      refine pure_ (i := 10) (N := some 28) (v := ?_) (a' := ?_) #[true, true, true, true, true, true, true, true, true, true, true, false] rfl rfl (any_of HT_.out (by kernel_rfl)) (fun _ _ _ h => h) (Or.inl ⟨by rfl, ?_⟩) ?_ ?_
      rotate_left
      · intro w'
        go_simp
        with_reducible rfl
      rotate_left
      · simp only [Act.put, List.setIfInBounds_toArray, List.set_cons_zero, List.set_cons_succ, i64_w, i32_w]
        rfl
      refine pure_ (i := 11) (N := some 29) (v := ?_) (a' := ?_) #[true, true, true, true, true, true, true, true, true, true, true, true] rfl rfl (any_of HT_.out (by kernel_rfl)) (fun _ _ _ h => h) (Or.inl ⟨by rfl, ?_⟩) ?_ ?_
      rotate_left
      · intro w'
        go_simp
        with_reducible rfl
      rotate_left
      · simp only [Act.put, List.setIfInBounds_toArray, List.set_cons_zero, List.set_cons_succ, i64_w, i32_w]
        rfl
      refine done_ (done_of HT_.out (by kernel_rfl)) ?_
      try go_wp2
      have n0_ := Aside0.mk (Kd.R_drew HO_6.out)
      have n1_ := Aside0.mk (Kd.N_drew HO_26.out)
      have n2_ := Aside0.mk (Kd.V_drew HL440_0.out)
      have n3_ := Aside0.mk (Kd.R_drew HO443.out)
      have n4_ := Aside0.mk (blk_drew BK391.out)
      have n5_ := Aside0.mk (Kd.C_drew HR440_0.out)
      have n6_ := Aside0.mk (below_drew1 HB.out)
      clear HO_6
      clear HO_26
      clear HL440_0
      clear HO443
      clear BK391
      clear HR440_0
      clear HB
      have HO_6 := n0_
      have HO_26 := n1_
      have HL440_0 := n2_
      have HO443 := n3_
      have BK391 := n4_
      have HR440_0 := n5_
      have HB := n6_
      clear n0_ n1_ n2_ n3_ n4_ n5_ n6_
      have p445 : 0 ≤ (x27_4 : Int) := dtB
      have q445 : x27_4 < (y437.length : Int) := dtB
      obtain ⟨ad445, A445_0, c445_0, e445, hx445_0, hl445_0, hi445_0⟩ := at_L6 (Kd.N_reads' HO_26.out).2.2 x27_4 p445 q445
      obtain rfl : ad440 = ad445 := (by injection e445)
      obtain ⟨ce445, hce445, hMe445, hcc445⟩ := Kd.N_get HO_26.out [] x27_4 p445 (by first | exact q445 | exact dtB | (have e_ := (Kd.N_reads' HO_26.out).1; omega))
      obtain ⟨ua445_0, uc445_0, rfl, ul445_0, ge445_0⟩ := Kd.FK_slice_open hMe445
      have hv445_0 := hcc445 0 _ rfl
      rw [Nat.add_zero, show ((Kd.slice 2 (Kd.int .i64))).sz = 1 from rfl, Nat.mul_one] at hv445_0
      replace hv445_0 := Option.some.inj (hv445_0.symm.trans hx445_0)
      injection hv445_0 with hva_ hvn_ hvc_
      rw [hva_] at ge445_0
      rw [hvc_] at ul445_0
      have HL445_0 := Aside0.mk (show Kd.V (Kd.int .i64) 2 _ w.heap.size _ _ (rd_L6 y437 x27_4) from Kd.V_mk ul445_0 ge445_0)
      clear hva_ hvn_ hvc_ ge445_0 ul445_0
      clear hcc445 hce445
      have HR445_0 := Aside0.mk hi445_0
      have HC445_0 := Aside0.mk hl445_0
      clear hi445_0 hl445_0
      replace p445 := eq_true p445
      replace q445 := eq_true q445
      refine start_ (n := 12) (S := fun w' => w'.cell? ⟨gb391, 0, none⟩ = some (.int .i8 t389) ∧ w'.cell? ⟨gb391, 1, none⟩ = some (.int .i8 t390) ∧ w'.cell? (ad440.add (x27_4).toNat) = some (.slice A445_0 (rd_L6 y437 x27_4).length c445_0)) (ds := []) #[false, false, false, false, false, false, false, false, false, false, false, false] (by kernel_rfl) rfl rfl ⟨(blk_cell BK391.out 0).trans rfl, (blk_cell BK391.out 1).trans rfl, hx445_0⟩ (fun hHeld => ?_); refine with_tabW laws_FnLate.tab25 laws_FnLate.bits25 (fun HT_ HW_ => ?_)
      generalize w173.drew = w174 at HO_6 HO_26 HL440_0 HO443 BK391 HR440_0 HB HL445_0 HR445_0 hx445_0 hHeld ⊢
      refine pure_ (i := 1) (N := some 240) (v := ?_) (a' := ?_) #[false, true, false, false, false, false, false, false, false, false, false, false] rfl rfl (any_of HT_.out (by kernel_rfl)) (fun _ _ _ h => h) (Or.inl ⟨by rfl, ?_⟩) ?_ ?_
      rotate_left
      · intro w'
        go_simp
        with_reducible rfl
      rotate_left
      · simp only [Act.put, List.setIfInBounds_toArray, List.set_cons_zero, List.set_cons_succ, i64_w, i32_w]
        rfl
      refine pure_ (i := 2) (N := some 241) (v := ?_) (a' := ?_) #[false, true, true, false, false, false, false, false, false, false, false, false] rfl rfl (any_of HT_.out (by kernel_rfl)) (fun _ _ _ h => h) (Or.inl ⟨by rfl, ?_⟩) ?_ ?_
      rotate_left
      · intro w'
        go_simp
        with_reducible rfl
      rotate_left
      · simp only [Act.put, List.setIfInBounds_toArray, List.set_cons_zero, List.set_cons_succ, i64_w, i32_w]
        rfl
      refine pure_ (i := 3) (N := some 242) (v := ?_) (a' := ?_) #[false, true, true, true, false, false, false, false, false, false, false, false] rfl rfl (any_of HT_.out (by kernel_rfl)) (fun _ _ _ h => h) (Or.inl ⟨by rfl, ?_⟩) ?_ ?_
      rotate_left
      · intro w'
        go_simp
        with_reducible rfl
      rotate_left
      · simp only [Act.put, List.setIfInBounds_toArray, List.set_cons_zero, List.set_cons_succ, i64_w, i32_w]
        rfl
      refine pure_ (i := 4) (N := some 243) (v := ?_) (a' := ?_) #[false, true, true, true, true, false, false, false, false, false, false, false] rfl rfl (any_of HT_.out (by kernel_rfl)) (fun _ _ _ h => h) (Or.inl ⟨by rfl, ?_⟩) ?_ ?_
      rotate_left
      · intro w'
        go_simp
        with_reducible rfl
      rotate_left
      · simp only [Act.put, List.setIfInBounds_toArray, List.set_cons_zero, List.set_cons_succ, i64_w, i32_w]
        rfl
      refine take_ (i := 0) (N := some 239) (v := ?_) (a' := ?_) #[true, true, true, true, true, false, false, false, false, false, false, false] rfl rfl (take_ofW HT_.out HW_.out (by kernel_rfl)) (fun _ _ _ h => h) (Or.inl ⟨by rfl, ?_⟩) hHeld ?_ ?_
      rotate_left
      · rintro w' ⟨s0, s1, s2⟩
        go_simp
        with_reducible rfl
      rotate_left
      · simp only [Act.put, List.setIfInBounds_toArray, List.set_cons_zero, List.set_cons_succ, i64_w, i32_w]
        rfl
      refine take_ (i := 5) (N := some 244) (v := ?_) (a' := ?_) #[true, true, true, true, true, true, false, false, false, false, false, false] rfl rfl (take_ofW HT_.out HW_.out (by kernel_rfl)) (fun _ _ _ h => h) (Or.inl ⟨by rfl, ?_⟩) hHeld ?_ ?_
      rotate_left
      · rintro w' ⟨s0, s1, s2⟩
        go_simp
        with_reducible rfl
      rotate_left
      · simp only [Act.put, List.setIfInBounds_toArray, List.set_cons_zero, List.set_cons_succ, i64_w, i32_w]
        rfl
      refine one_ (i := 6) (N := some 245) #[true, true, true, true, true, true, true, false, false, false, false, false] rfl rfl (one_of HT_.out (by kernel_rfl)) (by decide) (fun K hK => ?_)
      refine goes_ Try.func52 (by kernel_rfl) rfl #[.agg #[.int .i8 t389, .int .i8 t390], .slice Ao22 t392.length co22, .slice A445_0 (rd_L6 y437 x27_4).length c445_0] (by rfl) rfl rfl (by (try simp only [List.map_toArray, List.map_cons, List.map_nil]); first | done | rfl | (simp only [List.length_drop, List.length_take]; rfl)) ?_
      with_reducible refine (spec_LateIn.calls k4 t389 t390 _ _ t392 _ _ (rd_L6 y437 x27_4) t446 t449 _ ?side1 ?side2 ?side3 ?side4 A167.out).mono ?_
      (case side1 => exact cvC ((Kd.R_reads' HO_6.out).2.2))
      (case side2 => exact (Kd.R_reads' HO_6.out).2.1)
      (case side3 => repeat (first | exact (by repeat (first | (with_reducible exact HR445_0.out) | (with_reducible refine Kd.C_alloc ?_ _) | (with_reducible refine Kd.C_drewN ?_ _) | (with_reducible refine Kd.C_drew ?_) | exact HR445_0.out)) | (with_reducible refine Kd.C_alloc ?_ _) | (with_reducible refine Kd.C_drewN ?_ _) | (with_reducible refine Kd.C_drew ?_)))
      (case side4 => exact HC445_0.out)
      rintro e w175 ⟨v447, rfl, ho0, hb⟩
      have HS2_ := (hb.cell (World.block_lt_of_cell? _ _ (hHeld.2.2))).trans (hHeld.2.2)
      refine ⟨_, rfl, ?_⟩
      have n0_ := Aside0.mk (Kd.R_below (mvR HO_6) hb)
      have n1_ := Aside0.mk (Kd.N_elder' (by (with_reducible repeat (first | apply Kd.N_alloc | apply Kd.N_drewN | apply Kd.N_drew)); exact HO_26.out) (Kd.R_base ho0) hb)
      have n2_ := Aside0.mk (Kd.V_elder' (by (with_reducible repeat (first | apply Kd.V_alloc | apply Kd.V_drewN | apply Kd.V_drew)); exact HL440_0.out) (Kd.R_base ho0) hb)
      have n3_ := Aside0.mk (Kd.R_elder' (mvR HO443) (Kd.R_base ho0) hb)
      have n4_ := Aside0.mk (Kd.V_elder' (by (with_reducible repeat (first | apply Kd.V_alloc | apply Kd.V_drewN | apply Kd.V_drew)); exact HL445_0.out) (Kd.R_base ho0) hb)
      have n5_ := Aside0.mk (Kd.R_lower (Kd.R_new' ho0 (Kd.R_lt (mvR HO443))) (below_size (by repeat (first | (with_reducible first | exact HB.out | apply below_alloc | apply pw_below_drewN | apply below_drew1 | refine below_set ?_ GE391.out) | exact HB.out))))
      have n6_ := Aside0.mk (blk_below (g := gb391) (o := .cells #[.int .i8 t389, .int .i8 t390] 27 (0, 0)) (by (with_reducible repeat (first | refine blk_drewN ?_ _ | refine blk_drew ?_ | refine blk_alloc ?_ _)); exact BK391.out) hb)
      have n7_ := Aside0.mk (Kd.C_below (by repeat (first | (with_reducible exact HR440_0.out) | (with_reducible refine Kd.C_alloc ?_ _) | (with_reducible refine Kd.C_drewN ?_ _) | (with_reducible refine Kd.C_drew ?_) | exact HR440_0.out)) hb)
      have n8_ := Aside0.mk (Kd.C_below (by repeat (first | (with_reducible exact HR445_0.out) | (with_reducible refine Kd.C_alloc ?_ _) | (with_reducible refine Kd.C_drewN ?_ _) | (with_reducible refine Kd.C_drew ?_) | exact HR445_0.out)) hb)
      have n9_ := Aside0.mk (below_step (by repeat (first | (with_reducible first | exact HB.out | apply below_alloc | apply pw_below_drewN | apply below_drew1 | refine below_set ?_ GE391.out) | exact HB.out)) hb)
      clear HO_6
      clear HO_26
      clear HL440_0
      clear HO443
      clear HL445_0
      clear BK391
      clear HR440_0
      clear HR445_0
      clear HB
      have HO_6 := n0_
      have HO_26 := n1_
      have HL440_0 := n2_
      have HO443 := n3_
      have HL445_0 := n4_
      have HO448 := n5_
      have BK391 := n6_
      have HR440_0 := n7_
      have HR445_0 := n8_
      have HB := n9_
      clear n0_ n1_ n2_ n3_ n4_ n5_ n6_ n7_ n8_ n9_
      (try clear hb)
      (try clear hb2)
      (try clear hk)
      (try clear hi)
      (try clear ho0)
      refine hK.out _ _ ⟨(blk_cell BK391.out 0).trans rfl, (blk_cell BK391.out 1).trans rfl, HS2_⟩ (fun hHeld => ?_)
      clear hK K
      refine norm_ (a' := ?_) ?_ ?_
      rotate_left
      · show Act.put _ (some 245) _ = _
        simp only [Act.put, List.setIfInBounds_toArray, List.set_cons_zero, List.set_cons_succ, i64_w, i32_w]
        rfl
      refine pure_ (i := 7) (N := some 238) (v := ?_) (a' := ?_) #[true, true, true, true, true, true, true, true, false, false, false, false] rfl rfl (any_of HT_.out (by kernel_rfl)) (fun _ _ _ h => h) (Or.inl ⟨by rfl, ?_⟩) ?_ ?_
      rotate_left
      · intro w'
        go_simp
        with_reducible rfl
      rotate_left
      · simp only [Act.put, List.setIfInBounds_toArray, List.set_cons_zero, List.set_cons_succ, i64_w, i32_w]
        rfl
      refine pure_ (i := 8) (N := some 246) (v := ?_) (a' := ?_) #[true, true, true, true, true, true, true, true, true, false, false, false] rfl rfl (any_of HT_.out (by kernel_rfl)) (fun _ _ _ h => h) (Or.inl ⟨by rfl, ?_⟩) ?_ ?_
      rotate_left
      · intro w'
        go_simp
        with_reducible rfl
      rotate_left
      · simp only [Act.put, List.setIfInBounds_toArray, List.set_cons_zero, List.set_cons_succ, i64_w, i32_w]
        rfl
      refine pure_ (i := 9) (N := some 247) (v := ?_) (a' := ?_) #[true, true, true, true, true, true, true, true, true, true, false, false] rfl rfl (any_of HT_.out (by kernel_rfl)) (fun _ _ _ h => h) (Or.inl ⟨by rfl, ?_⟩) ?_ ?_
      rotate_left
      · intro w'
        go_simp
        with_reducible rfl
      rotate_left
      · simp only [Act.put, List.setIfInBounds_toArray, List.set_cons_zero, List.set_cons_succ, i64_w, i32_w]
        rfl
      refine pure_ (i := 10) (N := some 30) (v := ?_) (a' := ?_) #[true, true, true, true, true, true, true, true, true, true, true, false] rfl rfl (any_of HT_.out (by kernel_rfl)) (fun _ _ _ h => h) (Or.inl ⟨by rfl, ?_⟩) ?_ ?_
      rotate_left
      · intro w'
        go_simp
        with_reducible rfl
      rotate_left
      · simp only [Act.put, List.setIfInBounds_toArray, List.set_cons_zero, List.set_cons_succ, i64_w, i32_w]
        rfl
      refine pure_ (i := 11) (N := some 31) (v := ?_) (a' := ?_) #[true, true, true, true, true, true, true, true, true, true, true, true] rfl rfl (any_of HT_.out (by kernel_rfl)) (fun _ _ _ h => h) (Or.inl ⟨by rfl, ?_⟩) ?_ ?_
      rotate_left
      · intro w'
        go_simp
        with_reducible rfl
      rotate_left
      · simp only [Act.put, List.setIfInBounds_toArray, List.set_cons_zero, List.set_cons_succ, i64_w, i32_w]
        rfl
      refine done_ (done_of HT_.out (by kernel_rfl)) ?_
      try go_wp2
      have n0_ := Aside0.mk (Kd.R_drew HO_6.out)
      have n1_ := Aside0.mk (Kd.N_drew HO_26.out)
      have n2_ := Aside0.mk (Kd.V_drew HL440_0.out)
      have n3_ := Aside0.mk (Kd.R_drew HO443.out)
      have n4_ := Aside0.mk (Kd.V_drew HL445_0.out)
      have n5_ := Aside0.mk (Kd.R_drew HO448.out)
      have n6_ := Aside0.mk (blk_drew BK391.out)
      have n7_ := Aside0.mk (Kd.C_drew HR440_0.out)
      have n8_ := Aside0.mk (Kd.C_drew HR445_0.out)
      have n9_ := Aside0.mk (below_drew1 HB.out)
      clear HO_6
      clear HO_26
      clear HL440_0
      clear HO443
      clear HL445_0
      clear HO448
      clear BK391
      clear HR440_0
      clear HR445_0
      clear HB
      have HO_6 := n0_
      have HO_26 := n1_
      have HL440_0 := n2_
      have HO443 := n3_
      have HL445_0 := n4_
      have HO448 := n5_
      have BK391 := n6_
      have HR440_0 := n7_
      have HR445_0 := n8_
      have HB := n9_
      clear n0_ n1_ n2_ n3_ n4_ n5_ n6_ n7_ n8_ n9_
      have p450 : 0 ≤ (x27_4 : Int) := dtB
      have q450 : x27_4 < (y437.length : Int) := dtB
      obtain ⟨ad450, A450_0, c450_0, e450, hx450_0, hl450_0, hi450_0⟩ := at_L6 (Kd.N_reads' HO_26.out).2.2 x27_4 p450 q450
      obtain rfl : ad440 = ad450 := (by injection e450)
      obtain ⟨ce450, hce450, hMe450, hcc450⟩ := Kd.N_get HO_26.out [] x27_4 p450 (by first | exact q450 | exact dtB | (have e_ := (Kd.N_reads' HO_26.out).1; omega))
      obtain ⟨ua450_0, uc450_0, rfl, ul450_0, ge450_0⟩ := Kd.FK_slice_open hMe450
      have hv450_0 := hcc450 0 _ rfl
      rw [Nat.add_zero, show ((Kd.slice 2 (Kd.int .i64))).sz = 1 from rfl, Nat.mul_one] at hv450_0
      replace hv450_0 := Option.some.inj (hv450_0.symm.trans hx450_0)
      injection hv450_0 with hva_ hvn_ hvc_
      rw [hva_] at ge450_0
      rw [hvc_] at ul450_0
      have HL450_0 := Aside0.mk (show Kd.V (Kd.int .i64) 2 _ w.heap.size _ _ (rd_L6 y437 x27_4) from Kd.V_mk ul450_0 ge450_0)
      clear hva_ hvn_ hvc_ ge450_0 ul450_0
      clear hcc450 hce450
      have HR450_0 := Aside0.mk hi450_0
      have HC450_0 := Aside0.mk hl450_0
      clear hi450_0 hl450_0
      replace p450 := eq_true p450
      replace q450 := eq_true q450
      refine start_ (n := 12) (S := fun w' => w'.cell? ⟨gb391, 0, none⟩ = some (.int .i8 t389) ∧ w'.cell? ⟨gb391, 1, none⟩ = some (.int .i8 t390) ∧ w'.cell? (ad440.add (x27_4).toNat) = some (.slice A450_0 (rd_L6 y437 x27_4).length c450_0)) (ds := []) #[false, false, false, false, false, false, false, false, false, false, false, false] (by kernel_rfl) rfl rfl ⟨(blk_cell BK391.out 0).trans rfl, (blk_cell BK391.out 1).trans rfl, hx450_0⟩ (fun hHeld => ?_); refine with_tabW laws_FnLate.tab26 laws_FnLate.bits26 (fun HT_ HW_ => ?_)
      generalize w175.drew = w176 at HO_6 HO_26 HL440_0 HO443 HL445_0 HO448 BK391 HR440_0 HR445_0 HB HL450_0 HR450_0 hx450_0 hHeld ⊢
      refine pure_ (i := 1) (N := some 250) (v := ?_) (a' := ?_) #[false, true, false, false, false, false, false, false, false, false, false, false] rfl rfl (any_of HT_.out (by kernel_rfl)) (fun _ _ _ h => h) (Or.inl ⟨by rfl, ?_⟩) ?_ ?_
      rotate_left
      · intro w'
        go_simp
        with_reducible rfl
      rotate_left
      · simp only [Act.put, List.setIfInBounds_toArray, List.set_cons_zero, List.set_cons_succ, i64_w, i32_w]
        rfl
      refine pure_ (i := 2) (N := some 251) (v := ?_) (a' := ?_) #[false, true, true, false, false, false, false, false, false, false, false, false] rfl rfl (any_of HT_.out (by kernel_rfl)) (fun _ _ _ h => h) (Or.inl ⟨by rfl, ?_⟩) ?_ ?_
      rotate_left
      · intro w'
        go_simp
        with_reducible rfl
      rotate_left
      · simp only [Act.put, List.setIfInBounds_toArray, List.set_cons_zero, List.set_cons_succ, i64_w, i32_w]
        rfl
      refine pure_ (i := 3) (N := some 252) (v := ?_) (a' := ?_) #[false, true, true, true, false, false, false, false, false, false, false, false] rfl rfl (any_of HT_.out (by kernel_rfl)) (fun _ _ _ h => h) (Or.inl ⟨by rfl, ?_⟩) ?_ ?_
      rotate_left
      · intro w'
        go_simp
        with_reducible rfl
      rotate_left
      · simp only [Act.put, List.setIfInBounds_toArray, List.set_cons_zero, List.set_cons_succ, i64_w, i32_w]
        rfl
      refine pure_ (i := 4) (N := some 253) (v := ?_) (a' := ?_) #[false, true, true, true, true, false, false, false, false, false, false, false] rfl rfl (any_of HT_.out (by kernel_rfl)) (fun _ _ _ h => h) (Or.inl ⟨by rfl, ?_⟩) ?_ ?_
      rotate_left
      · intro w'
        go_simp
        with_reducible rfl
      rotate_left
      · simp only [Act.put, List.setIfInBounds_toArray, List.set_cons_zero, List.set_cons_succ, i64_w, i32_w]
        rfl
      refine take_ (i := 0) (N := some 249) (v := ?_) (a' := ?_) #[true, true, true, true, true, false, false, false, false, false, false, false] rfl rfl (take_ofW HT_.out HW_.out (by kernel_rfl)) (fun _ _ _ h => h) (Or.inl ⟨by rfl, ?_⟩) hHeld ?_ ?_
      rotate_left
      · rintro w' ⟨s0, s1, s2⟩
        go_simp
        with_reducible rfl
      rotate_left
      · simp only [Act.put, List.setIfInBounds_toArray, List.set_cons_zero, List.set_cons_succ, i64_w, i32_w]
        rfl
      refine take_ (i := 5) (N := some 254) (v := ?_) (a' := ?_) #[true, true, true, true, true, true, false, false, false, false, false, false] rfl rfl (take_ofW HT_.out HW_.out (by kernel_rfl)) (fun _ _ _ h => h) (Or.inl ⟨by rfl, ?_⟩) hHeld ?_ ?_
      rotate_left
      · rintro w' ⟨s0, s1, s2⟩
        go_simp
        with_reducible rfl
      rotate_left
      · simp only [Act.put, List.setIfInBounds_toArray, List.set_cons_zero, List.set_cons_succ, i64_w, i32_w]
        rfl
      refine one_ (i := 6) (N := some 255) #[true, true, true, true, true, true, true, false, false, false, false, false] rfl rfl (one_of HT_.out (by kernel_rfl)) (by decide) (fun K hK => ?_)
      refine goes_ Try.func49 (by kernel_rfl) rfl #[.agg #[.int .i8 t389, .int .i8 t390], .slice Ao22 t392.length co22, .slice A450_0 (rd_L6 y437 x27_4).length c450_0] (by rfl) rfl rfl (by (try simp only [List.map_toArray, List.map_cons, List.map_nil]); first | done | rfl | (simp only [List.length_drop, List.length_take]; rfl)) ?_
      with_reducible refine (impl_LatenessOf.calls k4 t389 t390 _ _ t392 _ _ (rd_L6 y437 x27_4) t451 t452 _ ?side1 ?side2 ?side3 ?side4 A168.out).mono ?_
      (case side1 => exact cvC ((Kd.R_reads' HO_6.out).2.2))
      (case side2 => exact (Kd.R_reads' HO_6.out).2.1)
      (case side3 => repeat (first | exact (by repeat (first | (with_reducible exact HR450_0.out) | (with_reducible refine Kd.C_alloc ?_ _) | (with_reducible refine Kd.C_drewN ?_ _) | (with_reducible refine Kd.C_drew ?_) | exact HR450_0.out)) | (with_reducible refine Kd.C_alloc ?_ _) | (with_reducible refine Kd.C_drewN ?_ _) | (with_reducible refine Kd.C_drew ?_)))
      (case side4 => exact HC450_0.out)
      rintro e w177 ⟨rfl, hb⟩
      have HS2_ := (hb.cell (World.block_lt_of_cell? _ _ (hHeld.2.2))).trans (hHeld.2.2)
      refine ⟨_, rfl, ?_⟩
      have n0_ := Aside0.mk (Kd.R_below (mvR HO_6) hb)
      have n1_ := Aside0.mk (Kd.N_below (by (with_reducible repeat (first | apply Kd.N_alloc | apply Kd.N_drewN | apply Kd.N_drew)); exact HO_26.out) hb)
      have n2_ := Aside0.mk (Kd.V_below (by (with_reducible repeat (first | apply Kd.V_alloc | apply Kd.V_drewN | apply Kd.V_drew)); exact HL440_0.out) hb)
      have n3_ := Aside0.mk (Kd.R_below (mvR HO443) hb)
      have n4_ := Aside0.mk (Kd.V_below (by (with_reducible repeat (first | apply Kd.V_alloc | apply Kd.V_drewN | apply Kd.V_drew)); exact HL445_0.out) hb)
      have n5_ := Aside0.mk (Kd.R_below (mvR HO448) hb)
      have n6_ := Aside0.mk (Kd.V_below (by (with_reducible repeat (first | apply Kd.V_alloc | apply Kd.V_drewN | apply Kd.V_drew)); exact HL450_0.out) hb)
      have n7_ := Aside0.mk (blk_below (g := gb391) (o := .cells #[.int .i8 t389, .int .i8 t390] 27 (0, 0)) (by (with_reducible repeat (first | refine blk_drewN ?_ _ | refine blk_drew ?_ | refine blk_alloc ?_ _)); exact BK391.out) hb)
      have n8_ := Aside0.mk (Kd.C_below (by repeat (first | (with_reducible exact HR440_0.out) | (with_reducible refine Kd.C_alloc ?_ _) | (with_reducible refine Kd.C_drewN ?_ _) | (with_reducible refine Kd.C_drew ?_) | exact HR440_0.out)) hb)
      have n9_ := Aside0.mk (Kd.C_below (by repeat (first | (with_reducible exact HR445_0.out) | (with_reducible refine Kd.C_alloc ?_ _) | (with_reducible refine Kd.C_drewN ?_ _) | (with_reducible refine Kd.C_drew ?_) | exact HR445_0.out)) hb)
      have n10_ := Aside0.mk (Kd.C_below (by repeat (first | (with_reducible exact HR450_0.out) | (with_reducible refine Kd.C_alloc ?_ _) | (with_reducible refine Kd.C_drewN ?_ _) | (with_reducible refine Kd.C_drew ?_) | exact HR450_0.out)) hb)
      have n11_ := Aside0.mk (below_step (by repeat (first | (with_reducible first | exact HB.out | apply below_alloc | apply pw_below_drewN | apply below_drew1 | refine below_set ?_ GE391.out) | exact HB.out)) hb)
      clear HO_6
      clear HO_26
      clear HL440_0
      clear HO443
      clear HL445_0
      clear HO448
      clear HL450_0
      clear BK391
      clear HR440_0
      clear HR445_0
      clear HR450_0
      clear HB
      have HO_6 := n0_
      have HO_26 := n1_
      have HL440_0 := n2_
      have HO443 := n3_
      have HL445_0 := n4_
      have HO448 := n5_
      have HL450_0 := n6_
      have BK391 := n7_
      have HR440_0 := n8_
      have HR445_0 := n9_
      have HR450_0 := n10_
      have HB := n11_
      clear n0_ n1_ n2_ n3_ n4_ n5_ n6_ n7_ n8_ n9_ n10_ n11_
      (try clear hb)
      (try clear hb2)
      (try clear hk)
      (try clear hi)
      refine hK.out _ _ ⟨(blk_cell BK391.out 0).trans rfl, (blk_cell BK391.out 1).trans rfl, HS2_⟩ (fun hHeld => ?_)
      clear hK K
      refine norm_ (a' := ?_) ?_ ?_
      rotate_left
      · show Act.put _ (some 255) _ = _
        simp only [Act.put, List.setIfInBounds_toArray, List.set_cons_zero, List.set_cons_succ, i64_w, i32_w]
        rfl
      refine pure_ (i := 7) (N := some 248) (v := ?_) (a' := ?_) #[true, true, true, true, true, true, true, true, false, false, false, false] rfl rfl (any_of HT_.out (by kernel_rfl)) (fun _ _ _ h => h) (Or.inl ⟨by rfl, ?_⟩) ?_ ?_
      rotate_left
      · intro w'
        go_simp
        with_reducible rfl
      rotate_left
      · simp only [Act.put, List.setIfInBounds_toArray, List.set_cons_zero, List.set_cons_succ, i64_w, i32_w]
        rfl
      refine pure_ (i := 8) (N := some 256) (v := ?_) (a' := ?_) #[true, true, true, true, true, true, true, true, true, false, false, false] rfl rfl (any_of HT_.out (by kernel_rfl)) (fun _ _ _ h => h) (Or.inl ⟨by rfl, ?_⟩) ?_ ?_
      rotate_left
      · intro w'
        go_simp
        with_reducible rfl
      rotate_left
      · simp only [Act.put, List.setIfInBounds_toArray, List.set_cons_zero, List.set_cons_succ, i64_w, i32_w]
        rfl
      refine pure_ (i := 9) (N := some 257) (v := ?_) (a' := ?_) #[true, true, true, true, true, true, true, true, true, true, false, false] rfl rfl (any_of HT_.out (by kernel_rfl)) (fun _ _ _ h => h) (Or.inl ⟨by rfl, ?_⟩) ?_ ?_
      rotate_left
      · intro w'
        go_simp
        with_reducible rfl
      rotate_left
      · simp only [Act.put, List.setIfInBounds_toArray, List.set_cons_zero, List.set_cons_succ, i64_w, i32_w]
        rfl
      refine pure_ (i := 10) (N := some 32) (v := ?_) (a' := ?_) #[true, true, true, true, true, true, true, true, true, true, true, false] rfl rfl (any_of HT_.out (by kernel_rfl)) (fun _ _ _ h => h) (Or.inl ⟨by rfl, ?_⟩) ?_ ?_
      rotate_left
      · intro w'
        go_simp
        with_reducible rfl
      rotate_left
      · simp only [Act.put, List.setIfInBounds_toArray, List.set_cons_zero, List.set_cons_succ, i64_w, i32_w]
        rfl
      refine pure_ (i := 11) (N := some 33) (v := ?_) (a' := ?_) #[true, true, true, true, true, true, true, true, true, true, true, true] rfl rfl (any_of HT_.out (by kernel_rfl)) (fun _ _ _ h => h) (Or.inl ⟨by rfl, ?_⟩) ?_ ?_
      rotate_left
      · intro w'
        go_simp
        with_reducible rfl
      rotate_left
      · simp only [Act.put, List.setIfInBounds_toArray, List.set_cons_zero, List.set_cons_succ, i64_w, i32_w]
        rfl
      refine done_ (done_of HT_.out (by kernel_rfl)) ?_
      try go_wp2
      have n0_ := Aside0.mk (Kd.R_drew HO_6.out)
      have n1_ := Aside0.mk (Kd.N_drew HO_26.out)
      have n2_ := Aside0.mk (Kd.V_drew HL440_0.out)
      have n3_ := Aside0.mk (Kd.R_drew HO443.out)
      have n4_ := Aside0.mk (Kd.V_drew HL445_0.out)
      have n5_ := Aside0.mk (Kd.R_drew HO448.out)
      have n6_ := Aside0.mk (Kd.V_drew HL450_0.out)
      have n7_ := Aside0.mk (blk_drew BK391.out)
      have n8_ := Aside0.mk (Kd.C_drew HR440_0.out)
      have n9_ := Aside0.mk (Kd.C_drew HR445_0.out)
      have n10_ := Aside0.mk (Kd.C_drew HR450_0.out)
      have n11_ := Aside0.mk (below_drew1 HB.out)
      clear HO_6
      clear HO_26
      clear HL440_0
      clear HO443
      clear HL445_0
      clear HO448
      clear HL450_0
      clear BK391
      clear HR440_0
      clear HR445_0
      clear HR450_0
      clear HB
      have HO_6 := n0_
      have HO_26 := n1_
      have HL440_0 := n2_
      have HO443 := n3_
      have HL445_0 := n4_
      have HO448 := n5_
      have HL450_0 := n6_
      have BK391 := n7_
      have HR440_0 := n8_
      have HR445_0 := n9_
      have HR450_0 := n10_
      have HB := n11_
      clear n0_ n1_ n2_ n3_ n4_ n5_ n6_ n7_ n8_ n9_ n10_ n11_
      have p453 : 0 ≤ (x27_4 : Int) := dtB
      have q453 : x27_4 < (y437.length : Int) := dtB
      obtain ⟨ad453, A453_0, c453_0, e453, hx453_0, hl453_0, hi453_0⟩ := at_L6 (Kd.N_reads' HO_26.out).2.2 x27_4 p453 q453
      obtain rfl : ad440 = ad453 := (by injection e453)
      obtain ⟨ce453, hce453, hMe453, hcc453⟩ := Kd.N_get HO_26.out [] x27_4 p453 (by first | exact q453 | exact dtB | (have e_ := (Kd.N_reads' HO_26.out).1; omega))
      obtain ⟨ua453_0, uc453_0, rfl, ul453_0, ge453_0⟩ := Kd.FK_slice_open hMe453
      have hv453_0 := hcc453 0 _ rfl
      rw [Nat.add_zero, show ((Kd.slice 2 (Kd.int .i64))).sz = 1 from rfl, Nat.mul_one] at hv453_0
      replace hv453_0 := Option.some.inj (hv453_0.symm.trans hx453_0)
      injection hv453_0 with hva_ hvn_ hvc_
      rw [hva_] at ge453_0
      rw [hvc_] at ul453_0
      have HL453_0 := Aside0.mk (show Kd.V (Kd.int .i64) 2 _ w.heap.size _ _ (rd_L6 y437 x27_4) from Kd.V_mk ul453_0 ge453_0)
      clear hva_ hvn_ hvc_ ge453_0 ul453_0
      clear hcc453 hce453
      have HR453_0 := Aside0.mk hi453_0
      have HC453_0 := Aside0.mk hl453_0
      clear hi453_0 hl453_0
      replace p453 := eq_true p453
      replace q453 := eq_true q453
      refine start_ (n := 12) (S := fun w' => w'.cell? ⟨gb391, 0, none⟩ = some (.int .i8 t389) ∧ w'.cell? ⟨gb391, 1, none⟩ = some (.int .i8 t390) ∧ w'.cell? (ad440.add (x27_4).toNat) = some (.slice A453_0 (rd_L6 y437 x27_4).length c453_0)) (ds := []) #[false, false, false, false, false, false, false, false, false, false, false, false] (by kernel_rfl) rfl rfl ⟨(blk_cell BK391.out 0).trans rfl, (blk_cell BK391.out 1).trans rfl, hx453_0⟩ (fun hHeld => ?_); refine with_tabW laws_FnLate.tab27 laws_FnLate.bits27 (fun HT_ HW_ => ?_)
      generalize w177.drew = w178 at HO_6 HO_26 HL440_0 HO443 HL445_0 HO448 HL450_0 BK391 HR440_0 HR445_0 HR450_0 HB HL453_0 HR453_0 hx453_0 hHeld ⊢
      refine pure_ (i := 1) (N := some 260) (v := ?_) (a' := ?_) #[false, true, false, false, false, false, false, false, false, false, false, false] rfl rfl (any_of HT_.out (by kernel_rfl)) (fun _ _ _ h => h) (Or.inl ⟨by rfl, ?_⟩) ?_ ?_
      rotate_left
      · intro w'
        go_simp
        with_reducible rfl
      rotate_left
      · simp only [Act.put, List.setIfInBounds_toArray, List.set_cons_zero, List.set_cons_succ, i64_w, i32_w]
        rfl
      refine pure_ (i := 2) (N := some 261) (v := ?_) (a' := ?_) #[false, true, true, false, false, false, false, false, false, false, false, false] rfl rfl (any_of HT_.out (by kernel_rfl)) (fun _ _ _ h => h) (Or.inl ⟨by rfl, ?_⟩) ?_ ?_
      rotate_left
      · intro w'
        go_simp
        with_reducible rfl
      rotate_left
      · simp only [Act.put, List.setIfInBounds_toArray, List.set_cons_zero, List.set_cons_succ, i64_w, i32_w]
        rfl
      refine pure_ (i := 3) (N := some 262) (v := ?_) (a' := ?_) #[false, true, true, true, false, false, false, false, false, false, false, false] rfl rfl (any_of HT_.out (by kernel_rfl)) (fun _ _ _ h => h) (Or.inl ⟨by rfl, ?_⟩) ?_ ?_
      rotate_left
      · intro w'
        go_simp
        with_reducible rfl
      rotate_left
      · simp only [Act.put, List.setIfInBounds_toArray, List.set_cons_zero, List.set_cons_succ, i64_w, i32_w]
        rfl
      refine pure_ (i := 4) (N := some 263) (v := ?_) (a' := ?_) #[false, true, true, true, true, false, false, false, false, false, false, false] rfl rfl (any_of HT_.out (by kernel_rfl)) (fun _ _ _ h => h) (Or.inl ⟨by rfl, ?_⟩) ?_ ?_
      rotate_left
      · intro w'
        go_simp
        with_reducible rfl
      rotate_left
      · simp only [Act.put, List.setIfInBounds_toArray, List.set_cons_zero, List.set_cons_succ, i64_w, i32_w]
        rfl
      refine take_ (i := 0) (N := some 259) (v := ?_) (a' := ?_) #[true, true, true, true, true, false, false, false, false, false, false, false] rfl rfl (take_ofW HT_.out HW_.out (by kernel_rfl)) (fun _ _ _ h => h) (Or.inl ⟨by rfl, ?_⟩) hHeld ?_ ?_
      rotate_left
      · rintro w' ⟨s0, s1, s2⟩
        go_simp
        with_reducible rfl
      rotate_left
      · simp only [Act.put, List.setIfInBounds_toArray, List.set_cons_zero, List.set_cons_succ, i64_w, i32_w]
        rfl
      refine take_ (i := 5) (N := some 264) (v := ?_) (a' := ?_) #[true, true, true, true, true, true, false, false, false, false, false, false] rfl rfl (take_ofW HT_.out HW_.out (by kernel_rfl)) (fun _ _ _ h => h) (Or.inl ⟨by rfl, ?_⟩) hHeld ?_ ?_
      rotate_left
      · rintro w' ⟨s0, s1, s2⟩
        go_simp
        with_reducible rfl
      rotate_left
      · simp only [Act.put, List.setIfInBounds_toArray, List.set_cons_zero, List.set_cons_succ, i64_w, i32_w]
        rfl
      refine one_ (i := 6) (N := some 265) #[true, true, true, true, true, true, true, false, false, false, false, false] rfl rfl (one_of HT_.out (by kernel_rfl)) (by decide) (fun K hK => ?_)
      refine goes_ Try.func50 (by kernel_rfl) rfl #[.agg #[.int .i8 t389, .int .i8 t390], .slice Ao22 t392.length co22, .slice A453_0 (rd_L6 y437 x27_4).length c453_0] (by rfl) rfl rfl (by (try simp only [List.map_toArray, List.map_cons, List.map_nil]); first | done | rfl | (simp only [List.length_drop, List.length_take]; rfl)) ?_
      with_reducible refine (spec_FinishTimes.calls k4 t389 t390 _ _ t392 _ _ (rd_L6 y437 x27_4) t454 t457 _ ?side1 ?side2 ?side3 ?side4 A169.out).mono ?_
      (case side1 => exact cvC ((Kd.R_reads' HO_6.out).2.2))
      (case side2 => exact (Kd.R_reads' HO_6.out).2.1)
      (case side3 => repeat (first | exact (by repeat (first | (with_reducible exact HR453_0.out) | (with_reducible refine Kd.C_alloc ?_ _) | (with_reducible refine Kd.C_drewN ?_ _) | (with_reducible refine Kd.C_drew ?_) | exact HR453_0.out)) | (with_reducible refine Kd.C_alloc ?_ _) | (with_reducible refine Kd.C_drewN ?_ _) | (with_reducible refine Kd.C_drew ?_)))
      (case side4 => exact HC453_0.out)
      rintro e w179 ⟨v455, rfl, ho0, hb⟩
      have HS2_ := (hb.cell (World.block_lt_of_cell? _ _ (hHeld.2.2))).trans (hHeld.2.2)
      refine ⟨_, rfl, ?_⟩
      have n0_ := Aside0.mk (Kd.R_below (mvR HO_6) hb)
      have n1_ := Aside0.mk (Kd.N_elder' (by (with_reducible repeat (first | apply Kd.N_alloc | apply Kd.N_drewN | apply Kd.N_drew)); exact HO_26.out) (Kd.R_base ho0) hb)
      have n2_ := Aside0.mk (Kd.V_elder' (by (with_reducible repeat (first | apply Kd.V_alloc | apply Kd.V_drewN | apply Kd.V_drew)); exact HL440_0.out) (Kd.R_base ho0) hb)
      have n3_ := Aside0.mk (Kd.R_elder' (mvR HO443) (Kd.R_base ho0) hb)
      have n4_ := Aside0.mk (Kd.V_elder' (by (with_reducible repeat (first | apply Kd.V_alloc | apply Kd.V_drewN | apply Kd.V_drew)); exact HL445_0.out) (Kd.R_base ho0) hb)
      have n5_ := Aside0.mk (Kd.R_elder' (mvR HO448) (Kd.R_base ho0) hb)
      have n6_ := Aside0.mk (Kd.V_elder' (by (with_reducible repeat (first | apply Kd.V_alloc | apply Kd.V_drewN | apply Kd.V_drew)); exact HL450_0.out) (Kd.R_base ho0) hb)
      have n7_ := Aside0.mk (Kd.V_elder' (by (with_reducible repeat (first | apply Kd.V_alloc | apply Kd.V_drewN | apply Kd.V_drew)); exact HL453_0.out) (Kd.R_base ho0) hb)
      have n8_ := Aside0.mk (Kd.R_lower (Kd.R_new' (Kd.R_new' ho0 (Kd.R_lt (mvR HO443))) (Kd.R_lt (mvR HO448))) (below_size (by repeat (first | (with_reducible first | exact HB.out | apply below_alloc | apply pw_below_drewN | apply below_drew1 | refine below_set ?_ GE391.out) | exact HB.out))))
      have n9_ := Aside0.mk (blk_below (g := gb391) (o := .cells #[.int .i8 t389, .int .i8 t390] 27 (0, 0)) (by (with_reducible repeat (first | refine blk_drewN ?_ _ | refine blk_drew ?_ | refine blk_alloc ?_ _)); exact BK391.out) hb)
      have n10_ := Aside0.mk (Kd.C_below (by repeat (first | (with_reducible exact HR440_0.out) | (with_reducible refine Kd.C_alloc ?_ _) | (with_reducible refine Kd.C_drewN ?_ _) | (with_reducible refine Kd.C_drew ?_) | exact HR440_0.out)) hb)
      have n11_ := Aside0.mk (Kd.C_below (by repeat (first | (with_reducible exact HR445_0.out) | (with_reducible refine Kd.C_alloc ?_ _) | (with_reducible refine Kd.C_drewN ?_ _) | (with_reducible refine Kd.C_drew ?_) | exact HR445_0.out)) hb)
      have n12_ := Aside0.mk (Kd.C_below (by repeat (first | (with_reducible exact HR450_0.out) | (with_reducible refine Kd.C_alloc ?_ _) | (with_reducible refine Kd.C_drewN ?_ _) | (with_reducible refine Kd.C_drew ?_) | exact HR450_0.out)) hb)
      have n13_ := Aside0.mk (Kd.C_below (by repeat (first | (with_reducible exact HR453_0.out) | (with_reducible refine Kd.C_alloc ?_ _) | (with_reducible refine Kd.C_drewN ?_ _) | (with_reducible refine Kd.C_drew ?_) | exact HR453_0.out)) hb)
      have n14_ := Aside0.mk (below_step (by repeat (first | (with_reducible first | exact HB.out | apply below_alloc | apply pw_below_drewN | apply below_drew1 | refine below_set ?_ GE391.out) | exact HB.out)) hb)
      clear HO_6
      clear HO_26
      clear HL440_0
      clear HO443
      clear HL445_0
      clear HO448
      clear HL450_0
      clear HL453_0
      clear BK391
      clear HR440_0
      clear HR445_0
      clear HR450_0
      clear HR453_0
      clear HB
      have HO_6 := n0_
      have HO_26 := n1_
      have HL440_0 := n2_
      have HO443 := n3_
      have HL445_0 := n4_
      have HO448 := n5_
      have HL450_0 := n6_
      have HL453_0 := n7_
      have HO456 := n8_
      have BK391 := n9_
      have HR440_0 := n10_
      have HR445_0 := n11_
      have HR450_0 := n12_
      have HR453_0 := n13_
      have HB := n14_
      clear n0_ n1_ n2_ n3_ n4_ n5_ n6_ n7_ n8_ n9_ n10_ n11_ n12_ n13_ n14_
      (try clear hb)
      (try clear hb2)
      (try clear hk)
      (try clear hi)
      (try clear ho0)
      refine hK.out _ _ ⟨(blk_cell BK391.out 0).trans rfl, (blk_cell BK391.out 1).trans rfl, HS2_⟩ (fun hHeld => ?_)
      clear hK K
      refine norm_ (a' := ?_) ?_ ?_
      rotate_left
      · show Act.put _ (some 265) _ = _
        simp only [Act.put, List.setIfInBounds_toArray, List.set_cons_zero, List.set_cons_succ, i64_w, i32_w]
        rfl
      refine pure_ (i := 7) (N := some 258) (v := ?_) (a' := ?_) #[true, true, true, true, true, true, true, true, false, false, false, false] rfl rfl (any_of HT_.out (by kernel_rfl)) (fun _ _ _ h => h) (Or.inl ⟨by rfl, ?_⟩) ?_ ?_
      rotate_left
      · intro w'
        go_simp
        with_reducible rfl
      rotate_left
      · simp only [Act.put, List.setIfInBounds_toArray, List.set_cons_zero, List.set_cons_succ, i64_w, i32_w]
        rfl
      refine pure_ (i := 8) (N := some 266) (v := ?_) (a' := ?_) #[true, true, true, true, true, true, true, true, true, false, false, false] rfl rfl (any_of HT_.out (by kernel_rfl)) (fun _ _ _ h => h) (Or.inl ⟨by rfl, ?_⟩) ?_ ?_
      rotate_left
      · intro w'
        go_simp
        with_reducible rfl
      rotate_left
      · simp only [Act.put, List.setIfInBounds_toArray, List.set_cons_zero, List.set_cons_succ, i64_w, i32_w]
        rfl
      refine pure_ (i := 9) (N := some 267) (v := ?_) (a' := ?_) #[true, true, true, true, true, true, true, true, true, true, false, false] rfl rfl (any_of HT_.out (by kernel_rfl)) (fun _ _ _ h => h) (Or.inl ⟨by rfl, ?_⟩) ?_ ?_
      rotate_left
      · intro w'
        go_simp
        with_reducible rfl
      rotate_left
      · simp only [Act.put, List.setIfInBounds_toArray, List.set_cons_zero, List.set_cons_succ, i64_w, i32_w]
        rfl
      refine pure_ (i := 10) (N := some 34) (v := ?_) (a' := ?_) #[true, true, true, true, true, true, true, true, true, true, true, false] rfl rfl (any_of HT_.out (by kernel_rfl)) (fun _ _ _ h => h) (Or.inl ⟨by rfl, ?_⟩) ?_ ?_
      rotate_left
      · intro w'
        go_simp
        with_reducible rfl
      rotate_left
      · simp only [Act.put, List.setIfInBounds_toArray, List.set_cons_zero, List.set_cons_succ, i64_w, i32_w]
        rfl
      refine pure_ (i := 11) (N := some 35) (v := ?_) (a' := ?_) #[true, true, true, true, true, true, true, true, true, true, true, true] rfl rfl (any_of HT_.out (by kernel_rfl)) (fun _ _ _ h => h) (Or.inl ⟨by rfl, ?_⟩) ?_ ?_
      rotate_left
      · intro w'
        go_simp
        with_reducible rfl
      rotate_left
      · simp only [Act.put, List.setIfInBounds_toArray, List.set_cons_zero, List.set_cons_succ, i64_w, i32_w]
        rfl
      refine done_ (done_of HT_.out (by kernel_rfl)) ?_
      go_upto_region 28 with (fail)
      go_cut [325] from 284 to 325 (fun v325 wc => ∃ (kq : Nat) (x325_169 : Bool), v325 = .bool x325_169 ∧ Aside0 (laws_FnLate.j4 kq t392 t403 t413 y437 x27_4 t446 t451 t454 x325_169 t389 t390 = some true) ∧ Aside0 (kq ≤ k4) ∧ Aside0 (Kd.R k57 57 wc w.heap.size (fun _ => True) (.slice Ao22 t392.length co22) t392) ∧ Aside0 (Kd.N (Kd.slice 2 (Kd.int .i64)) 37 wc w.heap.size (fun k_ => some k_ ≠ ((.slice Ao22 t392.length co22) : Value).ownBlock ∧ some k_ ≠ (v447 : Value).ownBlock ∧ some k_ ≠ (v455 : Value).ownBlock ∧ k_ ≠ gb391) (.slice (some ad440) y437.length co171) y437) ∧ Aside0 (Kd.R (Kd.int .i64) 2 wc w.heap.size (fun k_ => some k_ ≠ (v455 : Value).ownBlock) v447 t446) ∧ Aside0 (Kd.R (Kd.int .i64) 2 wc w.heap.size (fun k_ => some k_ ≠ (v447 : Value).ownBlock) v455 t454) ∧ Aside0 (wc.heap[gb391]? = some (.cells #[.int .i8 t389, .int .i8 t390] 27 (0, 0))) ∧ Aside0 (Kd.C (Kd.int .i64) wc A440_0 (rd_L6 y437 x27_4).length (rd_L6 y437 x27_4)) ∧ Aside0 (Kd.C (Kd.int .i64) wc A445_0 (rd_L6 y437 x27_4).length (rd_L6 y437 x27_4)) ∧ Aside0 (Kd.C (Kd.int .i64) wc A450_0 (rd_L6 y437 x27_4).length (rd_L6 y437 x27_4)) ∧ Aside0 (Kd.C (Kd.int .i64) wc A453_0 (rd_L6 y437 x27_4).length (rd_L6 y437 x27_4)) ∧ Aside0 (Below w.heap.size w wc))
      case first =>
       as_aux_lemma =>
        have H := HC170.out
        clear HC170
        by_cases c180 : t444 = t449
        · rw [if_pos c180] at H
          have c180b0 : (t444 == t449) = true := beq_iff_eq.mpr c180
          have c180b1 : (t444 != t449) = false := bne_eq_false_iff_eq.mpr c180
          clear c180
          (first | rw [c180b0] | (simp only [i64_w, i32_w]; rw [c180b0]) | skip)
          by_cases c181 : t444 = 0
          · rw [if_pos c181] at H
            have c181b0 : (t444 == 0) = true := beq_iff_eq.mpr c181
            have c181b1 : (t444 != 0) = false := bne_eq_false_iff_eq.mpr c181
            clear c181
            replace H := Option.bind_eq_some_iff.mp H
            obtain ⟨t458, A1820, H⟩ := H
            replace H : (if t458 = true then (if t452 = 0 then (if t457 = 0 then (if (t454.length : Int) = (t392.length : Int) then (if (t446.length : Int) < t403 then (laws_FnLate.j4 k4 t392 t403 t413 y437 x27_4 t446 t451 t454 true t389 t390) else (if t451 < t413 then (laws_FnLate.j4 k4 t392 t403 t413 y437 x27_4 t446 t451 t454 true t389 t390) else (if x27_4 = 0 then (if (t446.length : Int) = t403 then (if x27_4 = 1 then (laws_FnLate.j4 k4 t392 t403 t413 y437 x27_4 t446 t451 t454 (t451 != t413) t389 t390) else (laws_FnLate.j4 k4 t392 t403 t413 y437 x27_4 t446 t451 t454 false t389 t390)) else (laws_FnLate.j4 k4 t392 t403 t413 y437 x27_4 t446 t451 t454 true t389 t390)) else (if x27_4 = 1 then (laws_FnLate.j4 k4 t392 t403 t413 y437 x27_4 t446 t451 t454 (t451 != t413) t389 t390) else (laws_FnLate.j4 k4 t392 t403 t413 y437 x27_4 t446 t451 t454 false t389 t390))))) else (laws_FnLate.j4 k4 t392 t403 t413 y437 x27_4 t446 t451 t454 true t389 t390)) else (laws_FnLate.j4 k4 t392 t403 t413 y437 x27_4 t446 t451 t454 true t389 t390)) else (laws_FnLate.j4 k4 t392 t403 t413 y437 x27_4 t446 t451 t454 true t389 t390)) else (laws_FnLate.j4 k4 t392 t403 t413 y437 x27_4 t446 t451 t454 true t389 t390)) = some true := H
            have A182 := Aside0.mk A1820
            clear A1820
            by_cases c183 : t458 = true
            · subst c183
              have H1 : (if t452 = 0 then (if t457 = 0 then (if (t454.length : Int) = (t392.length : Int) then (if (t446.length : Int) < t403 then (laws_FnLate.j4 k4 t392 t403 t413 y437 x27_4 t446 t451 t454 true t389 t390) else (if t451 < t413 then (laws_FnLate.j4 k4 t392 t403 t413 y437 x27_4 t446 t451 t454 true t389 t390) else (if x27_4 = 0 then (if (t446.length : Int) = t403 then (if x27_4 = 1 then (laws_FnLate.j4 k4 t392 t403 t413 y437 x27_4 t446 t451 t454 (t451 != t413) t389 t390) else (laws_FnLate.j4 k4 t392 t403 t413 y437 x27_4 t446 t451 t454 false t389 t390)) else (laws_FnLate.j4 k4 t392 t403 t413 y437 x27_4 t446 t451 t454 true t389 t390)) else (if x27_4 = 1 then (laws_FnLate.j4 k4 t392 t403 t413 y437 x27_4 t446 t451 t454 (t451 != t413) t389 t390) else (laws_FnLate.j4 k4 t392 t403 t413 y437 x27_4 t446 t451 t454 false t389 t390))))) else (laws_FnLate.j4 k4 t392 t403 t413 y437 x27_4 t446 t451 t454 true t389 t390)) else (laws_FnLate.j4 k4 t392 t403 t413 y437 x27_4 t446 t451 t454 true t389 t390)) else (laws_FnLate.j4 k4 t392 t403 t413 y437 x27_4 t446 t451 t454 true t389 t390)) = some true := by rw [if_pos rfl] at H; exact H
              clear H
              have H := H1
              clear H1
              by_cases c184 : t452 = 0
              · rw [if_pos c184] at H
                have c184b0 : (t452 == 0) = true := beq_iff_eq.mpr c184
                have c184b1 : (t452 != 0) = false := bne_eq_false_iff_eq.mpr c184
                clear c184
                by_cases c185 : t457 = 0
                · rw [if_pos c185] at H
                  have c185b0 : (t457 == 0) = true := beq_iff_eq.mpr c185
                  have c185b1 : (t457 != 0) = false := bne_eq_false_iff_eq.mpr c185
                  clear c185
                  by_cases c186 : (t454.length : Int) = (t392.length : Int)
                  · rw [if_pos c186] at H
                    have c186b0 : ((t454.length : Int) == (t392.length : Int)) = true := beq_iff_eq.mpr c186
                    have c186b1 : ((t454.length : Int) != (t392.length : Int)) = false := bne_eq_false_iff_eq.mpr c186
                    have c186b2 : (t454.length == t392.length) = true := by first | simpa using c186 | (simp at c186 ⊢; omega)
                    clear c186
                    by_cases c187 : (t446.length : Int) < t403
                    · rw [if_pos c187] at H
                      have c187b0 : decide ((t446.length : Int) < t403) = true := decide_eq_true c187
                      clear c187
                      exact (laws_FnLate.j4_no H).elim
                    · rw [if_neg c187] at H
                      have c187b0 : decide ((t446.length : Int) < t403) = false := decide_eq_false c187
                      clear c187
                      by_cases c191 : t451 < t413
                      · rw [if_pos c191] at H
                        have c191b0 : decide (t451 < t413) = true := decide_eq_true c191
                        clear c191
                        exact (laws_FnLate.j4_no H).elim
                      · rw [if_neg c191] at H
                        have c191b0 : decide (t451 < t413) = false := decide_eq_false c191
                        clear c191
                        by_cases c195 : x27_4 = 0
                        · rw [if_pos c195] at H
                          have c195b0 : (x27_4 == 0) = true := beq_iff_eq.mpr c195
                          have c195b1 : (x27_4 != 0) = false := bne_eq_false_iff_eq.mpr c195
                          clear c195
                          by_cases c196 : (t446.length : Int) = t403
                          · rw [if_pos c196] at H
                            have c196b0 : ((t446.length : Int) == t403) = true := beq_iff_eq.mpr c196
                            have c196b1 : ((t446.length : Int) != t403) = false := bne_eq_false_iff_eq.mpr c196
                            clear c196
                            by_cases c197 : x27_4 = 1
                            · rw [if_pos c197] at H
                              have c197b0 : (x27_4 == 1) = true := beq_iff_eq.mpr c197
                              have c197b1 : (x27_4 != 1) = false := bne_eq_false_iff_eq.mpr c197
                              clear c197
                              have H' := Aside0.mk H
                              clear H
                              obtain ⟨Ao198, co198, eo198⟩ := Kd.R_slice HO443.out
                              subst eo198
                              obtain ⟨Ao199, co199, eo199⟩ := Kd.R_slice HO448.out
                              subst eo199
                              go_wp2_with (first | (go_at_call 61; (with_reducible refine (spec_SameNumbers.calls k4 _ _ t441 _ _ t446 true _ ?side1 ?side2 ?side3 ?side4 A182.out).mono ?_); (case side1 => exact cvC ((Kd.R_reads' HO443.out).2.2)); (case side2 => exact (Kd.R_reads' HO443.out).2.1); (case side3 => exact cvC ((Kd.R_reads' HO448.out).2.2)); (case side4 => exact (Kd.R_reads' HO448.out).2.1); rintro e w' ⟨rfl, ⟨nd, rfl⟩⟩; obtain ⟨Ao200, co200, eo200⟩ := Kd.R_slice HO456.out; subst eo200))
                              go_meet
                              case rel => exact ⟨_, ((t451 != t413)), (by first | rfl | (simp; done) | (simp [*]; done)), H', ⟨by have := HJ2.out; have := HJ15.out; have := HK3.out; have := HK4.out; first | omega | exact Nat.le_refl _⟩, ⟨mvR HO_6⟩, ⟨by (with_reducible repeat (first | apply Kd.N_alloc | apply Kd.N_drewN | apply Kd.N_drew)); exact Kd.N_mono HO_26.out (fun _ hk => ⟨hk.1.1.1.1, ⟨hk.1.2, ⟨hk.2, hk.1.1.1.2⟩⟩⟩)⟩, ⟨by (with_reducible repeat (first | apply Kd.R_alloc | apply Kd.R_drewN | apply Kd.R_drew)); exact Kd.R_mono HO448.out (fun _ hk => hk.2)⟩, ⟨by (with_reducible repeat (first | apply Kd.R_alloc | apply Kd.R_drewN | apply Kd.R_drew)); exact Kd.R_mono HO456.out (fun _ hk => hk.2)⟩, ⟨by (with_reducible repeat (first | refine blk_drewN ?_ _ | refine blk_drew ?_ | refine blk_alloc ?_ _)); exact BK391.out⟩, ⟨by repeat (first | (with_reducible exact HR440_0.out) | (with_reducible refine Kd.C_alloc ?_ _) | (with_reducible refine Kd.C_drewN ?_ _) | (with_reducible refine Kd.C_drew ?_) | exact HR440_0.out)⟩, ⟨by repeat (first | (with_reducible exact HR445_0.out) | (with_reducible refine Kd.C_alloc ?_ _) | (with_reducible refine Kd.C_drewN ?_ _) | (with_reducible refine Kd.C_drew ?_) | exact HR445_0.out)⟩, ⟨by repeat (first | (with_reducible exact HR450_0.out) | (with_reducible refine Kd.C_alloc ?_ _) | (with_reducible refine Kd.C_drewN ?_ _) | (with_reducible refine Kd.C_drew ?_) | exact HR450_0.out)⟩, ⟨by repeat (first | (with_reducible exact HR453_0.out) | (with_reducible refine Kd.C_alloc ?_ _) | (with_reducible refine Kd.C_drewN ?_ _) | (with_reducible refine Kd.C_drew ?_) | exact HR453_0.out)⟩, ⟨by repeat (first | (with_reducible first | exact HB.out | apply below_alloc | apply pw_below_drewN | apply below_drew1 | refine below_set ?_ GE391.out) | exact HB.out)⟩⟩
                            · rw [if_neg c197] at H
                              have c197b0 : (x27_4 == 1) = false := beq_eq_false_iff_ne.mpr c197
                              have c197b1 : (x27_4 != 1) = true := bne_iff_ne.mpr c197
                              have H' := Aside0.mk H
                              clear H
                              obtain ⟨Ao201, co201, eo201⟩ := Kd.R_slice HO443.out
                              subst eo201
                              obtain ⟨Ao202, co202, eo202⟩ := Kd.R_slice HO448.out
                              subst eo202
                              go_wp2_with (first | (go_at_call 61; (with_reducible refine (spec_SameNumbers.calls k4 _ _ t441 _ _ t446 true _ ?side1 ?side2 ?side3 ?side4 A182.out).mono ?_); (case side1 => exact cvC ((Kd.R_reads' HO443.out).2.2)); (case side2 => exact (Kd.R_reads' HO443.out).2.1); (case side3 => exact cvC ((Kd.R_reads' HO448.out).2.2)); (case side4 => exact (Kd.R_reads' HO448.out).2.1); rintro e w' ⟨rfl, ⟨nd, rfl⟩⟩; obtain ⟨Ao203, co203, eo203⟩ := Kd.R_slice HO456.out; subst eo203))
                              go_meet
                              case rel => exact ⟨_, (false), (by first | rfl | (simp; done) | (simp [*]; done)), H', ⟨by have := HJ2.out; have := HJ15.out; have := HK3.out; have := HK4.out; first | omega | exact Nat.le_refl _⟩, ⟨mvR HO_6⟩, ⟨by (with_reducible repeat (first | apply Kd.N_alloc | apply Kd.N_drewN | apply Kd.N_drew)); exact Kd.N_mono HO_26.out (fun _ hk => ⟨hk.1.1.1.1, ⟨hk.1.2, ⟨hk.2, hk.1.1.1.2⟩⟩⟩)⟩, ⟨by (with_reducible repeat (first | apply Kd.R_alloc | apply Kd.R_drewN | apply Kd.R_drew)); exact Kd.R_mono HO448.out (fun _ hk => hk.2)⟩, ⟨by (with_reducible repeat (first | apply Kd.R_alloc | apply Kd.R_drewN | apply Kd.R_drew)); exact Kd.R_mono HO456.out (fun _ hk => hk.2)⟩, ⟨by (with_reducible repeat (first | refine blk_drewN ?_ _ | refine blk_drew ?_ | refine blk_alloc ?_ _)); exact BK391.out⟩, ⟨by repeat (first | (with_reducible exact HR440_0.out) | (with_reducible refine Kd.C_alloc ?_ _) | (with_reducible refine Kd.C_drewN ?_ _) | (with_reducible refine Kd.C_drew ?_) | exact HR440_0.out)⟩, ⟨by repeat (first | (with_reducible exact HR445_0.out) | (with_reducible refine Kd.C_alloc ?_ _) | (with_reducible refine Kd.C_drewN ?_ _) | (with_reducible refine Kd.C_drew ?_) | exact HR445_0.out)⟩, ⟨by repeat (first | (with_reducible exact HR450_0.out) | (with_reducible refine Kd.C_alloc ?_ _) | (with_reducible refine Kd.C_drewN ?_ _) | (with_reducible refine Kd.C_drew ?_) | exact HR450_0.out)⟩, ⟨by repeat (first | (with_reducible exact HR453_0.out) | (with_reducible refine Kd.C_alloc ?_ _) | (with_reducible refine Kd.C_drewN ?_ _) | (with_reducible refine Kd.C_drew ?_) | exact HR453_0.out)⟩, ⟨by repeat (first | (with_reducible first | exact HB.out | apply below_alloc | apply pw_below_drewN | apply below_drew1 | refine below_set ?_ GE391.out) | exact HB.out)⟩⟩
                          · rw [if_neg c196] at H
                            have c196b0 : ((t446.length : Int) == t403) = false := beq_eq_false_iff_ne.mpr c196
                            have c196b1 : ((t446.length : Int) != t403) = true := bne_iff_ne.mpr c196
                            exact (laws_FnLate.j4_no H).elim
                        · rw [if_neg c195] at H
                          have c195b0 : (x27_4 == 0) = false := beq_eq_false_iff_ne.mpr c195
                          have c195b1 : (x27_4 != 0) = true := bne_iff_ne.mpr c195
                          by_cases c207 : x27_4 = 1
                          · rw [if_pos c207] at H
                            have c207b0 : (x27_4 == 1) = true := beq_iff_eq.mpr c207
                            have c207b1 : (x27_4 != 1) = false := bne_eq_false_iff_eq.mpr c207
                            clear c207
                            have H' := Aside0.mk H
                            clear H
                            obtain ⟨Ao208, co208, eo208⟩ := Kd.R_slice HO443.out
                            subst eo208
                            obtain ⟨Ao209, co209, eo209⟩ := Kd.R_slice HO448.out
                            subst eo209
                            go_wp2_with (first | (go_at_call 61; (with_reducible refine (spec_SameNumbers.calls k4 _ _ t441 _ _ t446 true _ ?side1 ?side2 ?side3 ?side4 A182.out).mono ?_); (case side1 => exact cvC ((Kd.R_reads' HO443.out).2.2)); (case side2 => exact (Kd.R_reads' HO443.out).2.1); (case side3 => exact cvC ((Kd.R_reads' HO448.out).2.2)); (case side4 => exact (Kd.R_reads' HO448.out).2.1); rintro e w' ⟨rfl, ⟨nd, rfl⟩⟩; obtain ⟨Ao210, co210, eo210⟩ := Kd.R_slice HO456.out; subst eo210))
                            go_meet
                            case rel => exact ⟨_, ((t451 != t413)), (by first | rfl | (simp; done) | (simp [*]; done)), H', ⟨by have := HJ2.out; have := HJ15.out; have := HK3.out; have := HK4.out; first | omega | exact Nat.le_refl _⟩, ⟨mvR HO_6⟩, ⟨by (with_reducible repeat (first | apply Kd.N_alloc | apply Kd.N_drewN | apply Kd.N_drew)); exact Kd.N_mono HO_26.out (fun _ hk => ⟨hk.1.1.1.1, ⟨hk.1.2, ⟨hk.2, hk.1.1.1.2⟩⟩⟩)⟩, ⟨by (with_reducible repeat (first | apply Kd.R_alloc | apply Kd.R_drewN | apply Kd.R_drew)); exact Kd.R_mono HO448.out (fun _ hk => hk.2)⟩, ⟨by (with_reducible repeat (first | apply Kd.R_alloc | apply Kd.R_drewN | apply Kd.R_drew)); exact Kd.R_mono HO456.out (fun _ hk => hk.2)⟩, ⟨by (with_reducible repeat (first | refine blk_drewN ?_ _ | refine blk_drew ?_ | refine blk_alloc ?_ _)); exact BK391.out⟩, ⟨by repeat (first | (with_reducible exact HR440_0.out) | (with_reducible refine Kd.C_alloc ?_ _) | (with_reducible refine Kd.C_drewN ?_ _) | (with_reducible refine Kd.C_drew ?_) | exact HR440_0.out)⟩, ⟨by repeat (first | (with_reducible exact HR445_0.out) | (with_reducible refine Kd.C_alloc ?_ _) | (with_reducible refine Kd.C_drewN ?_ _) | (with_reducible refine Kd.C_drew ?_) | exact HR445_0.out)⟩, ⟨by repeat (first | (with_reducible exact HR450_0.out) | (with_reducible refine Kd.C_alloc ?_ _) | (with_reducible refine Kd.C_drewN ?_ _) | (with_reducible refine Kd.C_drew ?_) | exact HR450_0.out)⟩, ⟨by repeat (first | (with_reducible exact HR453_0.out) | (with_reducible refine Kd.C_alloc ?_ _) | (with_reducible refine Kd.C_drewN ?_ _) | (with_reducible refine Kd.C_drew ?_) | exact HR453_0.out)⟩, ⟨by repeat (first | (with_reducible first | exact HB.out | apply below_alloc | apply pw_below_drewN | apply below_drew1 | refine below_set ?_ GE391.out) | exact HB.out)⟩⟩
                          · rw [if_neg c207] at H
                            have c207b0 : (x27_4 == 1) = false := beq_eq_false_iff_ne.mpr c207
                            have c207b1 : (x27_4 != 1) = true := bne_iff_ne.mpr c207
                            have H' := Aside0.mk H
                            clear H
                            obtain ⟨Ao211, co211, eo211⟩ := Kd.R_slice HO443.out
                            subst eo211
                            obtain ⟨Ao212, co212, eo212⟩ := Kd.R_slice HO448.out
                            subst eo212
                            go_wp2_with (first | (go_at_call 61; (with_reducible refine (spec_SameNumbers.calls k4 _ _ t441 _ _ t446 true _ ?side1 ?side2 ?side3 ?side4 A182.out).mono ?_); (case side1 => exact cvC ((Kd.R_reads' HO443.out).2.2)); (case side2 => exact (Kd.R_reads' HO443.out).2.1); (case side3 => exact cvC ((Kd.R_reads' HO448.out).2.2)); (case side4 => exact (Kd.R_reads' HO448.out).2.1); rintro e w' ⟨rfl, ⟨nd, rfl⟩⟩; obtain ⟨Ao213, co213, eo213⟩ := Kd.R_slice HO456.out; subst eo213))
                            go_meet
                            case rel => exact ⟨_, (false), (by first | rfl | (simp; done) | (simp [*]; done)), H', ⟨by have := HJ2.out; have := HJ15.out; have := HK3.out; have := HK4.out; first | omega | exact Nat.le_refl _⟩, ⟨mvR HO_6⟩, ⟨by (with_reducible repeat (first | apply Kd.N_alloc | apply Kd.N_drewN | apply Kd.N_drew)); exact Kd.N_mono HO_26.out (fun _ hk => ⟨hk.1.1.1.1, ⟨hk.1.2, ⟨hk.2, hk.1.1.1.2⟩⟩⟩)⟩, ⟨by (with_reducible repeat (first | apply Kd.R_alloc | apply Kd.R_drewN | apply Kd.R_drew)); exact Kd.R_mono HO448.out (fun _ hk => hk.2)⟩, ⟨by (with_reducible repeat (first | apply Kd.R_alloc | apply Kd.R_drewN | apply Kd.R_drew)); exact Kd.R_mono HO456.out (fun _ hk => hk.2)⟩, ⟨by (with_reducible repeat (first | refine blk_drewN ?_ _ | refine blk_drew ?_ | refine blk_alloc ?_ _)); exact BK391.out⟩, ⟨by repeat (first | (with_reducible exact HR440_0.out) | (with_reducible refine Kd.C_alloc ?_ _) | (with_reducible refine Kd.C_drewN ?_ _) | (with_reducible refine Kd.C_drew ?_) | exact HR440_0.out)⟩, ⟨by repeat (first | (with_reducible exact HR445_0.out) | (with_reducible refine Kd.C_alloc ?_ _) | (with_reducible refine Kd.C_drewN ?_ _) | (with_reducible refine Kd.C_drew ?_) | exact HR445_0.out)⟩, ⟨by repeat (first | (with_reducible exact HR450_0.out) | (with_reducible refine Kd.C_alloc ?_ _) | (with_reducible refine Kd.C_drewN ?_ _) | (with_reducible refine Kd.C_drew ?_) | exact HR450_0.out)⟩, ⟨by repeat (first | (with_reducible exact HR453_0.out) | (with_reducible refine Kd.C_alloc ?_ _) | (with_reducible refine Kd.C_drewN ?_ _) | (with_reducible refine Kd.C_drew ?_) | exact HR453_0.out)⟩, ⟨by repeat (first | (with_reducible first | exact HB.out | apply below_alloc | apply pw_below_drewN | apply below_drew1 | refine below_set ?_ GE391.out) | exact HB.out)⟩⟩
                  · rw [if_neg c186] at H
                    have c186b0 : ((t454.length : Int) == (t392.length : Int)) = false := beq_eq_false_iff_ne.mpr c186
                    have c186b1 : ((t454.length : Int) != (t392.length : Int)) = true := bne_iff_ne.mpr c186
                    have c186b2 : (t454.length == t392.length) = false := by first | simpa using c186 | (simp at c186 ⊢; omega)
                    exact (laws_FnLate.j4_no H).elim
                · rw [if_neg c185] at H
                  have c185b0 : (t457 == 0) = false := beq_eq_false_iff_ne.mpr c185
                  have c185b1 : (t457 != 0) = true := bne_iff_ne.mpr c185
                  exact (laws_FnLate.j4_no H).elim
              · rw [if_neg c184] at H
                have c184b0 : (t452 == 0) = false := beq_eq_false_iff_ne.mpr c184
                have c184b1 : (t452 != 0) = true := bne_iff_ne.mpr c184
                exact (laws_FnLate.j4_no H).elim
            · replace c183 := Bool.eq_false_iff.mpr c183
              subst c183
              have H1 : (laws_FnLate.j4 k4 t392 t403 t413 y437 x27_4 t446 t451 t454 true t389 t390) = some true := by rw [if_neg (show ¬ (false = true) by decide)] at H; exact H
              clear H
              have H := H1
              clear H1
              exact (laws_FnLate.j4_no H).elim
          · rw [if_neg c181] at H
            have c181b0 : (t444 == 0) = false := beq_eq_false_iff_ne.mpr c181
            have c181b1 : (t444 != 0) = true := bne_iff_ne.mpr c181
            exact (laws_FnLate.j4_no H).elim
        · rw [if_neg c180] at H
          have c180b0 : (t444 == t449) = false := beq_eq_false_iff_ne.mpr c180
          have c180b1 : (t444 != t449) = true := bne_iff_ne.mpr c180
          (first | rw [c180b0] | (simp only [i64_w, i32_w]; rw [c180b0]) | skip)
          exact (laws_FnLate.j4_no H).elim
      case rest =>
       as_aux_lemma =>
        clear HC170
        try clear c1
        try clear c2
        try clear p2
        try clear c4
        try clear p4
        try clear q4
        try clear hx4
        try clear c5
        try clear c18
        try clear c19
        try clear c20
        try clear c45
        try clear p45
        try clear q45
        try clear hx45
        try clear c49
        try clear c50
        try clear c180
        try clear c180b0
        try clear c180b1
        try clear c181
        try clear c181b0
        try clear c181b1
        try clear c183
        try clear c184
        try clear c184b0
        try clear c184b1
        try clear c185
        try clear c185b0
        try clear c185b1
        try clear c186
        try clear c186b0
        try clear c186b1
        try clear c186b2
        try clear c187
        try clear c187b0
        try clear c191
        try clear c191b0
        try clear c195
        try clear c195b0
        try clear c195b1
        try clear c196
        try clear c196b0
        try clear c196b1
        try clear c197
        try clear c197b0
        try clear c197b1
        try clear c207
        try clear c207b0
        try clear c207b1
        try clear hx450_0
        try clear hx453_0
        try clear p450
        try clear p453
        try clear q450
        try clear q453
        obtain ⟨kq, x325_169, rfl, HA, HJ169, HO_6, HO_26, HO_30, HO_34, BK391, HR440_0, HR445_0, HR450_0, HR453_0, HB⟩ := hcut
        cases kq with
        | zero => exact absurd HA.out (by simp [laws_FnLate.j4])
        | succ kj169 =>
         have H := HA.out
         clear HA
         simp only [laws_FnLate.j4] at H
         by_cases c223 : x325_169 = true
         · subst c223
           have H1 : (some false) = some true := by rw [if_pos rfl] at H; exact H
           clear H
           have H := H1
           clear H1
           exact absurd H (by simp)
         · replace c223 := Bool.eq_false_iff.mpr c223
           subst c223
           have H1 : (laws_FnLate.l2 kj169 t392 t403 t413 y437 x27_4 t446 t451 t454 0 0 t389 t390) = some true := by rw [if_neg (show ¬ (false = true) by decide)] at H; exact H
           clear H
           have H := H1
           clear H1
           have H' := Aside0.mk H
           clear H
           go_wp2
           go_loopg [36, 37] kj169 (fun kq v36 v37 w' => ∃ (x36_6 : Int) (x37_6 : Int), v36 = .int .i64 x36_6 ∧ v37 = .int .i64 x37_6 ∧ Aside0 (laws_FnLate.l2 kq t392 t403 t413 y437 x27_4 t446 t451 t454 x36_6 x37_6 t389 t390 = some true) ∧ Aside0 (kq ≤ kj169) ∧ Aside0 (Kd.R k57 57 w' w.heap.size (fun _ => True) (.slice Ao22 t392.length co22) t392) ∧ Aside0 (Kd.N (Kd.slice 2 (Kd.int .i64)) 37 w' w.heap.size (fun k_ => some k_ ≠ ((.slice Ao22 t392.length co22) : Value).ownBlock ∧ some k_ ≠ (v447 : Value).ownBlock ∧ some k_ ≠ (v455 : Value).ownBlock ∧ k_ ≠ gb391) (.slice (some ad440) y437.length co171) y437) ∧ Aside0 (Kd.R (Kd.int .i64) 2 w' w.heap.size (fun k_ => some k_ ≠ (v455 : Value).ownBlock) v447 t446) ∧ Aside0 (Kd.R (Kd.int .i64) 2 w' w.heap.size (fun k_ => some k_ ≠ (v447 : Value).ownBlock) v455 t454) ∧ Aside0 (w'.heap[gb391]? = some (.cells #[.int .i8 t389, .int .i8 t390] 27 (0, 0))) ∧ Aside0 (Kd.C (Kd.int .i64) w' A440_0 (rd_L6 y437 x27_4).length (rd_L6 y437 x27_4)) ∧ Aside0 (Kd.C (Kd.int .i64) w' A445_0 (rd_L6 y437 x27_4).length (rd_L6 y437 x27_4)) ∧ Aside0 (Kd.C (Kd.int .i64) w' A450_0 (rd_L6 y437 x27_4).length (rd_L6 y437 x27_4)) ∧ Aside0 (Kd.C (Kd.int .i64) w' A453_0 (rd_L6 y437 x27_4).length (rd_L6 y437 x27_4)) ∧ Aside0 (Below w.heap.size w w'))
           case atStart => exact ⟨(0), (0), (by first | rfl | (simp; done) | (simp [*]; done)), (by first | rfl | (simp; done) | (simp [*]; done)), H', ⟨Nat.le_refl _⟩, ⟨mvR HO_6⟩, ⟨by (with_reducible repeat (first | apply Kd.N_alloc | apply Kd.N_drewN | apply Kd.N_drew)); exact HO_26.out⟩, ⟨mvR HO_30⟩, ⟨mvR HO_34⟩, ⟨by (with_reducible repeat (first | refine blk_drewN ?_ _ | refine blk_drew ?_ | refine blk_alloc ?_ _)); exact BK391.out⟩, ⟨by repeat (first | (with_reducible exact HR440_0.out) | (with_reducible refine Kd.C_alloc ?_ _) | (with_reducible refine Kd.C_drewN ?_ _) | (with_reducible refine Kd.C_drew ?_) | exact HR440_0.out)⟩, ⟨by repeat (first | (with_reducible exact HR445_0.out) | (with_reducible refine Kd.C_alloc ?_ _) | (with_reducible refine Kd.C_drewN ?_ _) | (with_reducible refine Kd.C_drew ?_) | exact HR445_0.out)⟩, ⟨by repeat (first | (with_reducible exact HR450_0.out) | (with_reducible refine Kd.C_alloc ?_ _) | (with_reducible refine Kd.C_drewN ?_ _) | (with_reducible refine Kd.C_drew ?_) | exact HR450_0.out)⟩, ⟨by repeat (first | (with_reducible exact HR453_0.out) | (with_reducible refine Kd.C_alloc ?_ _) | (with_reducible refine Kd.C_drewN ?_ _) | (with_reducible refine Kd.C_drew ?_) | exact HR453_0.out)⟩, ⟨by repeat (first | (with_reducible first | exact HB.out | apply below_alloc | apply pw_below_drewN | apply below_drew1 | refine below_set ?_ GE391.out) | exact HB.out)⟩⟩
           case round =>
            as_aux_lemma =>
             clear H'
             try clear c1
             try clear c2
             try clear p2
             try clear c4
             try clear p4
             try clear q4
             try clear hx4
             try clear c5
             try clear c18
             try clear c19
             try clear c20
             try clear c22
             try clear c45
             try clear p45
             try clear q45
             try clear hx45
             try clear c49
             try clear c50
             try clear c180
             try clear c180b0
             try clear c180b1
             try clear c181
             try clear c181b0
             try clear c181b1
             try clear c183
             try clear c184
             try clear c184b0
             try clear c184b1
             try clear c185
             try clear c185b0
             try clear c185b1
             try clear c186
             try clear c186b0
             try clear c186b1
             try clear c186b2
             try clear c187
             try clear c187b0
             try clear c191
             try clear c191b0
             try clear c195
             try clear c195b0
             try clear c195b1
             try clear c196
             try clear c196b0
             try clear c196b1
             try clear c197
             try clear c197b0
             try clear c197b1
             try clear c207
             try clear c207b0
             try clear c207b1
             try clear c223
             try clear hx450_0
             try clear hx453_0
             try clear p2
             try clear p4
             try clear p45
             try clear p450
             try clear p453
             try clear q4
             try clear q45
             try clear q450
             try clear q453
             obtain ⟨x36_6, x37_6, rfl, rfl, HA, HK6, HO_6, HO_26, HO_30, HO_34, BK391, HR440_0, HR445_0, HR450_0, HR453_0, HB⟩ := hrel
             cases gk with
             | zero => exact absurd HA.out (by simp [laws_FnLate.l2])
             | succ k6 =>
              have H := HA.out
              clear HA
              simp only [laws_FnLate.l2] at H
              by_cases c224 : x37_6 < (t454.length : Int)
              · rw [if_pos c224] at H
                have c224b0 : decide (x37_6 < (t454.length : Int)) = true := decide_eq_true c224
                clear c224
                by_cases c225 : 0 ≤ x37_6
                · rw [if_pos c225] at H
                  have c225b0 : decide (0 ≤ x37_6) = true := decide_eq_true c225
                  clear c225
                  by_cases c226 : 0 ≤ x27_4
                  · rw [if_pos c226] at H
                    have c226b0 : decide (0 ≤ x27_4) = true := decide_eq_true c226
                    clear c226
                    by_cases c227 : x27_4 < (y437.length : Int)
                    · rw [if_pos c227] at H
                      have c227b0 : decide (x27_4 < (y437.length : Int)) = true := decide_eq_true c227
                      clear c227
                      by_cases c228 : x37_6 < ((rd_L6 y437 x27_4).length : Int)
                      · rw [if_pos c228] at H
                        have c228b0 : decide (x37_6 < ((rd_L6 y437 x27_4).length : Int)) = true := decide_eq_true c228
                        clear c228
                        by_cases c229 : 0 ≤ (rd (rd_L6 y437 x27_4) x37_6)
                        · rw [if_pos c229] at H
                          have c229b0 : decide (0 ≤ (rd (rd_L6 y437 x27_4) x37_6)) = true := decide_eq_true c229
                          clear c229
                          by_cases c230 : (rd (rd_L6 y437 x27_4) x37_6) < (t392.length : Int)
                          · rw [if_pos c230] at H
                            have c230b0 : decide ((rd (rd_L6 y437 x27_4) x37_6) < (t392.length : Int)) = true := decide_eq_true c230
                            clear c230
                            replace H := Option.bind_eq_some_iff.mp H
                            obtain ⟨t465, A2310, H⟩ := H
                            replace H : (if ((decide ((wrap64 ((rd t454 x37_6) - (wrap64 ((rd_T57 t392 (rd (rd_L6 y437 x27_4) x37_6)).f2)))) > 0)) != t465) = true then (some false) else (laws_FnLate.l2 k6 t392 t403 t413 y437 x27_4 t446 t451 t454 (wrap64 (x36_6 + (mx 0 (wrap64 ((rd t454 x37_6) - (wrap64 ((rd_T57 t392 (rd (rd_L6 y437 x27_4) x37_6)).f2))))))) (wrap64 (x37_6 + 1)) t389 t390)) = some true := H
                            have A231 := Aside0.mk A2310
                            clear A2310
                            by_cases c232 : ((decide ((wrap64 ((rd t454 x37_6) - (wrap64 ((rd_T57 t392 (rd (rd_L6 y437 x27_4) x37_6)).f2)))) > 0)) != t465) = true
                            · rw [if_pos c232] at H
                              have c232b0 : ((decide ((wrap64 ((rd t454 x37_6) - (wrap64 ((rd_T57 t392 (rd (rd_L6 y437 x27_4) x37_6)).f2)))) > 0)) != t465) = true := c232
                              (try (have c232b1 : decide ((decide ((wrap64 ((rd t454 x37_6) - (wrap64 ((rd_T57 t392 (rd (rd_L6 y437 x27_4) x37_6)).f2)))) > 0)) = t465) = false := by simpa using c232))
                              (try (have c232b2 : ((decide ((wrap64 ((rd t454 x37_6) - (wrap64 ((rd_T57 t392 (rd (rd_L6 y437 x27_4) x37_6)).f2)))) > 0)) == t465) = false := by simpa using c232))
                              (try (have c232b3 : ¬ ((decide ((wrap64 ((rd t454 x37_6) - (wrap64 ((rd_T57 t392 (rd (rd_L6 y437 x27_4) x37_6)).f2)))) > 0)) = t465) := by simpa using c232))
                              clear c232
                              exact absurd H (by simp)
                            · rw [if_neg c232] at H
                              have c232b0 : ((decide ((wrap64 ((rd t454 x37_6) - (wrap64 ((rd_T57 t392 (rd (rd_L6 y437 x27_4) x37_6)).f2)))) > 0)) != t465) = false := by simpa using c232
                              (try (have c232b1 : decide ((decide ((wrap64 ((rd t454 x37_6) - (wrap64 ((rd_T57 t392 (rd (rd_L6 y437 x27_4) x37_6)).f2)))) > 0)) = t465) = true := by simpa using c232))
                              (try (have c232b2 : ((decide ((wrap64 ((rd t454 x37_6) - (wrap64 ((rd_T57 t392 (rd (rd_L6 y437 x27_4) x37_6)).f2)))) > 0)) == t465) = true := by simpa using c232))
                              clear c232
                              obtain ⟨ji236, hji236⟩ : ∃ j_ : Int, (mx 0 (wrap64 ((rd t454 x37_6) - (wrap64 ((rd_T57 t392 (rd (rd_L6 y437 x27_4) x37_6)).f2))))) = j_ := ⟨_, rfl⟩
                              replace H : (laws_FnLate.l2 k6 t392 t403 t413 y437 x27_4 t446 t451 t454 (wrap64 (x36_6 + (ji236))) (wrap64 (x37_6 + 1)) t389 t390) = some true := by first | (rw [hji236] at H; exact H) | (simp only [hji236] at H ⊢; exact H)
                              (try rw [hji236] at A231)
                              have hji236_ : (if 0 < (wrap64 ((rd t454 x37_6) - (wrap64 ((rd_T57 t392 (rd (rd_L6 y437 x27_4) x37_6)).f2)))) then (wrap64 ((rd t454 x37_6) - (wrap64 ((rd_T57 t392 (rd (rd_L6 y437 x27_4) x37_6)).f2)))) else 0) = ji236 := hji236
                              have H' := Aside0.mk H
                              clear H
                              obtain ⟨Ao237, co237, eo237⟩ := Kd.R_slice HO_34.out
                              subst eo237
                              try go_wp2
                              have n0_ := Aside0.mk (Kd.R_drew HO_6.out)
                              have n1_ := Aside0.mk (Kd.N_drew HO_26.out)
                              have n2_ := Aside0.mk (Kd.R_drew HO_30.out)
                              have n3_ := Aside0.mk (Kd.R_drew HO_34.out)
                              have n4_ := Aside0.mk (blk_drew BK391.out)
                              have n5_ := Aside0.mk (Kd.C_drew HR440_0.out)
                              have n6_ := Aside0.mk (Kd.C_drew HR445_0.out)
                              have n7_ := Aside0.mk (Kd.C_drew HR450_0.out)
                              have n8_ := Aside0.mk (Kd.C_drew HR453_0.out)
                              have n9_ := Aside0.mk (below_drew1 HB.out)
                              clear HO_6
                              clear HO_26
                              clear HO_30
                              clear HO_34
                              clear BK391
                              clear HR440_0
                              clear HR445_0
                              clear HR450_0
                              clear HR453_0
                              clear HB
                              have HO_6 := n0_
                              have HO_26 := n1_
                              have HO_30 := n2_
                              have HO_34 := n3_
                              have BK391 := n4_
                              have HR440_0 := n5_
                              have HR445_0 := n6_
                              have HR450_0 := n7_
                              have HR453_0 := n8_
                              have HB := n9_
                              clear n0_ n1_ n2_ n3_ n4_ n5_ n6_ n7_ n8_ n9_
                              have p459 : 0 ≤ (x37_6 : Int) := dtB
                              have q459 : x37_6 < (t454.length : Int) := dtB
                              obtain ⟨ad459, e459, hx459_0⟩ := Kd.at_int (Kd.R_reads' HO_34.out).2.2 x37_6 p459 q459
                              cases e459
                              replace p459 := eq_true p459
                              replace q459 := eq_true q459
                              have p460 : 0 ≤ (x27_4 : Int) := dtB
                              have q460 : x27_4 < (y437.length : Int) := dtB
                              obtain ⟨ad460, A460_0, c460_0, e460, hx460_0, hl460_0, hi460_0⟩ := at_L6 (Kd.N_reads' HO_26.out).2.2 x27_4 p460 q460
                              obtain rfl : ad440 = ad460 := (by injection e460)
                              obtain ⟨ce460, hce460, hMe460, hcc460⟩ := Kd.N_get HO_26.out [] x27_4 p460 (by first | exact q460 | exact dtB | (have e_ := (Kd.N_reads' HO_26.out).1; omega))
                              obtain ⟨ua460_0, uc460_0, rfl, ul460_0, ge460_0⟩ := Kd.FK_slice_open hMe460
                              have hv460_0 := hcc460 0 _ rfl
                              rw [Nat.add_zero, show ((Kd.slice 2 (Kd.int .i64))).sz = 1 from rfl, Nat.mul_one] at hv460_0
                              replace hv460_0 := Option.some.inj (hv460_0.symm.trans hx460_0)
                              injection hv460_0 with hva_ hvn_ hvc_
                              rw [hva_] at ge460_0
                              rw [hvc_] at ul460_0
                              have HL460_0 := Aside0.mk (show Kd.V (Kd.int .i64) 2 _ w.heap.size _ _ (rd_L6 y437 x27_4) from Kd.V_mk ul460_0 ge460_0)
                              clear hva_ hvn_ hvc_ ge460_0 ul460_0
                              clear hcc460 hce460
                              have HR460_0 := Aside0.mk hi460_0
                              have HC460_0 := Aside0.mk hl460_0
                              clear hi460_0 hl460_0
                              replace p460 := eq_true p460
                              replace q460 := eq_true q460
                              have p461 : 0 ≤ (x37_6 : Int) := dtB
                              have q461 : x37_6 < ((rd_L6 y437 x27_4).length : Int) := dtB
                              obtain ⟨ad461, e461, hx461_0⟩ := Kd.at_int (by repeat (first | (with_reducible exact HR460_0.out) | (with_reducible refine Kd.C_alloc ?_ _) | (with_reducible refine Kd.C_drewN ?_ _) | (with_reducible refine Kd.C_drew ?_) | exact HR460_0.out)) x37_6 p461 q461
                              cases e461
                              replace p461 := eq_true p461
                              replace q461 := eq_true q461
                              have p462 : 0 ≤ ((rd (rd_L6 y437 x27_4) x37_6) : Int) := dtB
                              have q462 : (rd (rd_L6 y437 x27_4) x37_6) < (t392.length : Int) := dtB
                              obtain ⟨ad462, e462, hx462_0, hx462_1, hx462_2⟩ := at_T57 (Kd.R_reads' HO_6.out).2.2 (rd (rd_L6 y437 x27_4) x37_6) p462 q462
                              cases e462
                              replace p462 := eq_true p462
                              replace q462 := eq_true q462
                              refine start_ (n := 18) (S := fun w' => w'.cell? (ad459.add (x37_6).toNat) = some (.int .i64 (rd t454 x37_6)) ∧ w'.cell? (ad440.add (x27_4).toNat) = some (.slice (some ad461) (rd_L6 y437 x27_4).length c460_0) ∧ w'.cell? (ad461.add (x37_6).toNat) = some (.int .i64 (rd (rd_L6 y437 x27_4) x37_6)) ∧ w'.cell? (ad462.add (((rd (rd_L6 y437 x27_4) x37_6)).toNat * 3)) = some (.int .i8 ((rd_T57 t392 (rd (rd_L6 y437 x27_4) x37_6)).f0)) ∧ w'.cell? ⟨(ad462.add (((rd (rd_L6 y437 x27_4) x37_6)).toNat * 3)).block, (ad462.add (((rd (rd_L6 y437 x27_4) x37_6)).toNat * 3)).off + 1, none⟩ = some (.int .i8 ((rd_T57 t392 (rd (rd_L6 y437 x27_4) x37_6)).f1)) ∧ w'.cell? ⟨(ad462.add (((rd (rd_L6 y437 x27_4) x37_6)).toNat * 3)).block, (ad462.add (((rd (rd_L6 y437 x27_4) x37_6)).toNat * 3)).off + 2, none⟩ = some (.int .i16 ((rd_T57 t392 (rd (rd_L6 y437 x27_4) x37_6)).f2))) (ds := []) #[false, false, false, false, false, false, false, false, false, false, false, false, false, false, false, false, false, false] (by kernel_rfl) rfl rfl ⟨hx459_0, hx460_0, hx461_0, hx462_0, hx462_1, hx462_2⟩ (fun hHeld => ?_); refine with_tabW laws_FnLate.tab34 laws_FnLate.bits34 (fun HT_ HW_ => ?_)
                              generalize wr.drew = w238 at HO_6 HO_26 HO_30 HO_34 BK391 HR440_0 HR445_0 HR450_0 HR453_0 HB HL460_0 HR460_0 hx459_0 hx460_0 hx461_0 hx462_0 hx462_1 hx462_2 hHeld ⊢
                              refine pure_ (i := 0) (N := some 332) (v := ?_) (a' := ?_) #[true, false, false, false, false, false, false, false, false, false, false, false, false, false, false, false, false, false] rfl rfl (any_of HT_.out (by kernel_rfl)) (fun _ _ _ h => h) (Or.inl ⟨by rfl, ?_⟩) ?_ ?_
                              rotate_left
                              · intro w'
                                go_simp
                                with_reducible rfl
                              rotate_left
                              · simp only [Act.put, List.setIfInBounds_toArray, List.set_cons_zero, List.set_cons_succ, i64_w, i32_w]
                                rfl
                              refine pure_ (i := 1) (N := some 333) (v := ?_) (a' := ?_) #[true, true, false, false, false, false, false, false, false, false, false, false, false, false, false, false, false, false] rfl rfl (any_of HT_.out (by kernel_rfl)) (fun _ _ _ h => h) (Or.inl ⟨by rfl, ?_⟩) ?_ ?_
                              rotate_left
                              · intro w'
                                go_simp
                                with_reducible rfl
                              rotate_left
                              · simp only [Act.put, List.setIfInBounds_toArray, List.set_cons_zero, List.set_cons_succ, i64_w, i32_w]
                                rfl
                              refine pure_ (i := 2) (N := some 334) (v := ?_) (a' := ?_) #[true, true, true, false, false, false, false, false, false, false, false, false, false, false, false, false, false, false] rfl rfl (any_of HT_.out (by kernel_rfl)) (fun _ _ _ h => h) (Or.inl ⟨by rfl, ?_⟩) ?_ ?_
                              rotate_left
                              · intro w'
                                go_simp
                                with_reducible rfl
                              rotate_left
                              · simp only [Act.put, List.setIfInBounds_toArray, List.set_cons_zero, List.set_cons_succ, i64_w, i32_w]
                                rfl
                              refine pure_ (i := 4) (N := some 336) (v := ?_) (a' := ?_) #[true, true, true, false, true, false, false, false, false, false, false, false, false, false, false, false, false, false] rfl rfl (any_of HT_.out (by kernel_rfl)) (fun _ _ _ h => h) (Or.inl ⟨by rfl, ?_⟩) ?_ ?_
                              rotate_left
                              · intro w'
                                go_simp
                                with_reducible rfl
                              rotate_left
                              · simp only [Act.put, List.setIfInBounds_toArray, List.set_cons_zero, List.set_cons_succ, i64_w, i32_w]
                                rfl
                              refine pure_ (i := 5) (N := some 337) (v := ?_) (a' := ?_) #[true, true, true, false, true, true, false, false, false, false, false, false, false, false, false, false, false, false] rfl rfl (any_of HT_.out (by kernel_rfl)) (fun _ _ _ h => h) (Or.inl ⟨by rfl, ?_⟩) ?_ ?_
                              rotate_left
                              · intro w'
                                go_simp
                                with_reducible rfl
                              rotate_left
                              · simp only [Act.put, List.setIfInBounds_toArray, List.set_cons_zero, List.set_cons_succ, i64_w, i32_w]
                                rfl
                              refine pure_ (i := 6) (N := some 338) (v := ?_) (a' := ?_) #[true, true, true, false, true, true, true, false, false, false, false, false, false, false, false, false, false, false] rfl rfl (any_of HT_.out (by kernel_rfl)) (fun _ _ _ h => h) (Or.inl ⟨by rfl, ?_⟩) ?_ ?_
                              rotate_left
                              · intro w'
                                go_simp
                                with_reducible rfl
                              rotate_left
                              · simp only [Act.put, List.setIfInBounds_toArray, List.set_cons_zero, List.set_cons_succ, i64_w, i32_w]
                                rfl
                              refine pure_ (i := 7) (N := some 339) (v := ?_) (a' := ?_) #[true, true, true, false, true, true, true, true, false, false, false, false, false, false, false, false, false, false] rfl rfl (any_of HT_.out (by kernel_rfl)) (fun _ _ _ h => h) (Or.inl ⟨by rfl, ?_⟩) ?_ ?_
                              rotate_left
                              · intro w'
                                go_simp
                                with_reducible rfl
                              rotate_left
                              · simp only [Act.put, List.setIfInBounds_toArray, List.set_cons_zero, List.set_cons_succ, i64_w, i32_w]
                                rfl
                              refine pure_ (i := 9) (N := some 341) (v := ?_) (a' := ?_) #[true, true, true, false, true, true, true, true, false, true, false, false, false, false, false, false, false, false] rfl rfl (any_of HT_.out (by kernel_rfl)) (fun _ _ _ h => h) (Or.inl ⟨by rfl, ?_⟩) ?_ ?_
                              rotate_left
                              · intro w'
                                go_simp
                                with_reducible rfl
                              rotate_left
                              · simp only [Act.put, List.setIfInBounds_toArray, List.set_cons_zero, List.set_cons_succ, i64_w, i32_w]
                                rfl
                              refine take_ (i := 3) (N := some 335) (v := ?_) (a' := ?_) #[true, true, true, true, true, true, true, true, false, true, false, false, false, false, false, false, false, false] rfl rfl (take_ofW HT_.out HW_.out (by kernel_rfl)) (fun _ _ _ h => h) (Or.inl ⟨by rfl, ?_⟩) hHeld ?_ ?_
                              rotate_left
                              · rintro w' ⟨s0, s1, s2, s3, s4, s5⟩
                                go_simp
                                with_reducible rfl
                              rotate_left
                              · simp only [Act.put, List.setIfInBounds_toArray, List.set_cons_zero, List.set_cons_succ, i64_w, i32_w]
                                rfl
                              refine take_ (i := 8) (N := some 340) (v := ?_) (a' := ?_) #[true, true, true, true, true, true, true, true, true, true, false, false, false, false, false, false, false, false] rfl rfl (take_ofW HT_.out HW_.out (by kernel_rfl)) (fun _ _ _ h => h) (Or.inl ⟨by rfl, ?_⟩) hHeld ?_ ?_
                              rotate_left
                              · rintro w' ⟨s0, s1, s2, s3, s4, s5⟩
                                go_simp
                                with_reducible rfl
                              rotate_left
                              · simp only [Act.put, List.setIfInBounds_toArray, List.set_cons_zero, List.set_cons_succ, i64_w, i32_w]
                                rfl
                              refine pure_ (i := 10) (N := some 342) (v := ?_) (a' := ?_) #[true, true, true, true, true, true, true, true, true, true, true, false, false, false, false, false, false, false] rfl rfl (any_of HT_.out (by kernel_rfl)) (fun _ _ _ h => h) (Or.inl ⟨by rfl, ?_⟩) ?_ ?_
                              rotate_left
                              · intro w'
                                go_simp
                                with_reducible rfl
                              rotate_left
                              · simp only [Act.put, List.setIfInBounds_toArray, List.set_cons_zero, List.set_cons_succ, i64_w, i32_w]
                                rfl
                              refine take_ (i := 11) (N := some 343) (v := ?_) (a' := ?_) #[true, true, true, true, true, true, true, true, true, true, true, true, false, false, false, false, false, false] rfl rfl (take_ofW HT_.out HW_.out (by kernel_rfl)) (fun _ _ _ h => h) (Or.inl ⟨by rfl, ?_⟩) hHeld ?_ ?_
                              rotate_left
                              · rintro w' ⟨s0, s1, s2, s3, s4, s5⟩
                                go_simp
                                with_reducible rfl
                              rotate_left
                              · simp only [Act.put, List.setIfInBounds_toArray, List.set_cons_zero, List.set_cons_succ, i64_w, i32_w]
                                rfl
                              refine pure_ (i := 12) (N := some 344) (v := ?_) (a' := ?_) #[true, true, true, true, true, true, true, true, true, true, true, true, true, false, false, false, false, false] rfl rfl (any_of HT_.out (by kernel_rfl)) (fun _ _ _ h => h) (Or.inl ⟨by rfl, ?_⟩) ?_ ?_
                              rotate_left
                              · intro w'
                                go_simp
                                with_reducible rfl
                              rotate_left
                              · simp only [Act.put, List.setIfInBounds_toArray, List.set_cons_zero, List.set_cons_succ, i64_w, i32_w]
                                rfl
                              refine pure_ (i := 13) (N := some 345) (v := ?_) (a' := ?_) #[true, true, true, true, true, true, true, true, true, true, true, true, true, true, false, false, false, false] rfl rfl (any_of HT_.out (by kernel_rfl)) (fun _ _ _ h => h) (Or.inl ⟨by rfl, ?_⟩) ?_ ?_
                              rotate_left
                              · intro w'
                                go_simp
                                with_reducible rfl
                              rotate_left
                              · simp only [Act.put, List.setIfInBounds_toArray, List.set_cons_zero, List.set_cons_succ, i64_w, i32_w]
                                rfl
                              refine take_ (i := 14) (N := some 346) (v := ?_) (a' := ?_) #[true, true, true, true, true, true, true, true, true, true, true, true, true, true, true, false, false, false] rfl rfl (take_ofW HT_.out HW_.out (by kernel_rfl)) (fun _ _ _ h => h) (Or.inl ⟨by rfl, ?_⟩) hHeld ?_ ?_
                              rotate_left
                              · rintro w' ⟨s0, s1, s2, s3, s4, s5⟩
                                go_simp
                                with_reducible rfl
                              rotate_left
                              · simp only [Act.put, List.setIfInBounds_toArray, List.set_cons_zero, List.set_cons_succ, i64_w, i32_w]
                                rfl
                              refine pure_ (i := 15) (N := some 347) (v := ?_) (a' := ?_) #[true, true, true, true, true, true, true, true, true, true, true, true, true, true, true, true, false, false] rfl rfl (any_of HT_.out (by kernel_rfl)) (fun _ _ _ h => h) (Or.inl ⟨by rfl, ?_⟩) ?_ ?_
                              rotate_left
                              · intro w'
                                go_simp
                                with_reducible rfl
                              rotate_left
                              · simp only [Act.put, List.setIfInBounds_toArray, List.set_cons_zero, List.set_cons_succ, i64_w, i32_w]
                                rfl
                              refine pure_ (i := 16) (N := some 348) (v := ?_) (a' := ?_) #[true, true, true, true, true, true, true, true, true, true, true, true, true, true, true, true, true, false] rfl rfl (any_of HT_.out (by kernel_rfl)) (fun _ _ _ h => h) (Or.inl ⟨by rfl, ?_⟩) ?_ ?_
                              rotate_left
                              · intro w'
                                go_simp
                                with_reducible rfl
                              rotate_left
                              · simp only [Act.put, List.setIfInBounds_toArray, List.set_cons_zero, List.set_cons_succ, i64_w, i32_w]
                                rfl
                              refine pure_ (i := 17) (N := some 38) (v := ?_) (a' := ?_) #[true, true, true, true, true, true, true, true, true, true, true, true, true, true, true, true, true, true] rfl rfl (any_of HT_.out (by kernel_rfl)) (fun _ _ _ h => h) (Or.inl ⟨by rfl, ?_⟩) ?_ ?_
                              rotate_left
                              · intro w'
                                go_simp
                                with_reducible rfl
                              rotate_left
                              · simp only [Act.put, List.setIfInBounds_toArray, List.set_cons_zero, List.set_cons_succ, i64_w, i32_w]
                                rfl
                              refine done_ (done_of HT_.out (by kernel_rfl)) ?_
                              have p463 : 0 ≤ (x27_4 : Int) := dtB
                              have q463 : x27_4 < (y437.length : Int) := dtB
                              obtain ⟨ad463, A463_0, c463_0, e463, hx463_0, hl463_0, hi463_0⟩ := at_L6 (Kd.N_reads' HO_26.out).2.2 x27_4 p463 q463
                              obtain rfl : ad440 = ad463 := (by injection e463)
                              obtain ⟨ce463, hce463, hMe463, hcc463⟩ := Kd.N_get HO_26.out [] x27_4 p463 (by first | exact q463 | exact dtB | (have e_ := (Kd.N_reads' HO_26.out).1; omega))
                              obtain ⟨ua463_0, uc463_0, rfl, ul463_0, ge463_0⟩ := Kd.FK_slice_open hMe463
                              have hv463_0 := hcc463 0 _ rfl
                              rw [Nat.add_zero, show ((Kd.slice 2 (Kd.int .i64))).sz = 1 from rfl, Nat.mul_one] at hv463_0
                              replace hv463_0 := Option.some.inj (hv463_0.symm.trans hx463_0)
                              injection hv463_0 with hva_ hvn_ hvc_
                              rw [hva_] at ge463_0
                              rw [hvc_] at ul463_0
                              have HL463_0 := Aside0.mk (show Kd.V (Kd.int .i64) 2 _ w.heap.size _ _ (rd_L6 y437 x27_4) from Kd.V_mk ul463_0 ge463_0)
                              clear hva_ hvn_ hvc_ ge463_0 ul463_0
                              clear hcc463 hce463
                              have HR463_0 := Aside0.mk hi463_0
                              have HC463_0 := Aside0.mk hl463_0
                              clear hi463_0 hl463_0
                              replace p463 := eq_true p463
                              replace q463 := eq_true q463
                              have ea_ := Option.some.inj (hx460_0.symm.trans hx463_0)
                              injection ea_ with ea_ en_ ec_
                              subst ea_
                              subst ec_
                              clear en_
                              have p464 : 0 ≤ (x37_6 : Int) := dtB
                              have q464 : x37_6 < ((rd_L6 y437 x27_4).length : Int) := dtB
                              obtain ⟨ad464, e464, hx464_0⟩ := Kd.at_int (by repeat (first | (with_reducible exact HR463_0.out) | (with_reducible refine Kd.C_alloc ?_ _) | (with_reducible refine Kd.C_drewN ?_ _) | (with_reducible refine Kd.C_drew ?_) | exact HR463_0.out)) x37_6 p464 q464
                              cases e464
                              replace p464 := eq_true p464
                              replace q464 := eq_true q464
                              obtain ⟨Ao239, co239, eo239⟩ := Kd.R_slice HO_30.out
                              subst eo239
                              try go_wp2_with (first | ((with_reducible refine gate_callee (f := 63) rfl ?_); refine goesL_ (some 359) rfl rfl Try.func63 (by kernel_rfl) rfl #[.slice Ao239 t446.length co239, .int .i64 (rd (rd_L6 y437 x27_4) x37_6)] rfl (by (try simp only [List.map_toArray, List.map_cons, List.map_nil]); first | done | rfl | (simp only [List.length_drop, List.length_take]; rfl)) ?_; (with_reducible refine (spec_HasNumber.calls k6 _ _ t446 (rd (rd_L6 y437 x27_4) x37_6) t465 _ ?side1 ?side2 A231.out).mono ?_); (case side1 => exact cvC ((Kd.R_reads' HO_30.out).2.2)); (case side2 => exact (Kd.R_reads' HO_30.out).2.1); rintro e w' ⟨rfl, ⟨nd, rfl⟩⟩; refine ⟨_, rfl, ?_⟩))
                              go_roundg k6
                              case measure => have := HJ2.out; have := HJ15.out; have := HK3.out; have := HK4.out; have := HJ169.out; have := HK6.out; omega
                              case rel => exact ⟨(wrap64 (x36_6 + (ji236))), (wrap64 (x37_6 + 1)), (by first | rfl | (simp; done) | (simp only [← hji236] <;> (first | rfl | simp)) | (simp [*]; done)), (by first | rfl | (simp; done) | (simp [*]; done)), H', ⟨by have := HJ2.out; have := HJ15.out; have := HK3.out; have := HK4.out; have := HJ169.out; have := HK6.out; omega⟩, ⟨mvR HO_6⟩, ⟨by (with_reducible repeat (first | apply Kd.N_alloc | apply Kd.N_drewN | apply Kd.N_drew)); exact HO_26.out⟩, ⟨mvR HO_30⟩, ⟨mvR HO_34⟩, ⟨by (with_reducible repeat (first | refine blk_drewN ?_ _ | refine blk_drew ?_ | refine blk_alloc ?_ _)); exact BK391.out⟩, ⟨by repeat (first | (with_reducible exact HR440_0.out) | (with_reducible refine Kd.C_alloc ?_ _) | (with_reducible refine Kd.C_drewN ?_ _) | (with_reducible refine Kd.C_drew ?_) | exact HR440_0.out)⟩, ⟨by repeat (first | (with_reducible exact HR445_0.out) | (with_reducible refine Kd.C_alloc ?_ _) | (with_reducible refine Kd.C_drewN ?_ _) | (with_reducible refine Kd.C_drew ?_) | exact HR445_0.out)⟩, ⟨by repeat (first | (with_reducible exact HR450_0.out) | (with_reducible refine Kd.C_alloc ?_ _) | (with_reducible refine Kd.C_drewN ?_ _) | (with_reducible refine Kd.C_drew ?_) | exact HR450_0.out)⟩, ⟨by repeat (first | (with_reducible exact HR453_0.out) | (with_reducible refine Kd.C_alloc ?_ _) | (with_reducible refine Kd.C_drewN ?_ _) | (with_reducible refine Kd.C_drew ?_) | exact HR453_0.out)⟩, ⟨by repeat (first | (with_reducible first | exact HB.out | apply below_alloc | apply pw_below_drewN | apply below_drew1 | refine below_set ?_ GE391.out) | exact HB.out)⟩⟩
                          · rw [if_neg c230] at H
                            exact absurd H (by simp)
                        · rw [if_neg c229] at H
                          exact absurd H (by simp)
                      · rw [if_neg c228] at H
                        exact absurd H (by simp)
                    · rw [if_neg c227] at H
                      exact absurd H (by simp)
                  · rw [if_neg c226] at H
                    exact absurd H (by simp)
                · rw [if_neg c225] at H
                  exact absurd H (by simp)
              · rw [if_neg c224] at H
                have c224b0 : decide (x37_6 < (t454.length : Int)) = false := decide_eq_false c224
                clear c224
                by_cases c240 : x36_6 = t451
                · rw [if_pos c240] at H
                  have c240b0 : (x36_6 == t451) = true := beq_iff_eq.mpr c240
                  have c240b1 : (x36_6 != t451) = false := bne_eq_false_iff_eq.mpr c240
                  clear c240
                  have H' := Aside0.mk H
                  clear H
                  obtain ⟨Ao241, co241, eo241⟩ := Kd.R_slice HO_34.out
                  subst eo241
                  go_wp2
                  go_roundg k6
                  case measure => have := HJ2.out; have := HJ15.out; have := HK3.out; have := HK4.out; have := HJ169.out; have := HK6.out; omega
                  case rel => exact ⟨(wrap64 (x27_4 + 1)), (by first | rfl | (simp; done) | (simp [*]; done)), H', ⟨by have := HJ2.out; have := HJ15.out; have := HK3.out; have := HK4.out; have := HJ169.out; have := HK6.out; omega⟩, ⟨mvR HO_6⟩, ⟨by (with_reducible repeat (first | apply Kd.N_alloc | apply Kd.N_drewN | apply Kd.N_drew)); exact Kd.N_mono HO_26.out (fun _ hk => ⟨hk.1, hk.2.2.2⟩)⟩, ⟨by (with_reducible repeat (first | refine blk_drewN ?_ _ | refine blk_drew ?_ | refine blk_alloc ?_ _)); exact BK391.out⟩, ⟨by repeat (first | (with_reducible first | exact HB.out | apply below_alloc | apply pw_below_drewN | apply below_drew1 | refine below_set ?_ GE391.out) | exact HB.out)⟩⟩
                · rw [if_neg c240] at H
                  have c240b0 : (x36_6 == t451) = false := beq_eq_false_iff_ne.mpr c240
                  have c240b1 : (x36_6 != t451) = true := bne_iff_ne.mpr c240
                  exact absurd H (by simp)
    · rw [if_neg c165] at H
      exact absurd H (by simp)
  · rw [if_neg c164] at H
    have c164b0 : decide (x27_4 < (y437.length : Int)) = false := decide_eq_false c164
    clear c164
    have H' := Aside0.mk H
    clear H
    obtain ⟨Ao243, co243, eo243⟩ := Kd.N_slice HO_26.out
    subst eo243
    go_wp2
    go_loopg [39] k4 (fun kq v39 w' => ∃ (x39_5 : Int), v39 = .int .i64 x39_5 ∧ Aside0 (laws_FnLate.l3 kq t392 x39_5 = some true) ∧ Aside0 (kq ≤ k4) ∧ Aside0 (Kd.R k57 57 w' w.heap.size (fun _ => True) (.slice Ao22 t392.length co22) t392) ∧ Aside0 (w'.heap[gb391]? = some (.cells #[.int .i8 t389, .int .i8 t390] 27 (0, 0))) ∧ Aside0 (Below w.heap.size w w'))
    case atStart => exact ⟨(0), (by first | rfl | (simp; done) | (simp [*]; done)), H', ⟨Nat.le_refl _⟩, ⟨mvR HO_6⟩, ⟨by (with_reducible repeat (first | refine blk_drewN ?_ _ | refine blk_drew ?_ | refine blk_alloc ?_ _)); exact BK391.out⟩, ⟨by repeat (first | (with_reducible first | exact HB.out | apply below_alloc | apply pw_below_drewN | apply below_drew1 | refine below_set ?_ GE391.out) | exact HB.out)⟩⟩
    case round =>
     as_aux_lemma =>
      clear H'
      try clear c1
      try clear c2
      try clear p2
      try clear c4
      try clear p4
      try clear q4
      try clear hx4
      try clear c6
      try clear p6
      try clear c16
      try clear c22
      try clear c23
      try clear c24
      try clear p45
      try clear q45
      try clear hx45
      try clear c46
      try clear p46
      try clear q46
      try clear hx46
      try clear c63
      try clear p64
      try clear c164
      try clear c164b0
      try clear c165
      try clear c224
      try clear c224b0
      try clear c225
      try clear c226
      try clear c227
      try clear c227b0
      try clear c228
      try clear c228b0
      try clear c229
      try clear c229b0
      try clear c230
      try clear c230b0
      try clear c232
      try clear c232b0
      try clear c232b1
      try clear c232b2
      try clear c240
      try clear c240b0
      try clear c240b1
      try clear hx459_0
      try clear hx460_0
      try clear hx461_0
      try clear hx462_0
      try clear hx462_1
      try clear hx462_2
      try clear hx463_0
      try clear hx464_0
      try clear p459
      try clear p460
      try clear p461
      try clear p462
      try clear p463
      try clear p464
      try clear q459
      try clear q460
      try clear q461
      try clear q462
      try clear q463
      try clear q464
      obtain ⟨x39_5, rfl, HA, HK5, HO_6, BK391, HB⟩ := hrel
      cases gk with
      | zero => exact absurd HA.out (by simp [laws_FnLate.l3])
      | succ k5 =>
       have H := HA.out
       clear HA
       simp only [laws_FnLate.l3] at H
       by_cases c244 : x39_5 < (t392.length : Int)
       · rw [if_pos c244] at H
         have c244b0 : decide (x39_5 < (t392.length : Int)) = true := decide_eq_true c244
         clear c244
         by_cases c245 : 0 ≤ x39_5
         · rw [if_pos c245] at H
           have c245b0 : decide (0 ≤ x39_5) = true := decide_eq_true c245
           clear c245
           replace H := Option.bind_eq_some_iff.mp H
           obtain ⟨t467, A2460, H⟩ := H
           replace H : (if t467 = true then (laws_FnLate.l3 k5 t392 (wrap64 (x39_5 + 1))) else (some false)) = some true := H
           have A246 := Aside0.mk A2460
           clear A2460
           by_cases c247 : t467 = true
           · subst c247
             have H1 : (laws_FnLate.l3 k5 t392 (wrap64 (x39_5 + 1))) = some true := by rw [if_pos rfl] at H; exact H
             clear H
             have H := H1
             clear H1
             have H' := Aside0.mk H
             clear H
             have p466 : 0 ≤ (x39_5 : Int) := dtB
             have q466 : x39_5 < (t392.length : Int) := dtB
             obtain ⟨ad466, e466, hx466_0, hx466_1, hx466_2⟩ := at_T57 (Kd.R_reads' HO_6.out).2.2 x39_5 p466 q466
             cases e466
             replace p466 := eq_true p466
             replace q466 := eq_true q466
             go_wp2_with (first | ((with_reducible refine gate_callee (f := 64) rfl ?_); refine goesL_ (some 378) rfl rfl Try.func64 (by kernel_rfl) rfl #[.agg #[.int .i8 ((rd_T57 t392 x39_5).f0), .int .i8 ((rd_T57 t392 x39_5).f1), .int .i16 ((rd_T57 t392 x39_5).f2)]] rfl (by (try simp only [List.map_toArray, List.map_cons, List.map_nil]); first | done | rfl | (simp only [List.length_drop, List.length_take]; rfl)) ?_; (with_reducible refine (impl_ValidPiece.calls ((rd_T57 t392 x39_5).f0) ((rd_T57 t392 x39_5).f1) ((rd_T57 t392 x39_5).f2) true _ A246.out).mono ?_); rintro e w248 ⟨rfl, hb⟩; refine ⟨_, rfl, ?_⟩; have n0_ := Aside0.mk (Kd.R_below (mvR HO_6) hb); have n1_ := Aside0.mk (blk_below (g := gb391) (o := .cells #[.int .i8 t389, .int .i8 t390] 27 (0, 0)) (by (with_reducible repeat (first | refine blk_drewN ?_ _ | refine blk_drew ?_ | refine blk_alloc ?_ _)); exact BK391.out) hb); have n2_ := Aside0.mk (below_step (by repeat (first | (with_reducible first | exact HB.out | apply below_alloc | apply pw_below_drewN | apply below_drew1 | refine below_set ?_ GE391.out) | exact HB.out)) hb); clear HO_6; clear BK391; clear HB; have HO_6 := n0_; have BK391 := n1_; have HB := n2_; clear n0_ n1_ n2_; (try clear hb); (try clear hb2); (try clear hk); (try clear hi)))
             go_roundg k5
             case measure => have := HJ2.out; have := HJ15.out; have := HK3.out; have := HK4.out; have := HK5.out; omega
             case rel => exact ⟨(wrap64 (x39_5 + 1)), (by first | rfl | (simp; done) | (simp [*]; done)), H', ⟨by have := HJ2.out; have := HJ15.out; have := HK3.out; have := HK4.out; have := HK5.out; omega⟩, ⟨mvR HO_6⟩, ⟨by (with_reducible repeat (first | refine blk_drewN ?_ _ | refine blk_drew ?_ | refine blk_alloc ?_ _)); exact BK391.out⟩, ⟨by repeat (first | (with_reducible first | exact HB.out | apply below_alloc | apply pw_below_drewN | apply below_drew1 | refine below_set ?_ GE391.out) | exact HB.out)⟩⟩
           · replace c247 := Bool.eq_false_iff.mpr c247
             subst c247
             have H1 : (some false) = some true := by rw [if_neg (show ¬ (false = true) by decide)] at H; exact H
             clear H
             have H := H1
             clear H1
             exact absurd H (by simp)
         · rw [if_neg c245] at H
           exact absurd H (by simp)
       · rw [if_neg c244] at H
         have c244b0 : decide (x39_5 < (t392.length : Int)) = false := decide_eq_false c244
         clear c244
         clear H
         go_wp2
         go_ret
         exact ⟨by first | rfl | (simp [errW_none, errW_some] <;> rfl) | (simp [*, errW_none, errW_some] <;> rfl), by repeat (first | (with_reducible first | exact HB.out | apply below_alloc | apply pw_below_drewN | apply below_drew1 | refine below_set ?_ GE391.out) | exact HB.out)⟩
theorem laws_FnLate.calls (k : Nat) (A0 : Option Addr) (c0 : Nat) (l0 : List Int) (A1 : Option Addr) (c1 : Nat) (l1 : List Int) (r : Bool) (w : World) (hr0 : Kd.C (Kd.int .u8) w A0 l0.length l0) (hc0 : l0.length ≤ c0) (hr1 : Kd.C (Kd.int .u8) w A1 l1.length l1) (hc1 : l1.length ≤ c1) (h : laws_FnLate.f k l0 l1 = some true) :
 Calls Try.prog 18 #[.slice A0 l0.length c0, .slice A1 l1.length c1] w fun e w' => e = .returned (.bool true) ∧ Below w.heap.size w w' :=
 laws_FnLate.callsA.2 ⟨(laws_FnLate.callsB.2 ⟨(laws_FnLate.callsC.2 ⟨laws_FnLate.callsD⟩)⟩)⟩ k A0 c0 l0 A1 c1 l1 r w hr0 hc0 hr1 hc1 h
theorem laws_FnLate.walk (P : laws_FnLate.Pure) (a0 : Option Addr) (len0 cap0 : Nat) (z0 : List Int) (a1 : Option Addr) (len1 cap1 : Nat) (z1 : List Int) (w : World) (w0 : (a0 = none ∧ len0 = 0 ∧ cap0 = 0 ∧ z0 = []) ∨ ∃ x, a0 = some x ∧ len0 ≤ cap0 ∧ cap0 ≤ maxLen ∧ z0.length = cap0 ∧ (∀ i, i < z0.length → w.cell? (x.add i) = some (.int .u8 (z0.getD i 0))) ∧ ∀ n ∈ z0, (Lit.int .u8 n).wf = true) (y0 : len0 * 1 ≤ 140737488351232) (w1 : (a1 = none ∧ len1 = 0 ∧ cap1 = 0 ∧ z1 = []) ∨ ∃ x, a1 = some x ∧ len1 ≤ cap1 ∧ cap1 ≤ maxLen ∧ z1.length = cap1 ∧ (∀ i, i < z1.length → w.cell? (x.add i) = some (.int .u8 (z1.getD i 0))) ∧ ∀ n ∈ z1, (Lit.int .u8 n).wf = true) (y1 : len1 * 1 ≤ 140737488351232) :
 Calls Try.prog 18 #[.slice a0 len0 cap0, .slice a1 len1 cap1] w fun e w' => e = .returned (.bool true) ∧ Below w.heap.size w w' := by
 obtain ⟨l0, rfl, hr0, hm0, hw0, hc0⟩ := ReadsInt.ofRowC w0
 obtain ⟨l1, rfl, hr1, hm1, hw1, hc1⟩ := ReadsInt.ofRowC w1
 obtain ⟨k, h⟩ := P l0 l1 hm0 y0 hw0 hm1 y1 hw1
 refine (laws_FnLate.calls k _ _ l0 _ _ l1 true w (Kd.C_of_reads (d := (0 : Int)) (h1 := fun _ => rfl) hr0) hc0 (Kd.C_of_reads (d := (0 : Int)) (h1 := fun _ => rfl) hr1) hc1 h).mono ?_
 rintro e w' ⟨rfl, hd⟩
 exact ⟨rfl, hd⟩
end Go.Proofs.Ythkccaclmodjiaa.I
