import Derived.Test.YthkccaclmodjiaazFLateI0
import Derived.Test.YthkccaclmodjiaazFLateI13
import Derived.Test.YthkccaclmodjiaazFLateI28
import Derived.Test.YthkccaclmodjiaazFLateI29
import Derived.Test.YthkccaclmodjiaazFLateI30
import Derived.Test.YthkccaclmodjiaazFLateI31
import Derived.Test.YthkccaclmodjiaazFLateI32
import Derived.Test.YthkccaclmodjiaazFLateI44
import Derived.Test.YthkccaclmodjiaazFLateEBLem1
import Derived.Test.YthkccaclmodjiaazFLateI54
import Derived.Test.YthkccaclmodjiaazFLateEOrders2
import Derived.Test.YthkccaclmodjiaazFLateEIron2
import Derived.Test.YthkccaclmodjiaazFLateEShort
import Derived.Test.YthkccaclmodjiaazFLateIS0
namespace Go.Proofs.Ythkccaclmodjiaa.I
open Go.RowKit Go.Proofs.YthkccaclmodjiaaW.PrintWords Go.Proofs.YthkccaclmodjiaaW.PrintLast Go.Proofs.YthkccaclmodjiaaW.PrintMore
attribute [local go_sem] max2_int min2_int max_two min_two max_three min_three max_four min_four   -- for this text's walks alone
set_option linter.unusedVariables false
set_option linter.unusedSimpArgs false
set_option maxHeartbeats 8000000 in
set_option maxRecDepth 100000 in
def laws_FnLate.callsA : PSigma fun P : Prop => Aside0 P → (∀ (k : Nat) (A0 : Option Addr) (c0 : Nat) (l0 : List Int) (A1 : Option Addr) (c1 : Nat) (l1 : List Int) (r : Bool) (w : World) (hr0 : Kd.C (Kd.int .u8) w A0 l0.length l0) (hc0 : l0.length ≤ c0) (hr1 : Kd.C (Kd.int .u8) w A1 l1.length l1) (hc1 : l1.length ≤ c1) (h : laws_FnLate.f k l0 l1 = some true), Calls Try.prog 18 #[.slice A0 l0.length c0, .slice A1 l1.length c1] w fun e w' => e = .returned (.bool true) ∧ Below w.heap.size w w') := by
 apply PSigma.mk
 case snd =>
  intro REST k A0 c0 l0 A1 c1 l1 r w hr0 hc0 hr1 hc1 h
  have hu27 := Try.underlying27
  have hu57 := Try.underlying57
  have HR0 := Aside0.mk hr0
  have HC0 := Aside0.mk hc0
  clear hr0 hc0
  have HR1 := Aside0.mk hr1
  have HC1 := Aside0.mk hc1
  clear hr1 hc1
  have HB := Aside0.mk (Below.refl w.heap.size w)
  have H : ((laws_f6big.f l0).bind fun t387 => (if t387 = true then (laws_FnLate.j0 k l0 l1 true) else ((laws_f6big.f l1).bind fun t388 => (laws_FnLate.j0 k l0 l1 t388)))) = some true := h
  clear h
  have HC3 := Aside0.mk H
  clear H
  go_enter Try.func18, Try.ntmps18
  go_upto_region 1 with (fail)
  go_cut [45] from 40 to 45 (fun v45 wc => ∃ (kq : Nat) (x45_2 : Bool), v45 = .bool x45_2 ∧ Aside0 (laws_FnLate.j0 kq l0 l1 x45_2 = some true) ∧ Aside0 (kq ≤ k) ∧ Aside0 (Below w.heap.size w wc))
  case first =>
   as_aux_lemma =>
    have H := HC3.out
    clear HC3
    replace H := Option.bind_eq_some_iff.mp H
    obtain ⟨t387, A40, H⟩ := H
    replace H : (if t387 = true then (laws_FnLate.j0 k l0 l1 true) else ((laws_f6big.f l1).bind fun t388 => (laws_FnLate.j0 k l0 l1 t388))) = some true := H
    have A4 := Aside0.mk A40
    clear A40
    by_cases c5 : t387 = true
    · subst c5
      have H1 : (laws_FnLate.j0 k l0 l1 true) = some true := by rw [if_pos rfl] at H; exact H
      clear H
      have H := H1
      clear H1
      have H' := Aside0.mk H
      clear H
      go_wp2_with (first | ((with_reducible refine gate_callee (f := 58) rfl ?_); refine goesL_ (some 41) rfl rfl Try.func58 (by kernel_rfl) rfl #[.slice A0 l0.length c0] rfl (by (try simp only [List.map_toArray, List.map_cons, List.map_nil]); first | done | rfl | (simp only [List.length_drop, List.length_take]; rfl)) ?_; (with_reducible refine (laws_f6big.calls _ _ l0 true _ ?side1 ?side2 A4.out).mono ?_); (case side1 => exact cvC ((Kd.C_below HR0.out HB.out))); (case side2 => exact HC0.out); rintro e w' ⟨rfl, ⟨nd, rfl⟩⟩; refine ⟨_, rfl, ?_⟩))
      go_meet
      case rel => exact ⟨_, (true), (by first | rfl | (simp; done) | (simp [*]; done)), H', ⟨by first | omega | exact Nat.le_refl _⟩, ⟨blB HB⟩⟩
    · replace c5 := Bool.eq_false_iff.mpr c5
      subst c5
      have H1 : ((laws_f6big.f l1).bind fun t388 => (laws_FnLate.j0 k l0 l1 t388)) = some true := by rw [if_neg (show ¬ (false = true) by decide)] at H; exact H
      clear H
      have H := H1
      clear H1
      replace H := Option.bind_eq_some_iff.mp H
      obtain ⟨t388, A60, H⟩ := H
      replace H : (laws_FnLate.j0 k l0 l1 t388) = some true := H
      have A6 := Aside0.mk A60
      clear A60
      have H' := Aside0.mk H
      clear H
      go_wp2_with (first | ((with_reducible refine gate_callee (f := 58) rfl ?_); refine goesL_ (some 41) rfl rfl Try.func58 (by kernel_rfl) rfl #[.slice A0 l0.length c0] rfl (by (try simp only [List.map_toArray, List.map_cons, List.map_nil]); first | done | rfl | (simp only [List.length_drop, List.length_take]; rfl)) ?_; (with_reducible refine (laws_f6big.calls _ _ l0 false _ ?side1 ?side2 A4.out).mono ?_); (case side1 => exact cvC ((Kd.C_below HR0.out HB.out))); (case side2 => exact HC0.out); rintro e w' ⟨rfl, ⟨nd, rfl⟩⟩; refine ⟨_, rfl, ?_⟩) | (go_at_call 58; (with_reducible refine (laws_f6big.calls _ _ l1 t388 _ ?side1 ?side2 A6.out).mono ?_); (case side1 => exact cvC ((Kd.C_below HR1.out (blB HB)))); (case side2 => exact HC1.out); rintro e w' ⟨rfl, ⟨nd, rfl⟩⟩))
      go_meet
      case rel => exact ⟨_, (t388), (by first | rfl | (simp; done) | (simp [*]; done)), H', ⟨by first | omega | exact Nat.le_refl _⟩, ⟨blB HB⟩⟩
  case rest =>
   clear HC3
   try clear c1
   try clear p2
   try clear c5
   obtain ⟨kq, x45_2, rfl, HA, HJ2, HB⟩ := hcut
   cases kq with
   | zero => exact absurd HA.out (by simp [laws_FnLate.j0])
   | succ kj2 =>
    have H := HA.out
    clear HA
    simp only [laws_FnLate.j0] at H
    by_cases c7 : x45_2 = true
    · subst c7
      have H1 : (some true) = some true := rfl
      clear H
      have H := H1
      clear H1
      clear H
      go_wp2
      go_ret
      exact ⟨by first | rfl | (simp [errW_none, errW_some] <;> rfl) | (simp [*, errW_none, errW_some] <;> rfl), blB HB⟩
    · replace c7 := Bool.eq_false_iff.mpr c7
      subst c7
      have H1 : ((spec_P6Iron.f l0).bind fun bt389 => ((spec_P6Pieces.f kj2 l1).bind fun t392 => ((impl_FewestLate.f kj2 bt389.1 bt389.2 t392).bind fun bt395 => ((spec_FewestLate.f kj2 bt389.1 bt389.2 t392).bind fun bt400 => ((impl_LeastLateness.f kj2 bt389.1 bt389.2 t392).bind fun bt405 => ((spec_LeastLateness.f kj2 bt389.1 bt389.2 t392).bind fun bt410 => ((impl_DueOrder.f kj2 t392).bind fun bt415 => ((spec_DueOrder.f kj2 t392).bind fun bt419 => (if bt395.2.2 = bt400.2.2 then (if bt395.2.2 = 0 then ((spec_SameNumbers.f kj2 bt395.1 bt400.1).bind fun t423 => (if t423 = true then (if bt395.2.1 = bt400.2.1 then (if bt405.2.2 = bt410.2.2 then (if bt405.2.2 = 0 then ((spec_SameNumbers.f kj2 bt405.1 bt410.1).bind fun t424 => (if t424 = true then (if bt405.2.1 = bt410.2.1 then (if bt415.2 = bt419.2 then (if bt415.2 = 0 then ((spec_SameNumbers.f kj2 bt415.1 bt419.1).bind fun t425 => (if t425 = true then (if (bt400.1.length : Int) = (t392.length : Int) then (if (bt410.1.length : Int) = (t392.length : Int) then (if (bt419.1.length : Int) = (t392.length : Int) then (laws_FnLate.j1 kj2 l0 t392 bt400.1 bt400.2.1 bt410.1 bt410.2.1 bt419.1 ((bt400.2.1 == 0) != (bt410.2.1 == 0)) bt389.1 bt389.2) else (laws_FnLate.j1 kj2 l0 t392 bt400.1 bt400.2.1 bt410.1 bt410.2.1 bt419.1 true bt389.1 bt389.2)) else (laws_FnLate.j1 kj2 l0 t392 bt400.1 bt400.2.1 bt410.1 bt410.2.1 bt419.1 true bt389.1 bt389.2)) else (laws_FnLate.j1 kj2 l0 t392 bt400.1 bt400.2.1 bt410.1 bt410.2.1 bt419.1 true bt389.1 bt389.2)) else (laws_FnLate.j1 kj2 l0 t392 bt400.1 bt400.2.1 bt410.1 bt410.2.1 bt419.1 true bt389.1 bt389.2))) else (laws_FnLate.j1 kj2 l0 t392 bt400.1 bt400.2.1 bt410.1 bt410.2.1 bt419.1 true bt389.1 bt389.2)) else (laws_FnLate.j1 kj2 l0 t392 bt400.1 bt400.2.1 bt410.1 bt410.2.1 bt419.1 true bt389.1 bt389.2)) else (laws_FnLate.j1 kj2 l0 t392 bt400.1 bt400.2.1 bt410.1 bt410.2.1 bt419.1 true bt389.1 bt389.2)) else (laws_FnLate.j1 kj2 l0 t392 bt400.1 bt400.2.1 bt410.1 bt410.2.1 bt419.1 true bt389.1 bt389.2))) else (laws_FnLate.j1 kj2 l0 t392 bt400.1 bt400.2.1 bt410.1 bt410.2.1 bt419.1 true bt389.1 bt389.2)) else (laws_FnLate.j1 kj2 l0 t392 bt400.1 bt400.2.1 bt410.1 bt410.2.1 bt419.1 true bt389.1 bt389.2)) else (laws_FnLate.j1 kj2 l0 t392 bt400.1 bt400.2.1 bt410.1 bt410.2.1 bt419.1 true bt389.1 bt389.2)) else (laws_FnLate.j1 kj2 l0 t392 bt400.1 bt400.2.1 bt410.1 bt410.2.1 bt419.1 true bt389.1 bt389.2))) else (laws_FnLate.j1 kj2 l0 t392 bt400.1 bt400.2.1 bt410.1 bt410.2.1 bt419.1 true bt389.1 bt389.2)) else (laws_FnLate.j1 kj2 l0 t392 bt400.1 bt400.2.1 bt410.1 bt410.2.1 bt419.1 true bt389.1 bt389.2)))))))))) = some true := by rw [if_neg (show ¬ (false = true) by decide)] at H; exact H
      clear H
      have H := H1
      clear H1
      replace H := Option.bind_eq_some_iff.mp H
      obtain ⟨⟨t389, t390⟩, A80, H⟩ := H
      replace H : ((spec_P6Pieces.f kj2 l1).bind fun t392 => ((impl_FewestLate.f kj2 t389 t390 t392).bind fun bt395 => ((spec_FewestLate.f kj2 t389 t390 t392).bind fun bt400 => ((impl_LeastLateness.f kj2 t389 t390 t392).bind fun bt405 => ((spec_LeastLateness.f kj2 t389 t390 t392).bind fun bt410 => ((impl_DueOrder.f kj2 t392).bind fun bt415 => ((spec_DueOrder.f kj2 t392).bind fun bt419 => (if bt395.2.2 = bt400.2.2 then (if bt395.2.2 = 0 then ((spec_SameNumbers.f kj2 bt395.1 bt400.1).bind fun t423 => (if t423 = true then (if bt395.2.1 = bt400.2.1 then (if bt405.2.2 = bt410.2.2 then (if bt405.2.2 = 0 then ((spec_SameNumbers.f kj2 bt405.1 bt410.1).bind fun t424 => (if t424 = true then (if bt405.2.1 = bt410.2.1 then (if bt415.2 = bt419.2 then (if bt415.2 = 0 then ((spec_SameNumbers.f kj2 bt415.1 bt419.1).bind fun t425 => (if t425 = true then (if (bt400.1.length : Int) = (t392.length : Int) then (if (bt410.1.length : Int) = (t392.length : Int) then (if (bt419.1.length : Int) = (t392.length : Int) then (laws_FnLate.j1 kj2 l0 t392 bt400.1 bt400.2.1 bt410.1 bt410.2.1 bt419.1 ((bt400.2.1 == 0) != (bt410.2.1 == 0)) t389 t390) else (laws_FnLate.j1 kj2 l0 t392 bt400.1 bt400.2.1 bt410.1 bt410.2.1 bt419.1 true t389 t390)) else (laws_FnLate.j1 kj2 l0 t392 bt400.1 bt400.2.1 bt410.1 bt410.2.1 bt419.1 true t389 t390)) else (laws_FnLate.j1 kj2 l0 t392 bt400.1 bt400.2.1 bt410.1 bt410.2.1 bt419.1 true t389 t390)) else (laws_FnLate.j1 kj2 l0 t392 bt400.1 bt400.2.1 bt410.1 bt410.2.1 bt419.1 true t389 t390))) else (laws_FnLate.j1 kj2 l0 t392 bt400.1 bt400.2.1 bt410.1 bt410.2.1 bt419.1 true t389 t390)) else (laws_FnLate.j1 kj2 l0 t392 bt400.1 bt400.2.1 bt410.1 bt410.2.1 bt419.1 true t389 t390)) else (laws_FnLate.j1 kj2 l0 t392 bt400.1 bt400.2.1 bt410.1 bt410.2.1 bt419.1 true t389 t390)) else (laws_FnLate.j1 kj2 l0 t392 bt400.1 bt400.2.1 bt410.1 bt410.2.1 bt419.1 true t389 t390))) else (laws_FnLate.j1 kj2 l0 t392 bt400.1 bt400.2.1 bt410.1 bt410.2.1 bt419.1 true t389 t390)) else (laws_FnLate.j1 kj2 l0 t392 bt400.1 bt400.2.1 bt410.1 bt410.2.1 bt419.1 true t389 t390)) else (laws_FnLate.j1 kj2 l0 t392 bt400.1 bt400.2.1 bt410.1 bt410.2.1 bt419.1 true t389 t390)) else (laws_FnLate.j1 kj2 l0 t392 bt400.1 bt400.2.1 bt410.1 bt410.2.1 bt419.1 true t389 t390))) else (laws_FnLate.j1 kj2 l0 t392 bt400.1 bt400.2.1 bt410.1 bt410.2.1 bt419.1 true t389 t390)) else (laws_FnLate.j1 kj2 l0 t392 bt400.1 bt400.2.1 bt410.1 bt410.2.1 bt419.1 true t389 t390))))))))) = some true := H
      have A8 := Aside0.mk A80
      clear A80
      replace H := Option.bind_eq_some_iff.mp H
      obtain ⟨t392, A90, H⟩ := H
      replace H : ((impl_FewestLate.f kj2 t389 t390 t392).bind fun bt395 => ((spec_FewestLate.f kj2 t389 t390 t392).bind fun bt400 => ((impl_LeastLateness.f kj2 t389 t390 t392).bind fun bt405 => ((spec_LeastLateness.f kj2 t389 t390 t392).bind fun bt410 => ((impl_DueOrder.f kj2 t392).bind fun bt415 => ((spec_DueOrder.f kj2 t392).bind fun bt419 => (if bt395.2.2 = bt400.2.2 then (if bt395.2.2 = 0 then ((spec_SameNumbers.f kj2 bt395.1 bt400.1).bind fun t423 => (if t423 = true then (if bt395.2.1 = bt400.2.1 then (if bt405.2.2 = bt410.2.2 then (if bt405.2.2 = 0 then ((spec_SameNumbers.f kj2 bt405.1 bt410.1).bind fun t424 => (if t424 = true then (if bt405.2.1 = bt410.2.1 then (if bt415.2 = bt419.2 then (if bt415.2 = 0 then ((spec_SameNumbers.f kj2 bt415.1 bt419.1).bind fun t425 => (if t425 = true then (if (bt400.1.length : Int) = (t392.length : Int) then (if (bt410.1.length : Int) = (t392.length : Int) then (if (bt419.1.length : Int) = (t392.length : Int) then (laws_FnLate.j1 kj2 l0 t392 bt400.1 bt400.2.1 bt410.1 bt410.2.1 bt419.1 ((bt400.2.1 == 0) != (bt410.2.1 == 0)) t389 t390) else (laws_FnLate.j1 kj2 l0 t392 bt400.1 bt400.2.1 bt410.1 bt410.2.1 bt419.1 true t389 t390)) else (laws_FnLate.j1 kj2 l0 t392 bt400.1 bt400.2.1 bt410.1 bt410.2.1 bt419.1 true t389 t390)) else (laws_FnLate.j1 kj2 l0 t392 bt400.1 bt400.2.1 bt410.1 bt410.2.1 bt419.1 true t389 t390)) else (laws_FnLate.j1 kj2 l0 t392 bt400.1 bt400.2.1 bt410.1 bt410.2.1 bt419.1 true t389 t390))) else (laws_FnLate.j1 kj2 l0 t392 bt400.1 bt400.2.1 bt410.1 bt410.2.1 bt419.1 true t389 t390)) else (laws_FnLate.j1 kj2 l0 t392 bt400.1 bt400.2.1 bt410.1 bt410.2.1 bt419.1 true t389 t390)) else (laws_FnLate.j1 kj2 l0 t392 bt400.1 bt400.2.1 bt410.1 bt410.2.1 bt419.1 true t389 t390)) else (laws_FnLate.j1 kj2 l0 t392 bt400.1 bt400.2.1 bt410.1 bt410.2.1 bt419.1 true t389 t390))) else (laws_FnLate.j1 kj2 l0 t392 bt400.1 bt400.2.1 bt410.1 bt410.2.1 bt419.1 true t389 t390)) else (laws_FnLate.j1 kj2 l0 t392 bt400.1 bt400.2.1 bt410.1 bt410.2.1 bt419.1 true t389 t390)) else (laws_FnLate.j1 kj2 l0 t392 bt400.1 bt400.2.1 bt410.1 bt410.2.1 bt419.1 true t389 t390)) else (laws_FnLate.j1 kj2 l0 t392 bt400.1 bt400.2.1 bt410.1 bt410.2.1 bt419.1 true t389 t390))) else (laws_FnLate.j1 kj2 l0 t392 bt400.1 bt400.2.1 bt410.1 bt410.2.1 bt419.1 true t389 t390)) else (laws_FnLate.j1 kj2 l0 t392 bt400.1 bt400.2.1 bt410.1 bt410.2.1 bt419.1 true t389 t390)))))))) = some true := H
      have A9 := Aside0.mk A90
      clear A90
      replace H := Option.bind_eq_some_iff.mp H
      obtain ⟨⟨t395, t398, t399⟩, A100, H⟩ := H
      replace H : ((spec_FewestLate.f kj2 t389 t390 t392).bind fun bt400 => ((impl_LeastLateness.f kj2 t389 t390 t392).bind fun bt405 => ((spec_LeastLateness.f kj2 t389 t390 t392).bind fun bt410 => ((impl_DueOrder.f kj2 t392).bind fun bt415 => ((spec_DueOrder.f kj2 t392).bind fun bt419 => (if t399 = bt400.2.2 then (if t399 = 0 then ((spec_SameNumbers.f kj2 t395 bt400.1).bind fun t423 => (if t423 = true then (if t398 = bt400.2.1 then (if bt405.2.2 = bt410.2.2 then (if bt405.2.2 = 0 then ((spec_SameNumbers.f kj2 bt405.1 bt410.1).bind fun t424 => (if t424 = true then (if bt405.2.1 = bt410.2.1 then (if bt415.2 = bt419.2 then (if bt415.2 = 0 then ((spec_SameNumbers.f kj2 bt415.1 bt419.1).bind fun t425 => (if t425 = true then (if (bt400.1.length : Int) = (t392.length : Int) then (if (bt410.1.length : Int) = (t392.length : Int) then (if (bt419.1.length : Int) = (t392.length : Int) then (laws_FnLate.j1 kj2 l0 t392 bt400.1 bt400.2.1 bt410.1 bt410.2.1 bt419.1 ((bt400.2.1 == 0) != (bt410.2.1 == 0)) t389 t390) else (laws_FnLate.j1 kj2 l0 t392 bt400.1 bt400.2.1 bt410.1 bt410.2.1 bt419.1 true t389 t390)) else (laws_FnLate.j1 kj2 l0 t392 bt400.1 bt400.2.1 bt410.1 bt410.2.1 bt419.1 true t389 t390)) else (laws_FnLate.j1 kj2 l0 t392 bt400.1 bt400.2.1 bt410.1 bt410.2.1 bt419.1 true t389 t390)) else (laws_FnLate.j1 kj2 l0 t392 bt400.1 bt400.2.1 bt410.1 bt410.2.1 bt419.1 true t389 t390))) else (laws_FnLate.j1 kj2 l0 t392 bt400.1 bt400.2.1 bt410.1 bt410.2.1 bt419.1 true t389 t390)) else (laws_FnLate.j1 kj2 l0 t392 bt400.1 bt400.2.1 bt410.1 bt410.2.1 bt419.1 true t389 t390)) else (laws_FnLate.j1 kj2 l0 t392 bt400.1 bt400.2.1 bt410.1 bt410.2.1 bt419.1 true t389 t390)) else (laws_FnLate.j1 kj2 l0 t392 bt400.1 bt400.2.1 bt410.1 bt410.2.1 bt419.1 true t389 t390))) else (laws_FnLate.j1 kj2 l0 t392 bt400.1 bt400.2.1 bt410.1 bt410.2.1 bt419.1 true t389 t390)) else (laws_FnLate.j1 kj2 l0 t392 bt400.1 bt400.2.1 bt410.1 bt410.2.1 bt419.1 true t389 t390)) else (laws_FnLate.j1 kj2 l0 t392 bt400.1 bt400.2.1 bt410.1 bt410.2.1 bt419.1 true t389 t390)) else (laws_FnLate.j1 kj2 l0 t392 bt400.1 bt400.2.1 bt410.1 bt410.2.1 bt419.1 true t389 t390))) else (laws_FnLate.j1 kj2 l0 t392 bt400.1 bt400.2.1 bt410.1 bt410.2.1 bt419.1 true t389 t390)) else (laws_FnLate.j1 kj2 l0 t392 bt400.1 bt400.2.1 bt410.1 bt410.2.1 bt419.1 true t389 t390))))))) = some true := H
      have A10 := Aside0.mk A100
      clear A100
      replace H := Option.bind_eq_some_iff.mp H
      obtain ⟨⟨t400, t403, t404⟩, A110, H⟩ := H
      replace H : ((impl_LeastLateness.f kj2 t389 t390 t392).bind fun bt405 => ((spec_LeastLateness.f kj2 t389 t390 t392).bind fun bt410 => ((impl_DueOrder.f kj2 t392).bind fun bt415 => ((spec_DueOrder.f kj2 t392).bind fun bt419 => (if t399 = t404 then (if t399 = 0 then ((spec_SameNumbers.f kj2 t395 t400).bind fun t423 => (if t423 = true then (if t398 = t403 then (if bt405.2.2 = bt410.2.2 then (if bt405.2.2 = 0 then ((spec_SameNumbers.f kj2 bt405.1 bt410.1).bind fun t424 => (if t424 = true then (if bt405.2.1 = bt410.2.1 then (if bt415.2 = bt419.2 then (if bt415.2 = 0 then ((spec_SameNumbers.f kj2 bt415.1 bt419.1).bind fun t425 => (if t425 = true then (if (t400.length : Int) = (t392.length : Int) then (if (bt410.1.length : Int) = (t392.length : Int) then (if (bt419.1.length : Int) = (t392.length : Int) then (laws_FnLate.j1 kj2 l0 t392 t400 t403 bt410.1 bt410.2.1 bt419.1 ((t403 == 0) != (bt410.2.1 == 0)) t389 t390) else (laws_FnLate.j1 kj2 l0 t392 t400 t403 bt410.1 bt410.2.1 bt419.1 true t389 t390)) else (laws_FnLate.j1 kj2 l0 t392 t400 t403 bt410.1 bt410.2.1 bt419.1 true t389 t390)) else (laws_FnLate.j1 kj2 l0 t392 t400 t403 bt410.1 bt410.2.1 bt419.1 true t389 t390)) else (laws_FnLate.j1 kj2 l0 t392 t400 t403 bt410.1 bt410.2.1 bt419.1 true t389 t390))) else (laws_FnLate.j1 kj2 l0 t392 t400 t403 bt410.1 bt410.2.1 bt419.1 true t389 t390)) else (laws_FnLate.j1 kj2 l0 t392 t400 t403 bt410.1 bt410.2.1 bt419.1 true t389 t390)) else (laws_FnLate.j1 kj2 l0 t392 t400 t403 bt410.1 bt410.2.1 bt419.1 true t389 t390)) else (laws_FnLate.j1 kj2 l0 t392 t400 t403 bt410.1 bt410.2.1 bt419.1 true t389 t390))) else (laws_FnLate.j1 kj2 l0 t392 t400 t403 bt410.1 bt410.2.1 bt419.1 true t389 t390)) else (laws_FnLate.j1 kj2 l0 t392 t400 t403 bt410.1 bt410.2.1 bt419.1 true t389 t390)) else (laws_FnLate.j1 kj2 l0 t392 t400 t403 bt410.1 bt410.2.1 bt419.1 true t389 t390)) else (laws_FnLate.j1 kj2 l0 t392 t400 t403 bt410.1 bt410.2.1 bt419.1 true t389 t390))) else (laws_FnLate.j1 kj2 l0 t392 t400 t403 bt410.1 bt410.2.1 bt419.1 true t389 t390)) else (laws_FnLate.j1 kj2 l0 t392 t400 t403 bt410.1 bt410.2.1 bt419.1 true t389 t390)))))) = some true := H
      have A11 := Aside0.mk A110
      clear A110
      replace H := Option.bind_eq_some_iff.mp H
      obtain ⟨⟨t405, t408, t409⟩, A120, H⟩ := H
      replace H : ((spec_LeastLateness.f kj2 t389 t390 t392).bind fun bt410 => ((impl_DueOrder.f kj2 t392).bind fun bt415 => ((spec_DueOrder.f kj2 t392).bind fun bt419 => (if t399 = t404 then (if t399 = 0 then ((spec_SameNumbers.f kj2 t395 t400).bind fun t423 => (if t423 = true then (if t398 = t403 then (if t409 = bt410.2.2 then (if t409 = 0 then ((spec_SameNumbers.f kj2 t405 bt410.1).bind fun t424 => (if t424 = true then (if t408 = bt410.2.1 then (if bt415.2 = bt419.2 then (if bt415.2 = 0 then ((spec_SameNumbers.f kj2 bt415.1 bt419.1).bind fun t425 => (if t425 = true then (if (t400.length : Int) = (t392.length : Int) then (if (bt410.1.length : Int) = (t392.length : Int) then (if (bt419.1.length : Int) = (t392.length : Int) then (laws_FnLate.j1 kj2 l0 t392 t400 t403 bt410.1 bt410.2.1 bt419.1 ((t403 == 0) != (bt410.2.1 == 0)) t389 t390) else (laws_FnLate.j1 kj2 l0 t392 t400 t403 bt410.1 bt410.2.1 bt419.1 true t389 t390)) else (laws_FnLate.j1 kj2 l0 t392 t400 t403 bt410.1 bt410.2.1 bt419.1 true t389 t390)) else (laws_FnLate.j1 kj2 l0 t392 t400 t403 bt410.1 bt410.2.1 bt419.1 true t389 t390)) else (laws_FnLate.j1 kj2 l0 t392 t400 t403 bt410.1 bt410.2.1 bt419.1 true t389 t390))) else (laws_FnLate.j1 kj2 l0 t392 t400 t403 bt410.1 bt410.2.1 bt419.1 true t389 t390)) else (laws_FnLate.j1 kj2 l0 t392 t400 t403 bt410.1 bt410.2.1 bt419.1 true t389 t390)) else (laws_FnLate.j1 kj2 l0 t392 t400 t403 bt410.1 bt410.2.1 bt419.1 true t389 t390)) else (laws_FnLate.j1 kj2 l0 t392 t400 t403 bt410.1 bt410.2.1 bt419.1 true t389 t390))) else (laws_FnLate.j1 kj2 l0 t392 t400 t403 bt410.1 bt410.2.1 bt419.1 true t389 t390)) else (laws_FnLate.j1 kj2 l0 t392 t400 t403 bt410.1 bt410.2.1 bt419.1 true t389 t390)) else (laws_FnLate.j1 kj2 l0 t392 t400 t403 bt410.1 bt410.2.1 bt419.1 true t389 t390)) else (laws_FnLate.j1 kj2 l0 t392 t400 t403 bt410.1 bt410.2.1 bt419.1 true t389 t390))) else (laws_FnLate.j1 kj2 l0 t392 t400 t403 bt410.1 bt410.2.1 bt419.1 true t389 t390)) else (laws_FnLate.j1 kj2 l0 t392 t400 t403 bt410.1 bt410.2.1 bt419.1 true t389 t390))))) = some true := H
      have A12 := Aside0.mk A120
      clear A120
      replace H := Option.bind_eq_some_iff.mp H
      obtain ⟨⟨t410, t413, t414⟩, A130, H⟩ := H
      replace H : ((impl_DueOrder.f kj2 t392).bind fun bt415 => ((spec_DueOrder.f kj2 t392).bind fun bt419 => (if t399 = t404 then (if t399 = 0 then ((spec_SameNumbers.f kj2 t395 t400).bind fun t423 => (if t423 = true then (if t398 = t403 then (if t409 = t414 then (if t409 = 0 then ((spec_SameNumbers.f kj2 t405 t410).bind fun t424 => (if t424 = true then (if t408 = t413 then (if bt415.2 = bt419.2 then (if bt415.2 = 0 then ((spec_SameNumbers.f kj2 bt415.1 bt419.1).bind fun t425 => (if t425 = true then (if (t400.length : Int) = (t392.length : Int) then (if (t410.length : Int) = (t392.length : Int) then (if (bt419.1.length : Int) = (t392.length : Int) then (laws_FnLate.j1 kj2 l0 t392 t400 t403 t410 t413 bt419.1 ((t403 == 0) != (t413 == 0)) t389 t390) else (laws_FnLate.j1 kj2 l0 t392 t400 t403 t410 t413 bt419.1 true t389 t390)) else (laws_FnLate.j1 kj2 l0 t392 t400 t403 t410 t413 bt419.1 true t389 t390)) else (laws_FnLate.j1 kj2 l0 t392 t400 t403 t410 t413 bt419.1 true t389 t390)) else (laws_FnLate.j1 kj2 l0 t392 t400 t403 t410 t413 bt419.1 true t389 t390))) else (laws_FnLate.j1 kj2 l0 t392 t400 t403 t410 t413 bt419.1 true t389 t390)) else (laws_FnLate.j1 kj2 l0 t392 t400 t403 t410 t413 bt419.1 true t389 t390)) else (laws_FnLate.j1 kj2 l0 t392 t400 t403 t410 t413 bt419.1 true t389 t390)) else (laws_FnLate.j1 kj2 l0 t392 t400 t403 t410 t413 bt419.1 true t389 t390))) else (laws_FnLate.j1 kj2 l0 t392 t400 t403 t410 t413 bt419.1 true t389 t390)) else (laws_FnLate.j1 kj2 l0 t392 t400 t403 t410 t413 bt419.1 true t389 t390)) else (laws_FnLate.j1 kj2 l0 t392 t400 t403 t410 t413 bt419.1 true t389 t390)) else (laws_FnLate.j1 kj2 l0 t392 t400 t403 t410 t413 bt419.1 true t389 t390))) else (laws_FnLate.j1 kj2 l0 t392 t400 t403 t410 t413 bt419.1 true t389 t390)) else (laws_FnLate.j1 kj2 l0 t392 t400 t403 t410 t413 bt419.1 true t389 t390)))) = some true := H
      have A13 := Aside0.mk A130
      clear A130
      replace H := Option.bind_eq_some_iff.mp H
      obtain ⟨⟨t415, t416⟩, A140, H⟩ := H
      replace H : ((spec_DueOrder.f kj2 t392).bind fun bt419 => (if t399 = t404 then (if t399 = 0 then ((spec_SameNumbers.f kj2 t395 t400).bind fun t423 => (if t423 = true then (if t398 = t403 then (if t409 = t414 then (if t409 = 0 then ((spec_SameNumbers.f kj2 t405 t410).bind fun t424 => (if t424 = true then (if t408 = t413 then (if t416 = bt419.2 then (if t416 = 0 then ((spec_SameNumbers.f kj2 t415 bt419.1).bind fun t425 => (if t425 = true then (if (t400.length : Int) = (t392.length : Int) then (if (t410.length : Int) = (t392.length : Int) then (if (bt419.1.length : Int) = (t392.length : Int) then (laws_FnLate.j1 kj2 l0 t392 t400 t403 t410 t413 bt419.1 ((t403 == 0) != (t413 == 0)) t389 t390) else (laws_FnLate.j1 kj2 l0 t392 t400 t403 t410 t413 bt419.1 true t389 t390)) else (laws_FnLate.j1 kj2 l0 t392 t400 t403 t410 t413 bt419.1 true t389 t390)) else (laws_FnLate.j1 kj2 l0 t392 t400 t403 t410 t413 bt419.1 true t389 t390)) else (laws_FnLate.j1 kj2 l0 t392 t400 t403 t410 t413 bt419.1 true t389 t390))) else (laws_FnLate.j1 kj2 l0 t392 t400 t403 t410 t413 bt419.1 true t389 t390)) else (laws_FnLate.j1 kj2 l0 t392 t400 t403 t410 t413 bt419.1 true t389 t390)) else (laws_FnLate.j1 kj2 l0 t392 t400 t403 t410 t413 bt419.1 true t389 t390)) else (laws_FnLate.j1 kj2 l0 t392 t400 t403 t410 t413 bt419.1 true t389 t390))) else (laws_FnLate.j1 kj2 l0 t392 t400 t403 t410 t413 bt419.1 true t389 t390)) else (laws_FnLate.j1 kj2 l0 t392 t400 t403 t410 t413 bt419.1 true t389 t390)) else (laws_FnLate.j1 kj2 l0 t392 t400 t403 t410 t413 bt419.1 true t389 t390)) else (laws_FnLate.j1 kj2 l0 t392 t400 t403 t410 t413 bt419.1 true t389 t390))) else (laws_FnLate.j1 kj2 l0 t392 t400 t403 t410 t413 bt419.1 true t389 t390)) else (laws_FnLate.j1 kj2 l0 t392 t400 t403 t410 t413 bt419.1 true t389 t390))) = some true := H
      have A14 := Aside0.mk A140
      clear A140
      replace H := Option.bind_eq_some_iff.mp H
      obtain ⟨⟨t419, t420⟩, A150, H⟩ := H
      replace H : (if t399 = t404 then (if t399 = 0 then ((spec_SameNumbers.f kj2 t395 t400).bind fun t423 => (if t423 = true then (if t398 = t403 then (if t409 = t414 then (if t409 = 0 then ((spec_SameNumbers.f kj2 t405 t410).bind fun t424 => (if t424 = true then (if t408 = t413 then (if t416 = t420 then (if t416 = 0 then ((spec_SameNumbers.f kj2 t415 t419).bind fun t425 => (if t425 = true then (if (t400.length : Int) = (t392.length : Int) then (if (t410.length : Int) = (t392.length : Int) then (if (t419.length : Int) = (t392.length : Int) then (laws_FnLate.j1 kj2 l0 t392 t400 t403 t410 t413 t419 ((t403 == 0) != (t413 == 0)) t389 t390) else (laws_FnLate.j1 kj2 l0 t392 t400 t403 t410 t413 t419 true t389 t390)) else (laws_FnLate.j1 kj2 l0 t392 t400 t403 t410 t413 t419 true t389 t390)) else (laws_FnLate.j1 kj2 l0 t392 t400 t403 t410 t413 t419 true t389 t390)) else (laws_FnLate.j1 kj2 l0 t392 t400 t403 t410 t413 t419 true t389 t390))) else (laws_FnLate.j1 kj2 l0 t392 t400 t403 t410 t413 t419 true t389 t390)) else (laws_FnLate.j1 kj2 l0 t392 t400 t403 t410 t413 t419 true t389 t390)) else (laws_FnLate.j1 kj2 l0 t392 t400 t403 t410 t413 t419 true t389 t390)) else (laws_FnLate.j1 kj2 l0 t392 t400 t403 t410 t413 t419 true t389 t390))) else (laws_FnLate.j1 kj2 l0 t392 t400 t403 t410 t413 t419 true t389 t390)) else (laws_FnLate.j1 kj2 l0 t392 t400 t403 t410 t413 t419 true t389 t390)) else (laws_FnLate.j1 kj2 l0 t392 t400 t403 t410 t413 t419 true t389 t390)) else (laws_FnLate.j1 kj2 l0 t392 t400 t403 t410 t413 t419 true t389 t390))) else (laws_FnLate.j1 kj2 l0 t392 t400 t403 t410 t413 t419 true t389 t390)) else (laws_FnLate.j1 kj2 l0 t392 t400 t403 t410 t413 t419 true t389 t390)) = some true := H
      have A15 := Aside0.mk A150
      clear A150
      have HC16 := Aside0.mk H
      clear H
      go_upto_region 11 with (first | ((with_reducible refine gate_callee (f := 59) rfl ?_); refine goesL_ (some 47) rfl rfl Try.func59 (by kernel_rfl) rfl #[.slice A0 l0.length c0] rfl (by (try simp only [List.map_toArray, List.map_cons, List.map_nil]); first | done | rfl | (simp only [List.length_drop, List.length_take]; rfl)) ?_; (with_reducible refine (spec_P6Iron.calls _ _ l0 t389 t390 _ ?side1 ?side2 A8.out).mono ?_); (case side1 => exact cvC ((Kd.C_below HR0.out HB.out))); (case side2 => exact HC0.out); rintro e w17 ⟨rfl, hb⟩; refine ⟨_, rfl, ?_⟩; have n0_ := Aside0.mk (below_step (blB HB) hb); clear HB; have HB := n0_; clear n0_; (try clear hb); (try clear hb2); (try clear hk); (try clear hi)) | ((with_reducible refine gate_dst (N := 5) rfl ?_); (try (refine gate_guard (by rfl) ?_; dsimp only)); refine box_event ?hg (N := 5) ?hd (cs := #[.int .i8 0, .int .i8 0]) (t := 27) ?hr ?_; (case hd => rfl); (case hg => rfl); (case hr => first | (go_simp; done) | (go_simp; rfl)); intro gb391 hg w18 hbox hb; have n0_ := Aside0.mk (below_step (blB HB) hb); have n1_ := Aside0.mk (hbox); have n2_ := Aside0.mk ((by rw [hg]; exact (below_size (blB HB)) : w.heap.size ≤ gb391)); have n3_ := Aside0.mk ((by rw [hg]; exact (below_size (blB HB)) : w.heap.size ≤ gb391)); clear HB; have HB := n0_; have BK391 := n1_; have GW391 := n2_; have GE391 := n3_; clear n0_ n1_ n2_ n3_; clear hb hbox hg; have hcz19_0 : w18.cell? ⟨gb391, 0, none⟩ = some (.int .i8 0) := (blk_cell BK391.out 0).trans rfl; have hcz19_1 : w18.cell? ⟨gb391, 1, none⟩ = some (.int .i8 0) := (blk_cell BK391.out 1).trans rfl; have hfz19_0 := blk_frozen BK391.out 0; have hfz19_1 := blk_frozen BK391.out 1) | ((with_reducible refine gate_callee (f := 60) rfl ?_); refine goesL_ (some 49) rfl rfl Try.func60 (by kernel_rfl) rfl #[.slice A1 l1.length c1] rfl (by (try simp only [List.map_toArray, List.map_cons, List.map_nil]); first | done | rfl | (simp only [List.length_drop, List.length_take]; rfl)) ?_; (with_reducible refine (spec_P6Pieces.calls kj2 _ _ l1 t392 _ ?side1 ?side2 A9.out).mono ?_); (case side1 => exact Kd.C_below HR1.out (by repeat (first | (with_reducible first | exact HB.out | apply below_alloc | apply pw_below_drewN | apply below_drew1 | refine below_set ?_ GE391.out) | exact HB.out))); (case side2 => exact HC1.out); rintro e w20 ⟨v393, rfl, ho0, hb⟩; refine ⟨_, rfl, ?_⟩; have n0_ := Aside0.mk (Kd.R_lower ho0 (below_size (by repeat (first | (with_reducible first | exact HB.out | apply below_alloc | apply pw_below_drewN | apply below_drew1 | refine below_set ?_ GE391.out) | exact HB.out)))); have n1_ := Aside0.mk (blk_below (g := gb391) (o := .cells #[.int .i8 t389, .int .i8 t390] 27 (0, 0)) (by (with_reducible repeat (first | refine blk_drewN ?_ _ | refine blk_drew ?_ | refine blk_alloc ?_ _)); refine blk_put (cs := #[.int .i8 t389, .int .i8 0]) ?_ 1 _ rfl; (with_reducible repeat (first | refine blk_drewN ?_ _ | refine blk_drew ?_ | refine blk_alloc ?_ _)); refine blk_put (cs := #[.int .i8 0, .int .i8 0]) ?_ 0 _ rfl; (with_reducible repeat (first | refine blk_drewN ?_ _ | refine blk_drew ?_ | refine blk_alloc ?_ _)); exact BK391.out) hb); have n2_ := Aside0.mk (below_step (by repeat (first | (with_reducible first | exact HB.out | apply below_alloc | apply pw_below_drewN | apply below_drew1 | refine below_set ?_ GE391.out) | exact HB.out)) hb); clear BK391; clear HB; have HO394 := n0_; have BK391 := n1_; have HB := n2_; clear n0_ n1_ n2_; (try clear hb); (try clear hb2); (try clear hk); (try clear hi); (try clear ho0); have hcz21_0 : w20.cell? ⟨gb391, 0, none⟩ = some (.int .i8 t389) := (blk_cell BK391.out 0).trans rfl; have hcz21_1 : w20.cell? ⟨gb391, 1, none⟩ = some (.int .i8 t390) := (blk_cell BK391.out 1).trans rfl; have hfz21_0 := blk_frozen BK391.out 0; have hfz21_1 := blk_frozen BK391.out 1; obtain ⟨Ao22, co22, eo22⟩ := Kd.R_slice HO394.out; subst eo22) | ((with_reducible refine gate_callee (f := 57) rfl ?_); refine goesL_ (some 53) rfl rfl Try.func57 (by kernel_rfl) rfl #[.agg #[.int .i8 t389, .int .i8 t390], .slice Ao22 t392.length co22] rfl (by (try simp only [List.map_toArray, List.map_cons, List.map_nil]); first | done | rfl | (simp only [List.length_drop, List.length_take]; rfl)) ?_; (with_reducible refine (impl_FewestLate.calls kj2 t389 t390 _ _ t392 t395 t398 t399 _ ?side1 ?side2 A10.out).mono ?_); (case side1 => exact cvC ((Kd.R_reads' HO394.out).2.2)); (case side2 => exact (Kd.R_reads' HO394.out).2.1); rintro e w23 ⟨v396, rfl, ho0, hb⟩; refine ⟨_, rfl, ?_⟩; have n0_ := Aside0.mk (Kd.R_below (mvR HO394) hb); have n1_ := Aside0.mk (Kd.R_lower ho0 (below_size (by repeat (first | (with_reducible first | exact HB.out | apply below_alloc | apply pw_below_drewN | apply below_drew1 | refine below_set ?_ GE391.out) | exact HB.out)))); have n2_ := Aside0.mk (blk_below (g := gb391) (o := .cells #[.int .i8 t389, .int .i8 t390] 27 (0, 0)) (by (with_reducible repeat (first | refine blk_drewN ?_ _ | refine blk_drew ?_ | refine blk_alloc ?_ _)); exact BK391.out) hb); have n3_ := Aside0.mk (below_step (by repeat (first | (with_reducible first | exact HB.out | apply below_alloc | apply pw_below_drewN | apply below_drew1 | refine below_set ?_ GE391.out) | exact HB.out)) hb); clear HO394; clear BK391; clear HB; have HO394 := n0_; have HO397 := n1_; have BK391 := n2_; have HB := n3_; clear n0_ n1_ n2_ n3_; (try clear hb); (try clear hb2); (try clear hk); (try clear hi); (try clear ho0); have hcz24_0 : w23.cell? ⟨gb391, 0, none⟩ = some (.int .i8 t389) := (blk_cell BK391.out 0).trans rfl; have hcz24_1 : w23.cell? ⟨gb391, 1, none⟩ = some (.int .i8 t390) := (blk_cell BK391.out 1).trans rfl; have hfz24_0 := blk_frozen BK391.out 0; have hfz24_1 := blk_frozen BK391.out 1) | ((with_reducible refine gate_callee (f := 56) rfl ?_); refine goesL_ (some 60) rfl rfl Try.func56 (by kernel_rfl) rfl #[.agg #[.int .i8 t389, .int .i8 t390], .slice Ao22 t392.length co22] rfl (by (try simp only [List.map_toArray, List.map_cons, List.map_nil]); first | done | rfl | (simp only [List.length_drop, List.length_take]; rfl)) ?_; (with_reducible refine (spec_FewestLate.calls kj2 t389 t390 _ _ t392 t400 t403 t404 _ ?side1 ?side2 A11.out).mono ?_); (case side1 => exact cvC ((Kd.R_reads' HO394.out).2.2)); (case side2 => exact (Kd.R_reads' HO394.out).2.1); rintro e w25 ⟨v401, rfl, ho0, hb⟩; refine ⟨_, rfl, ?_⟩; have n0_ := Aside0.mk (Kd.R_below (mvR HO394) hb); have n1_ := Aside0.mk (Kd.R_elder' (mvR HO397) (Kd.R_base ho0) hb); have n2_ := Aside0.mk (Kd.R_lower (Kd.R_new' ho0 (Kd.R_lt (mvR HO397))) (below_size (by repeat (first | (with_reducible first | exact HB.out | apply below_alloc | apply pw_below_drewN | apply below_drew1 | refine below_set ?_ GE391.out) | exact HB.out)))); have n3_ := Aside0.mk (blk_below (g := gb391) (o := .cells #[.int .i8 t389, .int .i8 t390] 27 (0, 0)) (by (with_reducible repeat (first | refine blk_drewN ?_ _ | refine blk_drew ?_ | refine blk_alloc ?_ _)); exact BK391.out) hb); have n4_ := Aside0.mk (below_step (by repeat (first | (with_reducible first | exact HB.out | apply below_alloc | apply pw_below_drewN | apply below_drew1 | refine below_set ?_ GE391.out) | exact HB.out)) hb); clear HO394; clear HO397; clear BK391; clear HB; have HO394 := n0_; have HO397 := n1_; have HO402 := n2_; have BK391 := n3_; have HB := n4_; clear n0_ n1_ n2_ n3_ n4_; (try clear hb); (try clear hb2); (try clear hk); (try clear hi); (try clear ho0); have hcz26_0 : w25.cell? ⟨gb391, 0, none⟩ = some (.int .i8 t389) := (blk_cell BK391.out 0).trans rfl; have hcz26_1 : w25.cell? ⟨gb391, 1, none⟩ = some (.int .i8 t390) := (blk_cell BK391.out 1).trans rfl; have hfz26_0 := blk_frozen BK391.out 0; have hfz26_1 := blk_frozen BK391.out 1) | ((with_reducible refine gate_callee (f := 55) rfl ?_); refine goesL_ (some 67) rfl rfl Try.func55 (by kernel_rfl) rfl #[.agg #[.int .i8 t389, .int .i8 t390], .slice Ao22 t392.length co22] rfl (by (try simp only [List.map_toArray, List.map_cons, List.map_nil]); first | done | rfl | (simp only [List.length_drop, List.length_take]; rfl)) ?_; (with_reducible refine (impl_LeastLateness.calls kj2 t389 t390 _ _ t392 t405 t408 t409 _ ?side1 ?side2 A12.out).mono ?_); (case side1 => exact cvC ((Kd.R_reads' HO394.out).2.2)); (case side2 => exact (Kd.R_reads' HO394.out).2.1); rintro e w27 ⟨v406, rfl, ho0, hb⟩; refine ⟨_, rfl, ?_⟩; have n0_ := Aside0.mk (Kd.R_below (mvR HO394) hb); have n1_ := Aside0.mk (Kd.R_elder' (mvR HO397) (Kd.R_base ho0) hb); have n2_ := Aside0.mk (Kd.R_elder' (mvR HO402) (Kd.R_base ho0) hb); have n3_ := Aside0.mk (Kd.R_lower (Kd.R_new' (Kd.R_new' ho0 (Kd.R_lt (mvR HO397))) (Kd.R_lt (mvR HO402))) (below_size (by repeat (first | (with_reducible first | exact HB.out | apply below_alloc | apply pw_below_drewN | apply below_drew1 | refine below_set ?_ GE391.out) | exact HB.out)))); have n4_ := Aside0.mk (blk_below (g := gb391) (o := .cells #[.int .i8 t389, .int .i8 t390] 27 (0, 0)) (by (with_reducible repeat (first | refine blk_drewN ?_ _ | refine blk_drew ?_ | refine blk_alloc ?_ _)); exact BK391.out) hb); have n5_ := Aside0.mk (below_step (by repeat (first | (with_reducible first | exact HB.out | apply below_alloc | apply pw_below_drewN | apply below_drew1 | refine below_set ?_ GE391.out) | exact HB.out)) hb); clear HO394; clear HO397; clear HO402; clear BK391; clear HB; have HO394 := n0_; have HO397 := n1_; have HO402 := n2_; have HO407 := n3_; have BK391 := n4_; have HB := n5_; clear n0_ n1_ n2_ n3_ n4_ n5_; (try clear hb); (try clear hb2); (try clear hk); (try clear hi); (try clear ho0); have hcz28_0 : w27.cell? ⟨gb391, 0, none⟩ = some (.int .i8 t389) := (blk_cell BK391.out 0).trans rfl; have hcz28_1 : w27.cell? ⟨gb391, 1, none⟩ = some (.int .i8 t390) := (blk_cell BK391.out 1).trans rfl; have hfz28_0 := blk_frozen BK391.out 0; have hfz28_1 := blk_frozen BK391.out 1) | ((with_reducible refine gate_callee (f := 54) rfl ?_); refine goesL_ (some 74) rfl rfl Try.func54 (by kernel_rfl) rfl #[.agg #[.int .i8 t389, .int .i8 t390], .slice Ao22 t392.length co22] rfl (by (try simp only [List.map_toArray, List.map_cons, List.map_nil]); first | done | rfl | (simp only [List.length_drop, List.length_take]; rfl)) ?_; (with_reducible refine (spec_LeastLateness.calls kj2 t389 t390 _ _ t392 t410 t413 t414 _ ?side1 ?side2 A13.out).mono ?_); (case side1 => exact cvC ((Kd.R_reads' HO394.out).2.2)); (case side2 => exact (Kd.R_reads' HO394.out).2.1); rintro e w29 ⟨v411, rfl, ho0, hb⟩; refine ⟨_, rfl, ?_⟩; have n0_ := Aside0.mk (Kd.R_below (mvR HO394) hb); have n1_ := Aside0.mk (Kd.R_elder' (mvR HO397) (Kd.R_base ho0) hb); have n2_ := Aside0.mk (Kd.R_elder' (mvR HO402) (Kd.R_base ho0) hb); have n3_ := Aside0.mk (Kd.R_elder' (mvR HO407) (Kd.R_base ho0) hb); have n4_ := Aside0.mk (Kd.R_lower (Kd.R_new' (Kd.R_new' (Kd.R_new' ho0 (Kd.R_lt (mvR HO397))) (Kd.R_lt (mvR HO402))) (Kd.R_lt (mvR HO407))) (below_size (by repeat (first | (with_reducible first | exact HB.out | apply below_alloc | apply pw_below_drewN | apply below_drew1 | refine below_set ?_ GE391.out) | exact HB.out)))); have n5_ := Aside0.mk (blk_below (g := gb391) (o := .cells #[.int .i8 t389, .int .i8 t390] 27 (0, 0)) (by (with_reducible repeat (first | refine blk_drewN ?_ _ | refine blk_drew ?_ | refine blk_alloc ?_ _)); exact BK391.out) hb); have n6_ := Aside0.mk (below_step (by repeat (first | (with_reducible first | exact HB.out | apply below_alloc | apply pw_below_drewN | apply below_drew1 | refine below_set ?_ GE391.out) | exact HB.out)) hb); clear HO394; clear HO397; clear HO402; clear HO407; clear BK391; clear HB; have HO394 := n0_; have HO397 := n1_; have HO402 := n2_; have HO407 := n3_; have HO412 := n4_; have BK391 := n5_; have HB := n6_; clear n0_ n1_ n2_ n3_ n4_ n5_ n6_; (try clear hb); (try clear hb2); (try clear hk); (try clear hi); (try clear ho0)) | ((with_reducible refine gate_callee (f := 38) rfl ?_); refine goesL_ (some 80) rfl rfl Try.func38 (by kernel_rfl) rfl #[.slice Ao22 t392.length co22] rfl (by (try simp only [List.map_toArray, List.map_cons, List.map_nil]); first | done | rfl | (simp only [List.length_drop, List.length_take]; rfl)) ?_; (with_reducible refine (impl_DueOrder.calls kj2 _ _ t392 t415 t416 _ ?side1 ?side2 A14.out).mono ?_); (case side1 => exact cvC ((Kd.R_reads' HO394.out).2.2)); (case side2 => exact (Kd.R_reads' HO394.out).2.1); rintro e w30 ⟨v417, rfl, ho0, hb⟩; refine ⟨_, rfl, ?_⟩; have n0_ := Aside0.mk (Kd.R_below (mvR HO394) hb); have n1_ := Aside0.mk (Kd.R_elder' (mvR HO397) (Kd.R_base ho0) hb); have n2_ := Aside0.mk (Kd.R_elder' (mvR HO402) (Kd.R_base ho0) hb); have n3_ := Aside0.mk (Kd.R_elder' (mvR HO407) (Kd.R_base ho0) hb); have n4_ := Aside0.mk (Kd.R_elder' (mvR HO412) (Kd.R_base ho0) hb); have n5_ := Aside0.mk (Kd.R_lower (Kd.R_new' (Kd.R_new' (Kd.R_new' (Kd.R_new' ho0 (Kd.R_lt (mvR HO397))) (Kd.R_lt (mvR HO402))) (Kd.R_lt (mvR HO407))) (Kd.R_lt (mvR HO412))) (below_size (by repeat (first | (with_reducible first | exact HB.out | apply below_alloc | apply pw_below_drewN | apply below_drew1 | refine below_set ?_ GE391.out) | exact HB.out)))); have n6_ := Aside0.mk (blk_below (g := gb391) (o := .cells #[.int .i8 t389, .int .i8 t390] 27 (0, 0)) (by (with_reducible repeat (first | refine blk_drewN ?_ _ | refine blk_drew ?_ | refine blk_alloc ?_ _)); exact BK391.out) hb); have n7_ := Aside0.mk (below_step (by repeat (first | (with_reducible first | exact HB.out | apply below_alloc | apply pw_below_drewN | apply below_drew1 | refine below_set ?_ GE391.out) | exact HB.out)) hb); clear HO394; clear HO397; clear HO402; clear HO407; clear HO412; clear BK391; clear HB; have HO394 := n0_; have HO397 := n1_; have HO402 := n2_; have HO407 := n3_; have HO412 := n4_; have HO418 := n5_; have BK391 := n6_; have HB := n7_; clear n0_ n1_ n2_ n3_ n4_ n5_ n6_ n7_; (try clear hb); (try clear hb2); (try clear hk); (try clear hi); (try clear ho0)) | ((with_reducible refine gate_callee (f := 37) rfl ?_); refine goesL_ (some 85) rfl rfl Try.func37 (by kernel_rfl) rfl #[.slice Ao22 t392.length co22] rfl (by (try simp only [List.map_toArray, List.map_cons, List.map_nil]); first | done | rfl | (simp only [List.length_drop, List.length_take]; rfl)) ?_; (with_reducible refine (spec_DueOrder.calls kj2 _ _ t392 t419 t420 _ ?side1 ?side2 A15.out).mono ?_); (case side1 => exact cvC ((Kd.R_reads' HO394.out).2.2)); (case side2 => exact (Kd.R_reads' HO394.out).2.1); rintro e w31 ⟨v421, rfl, ho0, hb⟩; refine ⟨_, rfl, ?_⟩; have n0_ := Aside0.mk (Kd.R_below (mvR HO394) hb); have n1_ := Aside0.mk (Kd.R_elder' (mvR HO397) (Kd.R_base ho0) hb); have n2_ := Aside0.mk (Kd.R_elder' (mvR HO402) (Kd.R_base ho0) hb); have n3_ := Aside0.mk (Kd.R_elder' (mvR HO407) (Kd.R_base ho0) hb); have n4_ := Aside0.mk (Kd.R_elder' (mvR HO412) (Kd.R_base ho0) hb); have n5_ := Aside0.mk (Kd.R_elder' (mvR HO418) (Kd.R_base ho0) hb); have n6_ := Aside0.mk (Kd.R_lower (Kd.R_new' (Kd.R_new' (Kd.R_new' (Kd.R_new' (Kd.R_new' ho0 (Kd.R_lt (mvR HO397))) (Kd.R_lt (mvR HO402))) (Kd.R_lt (mvR HO407))) (Kd.R_lt (mvR HO412))) (Kd.R_lt (mvR HO418))) (below_size (by repeat (first | (with_reducible first | exact HB.out | apply below_alloc | apply pw_below_drewN | apply below_drew1 | refine below_set ?_ GE391.out) | exact HB.out)))); have n7_ := Aside0.mk (blk_below (g := gb391) (o := .cells #[.int .i8 t389, .int .i8 t390] 27 (0, 0)) (by (with_reducible repeat (first | refine blk_drewN ?_ _ | refine blk_drew ?_ | refine blk_alloc ?_ _)); exact BK391.out) hb); have n8_ := Aside0.mk (below_step (by repeat (first | (with_reducible first | exact HB.out | apply below_alloc | apply pw_below_drewN | apply below_drew1 | refine below_set ?_ GE391.out) | exact HB.out)) hb); clear HO394; clear HO397; clear HO402; clear HO407; clear HO412; clear HO418; clear BK391; clear HB; have HO394 := n0_; have HO397 := n1_; have HO402 := n2_; have HO407 := n3_; have HO412 := n4_; have HO418 := n5_; have HO422 := n6_; have BK391 := n7_; have HB := n8_; clear n0_ n1_ n2_ n3_ n4_ n5_ n6_ n7_ n8_; (try clear hb); (try clear hb2); (try clear hk); (try clear hi); (try clear ho0)))
      (try simp only [Act.put, List.setIfInBounds_toArray, List.set_cons_zero, List.set_cons_succ])
      go_cut [168] from 80 to 168 (fun v168 wc => ∃ (kq : Nat) (x168_15 : Bool), v168 = .bool x168_15 ∧ Aside0 (laws_FnLate.j1 kq l0 t392 t400 t403 t410 t413 t419 x168_15 t389 t390 = some true) ∧ Aside0 (kq ≤ kj2) ∧ Aside0 (Kd.R k57 57 wc w.heap.size (fun _ => True) (.slice Ao22 t392.length co22) t392) ∧ Aside0 (Kd.R (Kd.int .i64) 2 wc w.heap.size (fun k_ => some k_ ≠ (v411 : Value).ownBlock ∧ some k_ ≠ (v421 : Value).ownBlock) v401 t400) ∧ Aside0 (Kd.R (Kd.int .i64) 2 wc w.heap.size (fun k_ => some k_ ≠ (v401 : Value).ownBlock ∧ some k_ ≠ (v421 : Value).ownBlock) v411 t410) ∧ Aside0 (Kd.R (Kd.int .i64) 2 wc w.heap.size (fun k_ => some k_ ≠ (v401 : Value).ownBlock ∧ some k_ ≠ (v411 : Value).ownBlock) v421 t419) ∧ Aside0 (wc.heap[gb391]? = some (.cells #[.int .i8 t389, .int .i8 t390] 27 (0, 0))) ∧ Aside0 (Below w.heap.size w wc))
      case first =>
       as_aux_lemma =>
        have H := HC16.out
        clear HC16
        by_cases c32 : t399 = t404
        · rw [if_pos c32] at H
          have c32b0 : (t399 == t404) = true := beq_iff_eq.mpr c32
          have c32b1 : (t399 != t404) = false := bne_eq_false_iff_eq.mpr c32
          clear c32
          (first | rw [c32b0] | (simp only [i64_w, i32_w]; rw [c32b0]) | skip)
          by_cases c33 : t399 = 0
          · rw [if_pos c33] at H
            have c33b0 : (t399 == 0) = true := beq_iff_eq.mpr c33
            have c33b1 : (t399 != 0) = false := bne_eq_false_iff_eq.mpr c33
            clear c33
            replace H := Option.bind_eq_some_iff.mp H
            obtain ⟨t423, A340, H⟩ := H
            replace H : (if t423 = true then (if t398 = t403 then (if t409 = t414 then (if t409 = 0 then ((spec_SameNumbers.f kj2 t405 t410).bind fun t424 => (if t424 = true then (if t408 = t413 then (if t416 = t420 then (if t416 = 0 then ((spec_SameNumbers.f kj2 t415 t419).bind fun t425 => (if t425 = true then (if (t400.length : Int) = (t392.length : Int) then (if (t410.length : Int) = (t392.length : Int) then (if (t419.length : Int) = (t392.length : Int) then (laws_FnLate.j1 kj2 l0 t392 t400 t403 t410 t413 t419 ((t403 == 0) != (t413 == 0)) t389 t390) else (laws_FnLate.j1 kj2 l0 t392 t400 t403 t410 t413 t419 true t389 t390)) else (laws_FnLate.j1 kj2 l0 t392 t400 t403 t410 t413 t419 true t389 t390)) else (laws_FnLate.j1 kj2 l0 t392 t400 t403 t410 t413 t419 true t389 t390)) else (laws_FnLate.j1 kj2 l0 t392 t400 t403 t410 t413 t419 true t389 t390))) else (laws_FnLate.j1 kj2 l0 t392 t400 t403 t410 t413 t419 true t389 t390)) else (laws_FnLate.j1 kj2 l0 t392 t400 t403 t410 t413 t419 true t389 t390)) else (laws_FnLate.j1 kj2 l0 t392 t400 t403 t410 t413 t419 true t389 t390)) else (laws_FnLate.j1 kj2 l0 t392 t400 t403 t410 t413 t419 true t389 t390))) else (laws_FnLate.j1 kj2 l0 t392 t400 t403 t410 t413 t419 true t389 t390)) else (laws_FnLate.j1 kj2 l0 t392 t400 t403 t410 t413 t419 true t389 t390)) else (laws_FnLate.j1 kj2 l0 t392 t400 t403 t410 t413 t419 true t389 t390)) else (laws_FnLate.j1 kj2 l0 t392 t400 t403 t410 t413 t419 true t389 t390)) = some true := H
            have A34 := Aside0.mk A340
            clear A340
            by_cases c35 : t423 = true
            · subst c35
              have H1 : (if t398 = t403 then (if t409 = t414 then (if t409 = 0 then ((spec_SameNumbers.f kj2 t405 t410).bind fun t424 => (if t424 = true then (if t408 = t413 then (if t416 = t420 then (if t416 = 0 then ((spec_SameNumbers.f kj2 t415 t419).bind fun t425 => (if t425 = true then (if (t400.length : Int) = (t392.length : Int) then (if (t410.length : Int) = (t392.length : Int) then (if (t419.length : Int) = (t392.length : Int) then (laws_FnLate.j1 kj2 l0 t392 t400 t403 t410 t413 t419 ((t403 == 0) != (t413 == 0)) t389 t390) else (laws_FnLate.j1 kj2 l0 t392 t400 t403 t410 t413 t419 true t389 t390)) else (laws_FnLate.j1 kj2 l0 t392 t400 t403 t410 t413 t419 true t389 t390)) else (laws_FnLate.j1 kj2 l0 t392 t400 t403 t410 t413 t419 true t389 t390)) else (laws_FnLate.j1 kj2 l0 t392 t400 t403 t410 t413 t419 true t389 t390))) else (laws_FnLate.j1 kj2 l0 t392 t400 t403 t410 t413 t419 true t389 t390)) else (laws_FnLate.j1 kj2 l0 t392 t400 t403 t410 t413 t419 true t389 t390)) else (laws_FnLate.j1 kj2 l0 t392 t400 t403 t410 t413 t419 true t389 t390)) else (laws_FnLate.j1 kj2 l0 t392 t400 t403 t410 t413 t419 true t389 t390))) else (laws_FnLate.j1 kj2 l0 t392 t400 t403 t410 t413 t419 true t389 t390)) else (laws_FnLate.j1 kj2 l0 t392 t400 t403 t410 t413 t419 true t389 t390)) else (laws_FnLate.j1 kj2 l0 t392 t400 t403 t410 t413 t419 true t389 t390)) = some true := by rw [if_pos rfl] at H; exact H
              clear H
              have H := H1
              clear H1
              by_cases c36 : t398 = t403
              · rw [if_pos c36] at H
                have c36b0 : (t398 == t403) = true := beq_iff_eq.mpr c36
                have c36b1 : (t398 != t403) = false := bne_eq_false_iff_eq.mpr c36
                clear c36
                by_cases c37 : t409 = t414
                · rw [if_pos c37] at H
                  have c37b0 : (t409 == t414) = true := beq_iff_eq.mpr c37
                  have c37b1 : (t409 != t414) = false := bne_eq_false_iff_eq.mpr c37
                  clear c37
                  by_cases c38 : t409 = 0
                  · rw [if_pos c38] at H
                    have c38b0 : (t409 == 0) = true := beq_iff_eq.mpr c38
                    have c38b1 : (t409 != 0) = false := bne_eq_false_iff_eq.mpr c38
                    clear c38
                    replace H := Option.bind_eq_some_iff.mp H
                    obtain ⟨t424, A390, H⟩ := H
                    replace H : (if t424 = true then (if t408 = t413 then (if t416 = t420 then (if t416 = 0 then ((spec_SameNumbers.f kj2 t415 t419).bind fun t425 => (if t425 = true then (if (t400.length : Int) = (t392.length : Int) then (if (t410.length : Int) = (t392.length : Int) then (if (t419.length : Int) = (t392.length : Int) then (laws_FnLate.j1 kj2 l0 t392 t400 t403 t410 t413 t419 ((t403 == 0) != (t413 == 0)) t389 t390) else (laws_FnLate.j1 kj2 l0 t392 t400 t403 t410 t413 t419 true t389 t390)) else (laws_FnLate.j1 kj2 l0 t392 t400 t403 t410 t413 t419 true t389 t390)) else (laws_FnLate.j1 kj2 l0 t392 t400 t403 t410 t413 t419 true t389 t390)) else (laws_FnLate.j1 kj2 l0 t392 t400 t403 t410 t413 t419 true t389 t390))) else (laws_FnLate.j1 kj2 l0 t392 t400 t403 t410 t413 t419 true t389 t390)) else (laws_FnLate.j1 kj2 l0 t392 t400 t403 t410 t413 t419 true t389 t390)) else (laws_FnLate.j1 kj2 l0 t392 t400 t403 t410 t413 t419 true t389 t390)) else (laws_FnLate.j1 kj2 l0 t392 t400 t403 t410 t413 t419 true t389 t390)) = some true := H
                    have A39 := Aside0.mk A390
                    clear A390
                    by_cases c40 : t424 = true
                    · subst c40
                      have H1 : (if t408 = t413 then (if t416 = t420 then (if t416 = 0 then ((spec_SameNumbers.f kj2 t415 t419).bind fun t425 => (if t425 = true then (if (t400.length : Int) = (t392.length : Int) then (if (t410.length : Int) = (t392.length : Int) then (if (t419.length : Int) = (t392.length : Int) then (laws_FnLate.j1 kj2 l0 t392 t400 t403 t410 t413 t419 ((t403 == 0) != (t413 == 0)) t389 t390) else (laws_FnLate.j1 kj2 l0 t392 t400 t403 t410 t413 t419 true t389 t390)) else (laws_FnLate.j1 kj2 l0 t392 t400 t403 t410 t413 t419 true t389 t390)) else (laws_FnLate.j1 kj2 l0 t392 t400 t403 t410 t413 t419 true t389 t390)) else (laws_FnLate.j1 kj2 l0 t392 t400 t403 t410 t413 t419 true t389 t390))) else (laws_FnLate.j1 kj2 l0 t392 t400 t403 t410 t413 t419 true t389 t390)) else (laws_FnLate.j1 kj2 l0 t392 t400 t403 t410 t413 t419 true t389 t390)) else (laws_FnLate.j1 kj2 l0 t392 t400 t403 t410 t413 t419 true t389 t390)) = some true := by rw [if_pos rfl] at H; exact H
                      clear H
                      have H := H1
                      clear H1
                      by_cases c41 : t408 = t413
                      · rw [if_pos c41] at H
                        have c41b0 : (t408 == t413) = true := beq_iff_eq.mpr c41
                        have c41b1 : (t408 != t413) = false := bne_eq_false_iff_eq.mpr c41
                        clear c41
                        by_cases c42 : t416 = t420
                        · rw [if_pos c42] at H
                          have c42b0 : (t416 == t420) = true := beq_iff_eq.mpr c42
                          have c42b1 : (t416 != t420) = false := bne_eq_false_iff_eq.mpr c42
                          clear c42
                          by_cases c43 : t416 = 0
                          · rw [if_pos c43] at H
                            have c43b0 : (t416 == 0) = true := beq_iff_eq.mpr c43
                            have c43b1 : (t416 != 0) = false := bne_eq_false_iff_eq.mpr c43
                            clear c43
                            replace H := Option.bind_eq_some_iff.mp H
                            obtain ⟨t425, A440, H⟩ := H
                            replace H : (if t425 = true then (if (t400.length : Int) = (t392.length : Int) then (if (t410.length : Int) = (t392.length : Int) then (if (t419.length : Int) = (t392.length : Int) then (laws_FnLate.j1 kj2 l0 t392 t400 t403 t410 t413 t419 ((t403 == 0) != (t413 == 0)) t389 t390) else (laws_FnLate.j1 kj2 l0 t392 t400 t403 t410 t413 t419 true t389 t390)) else (laws_FnLate.j1 kj2 l0 t392 t400 t403 t410 t413 t419 true t389 t390)) else (laws_FnLate.j1 kj2 l0 t392 t400 t403 t410 t413 t419 true t389 t390)) else (laws_FnLate.j1 kj2 l0 t392 t400 t403 t410 t413 t419 true t389 t390)) = some true := H
                            have A44 := Aside0.mk A440
                            clear A440
                            by_cases c45 : t425 = true
                            · subst c45
                              have H1 : (if (t400.length : Int) = (t392.length : Int) then (if (t410.length : Int) = (t392.length : Int) then (if (t419.length : Int) = (t392.length : Int) then (laws_FnLate.j1 kj2 l0 t392 t400 t403 t410 t413 t419 ((t403 == 0) != (t413 == 0)) t389 t390) else (laws_FnLate.j1 kj2 l0 t392 t400 t403 t410 t413 t419 true t389 t390)) else (laws_FnLate.j1 kj2 l0 t392 t400 t403 t410 t413 t419 true t389 t390)) else (laws_FnLate.j1 kj2 l0 t392 t400 t403 t410 t413 t419 true t389 t390)) = some true := by rw [if_pos rfl] at H; exact H
                              clear H
                              have H := H1
                              clear H1
                              by_cases c46 : (t400.length : Int) = (t392.length : Int)
                              · rw [if_pos c46] at H
                                have c46b0 : ((t400.length : Int) == (t392.length : Int)) = true := beq_iff_eq.mpr c46
                                have c46b1 : ((t400.length : Int) != (t392.length : Int)) = false := bne_eq_false_iff_eq.mpr c46
                                have c46b2 : (t400.length == t392.length) = true := by first | simpa using c46 | (simp at c46 ⊢; omega)
                                clear c46
                                by_cases c47 : (t410.length : Int) = (t392.length : Int)
                                · rw [if_pos c47] at H
                                  have c47b0 : ((t410.length : Int) == (t392.length : Int)) = true := beq_iff_eq.mpr c47
                                  have c47b1 : ((t410.length : Int) != (t392.length : Int)) = false := bne_eq_false_iff_eq.mpr c47
                                  have c47b2 : (t410.length == t392.length) = true := by first | simpa using c47 | (simp at c47 ⊢; omega)
                                  clear c47
                                  by_cases c48 : (t419.length : Int) = (t392.length : Int)
                                  · rw [if_pos c48] at H
                                    have c48b0 : ((t419.length : Int) == (t392.length : Int)) = true := beq_iff_eq.mpr c48
                                    have c48b1 : ((t419.length : Int) != (t392.length : Int)) = false := bne_eq_false_iff_eq.mpr c48
                                    have c48b2 : (t419.length == t392.length) = true := by first | simpa using c48 | (simp at c48 ⊢; omega)
                                    clear c48
                                    have H' := Aside0.mk H
                                    clear H
                                    obtain ⟨Ao49, co49, eo49⟩ := Kd.R_slice HO397.out
                                    subst eo49
                                    obtain ⟨Ao50, co50, eo50⟩ := Kd.R_slice HO402.out
                                    subst eo50
                                    go_wp2_with (first | (go_at_call 61; (with_reducible refine (spec_SameNumbers.calls kj2 _ _ t395 _ _ t400 true _ ?side1 ?side2 ?side3 ?side4 A34.out).mono ?_); (case side1 => exact cvC ((Kd.R_reads' HO397.out).2.2)); (case side2 => exact (Kd.R_reads' HO397.out).2.1); (case side3 => exact cvC ((Kd.R_reads' HO402.out).2.2)); (case side4 => exact (Kd.R_reads' HO402.out).2.1); rintro e w' ⟨rfl, ⟨nd, rfl⟩⟩; obtain ⟨Ao51, co51, eo51⟩ := Kd.R_slice HO407.out; subst eo51; obtain ⟨Ao52, co52, eo52⟩ := Kd.R_slice HO412.out; subst eo52) | (go_at_call 61; (with_reducible refine (spec_SameNumbers.calls kj2 _ _ t405 _ _ t410 true _ ?side1 ?side2 ?side3 ?side4 A39.out).mono ?_); (case side1 => exact cvC ((Kd.R_reads' HO407.out).2.2)); (case side2 => exact (Kd.R_reads' HO407.out).2.1); (case side3 => exact cvC ((Kd.R_reads' HO412.out).2.2)); (case side4 => exact (Kd.R_reads' HO412.out).2.1); rintro e w' ⟨rfl, ⟨nd, rfl⟩⟩; obtain ⟨Ao53, co53, eo53⟩ := Kd.R_slice HO418.out; subst eo53; obtain ⟨Ao54, co54, eo54⟩ := Kd.R_slice HO422.out; subst eo54) | (go_at_call 61; (with_reducible refine (spec_SameNumbers.calls kj2 _ _ t415 _ _ t419 true _ ?side1 ?side2 ?side3 ?side4 A44.out).mono ?_); (case side1 => exact cvC ((Kd.R_reads' HO418.out).2.2)); (case side2 => exact (Kd.R_reads' HO418.out).2.1); (case side3 => exact cvC ((Kd.R_reads' HO422.out).2.2)); (case side4 => exact (Kd.R_reads' HO422.out).2.1); rintro e w' ⟨rfl, ⟨nd, rfl⟩⟩))
                                    go_meet
                                    case rel => exact ⟨_, (((t403 == 0) != (t413 == 0))), (by first | rfl | (simp; done) | (simp [*]; done)), H', ⟨by have := HJ2.out; first | omega | exact Nat.le_refl _⟩, ⟨mvR HO394⟩, ⟨by (with_reducible repeat (first | apply Kd.R_alloc | apply Kd.R_drewN | apply Kd.R_drew)); exact Kd.R_mono HO402.out (fun _ hk => ⟨hk.1.1.2, hk.2⟩)⟩, ⟨by (with_reducible repeat (first | apply Kd.R_alloc | apply Kd.R_drewN | apply Kd.R_drew)); exact Kd.R_mono HO412.out (fun _ hk => ⟨hk.1.1.1.2, hk.2⟩)⟩, ⟨by (with_reducible repeat (first | apply Kd.R_alloc | apply Kd.R_drewN | apply Kd.R_drew)); exact Kd.R_mono HO422.out (fun _ hk => ⟨hk.1.1.1.2, hk.1.2⟩)⟩, ⟨by (with_reducible repeat (first | refine blk_drewN ?_ _ | refine blk_drew ?_ | refine blk_alloc ?_ _)); exact BK391.out⟩, ⟨by repeat (first | (with_reducible first | exact HB.out | apply below_alloc | apply pw_below_drewN | apply below_drew1 | refine below_set ?_ GE391.out) | exact HB.out)⟩⟩
                                  · rw [if_neg c48] at H
                                    have c48b0 : ((t419.length : Int) == (t392.length : Int)) = false := beq_eq_false_iff_ne.mpr c48
                                    have c48b1 : ((t419.length : Int) != (t392.length : Int)) = true := bne_iff_ne.mpr c48
                                    have c48b2 : (t419.length == t392.length) = false := by first | simpa using c48 | (simp at c48 ⊢; omega)
                                    exact (laws_FnLate.j1_no H).elim
                                · rw [if_neg c47] at H
                                  have c47b0 : ((t410.length : Int) == (t392.length : Int)) = false := beq_eq_false_iff_ne.mpr c47
                                  have c47b1 : ((t410.length : Int) != (t392.length : Int)) = true := bne_iff_ne.mpr c47
                                  have c47b2 : (t410.length == t392.length) = false := by first | simpa using c47 | (simp at c47 ⊢; omega)
                                  exact (laws_FnLate.j1_no H).elim
                              · rw [if_neg c46] at H
                                have c46b0 : ((t400.length : Int) == (t392.length : Int)) = false := beq_eq_false_iff_ne.mpr c46
                                have c46b1 : ((t400.length : Int) != (t392.length : Int)) = true := bne_iff_ne.mpr c46
                                have c46b2 : (t400.length == t392.length) = false := by first | simpa using c46 | (simp at c46 ⊢; omega)
                                exact (laws_FnLate.j1_no H).elim
                            · replace c45 := Bool.eq_false_iff.mpr c45
                              subst c45
                              have H1 : (laws_FnLate.j1 kj2 l0 t392 t400 t403 t410 t413 t419 true t389 t390) = some true := by rw [if_neg (show ¬ (false = true) by decide)] at H; exact H
                              clear H
                              have H := H1
                              clear H1
                              exact (laws_FnLate.j1_no H).elim
                          · rw [if_neg c43] at H
                            have c43b0 : (t416 == 0) = false := beq_eq_false_iff_ne.mpr c43
                            have c43b1 : (t416 != 0) = true := bne_iff_ne.mpr c43
                            exact (laws_FnLate.j1_no H).elim
                        · rw [if_neg c42] at H
                          have c42b0 : (t416 == t420) = false := beq_eq_false_iff_ne.mpr c42
                          have c42b1 : (t416 != t420) = true := bne_iff_ne.mpr c42
                          exact (laws_FnLate.j1_no H).elim
                      · rw [if_neg c41] at H
                        have c41b0 : (t408 == t413) = false := beq_eq_false_iff_ne.mpr c41
                        have c41b1 : (t408 != t413) = true := bne_iff_ne.mpr c41
                        exact (laws_FnLate.j1_no H).elim
                    · replace c40 := Bool.eq_false_iff.mpr c40
                      subst c40
                      have H1 : (laws_FnLate.j1 kj2 l0 t392 t400 t403 t410 t413 t419 true t389 t390) = some true := by rw [if_neg (show ¬ (false = true) by decide)] at H; exact H
                      clear H
                      have H := H1
                      clear H1
                      exact (laws_FnLate.j1_no H).elim
                  · rw [if_neg c38] at H
                    have c38b0 : (t409 == 0) = false := beq_eq_false_iff_ne.mpr c38
                    have c38b1 : (t409 != 0) = true := bne_iff_ne.mpr c38
                    exact (laws_FnLate.j1_no H).elim
                · rw [if_neg c37] at H
                  have c37b0 : (t409 == t414) = false := beq_eq_false_iff_ne.mpr c37
                  have c37b1 : (t409 != t414) = true := bne_iff_ne.mpr c37
                  exact (laws_FnLate.j1_no H).elim
              · rw [if_neg c36] at H
                have c36b0 : (t398 == t403) = false := beq_eq_false_iff_ne.mpr c36
                have c36b1 : (t398 != t403) = true := bne_iff_ne.mpr c36
                exact (laws_FnLate.j1_no H).elim
            · replace c35 := Bool.eq_false_iff.mpr c35
              subst c35
              have H1 : (laws_FnLate.j1 kj2 l0 t392 t400 t403 t410 t413 t419 true t389 t390) = some true := by rw [if_neg (show ¬ (false = true) by decide)] at H; exact H
              clear H
              have H := H1
              clear H1
              exact (laws_FnLate.j1_no H).elim
          · rw [if_neg c33] at H
            have c33b0 : (t399 == 0) = false := beq_eq_false_iff_ne.mpr c33
            have c33b1 : (t399 != 0) = true := bne_iff_ne.mpr c33
            exact (laws_FnLate.j1_no H).elim
        · rw [if_neg c32] at H
          have c32b0 : (t399 == t404) = false := beq_eq_false_iff_ne.mpr c32
          have c32b1 : (t399 != t404) = true := bne_iff_ne.mpr c32
          (first | rw [c32b0] | (simp only [i64_w, i32_w]; rw [c32b0]) | skip)
          exact (laws_FnLate.j1_no H).elim
      case rest =>
       rename_i zz0A zz1A zz2A zz3A zz4A zz5A zz6A
       revert k A0 c0 l0 A1 c1 l1 r w hu27 hu57 HR0 HC0 HR1 HC1 zz0A zz1A zz2A u40 u41 u42 u43 u44 kj2 HJ2 t389 t390 A8 t392 A9 t395 t398 t399 A10 t400 t403 t404 A11 t405 t408 t409 A12 t410 t413 t414 A13 t415 t416 A14 t419 t420 A15 HC16 w17 gb391 w18 GW391 GE391 hcz19_0 hcz19_1 hfz19_0 hfz19_1 w20 hcz21_0 hcz21_1 hfz21_0 hfz21_1 Ao22 co22 w23 v396 hcz24_0 hcz24_1 hfz24_0 hfz24_1 w25 v401 hcz26_0 hcz26_1 hfz26_0 hfz26_1 w27 v406 hcz28_0 hcz28_1 hfz28_0 hfz28_1 w29 v411 w30 v417 w31 v421 HO394 HO397 HO402 HO407 HO412 HO418 HO422 BK391 HB zz3A zz4A zz5A zz6A wc u80 u81 u82 u83 u84 u85 u86 u87 u88 u89 u90 u91 u92 u93 u94 u95 u96 u97 u98 u99 u100 u101 u102 u103 u104 u105 u106 u107 u108 u109 u110 u111 u112 u113 u114 u115 u116 u117 u118 u119 u120 u121 u122 u123 u124 u125 u126 u127 u128 u129 u130 u131 u132 u133 u134 u135 u136 u137 u138 u139 u140 u141 u142 u143 u144 u145 u146 u147 u148 u149 u150 u151 u152 u153 u154 u155 u156 u157 u158 u159 u160 u161 u162 u163 u164 u165 u166 u167 u168 hcut
       exact REST.out
end Go.Proofs.Ythkccaclmodjiaa.I
