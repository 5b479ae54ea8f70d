import Derived.Test.YthkccaclmodjiaazFLateI0
import Derived.Test.YthkccaclmodjiaazFLateI13
import Derived.Test.YthkccaclmodjiaazFLateI28
import Derived.Test.YthkccaclmodjiaazFLateI29
import Derived.Test.YthkccaclmodjiaazFLateI30
import Derived.Test.YthkccaclmodjiaazFLateI31
import Derived.Test.YthkccaclmodjiaazFLateI32
import Derived.Test.YthkccaclmodjiaazFLateI44
import Derived.Test.YthkccaclmodjiaazFLateEBLem1
import Derived.Test.YthkccaclmodjiaazFLateI54
import Derived.Test.YthkccaclmodjiaazFLateEOrders2
import Derived.Test.YthkccaclmodjiaazFLateEIron2
import Derived.Test.YthkccaclmodjiaazFLateEShort
namespace Go.Proofs.Ythkccaclmodjiaa.I
open Go.RowKit Go.Proofs.YthkccaclmodjiaaW.PrintWords Go.Proofs.YthkccaclmodjiaaW.PrintLast Go.Proofs.YthkccaclmodjiaaW.PrintMore
attribute [local go_sem] max2_int min2_int max_two min_two max_three min_three max_four min_four   -- for this text's walks alone
set_option linter.unusedVariables false
set_option linter.unusedSimpArgs false
mutual
def laws_FnLate.j0 : Nat → List Int → List Int → Bool → Option (Bool)
 | 0, _, _, _ => none
 | k + 1, x0, x1, x45 => if x45 = true then (some true) else ((spec_P6Iron.f x0).bind fun bt389 => ((spec_P6Pieces.f k x1).bind fun t392 => ((impl_FewestLate.f k bt389.1 bt389.2 t392).bind fun bt395 => ((spec_FewestLate.f k bt389.1 bt389.2 t392).bind fun bt400 => ((impl_LeastLateness.f k bt389.1 bt389.2 t392).bind fun bt405 => ((spec_LeastLateness.f k bt389.1 bt389.2 t392).bind fun bt410 => ((impl_DueOrder.f k t392).bind fun bt415 => ((spec_DueOrder.f k t392).bind fun bt419 => (if bt395.2.2 = bt400.2.2 then (if bt395.2.2 = 0 then ((spec_SameNumbers.f k bt395.1 bt400.1).bind fun t423 => (if t423 = true then (if bt395.2.1 = bt400.2.1 then (if bt405.2.2 = bt410.2.2 then (if bt405.2.2 = 0 then ((spec_SameNumbers.f k bt405.1 bt410.1).bind fun t424 => (if t424 = true then (if bt405.2.1 = bt410.2.1 then (if bt415.2 = bt419.2 then (if bt415.2 = 0 then ((spec_SameNumbers.f k bt415.1 bt419.1).bind fun t425 => (if t425 = true then (if (bt400.1.length : Int) = (t392.length : Int) then (if (bt410.1.length : Int) = (t392.length : Int) then (if (bt419.1.length : Int) = (t392.length : Int) then (laws_FnLate.j1 k x0 t392 bt400.1 bt400.2.1 bt410.1 bt410.2.1 bt419.1 ((bt400.2.1 == 0) != (bt410.2.1 == 0)) bt389.1 bt389.2) else (laws_FnLate.j1 k x0 t392 bt400.1 bt400.2.1 bt410.1 bt410.2.1 bt419.1 true bt389.1 bt389.2)) else (laws_FnLate.j1 k x0 t392 bt400.1 bt400.2.1 bt410.1 bt410.2.1 bt419.1 true bt389.1 bt389.2)) else (laws_FnLate.j1 k x0 t392 bt400.1 bt400.2.1 bt410.1 bt410.2.1 bt419.1 true bt389.1 bt389.2)) else (laws_FnLate.j1 k x0 t392 bt400.1 bt400.2.1 bt410.1 bt410.2.1 bt419.1 true bt389.1 bt389.2))) else (laws_FnLate.j1 k x0 t392 bt400.1 bt400.2.1 bt410.1 bt410.2.1 bt419.1 true bt389.1 bt389.2)) else (laws_FnLate.j1 k x0 t392 bt400.1 bt400.2.1 bt410.1 bt410.2.1 bt419.1 true bt389.1 bt389.2)) else (laws_FnLate.j1 k x0 t392 bt400.1 bt400.2.1 bt410.1 bt410.2.1 bt419.1 true bt389.1 bt389.2)) else (laws_FnLate.j1 k x0 t392 bt400.1 bt400.2.1 bt410.1 bt410.2.1 bt419.1 true bt389.1 bt389.2))) else (laws_FnLate.j1 k x0 t392 bt400.1 bt400.2.1 bt410.1 bt410.2.1 bt419.1 true bt389.1 bt389.2)) else (laws_FnLate.j1 k x0 t392 bt400.1 bt400.2.1 bt410.1 bt410.2.1 bt419.1 true bt389.1 bt389.2)) else (laws_FnLate.j1 k x0 t392 bt400.1 bt400.2.1 bt410.1 bt410.2.1 bt419.1 true bt389.1 bt389.2)) else (laws_FnLate.j1 k x0 t392 bt400.1 bt400.2.1 bt410.1 bt410.2.1 bt419.1 true bt389.1 bt389.2))) else (laws_FnLate.j1 k x0 t392 bt400.1 bt400.2.1 bt410.1 bt410.2.1 bt419.1 true bt389.1 bt389.2)) else (laws_FnLate.j1 k x0 t392 bt400.1 bt400.2.1 bt410.1 bt410.2.1 bt419.1 true bt389.1 bt389.2))))))))))
def laws_FnLate.j1 : Nat → List Int → List (S57) → List Int → Int → List Int → Int → List Int → Bool → Int → Int → Option (Bool)
 | 0, _, _, _, _, _, _, _, _, _, _ => none
 | k + 1, x0, x6, x10, x11, x16, x17, x21, x168, x392000, x392001 => if x168 = true then (some false) else (laws_FnLate.l0 k x0 x6 x10 x11 x16 x17 x21 1 x392000 x392001)
def laws_FnLate.l0 : Nat → List Int → List (S57) → List Int → Int → List Int → Int → List Int → Int → Int → Int → Option (Bool)
 | 0, _, _, _, _, _, _, _, _, _, _ => none
 | k + 1, x0, x6, x10, x11, x16, x17, x21, x23, x392000, x392001 => if x23 < (x21.length : Int) then (if 0 ≤ (wrap64 (x23 - 1)) then (if (wrap64 (x23 - 1)) < (x21.length : Int) then (if 0 ≤ (rd x21 (wrap64 (x23 - 1))) then (if (rd x21 (wrap64 (x23 - 1))) < (x6.length : Int) then (if 0 ≤ x23 then (if 0 ≤ (rd x21 x23) then (if (rd x21 x23) < (x6.length : Int) then (if ((rd_T57 x6 (rd x21 (wrap64 (x23 - 1)))).f2) > ((rd_T57 x6 (rd x21 x23)).f2) then (some false) else (if ((rd_T57 x6 (rd x21 (wrap64 (x23 - 1)))).f2) = ((rd_T57 x6 (rd x21 x23)).f2) then (if (rd x21 (wrap64 (x23 - 1))) > (rd x21 x23) then (some false) else (laws_FnLate.l0 k x0 x6 x10 x11 x16 x17 x21 (wrap64 (x23 + 1)) x392000 x392001)) else (laws_FnLate.l0 k x0 x6 x10 x11 x16 x17 x21 (wrap64 (x23 + 1)) x392000 x392001))) else (none)) else (none)) else (none)) else (none)) else (none)) else (none)) else (none)) else ((spec_P6Order.f k x0 (x6.length : Int)).bind fun t434 => (laws_FnLate.l1 k x6 x11 x17 (([x10, x16, x21, t434] : List (List Int))) 0 x392000 x392001))
def laws_FnLate.l1 : Nat → List (S57) → Int → Int → List (List Int) → Int → Int → Int → Option (Bool)
 | 0, _, _, _, _, _, _, _ => none
 | k + 1, x6, x11, x17, x26, x27, x392000, x392001 => if x27 < (x26.length : Int) then (if 0 ≤ x27 then ((impl_LateIn.f k x392000 x392001 x6 (rd_L6 x26 x27)).bind fun bt441 => ((spec_LateIn.f k x392000 x392001 x6 (rd_L6 x26 x27)).bind fun bt446 => ((impl_LatenessOf.f k x392000 x392001 x6 (rd_L6 x26 x27)).bind fun bt451 => ((spec_FinishTimes.f k x392000 x392001 x6 (rd_L6 x26 x27)).bind fun bt454 => (if bt441.2 = bt446.2 then (if bt441.2 = 0 then ((spec_SameNumbers.f k bt441.1 bt446.1).bind fun t458 => (if t458 = true then (if bt451.2 = 0 then (if bt454.2 = 0 then (if (bt454.1.length : Int) = (x6.length : Int) then (if (bt446.1.length : Int) < x11 then (laws_FnLate.j4 k x6 x11 x17 x26 x27 bt446.1 bt451.1 bt454.1 true x392000 x392001) else (if bt451.1 < x17 then (laws_FnLate.j4 k x6 x11 x17 x26 x27 bt446.1 bt451.1 bt454.1 true x392000 x392001) else (if x27 = 0 then (if (bt446.1.length : Int) = x11 then (if x27 = 1 then (laws_FnLate.j4 k x6 x11 x17 x26 x27 bt446.1 bt451.1 bt454.1 (bt451.1 != x17) x392000 x392001) else (laws_FnLate.j4 k x6 x11 x17 x26 x27 bt446.1 bt451.1 bt454.1 false x392000 x392001)) else (laws_FnLate.j4 k x6 x11 x17 x26 x27 bt446.1 bt451.1 bt454.1 true x392000 x392001)) else (if x27 = 1 then (laws_FnLate.j4 k x6 x11 x17 x26 x27 bt446.1 bt451.1 bt454.1 (bt451.1 != x17) x392000 x392001) else (laws_FnLate.j4 k x6 x11 x17 x26 x27 bt446.1 bt451.1 bt454.1 false x392000 x392001))))) else (laws_FnLate.j4 k x6 x11 x17 x26 x27 bt446.1 bt451.1 bt454.1 true x392000 x392001)) else (laws_FnLate.j4 k x6 x11 x17 x26 x27 bt446.1 bt451.1 bt454.1 true x392000 x392001)) else (laws_FnLate.j4 k x6 x11 x17 x26 x27 bt446.1 bt451.1 bt454.1 true x392000 x392001)) else (laws_FnLate.j4 k x6 x11 x17 x26 x27 bt446.1 bt451.1 bt454.1 true x392000 x392001))) else (laws_FnLate.j4 k x6 x11 x17 x26 x27 bt446.1 bt451.1 bt454.1 true x392000 x392001)) else (laws_FnLate.j4 k x6 x11 x17 x26 x27 bt446.1 bt451.1 bt454.1 true x392000 x392001)))))) else (none)) else (laws_FnLate.l3 k x6 0)
def laws_FnLate.j4 : Nat → List (S57) → Int → Int → List (List Int) → Int → List Int → Int → List Int → Bool → Int → Int → Option (Bool)
 | 0, _, _, _, _, _, _, _, _, _, _, _ => none
 | k + 1, x6, x11, x17, x26, x27, x30, x32, x34, x325, x392000, x392001 => if x325 = true then (some false) else (laws_FnLate.l2 k x6 x11 x17 x26 x27 x30 x32 x34 0 0 x392000 x392001)
def laws_FnLate.l2 : Nat → List (S57) → Int → Int → List (List Int) → Int → List Int → Int → List Int → Int → Int → Int → Int → Option (Bool)
 | 0, _, _, _, _, _, _, _, _, _, _, _, _ => none
 | k + 1, x6, x11, x17, x26, x27, x30, x32, x34, x36, x37, x392000, x392001 => if x37 < (x34.length : Int) then (if 0 ≤ x37 then (if 0 ≤ x27 then (if x27 < (x26.length : Int) then (if x37 < ((rd_L6 x26 x27).length : Int) then (if 0 ≤ (rd (rd_L6 x26 x27) x37) then (if (rd (rd_L6 x26 x27) x37) < (x6.length : Int) then ((spec_HasNumber.f k x30 (rd (rd_L6 x26 x27) x37)).bind fun t465 => (if ((decide ((wrap64 ((rd x34 x37) - (wrap64 ((rd_T57 x6 (rd (rd_L6 x26 x27) x37)).f2)))) > 0)) != t465) = true then (some false) else (laws_FnLate.l2 k x6 x11 x17 x26 x27 x30 x32 x34 (wrap64 (x36 + (mx 0 (wrap64 ((rd x34 x37) - (wrap64 ((rd_T57 x6 (rd (rd_L6 x26 x27) x37)).f2))))))) (wrap64 (x37 + 1)) x392000 x392001))) else (none)) else (none)) else (none)) else (none)) else (none)) else (none)) else (if x36 = x32 then (laws_FnLate.l1 k x6 x11 x17 x26 (wrap64 (x27 + 1)) x392000 x392001) else (some false))
def laws_FnLate.l3 : Nat → List (S57) → Int → Option (Bool)
 | 0, _, _ => none
 | k + 1, x6, x39 => if x39 < (x6.length : Int) then (if 0 ≤ x39 then ((impl_ValidPiece.f ((rd_T57 x6 x39).f0) ((rd_T57 x6 x39).f1) ((rd_T57 x6 x39).f2)).bind fun t467 => (if t467 = true then (laws_FnLate.l3 k x6 (wrap64 (x39 + 1))) else (some false))) else (none)) else (some true)
end
def laws_FnLate.f (k : Nat) (l0 : List Int) (l1 : List Int) : Option (Bool) := (laws_f6big.f l0).bind fun t387 => (if t387 = true then (laws_FnLate.j0 k l0 l1 true) else ((laws_f6big.f l1).bind fun t388 => (laws_FnLate.j0 k l0 l1 t388)))
theorem laws_FnLate.mono_l : ∀ k, (∀ y0 y1 y2, LeO (laws_FnLate.j0 k y0 y1 y2) (laws_FnLate.j0 (k + 1) y0 y1 y2)) ∧ (∀ y0 y1 y2 y3 y4 y5 y6 y7 y8 y9, LeO (laws_FnLate.j1 k y0 y1 y2 y3 y4 y5 y6 y7 y8 y9) (laws_FnLate.j1 (k + 1) y0 y1 y2 y3 y4 y5 y6 y7 y8 y9)) ∧ (∀ y0 y1 y2 y3 y4 y5 y6 y7 y8 y9, LeO (laws_FnLate.l0 k y0 y1 y2 y3 y4 y5 y6 y7 y8 y9) (laws_FnLate.l0 (k + 1) y0 y1 y2 y3 y4 y5 y6 y7 y8 y9)) ∧ (∀ y0 y1 y2 y3 y4 y5 y6, LeO (laws_FnLate.l1 k y0 y1 y2 y3 y4 y5 y6) (laws_FnLate.l1 (k + 1) y0 y1 y2 y3 y4 y5 y6)) ∧ (∀ y0 y1 y2 y3 y4 y5 y6 y7 y8 y9 y10, LeO (laws_FnLate.j4 k y0 y1 y2 y3 y4 y5 y6 y7 y8 y9 y10) (laws_FnLate.j4 (k + 1) y0 y1 y2 y3 y4 y5 y6 y7 y8 y9 y10)) ∧ (∀ y0 y1 y2 y3 y4 y5 y6 y7 y8 y9 y10 y11, LeO (laws_FnLate.l2 k y0 y1 y2 y3 y4 y5 y6 y7 y8 y9 y10 y11) (laws_FnLate.l2 (k + 1) y0 y1 y2 y3 y4 y5 y6 y7 y8 y9 y10 y11)) ∧ (∀ y0 y1, LeO (laws_FnLate.l3 k y0 y1) (laws_FnLate.l3 (k + 1) y0 y1))
 | 0 => ⟨fun _ _ _ r h => by simp [laws_FnLate.j0] at h, fun _ _ _ _ _ _ _ _ _ _ r h => by simp [laws_FnLate.j1] at h, fun _ _ _ _ _ _ _ _ _ _ r h => by simp [laws_FnLate.l0] at h, fun _ _ _ _ _ _ _ r h => by simp [laws_FnLate.l1] at h, fun _ _ _ _ _ _ _ _ _ _ _ r h => by simp [laws_FnLate.j4] at h, fun _ _ _ _ _ _ _ _ _ _ _ _ r h => by simp [laws_FnLate.l2] at h, fun _ _ r h => by simp [laws_FnLate.l3] at h⟩
 | k + 1 => by
  obtain ⟨ih0, ih1, ih2, ih3, ih4, ih5, ih6⟩ := laws_FnLate.mono_l k
  refine ⟨?_, ?_, ?_, ?_, ?_, ?_, ?_⟩
  · intro y0 y1 y2
    unfold laws_FnLate.j0
    repeat' first
    | (with_reducible exact ih0 _ _ _)
    | (with_reducible exact ih1 _ _ _ _ _ _ _ _ _ _)
    | (with_reducible exact ih2 _ _ _ _ _ _ _ _ _ _)
    | (with_reducible exact ih3 _ _ _ _ _ _ _)
    | (with_reducible exact ih4 _ _ _ _ _ _ _ _ _ _ _)
    | (with_reducible exact ih5 _ _ _ _ _ _ _ _ _ _ _ _)
    | (with_reducible exact ih6 _ _)
    | (with_reducible exact impl_DueOrder.mono _ _)
    | (with_reducible exact impl_FewestLate.mono _ _ _ _)
    | (with_reducible exact impl_LateIn.mono _ _ _ _ _)
    | (with_reducible exact impl_LatenessOf.mono _ _ _ _ _)
    | (with_reducible exact impl_LeastLateness.mono _ _ _ _)
    | (with_reducible exact spec_DueOrder.mono _ _)
    | (with_reducible exact spec_FewestLate.mono _ _ _ _)
    | (with_reducible exact spec_FinishTimes.mono _ _ _ _ _)
    | (with_reducible exact spec_HasNumber.mono _ _ _)
    | (with_reducible exact spec_LateIn.mono _ _ _ _ _)
    | (with_reducible exact spec_LeastLateness.mono _ _ _ _)
    | (with_reducible exact spec_P6Order.mono _ _ _)
    | (with_reducible exact spec_P6Pieces.mono _ _)
    | (with_reducible exact spec_SameNumbers.mono _ _ _)
    | (with_reducible exact LeO.refl _)
    | (with_reducible exact LeO.none _)
    | (with_reducible refine LeO.ite ?_ ?_)
    | (with_reducible refine LeO.bind ?_ (fun _ => ?_))
    | exact ih0 _ _ _
    | exact ih1 _ _ _ _ _ _ _ _ _ _
    | exact ih2 _ _ _ _ _ _ _ _ _ _
    | exact ih3 _ _ _ _ _ _ _
    | exact ih4 _ _ _ _ _ _ _ _ _ _ _
    | exact ih5 _ _ _ _ _ _ _ _ _ _ _ _
    | exact ih6 _ _
    | exact impl_DueOrder.mono _ _
    | exact impl_FewestLate.mono _ _ _ _
    | exact impl_LateIn.mono _ _ _ _ _
    | exact impl_LatenessOf.mono _ _ _ _ _
    | exact impl_LeastLateness.mono _ _ _ _
    | exact spec_DueOrder.mono _ _
    | exact spec_FewestLate.mono _ _ _ _
    | exact spec_FinishTimes.mono _ _ _ _ _
    | exact spec_HasNumber.mono _ _ _
    | exact spec_LateIn.mono _ _ _ _ _
    | exact spec_LeastLateness.mono _ _ _ _
    | exact spec_P6Order.mono _ _ _
    | exact spec_P6Pieces.mono _ _
    | exact spec_SameNumbers.mono _ _ _
    | exact LeO.none _
    | refine LeO.ite ?_ ?_
    | refine LeO.bind ?_ (fun _ => ?_)
  · intro y0 y1 y2 y3 y4 y5 y6 y7 y8 y9
    unfold laws_FnLate.j1
    repeat' first
    | (with_reducible exact ih0 _ _ _)
    | (with_reducible exact ih1 _ _ _ _ _ _ _ _ _ _)
    | (with_reducible exact ih2 _ _ _ _ _ _ _ _ _ _)
    | (with_reducible exact ih3 _ _ _ _ _ _ _)
    | (with_reducible exact ih4 _ _ _ _ _ _ _ _ _ _ _)
    | (with_reducible exact ih5 _ _ _ _ _ _ _ _ _ _ _ _)
    | (with_reducible exact ih6 _ _)
    | (with_reducible exact impl_DueOrder.mono _ _)
    | (with_reducible exact impl_FewestLate.mono _ _ _ _)
    | (with_reducible exact impl_LateIn.mono _ _ _ _ _)
    | (with_reducible exact impl_LatenessOf.mono _ _ _ _ _)
    | (with_reducible exact impl_LeastLateness.mono _ _ _ _)
    | (with_reducible exact spec_DueOrder.mono _ _)
    | (with_reducible exact spec_FewestLate.mono _ _ _ _)
    | (with_reducible exact spec_FinishTimes.mono _ _ _ _ _)
    | (with_reducible exact spec_HasNumber.mono _ _ _)
    | (with_reducible exact spec_LateIn.mono _ _ _ _ _)
    | (with_reducible exact spec_LeastLateness.mono _ _ _ _)
    | (with_reducible exact spec_P6Order.mono _ _ _)
    | (with_reducible exact spec_P6Pieces.mono _ _)
    | (with_reducible exact spec_SameNumbers.mono _ _ _)
    | (with_reducible exact LeO.refl _)
    | (with_reducible exact LeO.none _)
    | (with_reducible refine LeO.ite ?_ ?_)
    | (with_reducible refine LeO.bind ?_ (fun _ => ?_))
    | exact ih0 _ _ _
    | exact ih1 _ _ _ _ _ _ _ _ _ _
    | exact ih2 _ _ _ _ _ _ _ _ _ _
    | exact ih3 _ _ _ _ _ _ _
    | exact ih4 _ _ _ _ _ _ _ _ _ _ _
    | exact ih5 _ _ _ _ _ _ _ _ _ _ _ _
    | exact ih6 _ _
    | exact impl_DueOrder.mono _ _
    | exact impl_FewestLate.mono _ _ _ _
    | exact impl_LateIn.mono _ _ _ _ _
    | exact impl_LatenessOf.mono _ _ _ _ _
    | exact impl_LeastLateness.mono _ _ _ _
    | exact spec_DueOrder.mono _ _
    | exact spec_FewestLate.mono _ _ _ _
    | exact spec_FinishTimes.mono _ _ _ _ _
    | exact spec_HasNumber.mono _ _ _
    | exact spec_LateIn.mono _ _ _ _ _
    | exact spec_LeastLateness.mono _ _ _ _
    | exact spec_P6Order.mono _ _ _
    | exact spec_P6Pieces.mono _ _
    | exact spec_SameNumbers.mono _ _ _
    | exact LeO.none _
    | refine LeO.ite ?_ ?_
    | refine LeO.bind ?_ (fun _ => ?_)
  · intro y0 y1 y2 y3 y4 y5 y6 y7 y8 y9
    unfold laws_FnLate.l0
    repeat' first
    | (with_reducible exact ih0 _ _ _)
    | (with_reducible exact ih1 _ _ _ _ _ _ _ _ _ _)
    | (with_reducible exact ih2 _ _ _ _ _ _ _ _ _ _)
    | (with_reducible exact ih3 _ _ _ _ _ _ _)
    | (with_reducible exact ih4 _ _ _ _ _ _ _ _ _ _ _)
    | (with_reducible exact ih5 _ _ _ _ _ _ _ _ _ _ _ _)
    | (with_reducible exact ih6 _ _)
    | (with_reducible exact impl_DueOrder.mono _ _)
    | (with_reducible exact impl_FewestLate.mono _ _ _ _)
    | (with_reducible exact impl_LateIn.mono _ _ _ _ _)
    | (with_reducible exact impl_LatenessOf.mono _ _ _ _ _)
    | (with_reducible exact impl_LeastLateness.mono _ _ _ _)
    | (with_reducible exact spec_DueOrder.mono _ _)
    | (with_reducible exact spec_FewestLate.mono _ _ _ _)
    | (with_reducible exact spec_FinishTimes.mono _ _ _ _ _)
    | (with_reducible exact spec_HasNumber.mono _ _ _)
    | (with_reducible exact spec_LateIn.mono _ _ _ _ _)
    | (with_reducible exact spec_LeastLateness.mono _ _ _ _)
    | (with_reducible exact spec_P6Order.mono _ _ _)
    | (with_reducible exact spec_P6Pieces.mono _ _)
    | (with_reducible exact spec_SameNumbers.mono _ _ _)
    | (with_reducible exact LeO.refl _)
    | (with_reducible exact LeO.none _)
    | (with_reducible refine LeO.ite ?_ ?_)
    | (with_reducible refine LeO.bind ?_ (fun _ => ?_))
    | exact ih0 _ _ _
    | exact ih1 _ _ _ _ _ _ _ _ _ _
    | exact ih2 _ _ _ _ _ _ _ _ _ _
    | exact ih3 _ _ _ _ _ _ _
    | exact ih4 _ _ _ _ _ _ _ _ _ _ _
    | exact ih5 _ _ _ _ _ _ _ _ _ _ _ _
    | exact ih6 _ _
    | exact impl_DueOrder.mono _ _
    | exact impl_FewestLate.mono _ _ _ _
    | exact impl_LateIn.mono _ _ _ _ _
    | exact impl_LatenessOf.mono _ _ _ _ _
    | exact impl_LeastLateness.mono _ _ _ _
    | exact spec_DueOrder.mono _ _
    | exact spec_FewestLate.mono _ _ _ _
    | exact spec_FinishTimes.mono _ _ _ _ _
    | exact spec_HasNumber.mono _ _ _
    | exact spec_LateIn.mono _ _ _ _ _
    | exact spec_LeastLateness.mono _ _ _ _
    | exact spec_P6Order.mono _ _ _
    | exact spec_P6Pieces.mono _ _
    | exact spec_SameNumbers.mono _ _ _
    | exact LeO.none _
    | refine LeO.ite ?_ ?_
    | refine LeO.bind ?_ (fun _ => ?_)
  · intro y0 y1 y2 y3 y4 y5 y6
    unfold laws_FnLate.l1
    repeat' first
    | (with_reducible exact ih0 _ _ _)
    | (with_reducible exact ih1 _ _ _ _ _ _ _ _ _ _)
    | (with_reducible exact ih2 _ _ _ _ _ _ _ _ _ _)
    | (with_reducible exact ih3 _ _ _ _ _ _ _)
    | (with_reducible exact ih4 _ _ _ _ _ _ _ _ _ _ _)
    | (with_reducible exact ih5 _ _ _ _ _ _ _ _ _ _ _ _)
    | (with_reducible exact ih6 _ _)
    | (with_reducible exact impl_DueOrder.mono _ _)
    | (with_reducible exact impl_FewestLate.mono _ _ _ _)
    | (with_reducible exact impl_LateIn.mono _ _ _ _ _)
    | (with_reducible exact impl_LatenessOf.mono _ _ _ _ _)
    | (with_reducible exact impl_LeastLateness.mono _ _ _ _)
    | (with_reducible exact spec_DueOrder.mono _ _)
    | (with_reducible exact spec_FewestLate.mono _ _ _ _)
    | (with_reducible exact spec_FinishTimes.mono _ _ _ _ _)
    | (with_reducible exact spec_HasNumber.mono _ _ _)
    | (with_reducible exact spec_LateIn.mono _ _ _ _ _)
    | (with_reducible exact spec_LeastLateness.mono _ _ _ _)
    | (with_reducible exact spec_P6Order.mono _ _ _)
    | (with_reducible exact spec_P6Pieces.mono _ _)
    | (with_reducible exact spec_SameNumbers.mono _ _ _)
    | (with_reducible exact LeO.refl _)
    | (with_reducible exact LeO.none _)
    | (with_reducible refine LeO.ite ?_ ?_)
    | (with_reducible refine LeO.bind ?_ (fun _ => ?_))
    | exact ih0 _ _ _
    | exact ih1 _ _ _ _ _ _ _ _ _ _
    | exact ih2 _ _ _ _ _ _ _ _ _ _
    | exact ih3 _ _ _ _ _ _ _
    | exact ih4 _ _ _ _ _ _ _ _ _ _ _
    | exact ih5 _ _ _ _ _ _ _ _ _ _ _ _
    | exact ih6 _ _
    | exact impl_DueOrder.mono _ _
    | exact impl_FewestLate.mono _ _ _ _
    | exact impl_LateIn.mono _ _ _ _ _
    | exact impl_LatenessOf.mono _ _ _ _ _
    | exact impl_LeastLateness.mono _ _ _ _
    | exact spec_DueOrder.mono _ _
    | exact spec_FewestLate.mono _ _ _ _
    | exact spec_FinishTimes.mono _ _ _ _ _
    | exact spec_HasNumber.mono _ _ _
    | exact spec_LateIn.mono _ _ _ _ _
    | exact spec_LeastLateness.mono _ _ _ _
    | exact spec_P6Order.mono _ _ _
    | exact spec_P6Pieces.mono _ _
    | exact spec_SameNumbers.mono _ _ _
    | exact LeO.none _
    | refine LeO.ite ?_ ?_
    | refine LeO.bind ?_ (fun _ => ?_)
  · intro y0 y1 y2 y3 y4 y5 y6 y7 y8 y9 y10
    unfold laws_FnLate.j4
    repeat' first
    | (with_reducible exact ih0 _ _ _)
    | (with_reducible exact ih1 _ _ _ _ _ _ _ _ _ _)
    | (with_reducible exact ih2 _ _ _ _ _ _ _ _ _ _)
    | (with_reducible exact ih3 _ _ _ _ _ _ _)
    | (with_reducible exact ih4 _ _ _ _ _ _ _ _ _ _ _)
    | (with_reducible exact ih5 _ _ _ _ _ _ _ _ _ _ _ _)
    | (with_reducible exact ih6 _ _)
    | (with_reducible exact impl_DueOrder.mono _ _)
    | (with_reducible exact impl_FewestLate.mono _ _ _ _)
    | (with_reducible exact impl_LateIn.mono _ _ _ _ _)
    | (with_reducible exact impl_LatenessOf.mono _ _ _ _ _)
    | (with_reducible exact impl_LeastLateness.mono _ _ _ _)
    | (with_reducible exact spec_DueOrder.mono _ _)
    | (with_reducible exact spec_FewestLate.mono _ _ _ _)
    | (with_reducible exact spec_FinishTimes.mono _ _ _ _ _)
    | (with_reducible exact spec_HasNumber.mono _ _ _)
    | (with_reducible exact spec_LateIn.mono _ _ _ _ _)
    | (with_reducible exact spec_LeastLateness.mono _ _ _ _)
    | (with_reducible exact spec_P6Order.mono _ _ _)
    | (with_reducible exact spec_P6Pieces.mono _ _)
    | (with_reducible exact spec_SameNumbers.mono _ _ _)
    | (with_reducible exact LeO.refl _)
    | (with_reducible exact LeO.none _)
    | (with_reducible refine LeO.ite ?_ ?_)
    | (with_reducible refine LeO.bind ?_ (fun _ => ?_))
    | exact ih0 _ _ _
    | exact ih1 _ _ _ _ _ _ _ _ _ _
    | exact ih2 _ _ _ _ _ _ _ _ _ _
    | exact ih3 _ _ _ _ _ _ _
    | exact ih4 _ _ _ _ _ _ _ _ _ _ _
    | exact ih5 _ _ _ _ _ _ _ _ _ _ _ _
    | exact ih6 _ _
    | exact impl_DueOrder.mono _ _
    | exact impl_FewestLate.mono _ _ _ _
    | exact impl_LateIn.mono _ _ _ _ _
    | exact impl_LatenessOf.mono _ _ _ _ _
    | exact impl_LeastLateness.mono _ _ _ _
    | exact spec_DueOrder.mono _ _
    | exact spec_FewestLate.mono _ _ _ _
    | exact spec_FinishTimes.mono _ _ _ _ _
    | exact spec_HasNumber.mono _ _ _
    | exact spec_LateIn.mono _ _ _ _ _
    | exact spec_LeastLateness.mono _ _ _ _
    | exact spec_P6Order.mono _ _ _
    | exact spec_P6Pieces.mono _ _
    | exact spec_SameNumbers.mono _ _ _
    | exact LeO.none _
    | refine LeO.ite ?_ ?_
    | refine LeO.bind ?_ (fun _ => ?_)
  · intro y0 y1 y2 y3 y4 y5 y6 y7 y8 y9 y10 y11
    unfold laws_FnLate.l2
    repeat' first
    | (with_reducible exact ih0 _ _ _)
    | (with_reducible exact ih1 _ _ _ _ _ _ _ _ _ _)
    | (with_reducible exact ih2 _ _ _ _ _ _ _ _ _ _)
    | (with_reducible exact ih3 _ _ _ _ _ _ _)
    | (with_reducible exact ih4 _ _ _ _ _ _ _ _ _ _ _)
    | (with_reducible exact ih5 _ _ _ _ _ _ _ _ _ _ _ _)
    | (with_reducible exact ih6 _ _)
    | (with_reducible exact impl_DueOrder.mono _ _)
    | (with_reducible exact impl_FewestLate.mono _ _ _ _)
    | (with_reducible exact impl_LateIn.mono _ _ _ _ _)
    | (with_reducible exact impl_LatenessOf.mono _ _ _ _ _)
    | (with_reducible exact impl_LeastLateness.mono _ _ _ _)
    | (with_reducible exact spec_DueOrder.mono _ _)
    | (with_reducible exact spec_FewestLate.mono _ _ _ _)
    | (with_reducible exact spec_FinishTimes.mono _ _ _ _ _)
    | (with_reducible exact spec_HasNumber.mono _ _ _)
    | (with_reducible exact spec_LateIn.mono _ _ _ _ _)
    | (with_reducible exact spec_LeastLateness.mono _ _ _ _)
    | (with_reducible exact spec_P6Order.mono _ _ _)
    | (with_reducible exact spec_P6Pieces.mono _ _)
    | (with_reducible exact spec_SameNumbers.mono _ _ _)
    | (with_reducible exact LeO.refl _)
    | (with_reducible exact LeO.none _)
    | (with_reducible refine LeO.ite ?_ ?_)
    | (with_reducible refine LeO.bind ?_ (fun _ => ?_))
    | exact ih0 _ _ _
    | exact ih1 _ _ _ _ _ _ _ _ _ _
    | exact ih2 _ _ _ _ _ _ _ _ _ _
    | exact ih3 _ _ _ _ _ _ _
    | exact ih4 _ _ _ _ _ _ _ _ _ _ _
    | exact ih5 _ _ _ _ _ _ _ _ _ _ _ _
    | exact ih6 _ _
    | exact impl_DueOrder.mono _ _
    | exact impl_FewestLate.mono _ _ _ _
    | exact impl_LateIn.mono _ _ _ _ _
    | exact impl_LatenessOf.mono _ _ _ _ _
    | exact impl_LeastLateness.mono _ _ _ _
    | exact spec_DueOrder.mono _ _
    | exact spec_FewestLate.mono _ _ _ _
    | exact spec_FinishTimes.mono _ _ _ _ _
    | exact spec_HasNumber.mono _ _ _
    | exact spec_LateIn.mono _ _ _ _ _
    | exact spec_LeastLateness.mono _ _ _ _
    | exact spec_P6Order.mono _ _ _
    | exact spec_P6Pieces.mono _ _
    | exact spec_SameNumbers.mono _ _ _
    | exact LeO.none _
    | refine LeO.ite ?_ ?_
    | refine LeO.bind ?_ (fun _ => ?_)
  · intro y0 y1
    unfold laws_FnLate.l3
    repeat' first
    | (with_reducible exact ih0 _ _ _)
    | (with_reducible exact ih1 _ _ _ _ _ _ _ _ _ _)
    | (with_reducible exact ih2 _ _ _ _ _ _ _ _ _ _)
    | (with_reducible exact ih3 _ _ _ _ _ _ _)
    | (with_reducible exact ih4 _ _ _ _ _ _ _ _ _ _ _)
    | (with_reducible exact ih5 _ _ _ _ _ _ _ _ _ _ _ _)
    | (with_reducible exact ih6 _ _)
    | (with_reducible exact impl_DueOrder.mono _ _)
    | (with_reducible exact impl_FewestLate.mono _ _ _ _)
    | (with_reducible exact impl_LateIn.mono _ _ _ _ _)
    | (with_reducible exact impl_LatenessOf.mono _ _ _ _ _)
    | (with_reducible exact impl_LeastLateness.mono _ _ _ _)
    | (with_reducible exact spec_DueOrder.mono _ _)
    | (with_reducible exact spec_FewestLate.mono _ _ _ _)
    | (with_reducible exact spec_FinishTimes.mono _ _ _ _ _)
    | (with_reducible exact spec_HasNumber.mono _ _ _)
    | (with_reducible exact spec_LateIn.mono _ _ _ _ _)
    | (with_reducible exact spec_LeastLateness.mono _ _ _ _)
    | (with_reducible exact spec_P6Order.mono _ _ _)
    | (with_reducible exact spec_P6Pieces.mono _ _)
    | (with_reducible exact spec_SameNumbers.mono _ _ _)
    | (with_reducible exact LeO.refl _)
    | (with_reducible exact LeO.none _)
    | (with_reducible refine LeO.ite ?_ ?_)
    | (with_reducible refine LeO.bind ?_ (fun _ => ?_))
    | exact ih0 _ _ _
    | exact ih1 _ _ _ _ _ _ _ _ _ _
    | exact ih2 _ _ _ _ _ _ _ _ _ _
    | exact ih3 _ _ _ _ _ _ _
    | exact ih4 _ _ _ _ _ _ _ _ _ _ _
    | exact ih5 _ _ _ _ _ _ _ _ _ _ _ _
    | exact ih6 _ _
    | exact impl_DueOrder.mono _ _
    | exact impl_FewestLate.mono _ _ _ _
    | exact impl_LateIn.mono _ _ _ _ _
    | exact impl_LatenessOf.mono _ _ _ _ _
    | exact impl_LeastLateness.mono _ _ _ _
    | exact spec_DueOrder.mono _ _
    | exact spec_FewestLate.mono _ _ _ _
    | exact spec_FinishTimes.mono _ _ _ _ _
    | exact spec_HasNumber.mono _ _ _
    | exact spec_LateIn.mono _ _ _ _ _
    | exact spec_LeastLateness.mono _ _ _ _
    | exact spec_P6Order.mono _ _ _
    | exact spec_P6Pieces.mono _ _
    | exact spec_SameNumbers.mono _ _ _
    | exact LeO.none _
    | refine LeO.ite ?_ ?_
    | refine LeO.bind ?_ (fun _ => ?_)
theorem laws_FnLate.mono : ∀ a0 a1 k, LeO (laws_FnLate.f k a0 a1) (laws_FnLate.f (k + 1) a0 a1) := by
 intro a0 a1 k
 obtain ⟨ih0, ih1, ih2, ih3, ih4, ih5, ih6⟩ := laws_FnLate.mono_l k
 unfold laws_FnLate.f
 repeat' first
  | (with_reducible exact ih0 _ _ _)
  | (with_reducible exact ih1 _ _ _ _ _ _ _ _ _ _)
  | (with_reducible exact ih2 _ _ _ _ _ _ _ _ _ _)
  | (with_reducible exact ih3 _ _ _ _ _ _ _)
  | (with_reducible exact ih4 _ _ _ _ _ _ _ _ _ _ _)
  | (with_reducible exact ih5 _ _ _ _ _ _ _ _ _ _ _ _)
  | (with_reducible exact ih6 _ _)
  | (with_reducible exact impl_DueOrder.mono _ _)
  | (with_reducible exact impl_FewestLate.mono _ _ _ _)
  | (with_reducible exact impl_LateIn.mono _ _ _ _ _)
  | (with_reducible exact impl_LatenessOf.mono _ _ _ _ _)
  | (with_reducible exact impl_LeastLateness.mono _ _ _ _)
  | (with_reducible exact spec_DueOrder.mono _ _)
  | (with_reducible exact spec_FewestLate.mono _ _ _ _)
  | (with_reducible exact spec_FinishTimes.mono _ _ _ _ _)
  | (with_reducible exact spec_HasNumber.mono _ _ _)
  | (with_reducible exact spec_LateIn.mono _ _ _ _ _)
  | (with_reducible exact spec_LeastLateness.mono _ _ _ _)
  | (with_reducible exact spec_P6Order.mono _ _ _)
  | (with_reducible exact spec_P6Pieces.mono _ _)
  | (with_reducible exact spec_SameNumbers.mono _ _ _)
  | (with_reducible exact LeO.refl _)
  | (with_reducible exact LeO.none _)
  | (with_reducible refine LeO.ite ?_ ?_)
  | (with_reducible refine LeO.bind ?_ (fun _ => ?_))
  | exact ih0 _ _ _
  | exact ih1 _ _ _ _ _ _ _ _ _ _
  | exact ih2 _ _ _ _ _ _ _ _ _ _
  | exact ih3 _ _ _ _ _ _ _
  | exact ih4 _ _ _ _ _ _ _ _ _ _ _
  | exact ih5 _ _ _ _ _ _ _ _ _ _ _ _
  | exact ih6 _ _
  | exact impl_DueOrder.mono _ _
  | exact impl_FewestLate.mono _ _ _ _
  | exact impl_LateIn.mono _ _ _ _ _
  | exact impl_LatenessOf.mono _ _ _ _ _
  | exact impl_LeastLateness.mono _ _ _ _
  | exact spec_DueOrder.mono _ _
  | exact spec_FewestLate.mono _ _ _ _
  | exact spec_FinishTimes.mono _ _ _ _ _
  | exact spec_HasNumber.mono _ _ _
  | exact spec_LateIn.mono _ _ _ _ _
  | exact spec_LeastLateness.mono _ _ _ _
  | exact spec_P6Order.mono _ _ _
  | exact spec_P6Pieces.mono _ _
  | exact spec_SameNumbers.mono _ _ _
  | exact LeO.none _
  | refine LeO.ite ?_ ?_
  | refine LeO.bind ?_ (fun _ => ?_)
def laws_FnLate.T18 : Bool × List (List Nat × List Nat) := (true, [([], []), ([0], [0]), ([], []), ([2], [2]), ([1, 3], [1, 3]), ([4], [4]), ([5], [5]), ([6, 5], [5, 6]), ([5], [5]), ([8, 5], [5, 8]), ([7, 9, 5], [5, 7, 9]), ([10, 5, 5], [5, 10]), ([11], [11]), ([11], [11]), ([13, 11], [11, 13]), ([12, 14, 11], [11, 12, 14]), ([15, 11], [11, 15]), ([11], [11]), ([11], [11]), ([17, 18, 11], [11, 17, 18]), ([19, 11], [11, 19]), ([16, 20, 11], [11, 16, 20]), ([11, 21, 5], [5, 11, 21]), ([5, 22], [5, 22])])
def laws_FnLate.B18 : List Nat := [0, 1, 0, 4, 15, 31, 63, 127, 63, 319, 1023, 2047, 4095, 4095, 12287, 32767, 65535, 4095, 4095, 397311, 921599, 2097151, 4194303, 8388607]
theorem laws_FnLate.tab18 : rtab .any (opsOf Try.f18 18) = laws_FnLate.T18 := by kernel_rfl
theorem laws_FnLate.bits18 : waitsOk laws_FnLate.T18.2 laws_FnLate.B18 = true := by kernel_rfl
def laws_FnLate.T24 : Bool × List (List Nat × List Nat) := (true, [([], []), ([], []), ([], []), ([], []), ([2, 3], [2, 3]), ([4], [4]), ([0, 1, 5], [0, 1, 5]), ([6], [6]), ([7], [7]), ([7], [7]), ([8, 6, 0, 1, 2, 3, 4, 5, 6, 7, 8], [8]), ([9, 10, 0, 1, 2, 3, 4, 5, 6, 7, 8, 9, 10], [9])])
def laws_FnLate.B24 : List Nat := [0, 0, 0, 0, 12, 28, 63, 127, 255, 255, 511, 2047]
theorem laws_FnLate.tab24 : rtab .any (opsOf Try.f18 24) = laws_FnLate.T24 := by kernel_rfl
theorem laws_FnLate.bits24 : waitsOk laws_FnLate.T24.2 laws_FnLate.B24 = true := by kernel_rfl
def laws_FnLate.T25 : Bool × List (List Nat × List Nat) := (true, [([], []), ([], []), ([], []), ([], []), ([2, 3], [2, 3]), ([4], [4]), ([0, 1, 5], [0, 1, 5]), ([6], [6]), ([7], [7]), ([7], [7]), ([8, 6, 0, 1, 2, 3, 4, 5, 6, 7, 8], [8]), ([9, 10, 0, 1, 2, 3, 4, 5, 6, 7, 8, 9, 10], [9])])
def laws_FnLate.B25 : List Nat := [0, 0, 0, 0, 12, 28, 63, 127, 255, 255, 511, 2047]
theorem laws_FnLate.tab25 : rtab .any (opsOf Try.f18 25) = laws_FnLate.T25 := by kernel_rfl
theorem laws_FnLate.bits25 : waitsOk laws_FnLate.T25.2 laws_FnLate.B25 = true := by kernel_rfl
def laws_FnLate.T26 : Bool × List (List Nat × List Nat) := (true, [([], []), ([], []), ([], []), ([], []), ([2, 3], [2, 3]), ([4], [4]), ([0, 1, 5], [0, 1, 5]), ([6], [6]), ([7], [7]), ([7], [7]), ([8, 6, 0, 1, 2, 3, 4, 5, 6, 7, 8], [8]), ([9, 10, 0, 1, 2, 3, 4, 5, 6, 7, 8, 9, 10], [9])])
def laws_FnLate.B26 : List Nat := [0, 0, 0, 0, 12, 28, 63, 127, 255, 255, 511, 2047]
theorem laws_FnLate.tab26 : rtab .any (opsOf Try.f18 26) = laws_FnLate.T26 := by kernel_rfl
theorem laws_FnLate.bits26 : waitsOk laws_FnLate.T26.2 laws_FnLate.B26 = true := by kernel_rfl
def laws_FnLate.T27 : Bool × List (List Nat × List Nat) := (true, [([], []), ([], []), ([], []), ([], []), ([2, 3], [2, 3]), ([4], [4]), ([0, 1, 5], [0, 1, 5]), ([6], [6]), ([7], [7]), ([7], [7]), ([8, 6, 0, 1, 2, 3, 4, 5, 6, 7, 8], [8]), ([9, 10, 0, 1, 2, 3, 4, 5, 6, 7, 8, 9, 10], [9])])
def laws_FnLate.B27 : List Nat := [0, 0, 0, 0, 12, 28, 63, 127, 255, 255, 511, 2047]
theorem laws_FnLate.tab27 : rtab .any (opsOf Try.f18 27) = laws_FnLate.T27 := by kernel_rfl
theorem laws_FnLate.bits27 : waitsOk laws_FnLate.T27.2 laws_FnLate.B27 = true := by kernel_rfl
def laws_FnLate.T34 : Bool × List (List Nat × List Nat) := (true, [([], []), ([], []), ([0, 1], [0, 1]), ([2], [2]), ([], []), ([], []), ([], []), ([5, 6], [5, 6]), ([7], [7]), ([], []), ([8, 9], [8, 9]), ([10], [10]), ([4, 11], [4, 11]), ([12], [12]), ([13], [13]), ([14], [14]), ([3, 15], [3, 15]), ([16, 0, 1, 2, 3, 4, 5, 6, 7, 8, 9, 10, 11, 12, 13, 14, 15, 16], [16])])
def laws_FnLate.B34 : List Nat := [0, 0, 3, 7, 0, 0, 0, 96, 224, 0, 992, 2016, 4080, 8176, 16368, 32752, 65535, 131071]
theorem laws_FnLate.tab34 : rtab .any (opsOf Try.f18 34) = laws_FnLate.T34 := by kernel_rfl
theorem laws_FnLate.bits34 : waitsOk laws_FnLate.T34.2 laws_FnLate.B34 = true := by kernel_rfl
theorem laws_FnLate.j1_no {k : Nat} {a0 : List Int} {a1 : List (S57)} {a2 : List Int} {a3 : Int} {a4 : List Int} {a5 : Int} {a6 : List Int} {a8 : Int} {a9 : Int} (h : laws_FnLate.j1 k a0 a1 a2 a3 a4 a5 a6 true a8 a9 = some true) : False := by
 cases k with
 | zero => rw [laws_FnLate.j1] at h; cases h
 | succ k => rw [laws_FnLate.j1, if_pos rfl] at h; cases h
theorem laws_FnLate.j4_no {k : Nat} {a0 : List (S57)} {a1 : Int} {a2 : Int} {a3 : List (List Int)} {a4 : Int} {a5 : List Int} {a6 : Int} {a7 : List Int} {a9 : Int} {a10 : Int} (h : laws_FnLate.j4 k a0 a1 a2 a3 a4 a5 a6 a7 true a9 a10 = some true) : False := by
 cases k with
 | zero => rw [laws_FnLate.j4] at h; cases h
 | succ k => rw [laws_FnLate.j4, if_pos rfl] at h; cases h
def laws_FnLate.Pure : Prop := ∀ (l0 : List Int) (l1 : List Int), l0.length ≤ maxLen → l0.length * 1 ≤ 140737488351232 → (∀ x ∈ l0, (Lit.int .u8 x).wf = true) → l1.length ≤ maxLen → l1.length * 1 ≤ 140737488351232 → (∀ x ∈ l1, (Lit.int .u8 x).wf = true) → ∃ k, laws_FnLate.f k l0 l1 = some true
end Go.Proofs.Ythkccaclmodjiaa.I
