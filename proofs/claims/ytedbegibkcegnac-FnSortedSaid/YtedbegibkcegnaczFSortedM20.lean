import Derived.Test.YtedbegibkcegnaczFSortedM0
import Derived.Test.YtedbegibkcegnaczFSortedM1
import Derived.Test.YtedbegibkcegnaczFSortedM2
import Derived.Test.YtedbegibkcegnaczFSortedM3
import Derived.Test.YtedbegibkcegnaczFSortedM10
import Derived.Test.YtedbegibkcegnaczFSortedM11
import Derived.Test.YtedbegibkcegnaczFSortedEAreWithin
import Derived.Test.YtedbegibkcegnaczFSortedM13
import Derived.Test.YtedbegibkcegnaczFSortedM14
import Derived.Test.YtedbegibkcegnaczFSortedM15
import Derived.Test.YtedbegibkcegnaczFSortedM16
import Derived.Test.YtedbegibkcegnaczFSortedM17
import Derived.Test.YtedbegibkcegnaczFSortedM18
import Derived.Test.YtedbegibkcegnaczFSortedEShort
import Derived.Test.YtedbegibkcegnaczFSortedESortM
namespace Go.Proofs.Ytedbegibkcegnac.M
open Go.RowKit Go.Proofs.YtedbegibkcegnacW.PrintWords Go.Proofs.YtedbegibkcegnacW.PrintLast Go.Proofs.YtedbegibkcegnacW.PrintMore
attribute [local go_sem] max2_int min2_int max_two min_two max_three min_three max_four min_four   -- for this text's walks alone
set_option linter.unusedVariables false
set_option linter.unusedSimpArgs false
mutual
def laws_FnSorted.j0 : Nat → List Int → List Int → Int → List Int → List Int → List (List Int) → List Int → Bool → Option (Bool)
  | 0, _, _, _, _, _, _, _, _ => none
  | k + 1, x0, x1, x5, x6, x8, x12, x13, x110 => if x110 = true then (some false) else (laws_FnSorted.l0 k x0 x1 x5 x6 x8 x12 x13 (x13.length : Int) (([] : List Int)) (([] : List Int)) 0)
def laws_FnSorted.l0 : Nat → List Int → List Int → Int → List Int → List Int → List (List Int) → List Int → Int → List Int → List Int → Int → Option (Bool)
  | 0, _, _, _, _, _, _, _, _, _, _, _ => none
  | k + 1, x0, x1, x5, x6, x8, x12, x13, x15, x16, x17, x18 => if x18 < (x12.length : Int) then (if 0 ≤ x18 then ((laws_a2At.f x1 x18 4).bind fun t382 => (if x16.length < 17592186044416 then (if x17.length < 17592186044416 then (laws_FnSorted.l1 k x0 x1 x5 x6 x8 x12 x13 (wrap64 (x15 + ((rd_L6 x12 x18).length : Int))) (x16 ++ [t382]) (x17 ++ [((rd_L6 x12 x18).length : Int)]) x18 0) else (none)) else (none))) else (none)) else (laws_FnSorted.l2 k x0 x5 x6 x8 x13 x15 x16 x17 0)
def laws_FnSorted.l1 : Nat → List Int → List Int → Int → List Int → List Int → List (List Int) → List Int → Int → List Int → List Int → Int → Int → Option (Bool)
  | 0, _, _, _, _, _, _, _, _, _, _, _, _ => none
  | k + 1, x0, x1, x5, x6, x8, x12, x13, x15, x16, x17, x18, x19 => if 0 ≤ x18 then (if x18 < (x12.length : Int) then (if x19 < ((rd_L6 x12 x18).length : Int) then (if 0 ≤ x19 then (if 0 ≤ (rd (rd_L6 x12 x18) x19) then (if (rd (rd_L6 x12 x18) x19) < (x8.length : Int) then ((impl_ReadStitches.f k x5 x6 (rd x8 (rd (rd_L6 x12 x18) x19))).bind fun bt394 => (if bt394.2 = 0 then (if bt394.1 = x18 then (if x19 > 0 then (if 0 ≤ (wrap64 (x19 - 1)) then (if (wrap64 (x19 - 1)) < ((rd_L6 x12 x18).length : Int) then (if (rd (rd_L6 x12 x18) x19) ≤ (rd (rd_L6 x12 x18) (wrap64 (x19 - 1))) then (some false) else (laws_FnSorted.l1 k x0 x1 x5 x6 x8 x12 x13 x15 x16 x17 x18 (wrap64 (x19 + 1)))) else (none)) else (none)) else (laws_FnSorted.l1 k x0 x1 x5 x6 x8 x12 x13 x15 x16 x17 x18 (wrap64 (x19 + 1)))) else (some false)) else (some false))) else (none)) else (none)) else (none)) else (laws_FnSorted.l0 k x0 x1 x5 x6 x8 x12 x13 x15 x16 x17 (wrap64 (x18 + 1)))) else (none)) else (none)
def laws_FnSorted.l2 : Nat → List Int → Int → List Int → List Int → List Int → Int → List Int → List Int → Int → Option (Bool)
  | 0, _, _, _, _, _, _, _, _, _ => none
  | k + 1, x0, x5, x6, x8, x13, x15, x16, x17, x22 => if x22 < (x13.length : Int) then (if 0 ≤ x22 then (if 0 ≤ (rd x13 x22) then (if (rd x13 x22) < (x8.length : Int) then ((impl_ReadStitches.f k x5 x6 (rd x8 (rd x13 x22))).bind fun bt402 => (if bt402.2 = 6 then (laws_FnSorted.l2 k x0 x5 x6 x8 x13 x15 x16 x17 (wrap64 (x22 + 1))) else (some false))) else (none)) else (none)) else (none)) else ((impl_MissingBy.f k x16 x17).bind fun bt404 => ((spec_MissingBy.f k x16 x17).bind fun bt408 => (if x15 = (x8.length : Int) then (if bt404.2 = bt408.2 then (if bt404.2 = 0 then ((spec_A2Same.f k bt404.1 bt408.1).bind fun t412 => (if t412 = true then (laws_FnSorted.j4 k x0 x5 x6 x16 x17 bt408.1 ((bt408.1.length : Int) != (x6.length : Int))) else (laws_FnSorted.j4 k x0 x5 x6 x16 x17 bt408.1 true))) else (laws_FnSorted.j4 k x0 x5 x6 x16 x17 bt408.1 true)) else (laws_FnSorted.j4 k x0 x5 x6 x16 x17 bt408.1 true)) else (laws_FnSorted.j4 k x0 x5 x6 x16 x17 bt408.1 true))))
def laws_FnSorted.j4 : Nat → List Int → Int → List Int → List Int → List Int → List Int → Bool → Option (Bool)
  | 0, _, _, _, _, _, _, _ => none
  | k + 1, x0, x5, x6, x16, x17, x27, x254 => if x254 = true then (some false) else (laws_FnSorted.l3 k x0 x5 x6 x16 x17 x27 0)
def laws_FnSorted.l3 : Nat → List Int → Int → List Int → List Int → List Int → List Int → Int → Option (Bool)
  | 0, _, _, _, _, _, _, _ => none
  | k + 1, x0, x5, x6, x16, x17, x27, x29 => if x29 < (x27.length : Int) then (if 0 ≤ x29 then (if x29 < (x16.length : Int) then (if x29 < (x17.length : Int) then (if (rd x27 x29) = (mx 0 (wrap64 ((rd x16 x29) - (rd x17 x29)))) then (laws_FnSorted.l3 k x0 x5 x6 x16 x17 x27 (wrap64 (x29 + 1))) else (some false)) else (none)) else (none)) else (none)) else ((spec_A2Mark.f x0 x5).bind fun t416 => ((impl_LikelyLost.f k x5 x6 t416).bind fun bt417 => ((spec_LikelyLost.f k x5 x6 t416).bind fun bt421 => (if bt417.2 = bt421.2 then (if bt417.2 = 0 then ((spec_A2Same.f k bt417.1 bt421.1).bind fun t425 => (laws_FnSorted.j6 k x5 x6 t416 bt421.1 (!t425))) else (laws_FnSorted.j6 k x5 x6 t416 bt421.1 true)) else (laws_FnSorted.j6 k x5 x6 t416 bt421.1 true)))))
def laws_FnSorted.j6 : Nat → Int → List Int → Int → List Int → Bool → Option (Bool)
  | 0, _, _, _, _, _ => none
  | k + 1, x5, x6, x30, x33, x305 => if x305 = true then (some false) else (laws_FnSorted.l4 k x5 x6 x30 x33 99 0)
def laws_FnSorted.l4 : Nat → Int → List Int → Int → List Int → Int → Int → Option (Bool)
  | 0, _, _, _, _, _, _ => none
  | k + 1, x5, x6, x30, x33, x35, x36 => if x36 < (x6.length : Int) then (if 0 ≤ x36 then (if (Go.bits .andNot .u16 x30 (rd x6 x36)) = 0 then ((impl_StitchesIn.f (rd x6 x36)).bind fun t428 => ((impl_StitchesIn.f x30).bind fun t429 => (laws_FnSorted.l4 k x5 x6 x30 x33 (mn x35 (wrap64 (t428 - t429))) (wrap64 (x36 + 1))))) else (laws_FnSorted.l4 k x5 x6 x30 x33 x35 (wrap64 (x36 + 1)))) else (none)) else (laws_FnSorted.l5 k x5 x6 x30 x33 x35 0)
def laws_FnSorted.l5 : Nat → Int → List Int → Int → List Int → Int → Int → Option (Bool)
  | 0, _, _, _, _, _, _ => none
  | k + 1, x5, x6, x30, x33, x35, x37 => if x37 < (x6.length : Int) then (if 0 ≤ x37 then (if (Go.bits .andNot .u16 x30 (rd x6 x37)) = 0 then ((impl_StitchesIn.f (rd x6 x37)).bind fun t436 => ((impl_StitchesIn.f x30).bind fun t437 => ((spec_A2Has.f k x33 x37).bind fun t438 => (if (t438 != ((wrap64 (t436 - t437)) == x35)) = true then (some false) else (laws_FnSorted.l5 k x5 x6 x30 x33 x35 (wrap64 (x37 + 1))))))) else ((spec_A2Has.f k x33 x37).bind fun t439 => (if (t439 != false) = true then (some false) else (laws_FnSorted.l5 k x5 x6 x30 x33 x35 (wrap64 (x37 + 1)))))) else (none)) else ((impl_LeastApart.f k x5 x6).bind fun bt430 => ((spec_LeastApart.f k x5 x6).bind fun bt432 => (if bt430.2 = bt432.2 then (if bt430.1 = bt432.1 then (if ((bt430.2 == 0) == (decide ((x6.length : Int) > 1))) = true then (if bt430.2 = 0 then (some (decide (bt432.1 ≥ 2))) else (some true)) else (some false)) else (some false)) else (some false))))
end
def laws_FnSorted.f (k : Nat) (l0 : List Int) (l1 : List Int) : Option (Bool) := (laws_a2Long.f l0 l1).bind fun t349 => (if t349 = true then (some true) else ((laws_a2At.f l0 0 5).bind fun t350 => ((laws_a2At.f l0 1 8).bind fun t351 => ((spec_GreedyMarks.f k (wrap64 (3 + t350)) (wrap64 (1 + t351))).bind fun bt352 => ((spec_A2Marks.f k l1 (wrap64 (3 + t350))).bind fun t356 => ((impl_SortByMarks.f k (wrap64 (3 + t350)) bt352.1 t356).bind fun bt359 => ((spec_SortByMarks.f k (wrap64 (3 + t350)) bt352.1 t356).bind fun bt366 => (if bt352.2 = 0 then (if bt359.2.2 = bt366.2.2 then (if bt359.2.2 = 0 then ((spec_A2SameLists.f k bt359.1 bt366.1).bind fun t373 => (if t373 = true then (if (bt366.1.length : Int) = (bt352.1.length : Int) then ((spec_A2Same.f k bt359.2.1 bt366.2.1).bind fun t374 => (if t374 = true then (laws_FnSorted.j0 k l0 l1 (wrap64 (3 + t350)) bt352.1 t356 bt366.1 bt366.2.1 (decide ((bt352.1.length : Int) < 1))) else (laws_FnSorted.j0 k l0 l1 (wrap64 (3 + t350)) bt352.1 t356 bt366.1 bt366.2.1 true))) else (laws_FnSorted.j0 k l0 l1 (wrap64 (3 + t350)) bt352.1 t356 bt366.1 bt366.2.1 true)) else (laws_FnSorted.j0 k l0 l1 (wrap64 (3 + t350)) bt352.1 t356 bt366.1 bt366.2.1 true))) else (laws_FnSorted.j0 k l0 l1 (wrap64 (3 + t350)) bt352.1 t356 bt366.1 bt366.2.1 true)) else (laws_FnSorted.j0 k l0 l1 (wrap64 (3 + t350)) bt352.1 t356 bt366.1 bt366.2.1 true)) else (laws_FnSorted.j0 k l0 l1 (wrap64 (3 + t350)) bt352.1 t356 bt366.1 bt366.2.1 true)))))))))
theorem laws_FnSorted.mono_l : ∀ k, (∀ y0 y1 y2 y3 y4 y5 y6 y7, LeO (laws_FnSorted.j0 k y0 y1 y2 y3 y4 y5 y6 y7) (laws_FnSorted.j0 (k + 1) y0 y1 y2 y3 y4 y5 y6 y7)) ∧ (∀ y0 y1 y2 y3 y4 y5 y6 y7 y8 y9 y10, LeO (laws_FnSorted.l0 k y0 y1 y2 y3 y4 y5 y6 y7 y8 y9 y10) (laws_FnSorted.l0 (k + 1) y0 y1 y2 y3 y4 y5 y6 y7 y8 y9 y10)) ∧ (∀ y0 y1 y2 y3 y4 y5 y6 y7 y8 y9 y10 y11, LeO (laws_FnSorted.l1 k y0 y1 y2 y3 y4 y5 y6 y7 y8 y9 y10 y11) (laws_FnSorted.l1 (k + 1) y0 y1 y2 y3 y4 y5 y6 y7 y8 y9 y10 y11)) ∧ (∀ y0 y1 y2 y3 y4 y5 y6 y7 y8, LeO (laws_FnSorted.l2 k y0 y1 y2 y3 y4 y5 y6 y7 y8) (laws_FnSorted.l2 (k + 1) y0 y1 y2 y3 y4 y5 y6 y7 y8)) ∧ (∀ y0 y1 y2 y3 y4 y5 y6, LeO (laws_FnSorted.j4 k y0 y1 y2 y3 y4 y5 y6) (laws_FnSorted.j4 (k + 1) y0 y1 y2 y3 y4 y5 y6)) ∧ (∀ y0 y1 y2 y3 y4 y5 y6, LeO (laws_FnSorted.l3 k y0 y1 y2 y3 y4 y5 y6) (laws_FnSorted.l3 (k + 1) y0 y1 y2 y3 y4 y5 y6)) ∧ (∀ y0 y1 y2 y3 y4, LeO (laws_FnSorted.j6 k y0 y1 y2 y3 y4) (laws_FnSorted.j6 (k + 1) y0 y1 y2 y3 y4)) ∧ (∀ y0 y1 y2 y3 y4 y5, LeO (laws_FnSorted.l4 k y0 y1 y2 y3 y4 y5) (laws_FnSorted.l4 (k + 1) y0 y1 y2 y3 y4 y5)) ∧ (∀ y0 y1 y2 y3 y4 y5, LeO (laws_FnSorted.l5 k y0 y1 y2 y3 y4 y5) (laws_FnSorted.l5 (k + 1) y0 y1 y2 y3 y4 y5))
  | 0 => ⟨fun _ _ _ _ _ _ _ _ r h => by simp [laws_FnSorted.j0] at h, fun _ _ _ _ _ _ _ _ _ _ _ r h => by simp [laws_FnSorted.l0] at h, fun _ _ _ _ _ _ _ _ _ _ _ _ r h => by simp [laws_FnSorted.l1] at h, fun _ _ _ _ _ _ _ _ _ r h => by simp [laws_FnSorted.l2] at h, fun _ _ _ _ _ _ _ r h => by simp [laws_FnSorted.j4] at h, fun _ _ _ _ _ _ _ r h => by simp [laws_FnSorted.l3] at h, fun _ _ _ _ _ r h => by simp [laws_FnSorted.j6] at h, fun _ _ _ _ _ _ r h => by simp [laws_FnSorted.l4] at h, fun _ _ _ _ _ _ r h => by simp [laws_FnSorted.l5] at h⟩
  | k + 1 => by
    obtain ⟨ih0, ih1, ih2, ih3, ih4, ih5, ih6, ih7, ih8⟩ := laws_FnSorted.mono_l k
    refine ⟨?_, ?_, ?_, ?_, ?_, ?_, ?_, ?_, ?_⟩
    · intro y0 y1 y2 y3 y4 y5 y6 y7
      unfold laws_FnSorted.j0
      repeat' first
      | (with_reducible exact ih0 _ _ _ _ _ _ _ _)
      | (with_reducible exact ih1 _ _ _ _ _ _ _ _ _ _ _)
      | (with_reducible exact ih2 _ _ _ _ _ _ _ _ _ _ _ _)
      | (with_reducible exact ih3 _ _ _ _ _ _ _ _ _)
      | (with_reducible exact ih4 _ _ _ _ _ _ _)
      | (with_reducible exact ih5 _ _ _ _ _ _ _)
      | (with_reducible exact ih6 _ _ _ _ _)
      | (with_reducible exact ih7 _ _ _ _ _ _)
      | (with_reducible exact ih8 _ _ _ _ _ _)
      | (with_reducible exact impl_LeastApart.mono _ _ _)
      | (with_reducible exact impl_LikelyLost.mono _ _ _ _)
      | (with_reducible exact impl_MissingBy.mono _ _ _)
      | (with_reducible exact impl_ReadStitches.mono _ _ _ _)
      | (with_reducible exact impl_SortByMarks.mono _ _ _ _)
      | (with_reducible exact spec_A2Has.mono _ _ _)
      | (with_reducible exact spec_A2Marks.mono _ _ _)
      | (with_reducible exact spec_A2Same.mono _ _ _)
      | (with_reducible exact spec_A2SameLists.mono _ _ _)
      | (with_reducible exact spec_GreedyMarks.mono _ _ _)
      | (with_reducible exact spec_LeastApart.mono _ _ _)
      | (with_reducible exact spec_LikelyLost.mono _ _ _ _)
      | (with_reducible exact spec_MissingBy.mono _ _ _)
      | (with_reducible exact spec_SortByMarks.mono _ _ _ _)
      | (with_reducible exact LeO.refl _)
      | (with_reducible exact LeO.none _)
      | (with_reducible refine LeO.ite ?_ ?_)
      | (with_reducible refine LeO.bind ?_ (fun _ => ?_))
      | exact ih0 _ _ _ _ _ _ _ _
      | exact ih1 _ _ _ _ _ _ _ _ _ _ _
      | exact ih2 _ _ _ _ _ _ _ _ _ _ _ _
      | exact ih3 _ _ _ _ _ _ _ _ _
      | exact ih4 _ _ _ _ _ _ _
      | exact ih5 _ _ _ _ _ _ _
      | exact ih6 _ _ _ _ _
      | exact ih7 _ _ _ _ _ _
      | exact ih8 _ _ _ _ _ _
      | exact impl_LeastApart.mono _ _ _
      | exact impl_LikelyLost.mono _ _ _ _
      | exact impl_MissingBy.mono _ _ _
      | exact impl_ReadStitches.mono _ _ _ _
      | exact impl_SortByMarks.mono _ _ _ _
      | exact spec_A2Has.mono _ _ _
      | exact spec_A2Marks.mono _ _ _
      | exact spec_A2Same.mono _ _ _
      | exact spec_A2SameLists.mono _ _ _
      | exact spec_GreedyMarks.mono _ _ _
      | exact spec_LeastApart.mono _ _ _
      | exact spec_LikelyLost.mono _ _ _ _
      | exact spec_MissingBy.mono _ _ _
      | exact spec_SortByMarks.mono _ _ _ _
      | exact LeO.none _
      | refine LeO.ite ?_ ?_
      | refine LeO.bind ?_ (fun _ => ?_)
    · intro y0 y1 y2 y3 y4 y5 y6 y7 y8 y9 y10
      unfold laws_FnSorted.l0
      repeat' first
      | (with_reducible exact ih0 _ _ _ _ _ _ _ _)
      | (with_reducible exact ih1 _ _ _ _ _ _ _ _ _ _ _)
      | (with_reducible exact ih2 _ _ _ _ _ _ _ _ _ _ _ _)
      | (with_reducible exact ih3 _ _ _ _ _ _ _ _ _)
      | (with_reducible exact ih4 _ _ _ _ _ _ _)
      | (with_reducible exact ih5 _ _ _ _ _ _ _)
      | (with_reducible exact ih6 _ _ _ _ _)
      | (with_reducible exact ih7 _ _ _ _ _ _)
      | (with_reducible exact ih8 _ _ _ _ _ _)
      | (with_reducible exact impl_LeastApart.mono _ _ _)
      | (with_reducible exact impl_LikelyLost.mono _ _ _ _)
      | (with_reducible exact impl_MissingBy.mono _ _ _)
      | (with_reducible exact impl_ReadStitches.mono _ _ _ _)
      | (with_reducible exact impl_SortByMarks.mono _ _ _ _)
      | (with_reducible exact spec_A2Has.mono _ _ _)
      | (with_reducible exact spec_A2Marks.mono _ _ _)
      | (with_reducible exact spec_A2Same.mono _ _ _)
      | (with_reducible exact spec_A2SameLists.mono _ _ _)
      | (with_reducible exact spec_GreedyMarks.mono _ _ _)
      | (with_reducible exact spec_LeastApart.mono _ _ _)
      | (with_reducible exact spec_LikelyLost.mono _ _ _ _)
      | (with_reducible exact spec_MissingBy.mono _ _ _)
      | (with_reducible exact spec_SortByMarks.mono _ _ _ _)
      | (with_reducible exact LeO.refl _)
      | (with_reducible exact LeO.none _)
      | (with_reducible refine LeO.ite ?_ ?_)
      | (with_reducible refine LeO.bind ?_ (fun _ => ?_))
      | exact ih0 _ _ _ _ _ _ _ _
      | exact ih1 _ _ _ _ _ _ _ _ _ _ _
      | exact ih2 _ _ _ _ _ _ _ _ _ _ _ _
      | exact ih3 _ _ _ _ _ _ _ _ _
      | exact ih4 _ _ _ _ _ _ _
      | exact ih5 _ _ _ _ _ _ _
      | exact ih6 _ _ _ _ _
      | exact ih7 _ _ _ _ _ _
      | exact ih8 _ _ _ _ _ _
      | exact impl_LeastApart.mono _ _ _
      | exact impl_LikelyLost.mono _ _ _ _
      | exact impl_MissingBy.mono _ _ _
      | exact impl_ReadStitches.mono _ _ _ _
      | exact impl_SortByMarks.mono _ _ _ _
      | exact spec_A2Has.mono _ _ _
      | exact spec_A2Marks.mono _ _ _
      | exact spec_A2Same.mono _ _ _
      | exact spec_A2SameLists.mono _ _ _
      | exact spec_GreedyMarks.mono _ _ _
      | exact spec_LeastApart.mono _ _ _
      | exact spec_LikelyLost.mono _ _ _ _
      | exact spec_MissingBy.mono _ _ _
      | exact spec_SortByMarks.mono _ _ _ _
      | exact LeO.none _
      | refine LeO.ite ?_ ?_
      | refine LeO.bind ?_ (fun _ => ?_)
    · intro y0 y1 y2 y3 y4 y5 y6 y7 y8 y9 y10 y11
      unfold laws_FnSorted.l1
      repeat' first
      | (with_reducible exact ih0 _ _ _ _ _ _ _ _)
      | (with_reducible exact ih1 _ _ _ _ _ _ _ _ _ _ _)
      | (with_reducible exact ih2 _ _ _ _ _ _ _ _ _ _ _ _)
      | (with_reducible exact ih3 _ _ _ _ _ _ _ _ _)
      | (with_reducible exact ih4 _ _ _ _ _ _ _)
      | (with_reducible exact ih5 _ _ _ _ _ _ _)
      | (with_reducible exact ih6 _ _ _ _ _)
      | (with_reducible exact ih7 _ _ _ _ _ _)
      | (with_reducible exact ih8 _ _ _ _ _ _)
      | (with_reducible exact impl_LeastApart.mono _ _ _)
      | (with_reducible exact impl_LikelyLost.mono _ _ _ _)
      | (with_reducible exact impl_MissingBy.mono _ _ _)
      | (with_reducible exact impl_ReadStitches.mono _ _ _ _)
      | (with_reducible exact impl_SortByMarks.mono _ _ _ _)
      | (with_reducible exact spec_A2Has.mono _ _ _)
      | (with_reducible exact spec_A2Marks.mono _ _ _)
      | (with_reducible exact spec_A2Same.mono _ _ _)
      | (with_reducible exact spec_A2SameLists.mono _ _ _)
      | (with_reducible exact spec_GreedyMarks.mono _ _ _)
      | (with_reducible exact spec_LeastApart.mono _ _ _)
      | (with_reducible exact spec_LikelyLost.mono _ _ _ _)
      | (with_reducible exact spec_MissingBy.mono _ _ _)
      | (with_reducible exact spec_SortByMarks.mono _ _ _ _)
      | (with_reducible exact LeO.refl _)
      | (with_reducible exact LeO.none _)
      | (with_reducible refine LeO.ite ?_ ?_)
      | (with_reducible refine LeO.bind ?_ (fun _ => ?_))
      | exact ih0 _ _ _ _ _ _ _ _
      | exact ih1 _ _ _ _ _ _ _ _ _ _ _
      | exact ih2 _ _ _ _ _ _ _ _ _ _ _ _
      | exact ih3 _ _ _ _ _ _ _ _ _
      | exact ih4 _ _ _ _ _ _ _
      | exact ih5 _ _ _ _ _ _ _
      | exact ih6 _ _ _ _ _
      | exact ih7 _ _ _ _ _ _
      | exact ih8 _ _ _ _ _ _
      | exact impl_LeastApart.mono _ _ _
      | exact impl_LikelyLost.mono _ _ _ _
      | exact impl_MissingBy.mono _ _ _
      | exact impl_ReadStitches.mono _ _ _ _
      | exact impl_SortByMarks.mono _ _ _ _
      | exact spec_A2Has.mono _ _ _
      | exact spec_A2Marks.mono _ _ _
      | exact spec_A2Same.mono _ _ _
      | exact spec_A2SameLists.mono _ _ _
      | exact spec_GreedyMarks.mono _ _ _
      | exact spec_LeastApart.mono _ _ _
      | exact spec_LikelyLost.mono _ _ _ _
      | exact spec_MissingBy.mono _ _ _
      | exact spec_SortByMarks.mono _ _ _ _
      | exact LeO.none _
      | refine LeO.ite ?_ ?_
      | refine LeO.bind ?_ (fun _ => ?_)
    · intro y0 y1 y2 y3 y4 y5 y6 y7 y8
      unfold laws_FnSorted.l2
      repeat' first
      | (with_reducible exact ih0 _ _ _ _ _ _ _ _)
      | (with_reducible exact ih1 _ _ _ _ _ _ _ _ _ _ _)
      | (with_reducible exact ih2 _ _ _ _ _ _ _ _ _ _ _ _)
      | (with_reducible exact ih3 _ _ _ _ _ _ _ _ _)
      | (with_reducible exact ih4 _ _ _ _ _ _ _)
      | (with_reducible exact ih5 _ _ _ _ _ _ _)
      | (with_reducible exact ih6 _ _ _ _ _)
      | (with_reducible exact ih7 _ _ _ _ _ _)
      | (with_reducible exact ih8 _ _ _ _ _ _)
      | (with_reducible exact impl_LeastApart.mono _ _ _)
      | (with_reducible exact impl_LikelyLost.mono _ _ _ _)
      | (with_reducible exact impl_MissingBy.mono _ _ _)
      | (with_reducible exact impl_ReadStitches.mono _ _ _ _)
      | (with_reducible exact impl_SortByMarks.mono _ _ _ _)
      | (with_reducible exact spec_A2Has.mono _ _ _)
      | (with_reducible exact spec_A2Marks.mono _ _ _)
      | (with_reducible exact spec_A2Same.mono _ _ _)
      | (with_reducible exact spec_A2SameLists.mono _ _ _)
      | (with_reducible exact spec_GreedyMarks.mono _ _ _)
      | (with_reducible exact spec_LeastApart.mono _ _ _)
      | (with_reducible exact spec_LikelyLost.mono _ _ _ _)
      | (with_reducible exact spec_MissingBy.mono _ _ _)
      | (with_reducible exact spec_SortByMarks.mono _ _ _ _)
      | (with_reducible exact LeO.refl _)
      | (with_reducible exact LeO.none _)
      | (with_reducible refine LeO.ite ?_ ?_)
      | (with_reducible refine LeO.bind ?_ (fun _ => ?_))
      | exact ih0 _ _ _ _ _ _ _ _
      | exact ih1 _ _ _ _ _ _ _ _ _ _ _
      | exact ih2 _ _ _ _ _ _ _ _ _ _ _ _
      | exact ih3 _ _ _ _ _ _ _ _ _
      | exact ih4 _ _ _ _ _ _ _
      | exact ih5 _ _ _ _ _ _ _
      | exact ih6 _ _ _ _ _
      | exact ih7 _ _ _ _ _ _
      | exact ih8 _ _ _ _ _ _
      | exact impl_LeastApart.mono _ _ _
      | exact impl_LikelyLost.mono _ _ _ _
      | exact impl_MissingBy.mono _ _ _
      | exact impl_ReadStitches.mono _ _ _ _
      | exact impl_SortByMarks.mono _ _ _ _
      | exact spec_A2Has.mono _ _ _
      | exact spec_A2Marks.mono _ _ _
      | exact spec_A2Same.mono _ _ _
      | exact spec_A2SameLists.mono _ _ _
      | exact spec_GreedyMarks.mono _ _ _
      | exact spec_LeastApart.mono _ _ _
      | exact spec_LikelyLost.mono _ _ _ _
      | exact spec_MissingBy.mono _ _ _
      | exact spec_SortByMarks.mono _ _ _ _
      | exact LeO.none _
      | refine LeO.ite ?_ ?_
      | refine LeO.bind ?_ (fun _ => ?_)
    · intro y0 y1 y2 y3 y4 y5 y6
      unfold laws_FnSorted.j4
      repeat' first
      | (with_reducible exact ih0 _ _ _ _ _ _ _ _)
      | (with_reducible exact ih1 _ _ _ _ _ _ _ _ _ _ _)
      | (with_reducible exact ih2 _ _ _ _ _ _ _ _ _ _ _ _)
      | (with_reducible exact ih3 _ _ _ _ _ _ _ _ _)
      | (with_reducible exact ih4 _ _ _ _ _ _ _)
      | (with_reducible exact ih5 _ _ _ _ _ _ _)
      | (with_reducible exact ih6 _ _ _ _ _)
      | (with_reducible exact ih7 _ _ _ _ _ _)
      | (with_reducible exact ih8 _ _ _ _ _ _)
      | (with_reducible exact impl_LeastApart.mono _ _ _)
      | (with_reducible exact impl_LikelyLost.mono _ _ _ _)
      | (with_reducible exact impl_MissingBy.mono _ _ _)
      | (with_reducible exact impl_ReadStitches.mono _ _ _ _)
      | (with_reducible exact impl_SortByMarks.mono _ _ _ _)
      | (with_reducible exact spec_A2Has.mono _ _ _)
      | (with_reducible exact spec_A2Marks.mono _ _ _)
      | (with_reducible exact spec_A2Same.mono _ _ _)
      | (with_reducible exact spec_A2SameLists.mono _ _ _)
      | (with_reducible exact spec_GreedyMarks.mono _ _ _)
      | (with_reducible exact spec_LeastApart.mono _ _ _)
      | (with_reducible exact spec_LikelyLost.mono _ _ _ _)
      | (with_reducible exact spec_MissingBy.mono _ _ _)
      | (with_reducible exact spec_SortByMarks.mono _ _ _ _)
      | (with_reducible exact LeO.refl _)
      | (with_reducible exact LeO.none _)
      | (with_reducible refine LeO.ite ?_ ?_)
      | (with_reducible refine LeO.bind ?_ (fun _ => ?_))
      | exact ih0 _ _ _ _ _ _ _ _
      | exact ih1 _ _ _ _ _ _ _ _ _ _ _
      | exact ih2 _ _ _ _ _ _ _ _ _ _ _ _
      | exact ih3 _ _ _ _ _ _ _ _ _
      | exact ih4 _ _ _ _ _ _ _
      | exact ih5 _ _ _ _ _ _ _
      | exact ih6 _ _ _ _ _
      | exact ih7 _ _ _ _ _ _
      | exact ih8 _ _ _ _ _ _
      | exact impl_LeastApart.mono _ _ _
      | exact impl_LikelyLost.mono _ _ _ _
      | exact impl_MissingBy.mono _ _ _
      | exact impl_ReadStitches.mono _ _ _ _
      | exact impl_SortByMarks.mono _ _ _ _
      | exact spec_A2Has.mono _ _ _
      | exact spec_A2Marks.mono _ _ _
      | exact spec_A2Same.mono _ _ _
      | exact spec_A2SameLists.mono _ _ _
      | exact spec_GreedyMarks.mono _ _ _
      | exact spec_LeastApart.mono _ _ _
      | exact spec_LikelyLost.mono _ _ _ _
      | exact spec_MissingBy.mono _ _ _
      | exact spec_SortByMarks.mono _ _ _ _
      | exact LeO.none _
      | refine LeO.ite ?_ ?_
      | refine LeO.bind ?_ (fun _ => ?_)
    · intro y0 y1 y2 y3 y4 y5 y6
      unfold laws_FnSorted.l3
      repeat' first
      | (with_reducible exact ih0 _ _ _ _ _ _ _ _)
      | (with_reducible exact ih1 _ _ _ _ _ _ _ _ _ _ _)
      | (with_reducible exact ih2 _ _ _ _ _ _ _ _ _ _ _ _)
      | (with_reducible exact ih3 _ _ _ _ _ _ _ _ _)
      | (with_reducible exact ih4 _ _ _ _ _ _ _)
      | (with_reducible exact ih5 _ _ _ _ _ _ _)
      | (with_reducible exact ih6 _ _ _ _ _)
      | (with_reducible exact ih7 _ _ _ _ _ _)
      | (with_reducible exact ih8 _ _ _ _ _ _)
      | (with_reducible exact impl_LeastApart.mono _ _ _)
      | (with_reducible exact impl_LikelyLost.mono _ _ _ _)
      | (with_reducible exact impl_MissingBy.mono _ _ _)
      | (with_reducible exact impl_ReadStitches.mono _ _ _ _)
      | (with_reducible exact impl_SortByMarks.mono _ _ _ _)
      | (with_reducible exact spec_A2Has.mono _ _ _)
      | (with_reducible exact spec_A2Marks.mono _ _ _)
      | (with_reducible exact spec_A2Same.mono _ _ _)
      | (with_reducible exact spec_A2SameLists.mono _ _ _)
      | (with_reducible exact spec_GreedyMarks.mono _ _ _)
      | (with_reducible exact spec_LeastApart.mono _ _ _)
      | (with_reducible exact spec_LikelyLost.mono _ _ _ _)
      | (with_reducible exact spec_MissingBy.mono _ _ _)
      | (with_reducible exact spec_SortByMarks.mono _ _ _ _)
      | (with_reducible exact LeO.refl _)
      | (with_reducible exact LeO.none _)
      | (with_reducible refine LeO.ite ?_ ?_)
      | (with_reducible refine LeO.bind ?_ (fun _ => ?_))
      | exact ih0 _ _ _ _ _ _ _ _
      | exact ih1 _ _ _ _ _ _ _ _ _ _ _
      | exact ih2 _ _ _ _ _ _ _ _ _ _ _ _
      | exact ih3 _ _ _ _ _ _ _ _ _
      | exact ih4 _ _ _ _ _ _ _
      | exact ih5 _ _ _ _ _ _ _
      | exact ih6 _ _ _ _ _
      | exact ih7 _ _ _ _ _ _
      | exact ih8 _ _ _ _ _ _
      | exact impl_LeastApart.mono _ _ _
      | exact impl_LikelyLost.mono _ _ _ _
      | exact impl_MissingBy.mono _ _ _
      | exact impl_ReadStitches.mono _ _ _ _
      | exact impl_SortByMarks.mono _ _ _ _
      | exact spec_A2Has.mono _ _ _
      | exact spec_A2Marks.mono _ _ _
      | exact spec_A2Same.mono _ _ _
      | exact spec_A2SameLists.mono _ _ _
      | exact spec_GreedyMarks.mono _ _ _
      | exact spec_LeastApart.mono _ _ _
      | exact spec_LikelyLost.mono _ _ _ _
      | exact spec_MissingBy.mono _ _ _
      | exact spec_SortByMarks.mono _ _ _ _
      | exact LeO.none _
      | refine LeO.ite ?_ ?_
      | refine LeO.bind ?_ (fun _ => ?_)
    · intro y0 y1 y2 y3 y4
      unfold laws_FnSorted.j6
      repeat' first
      | (with_reducible exact ih0 _ _ _ _ _ _ _ _)
      | (with_reducible exact ih1 _ _ _ _ _ _ _ _ _ _ _)
      | (with_reducible exact ih2 _ _ _ _ _ _ _ _ _ _ _ _)
      | (with_reducible exact ih3 _ _ _ _ _ _ _ _ _)
      | (with_reducible exact ih4 _ _ _ _ _ _ _)
      | (with_reducible exact ih5 _ _ _ _ _ _ _)
      | (with_reducible exact ih6 _ _ _ _ _)
      | (with_reducible exact ih7 _ _ _ _ _ _)
      | (with_reducible exact ih8 _ _ _ _ _ _)
      | (with_reducible exact impl_LeastApart.mono _ _ _)
      | (with_reducible exact impl_LikelyLost.mono _ _ _ _)
      | (with_reducible exact impl_MissingBy.mono _ _ _)
      | (with_reducible exact impl_ReadStitches.mono _ _ _ _)
      | (with_reducible exact impl_SortByMarks.mono _ _ _ _)
      | (with_reducible exact spec_A2Has.mono _ _ _)
      | (with_reducible exact spec_A2Marks.mono _ _ _)
      | (with_reducible exact spec_A2Same.mono _ _ _)
      | (with_reducible exact spec_A2SameLists.mono _ _ _)
      | (with_reducible exact spec_GreedyMarks.mono _ _ _)
      | (with_reducible exact spec_LeastApart.mono _ _ _)
      | (with_reducible exact spec_LikelyLost.mono _ _ _ _)
      | (with_reducible exact spec_MissingBy.mono _ _ _)
      | (with_reducible exact spec_SortByMarks.mono _ _ _ _)
      | (with_reducible exact LeO.refl _)
      | (with_reducible exact LeO.none _)
      | (with_reducible refine LeO.ite ?_ ?_)
      | (with_reducible refine LeO.bind ?_ (fun _ => ?_))
      | exact ih0 _ _ _ _ _ _ _ _
      | exact ih1 _ _ _ _ _ _ _ _ _ _ _
      | exact ih2 _ _ _ _ _ _ _ _ _ _ _ _
      | exact ih3 _ _ _ _ _ _ _ _ _
      | exact ih4 _ _ _ _ _ _ _
      | exact ih5 _ _ _ _ _ _ _
      | exact ih6 _ _ _ _ _
      | exact ih7 _ _ _ _ _ _
      | exact ih8 _ _ _ _ _ _
      | exact impl_LeastApart.mono _ _ _
      | exact impl_LikelyLost.mono _ _ _ _
      | exact impl_MissingBy.mono _ _ _
      | exact impl_ReadStitches.mono _ _ _ _
      | exact impl_SortByMarks.mono _ _ _ _
      | exact spec_A2Has.mono _ _ _
      | exact spec_A2Marks.mono _ _ _
      | exact spec_A2Same.mono _ _ _
      | exact spec_A2SameLists.mono _ _ _
      | exact spec_GreedyMarks.mono _ _ _
      | exact spec_LeastApart.mono _ _ _
      | exact spec_LikelyLost.mono _ _ _ _
      | exact spec_MissingBy.mono _ _ _
      | exact spec_SortByMarks.mono _ _ _ _
      | exact LeO.none _
      | refine LeO.ite ?_ ?_
      | refine LeO.bind ?_ (fun _ => ?_)
    · intro y0 y1 y2 y3 y4 y5
      unfold laws_FnSorted.l4
      repeat' first
      | (with_reducible exact ih0 _ _ _ _ _ _ _ _)
      | (with_reducible exact ih1 _ _ _ _ _ _ _ _ _ _ _)
      | (with_reducible exact ih2 _ _ _ _ _ _ _ _ _ _ _ _)
      | (with_reducible exact ih3 _ _ _ _ _ _ _ _ _)
      | (with_reducible exact ih4 _ _ _ _ _ _ _)
      | (with_reducible exact ih5 _ _ _ _ _ _ _)
      | (with_reducible exact ih6 _ _ _ _ _)
      | (with_reducible exact ih7 _ _ _ _ _ _)
      | (with_reducible exact ih8 _ _ _ _ _ _)
      | (with_reducible exact impl_LeastApart.mono _ _ _)
      | (with_reducible exact impl_LikelyLost.mono _ _ _ _)
      | (with_reducible exact impl_MissingBy.mono _ _ _)
      | (with_reducible exact impl_ReadStitches.mono _ _ _ _)
      | (with_reducible exact impl_SortByMarks.mono _ _ _ _)
      | (with_reducible exact spec_A2Has.mono _ _ _)
      | (with_reducible exact spec_A2Marks.mono _ _ _)
      | (with_reducible exact spec_A2Same.mono _ _ _)
      | (with_reducible exact spec_A2SameLists.mono _ _ _)
      | (with_reducible exact spec_GreedyMarks.mono _ _ _)
      | (with_reducible exact spec_LeastApart.mono _ _ _)
      | (with_reducible exact spec_LikelyLost.mono _ _ _ _)
      | (with_reducible exact spec_MissingBy.mono _ _ _)
      | (with_reducible exact spec_SortByMarks.mono _ _ _ _)
      | (with_reducible exact LeO.refl _)
      | (with_reducible exact LeO.none _)
      | (with_reducible refine LeO.ite ?_ ?_)
      | (with_reducible refine LeO.bind ?_ (fun _ => ?_))
      | exact ih0 _ _ _ _ _ _ _ _
      | exact ih1 _ _ _ _ _ _ _ _ _ _ _
      | exact ih2 _ _ _ _ _ _ _ _ _ _ _ _
      | exact ih3 _ _ _ _ _ _ _ _ _
      | exact ih4 _ _ _ _ _ _ _
      | exact ih5 _ _ _ _ _ _ _
      | exact ih6 _ _ _ _ _
      | exact ih7 _ _ _ _ _ _
      | exact ih8 _ _ _ _ _ _
      | exact impl_LeastApart.mono _ _ _
      | exact impl_LikelyLost.mono _ _ _ _
      | exact impl_MissingBy.mono _ _ _
      | exact impl_ReadStitches.mono _ _ _ _
      | exact impl_SortByMarks.mono _ _ _ _
      | exact spec_A2Has.mono _ _ _
      | exact spec_A2Marks.mono _ _ _
      | exact spec_A2Same.mono _ _ _
      | exact spec_A2SameLists.mono _ _ _
      | exact spec_GreedyMarks.mono _ _ _
      | exact spec_LeastApart.mono _ _ _
      | exact spec_LikelyLost.mono _ _ _ _
      | exact spec_MissingBy.mono _ _ _
      | exact spec_SortByMarks.mono _ _ _ _
      | exact LeO.none _
      | refine LeO.ite ?_ ?_
      | refine LeO.bind ?_ (fun _ => ?_)
    · intro y0 y1 y2 y3 y4 y5
      unfold laws_FnSorted.l5
      repeat' first
      | (with_reducible exact ih0 _ _ _ _ _ _ _ _)
      | (with_reducible exact ih1 _ _ _ _ _ _ _ _ _ _ _)
      | (with_reducible exact ih2 _ _ _ _ _ _ _ _ _ _ _ _)
      | (with_reducible exact ih3 _ _ _ _ _ _ _ _ _)
      | (with_reducible exact ih4 _ _ _ _ _ _ _)
      | (with_reducible exact ih5 _ _ _ _ _ _ _)
      | (with_reducible exact ih6 _ _ _ _ _)
      | (with_reducible exact ih7 _ _ _ _ _ _)
      | (with_reducible exact ih8 _ _ _ _ _ _)
      | (with_reducible exact impl_LeastApart.mono _ _ _)
      | (with_reducible exact impl_LikelyLost.mono _ _ _ _)
      | (with_reducible exact impl_MissingBy.mono _ _ _)
      | (with_reducible exact impl_ReadStitches.mono _ _ _ _)
      | (with_reducible exact impl_SortByMarks.mono _ _ _ _)
      | (with_reducible exact spec_A2Has.mono _ _ _)
      | (with_reducible exact spec_A2Marks.mono _ _ _)
      | (with_reducible exact spec_A2Same.mono _ _ _)
      | (with_reducible exact spec_A2SameLists.mono _ _ _)
      | (with_reducible exact spec_GreedyMarks.mono _ _ _)
      | (with_reducible exact spec_LeastApart.mono _ _ _)
      | (with_reducible exact spec_LikelyLost.mono _ _ _ _)
      | (with_reducible exact spec_MissingBy.mono _ _ _)
      | (with_reducible exact spec_SortByMarks.mono _ _ _ _)
      | (with_reducible exact LeO.refl _)
      | (with_reducible exact LeO.none _)
      | (with_reducible refine LeO.ite ?_ ?_)
      | (with_reducible refine LeO.bind ?_ (fun _ => ?_))
      | exact ih0 _ _ _ _ _ _ _ _
      | exact ih1 _ _ _ _ _ _ _ _ _ _ _
      | exact ih2 _ _ _ _ _ _ _ _ _ _ _ _
      | exact ih3 _ _ _ _ _ _ _ _ _
      | exact ih4 _ _ _ _ _ _ _
      | exact ih5 _ _ _ _ _ _ _
      | exact ih6 _ _ _ _ _
      | exact ih7 _ _ _ _ _ _
      | exact ih8 _ _ _ _ _ _
      | exact impl_LeastApart.mono _ _ _
      | exact impl_LikelyLost.mono _ _ _ _
      | exact impl_MissingBy.mono _ _ _
      | exact impl_ReadStitches.mono _ _ _ _
      | exact impl_SortByMarks.mono _ _ _ _
      | exact spec_A2Has.mono _ _ _
      | exact spec_A2Marks.mono _ _ _
      | exact spec_A2Same.mono _ _ _
      | exact spec_A2SameLists.mono _ _ _
      | exact spec_GreedyMarks.mono _ _ _
      | exact spec_LeastApart.mono _ _ _
      | exact spec_LikelyLost.mono _ _ _ _
      | exact spec_MissingBy.mono _ _ _
      | exact spec_SortByMarks.mono _ _ _ _
      | exact LeO.none _
      | refine LeO.ite ?_ ?_
      | refine LeO.bind ?_ (fun _ => ?_)
theorem laws_FnSorted.mono : ∀ a0 a1 k, LeO (laws_FnSorted.f k a0 a1) (laws_FnSorted.f (k + 1) a0 a1) := by
  intro a0 a1 k
  obtain ⟨ih0, ih1, ih2, ih3, ih4, ih5, ih6, ih7, ih8⟩ := laws_FnSorted.mono_l k
  unfold laws_FnSorted.f
  repeat' first
      | (with_reducible exact ih0 _ _ _ _ _ _ _ _)
      | (with_reducible exact ih1 _ _ _ _ _ _ _ _ _ _ _)
      | (with_reducible exact ih2 _ _ _ _ _ _ _ _ _ _ _ _)
      | (with_reducible exact ih3 _ _ _ _ _ _ _ _ _)
      | (with_reducible exact ih4 _ _ _ _ _ _ _)
      | (with_reducible exact ih5 _ _ _ _ _ _ _)
      | (with_reducible exact ih6 _ _ _ _ _)
      | (with_reducible exact ih7 _ _ _ _ _ _)
      | (with_reducible exact ih8 _ _ _ _ _ _)
      | (with_reducible exact impl_LeastApart.mono _ _ _)
      | (with_reducible exact impl_LikelyLost.mono _ _ _ _)
      | (with_reducible exact impl_MissingBy.mono _ _ _)
      | (with_reducible exact impl_ReadStitches.mono _ _ _ _)
      | (with_reducible exact impl_SortByMarks.mono _ _ _ _)
      | (with_reducible exact spec_A2Has.mono _ _ _)
      | (with_reducible exact spec_A2Marks.mono _ _ _)
      | (with_reducible exact spec_A2Same.mono _ _ _)
      | (with_reducible exact spec_A2SameLists.mono _ _ _)
      | (with_reducible exact spec_GreedyMarks.mono _ _ _)
      | (with_reducible exact spec_LeastApart.mono _ _ _)
      | (with_reducible exact spec_LikelyLost.mono _ _ _ _)
      | (with_reducible exact spec_MissingBy.mono _ _ _)
      | (with_reducible exact spec_SortByMarks.mono _ _ _ _)
      | (with_reducible exact LeO.refl _)
      | (with_reducible exact LeO.none _)
      | (with_reducible refine LeO.ite ?_ ?_)
      | (with_reducible refine LeO.bind ?_ (fun _ => ?_))
      | exact ih0 _ _ _ _ _ _ _ _
      | exact ih1 _ _ _ _ _ _ _ _ _ _ _
      | exact ih2 _ _ _ _ _ _ _ _ _ _ _ _
      | exact ih3 _ _ _ _ _ _ _ _ _
      | exact ih4 _ _ _ _ _ _ _
      | exact ih5 _ _ _ _ _ _ _
      | exact ih6 _ _ _ _ _
      | exact ih7 _ _ _ _ _ _
      | exact ih8 _ _ _ _ _ _
      | exact impl_LeastApart.mono _ _ _
      | exact impl_LikelyLost.mono _ _ _ _
      | exact impl_MissingBy.mono _ _ _
      | exact impl_ReadStitches.mono _ _ _ _
      | exact impl_SortByMarks.mono _ _ _ _
      | exact spec_A2Has.mono _ _ _
      | exact spec_A2Marks.mono _ _ _
      | exact spec_A2Same.mono _ _ _
      | exact spec_A2SameLists.mono _ _ _
      | exact spec_GreedyMarks.mono _ _ _
      | exact spec_LeastApart.mono _ _ _
      | exact spec_LikelyLost.mono _ _ _ _
      | exact spec_MissingBy.mono _ _ _
      | exact spec_SortByMarks.mono _ _ _ _
      | exact LeO.none _
      | refine LeO.ite ?_ ?_
      | refine LeO.bind ?_ (fun _ => ?_)
set_option maxHeartbeats 8000000 in
set_option maxRecDepth 100000 in
theorem laws_FnSorted.calls (k : Nat) (A0 : Option Addr) (c0 : Nat) (l0 : List Int) (A1 : Option Addr) (c1 : Nat) (l1 : List Int) (r : Bool) (w : World) (hr0 : Kd.C (Kd.int .u8) w A0 l0.length l0) (hc0 : l0.length ≤ c0) (hr1 : Kd.C (Kd.int .u8) w A1 l1.length l1) (hc1 : l1.length ≤ c1) (h : laws_FnSorted.f k l0 l1 = some r) :
 Calls Try.prog 3 #[.slice A0 l0.length c0, .slice A1 l1.length c1] w fun e w' => e = .returned (.bool r) ∧ Below w.heap.size w w' := by
 have HR0 := Aside0.mk hr0
 have HC0 := Aside0.mk hc0
 clear hr0 hc0
 have HR1 := Aside0.mk hr1
 have HC1 := Aside0.mk hc1
 clear hr1 hc1
 have HB := Aside0.mk (Below.refl w.heap.size w)
 have H : ((laws_a2Long.f l0 l1).bind fun t349 => (if t349 = true then (some true) else ((laws_a2At.f l0 0 5).bind fun t350 => ((laws_a2At.f l0 1 8).bind fun t351 => ((spec_GreedyMarks.f k (wrap64 (3 + t350)) (wrap64 (1 + t351))).bind fun bt352 => ((spec_A2Marks.f k l1 (wrap64 (3 + t350))).bind fun t356 => ((impl_SortByMarks.f k (wrap64 (3 + t350)) bt352.1 t356).bind fun bt359 => ((spec_SortByMarks.f k (wrap64 (3 + t350)) bt352.1 t356).bind fun bt366 => (if bt352.2 = 0 then (if bt359.2.2 = bt366.2.2 then (if bt359.2.2 = 0 then ((spec_A2SameLists.f k bt359.1 bt366.1).bind fun t373 => (if t373 = true then (if (bt366.1.length : Int) = (bt352.1.length : Int) then ((spec_A2Same.f k bt359.2.1 bt366.2.1).bind fun t374 => (if t374 = true then (laws_FnSorted.j0 k l0 l1 (wrap64 (3 + t350)) bt352.1 t356 bt366.1 bt366.2.1 (decide ((bt352.1.length : Int) < 1))) else (laws_FnSorted.j0 k l0 l1 (wrap64 (3 + t350)) bt352.1 t356 bt366.1 bt366.2.1 true))) else (laws_FnSorted.j0 k l0 l1 (wrap64 (3 + t350)) bt352.1 t356 bt366.1 bt366.2.1 true)) else (laws_FnSorted.j0 k l0 l1 (wrap64 (3 + t350)) bt352.1 t356 bt366.1 bt366.2.1 true))) else (laws_FnSorted.j0 k l0 l1 (wrap64 (3 + t350)) bt352.1 t356 bt366.1 bt366.2.1 true)) else (laws_FnSorted.j0 k l0 l1 (wrap64 (3 + t350)) bt352.1 t356 bt366.1 bt366.2.1 true)) else (laws_FnSorted.j0 k l0 l1 (wrap64 (3 + t350)) bt352.1 t356 bt366.1 bt366.2.1 true)))))))))) = some r := h
 clear h
 replace H := Option.bind_eq_some_iff.mp H
 obtain ⟨t349, A30, H⟩ := H
 replace H : (if t349 = true then (some true) else ((laws_a2At.f l0 0 5).bind fun t350 => ((laws_a2At.f l0 1 8).bind fun t351 => ((spec_GreedyMarks.f k (wrap64 (3 + t350)) (wrap64 (1 + t351))).bind fun bt352 => ((spec_A2Marks.f k l1 (wrap64 (3 + t350))).bind fun t356 => ((impl_SortByMarks.f k (wrap64 (3 + t350)) bt352.1 t356).bind fun bt359 => ((spec_SortByMarks.f k (wrap64 (3 + t350)) bt352.1 t356).bind fun bt366 => (if bt352.2 = 0 then (if bt359.2.2 = bt366.2.2 then (if bt359.2.2 = 0 then ((spec_A2SameLists.f k bt359.1 bt366.1).bind fun t373 => (if t373 = true then (if (bt366.1.length : Int) = (bt352.1.length : Int) then ((spec_A2Same.f k bt359.2.1 bt366.2.1).bind fun t374 => (if t374 = true then (laws_FnSorted.j0 k l0 l1 (wrap64 (3 + t350)) bt352.1 t356 bt366.1 bt366.2.1 (decide ((bt352.1.length : Int) < 1))) else (laws_FnSorted.j0 k l0 l1 (wrap64 (3 + t350)) bt352.1 t356 bt366.1 bt366.2.1 true))) else (laws_FnSorted.j0 k l0 l1 (wrap64 (3 + t350)) bt352.1 t356 bt366.1 bt366.2.1 true)) else (laws_FnSorted.j0 k l0 l1 (wrap64 (3 + t350)) bt352.1 t356 bt366.1 bt366.2.1 true))) else (laws_FnSorted.j0 k l0 l1 (wrap64 (3 + t350)) bt352.1 t356 bt366.1 bt366.2.1 true)) else (laws_FnSorted.j0 k l0 l1 (wrap64 (3 + t350)) bt352.1 t356 bt366.1 bt366.2.1 true)) else (laws_FnSorted.j0 k l0 l1 (wrap64 (3 + t350)) bt352.1 t356 bt366.1 bt366.2.1 true))))))))) = some r := H
 have A3 := Aside0.mk A30
 clear A30
 by_cases c4 : t349 = true
 · subst c4
   have H1 : (some true) = some r := by rw [if_pos rfl] at H; exact H
   clear H
   have H := H1
   clear H1
   obtain rfl := Option.some.inj H
   go_enter Try.func3, Try.ntmps3
   go_wp2_with (first | (go_at_call 4; (with_reducible refine (laws_a2Long.calls _ _ l0 _ _ l1 true _ ?side1 ?side2 ?side3 ?side4 A3.out).mono ?_); (case side1 => exact cvC (HR0.out)); (case side2 => exact HC0.out); (case side3 => exact cvC (HR1.out)); (case side4 => exact HC1.out); rintro e w' ⟨rfl, ⟨nd, rfl⟩⟩; (try first | exact ⟨rfl, _, World.drewN_drewN _ _ _⟩ | exact ⟨rfl, _, Eq.trans (World.drewN_drewN _ _ _) (congrArg (World.drewN _) (Nat.add_assoc _ _ _))⟩)))
   repeat (go_quiet (fail); try go_wp2)
   go_ret
   exact ⟨by first | rfl | (simp [errW_none, errW_some] <;> rfl) | (simp [*, errW_none, errW_some] <;> rfl), blB HB⟩
 · replace c4 := Bool.eq_false_iff.mpr c4
   subst c4
   have H1 : ((laws_a2At.f l0 0 5).bind fun t350 => ((laws_a2At.f l0 1 8).bind fun t351 => ((spec_GreedyMarks.f k (wrap64 (3 + t350)) (wrap64 (1 + t351))).bind fun bt352 => ((spec_A2Marks.f k l1 (wrap64 (3 + t350))).bind fun t356 => ((impl_SortByMarks.f k (wrap64 (3 + t350)) bt352.1 t356).bind fun bt359 => ((spec_SortByMarks.f k (wrap64 (3 + t350)) bt352.1 t356).bind fun bt366 => (if bt352.2 = 0 then (if bt359.2.2 = bt366.2.2 then (if bt359.2.2 = 0 then ((spec_A2SameLists.f k bt359.1 bt366.1).bind fun t373 => (if t373 = true then (if (bt366.1.length : Int) = (bt352.1.length : Int) then ((spec_A2Same.f k bt359.2.1 bt366.2.1).bind fun t374 => (if t374 = true then (laws_FnSorted.j0 k l0 l1 (wrap64 (3 + t350)) bt352.1 t356 bt366.1 bt366.2.1 (decide ((bt352.1.length : Int) < 1))) else (laws_FnSorted.j0 k l0 l1 (wrap64 (3 + t350)) bt352.1 t356 bt366.1 bt366.2.1 true))) else (laws_FnSorted.j0 k l0 l1 (wrap64 (3 + t350)) bt352.1 t356 bt366.1 bt366.2.1 true)) else (laws_FnSorted.j0 k l0 l1 (wrap64 (3 + t350)) bt352.1 t356 bt366.1 bt366.2.1 true))) else (laws_FnSorted.j0 k l0 l1 (wrap64 (3 + t350)) bt352.1 t356 bt366.1 bt366.2.1 true)) else (laws_FnSorted.j0 k l0 l1 (wrap64 (3 + t350)) bt352.1 t356 bt366.1 bt366.2.1 true)) else (laws_FnSorted.j0 k l0 l1 (wrap64 (3 + t350)) bt352.1 t356 bt366.1 bt366.2.1 true)))))))) = some r := by rw [if_neg (show ¬ (false = true) by decide)] at H; exact H
   clear H
   have H := H1
   clear H1
   replace H := Option.bind_eq_some_iff.mp H
   obtain ⟨t350, A50, H⟩ := H
   replace H : ((laws_a2At.f l0 1 8).bind fun t351 => ((spec_GreedyMarks.f k (wrap64 (3 + t350)) (wrap64 (1 + t351))).bind fun bt352 => ((spec_A2Marks.f k l1 (wrap64 (3 + t350))).bind fun t356 => ((impl_SortByMarks.f k (wrap64 (3 + t350)) bt352.1 t356).bind fun bt359 => ((spec_SortByMarks.f k (wrap64 (3 + t350)) bt352.1 t356).bind fun bt366 => (if bt352.2 = 0 then (if bt359.2.2 = bt366.2.2 then (if bt359.2.2 = 0 then ((spec_A2SameLists.f k bt359.1 bt366.1).bind fun t373 => (if t373 = true then (if (bt366.1.length : Int) = (bt352.1.length : Int) then ((spec_A2Same.f k bt359.2.1 bt366.2.1).bind fun t374 => (if t374 = true then (laws_FnSorted.j0 k l0 l1 (wrap64 (3 + t350)) bt352.1 t356 bt366.1 bt366.2.1 (decide ((bt352.1.length : Int) < 1))) else (laws_FnSorted.j0 k l0 l1 (wrap64 (3 + t350)) bt352.1 t356 bt366.1 bt366.2.1 true))) else (laws_FnSorted.j0 k l0 l1 (wrap64 (3 + t350)) bt352.1 t356 bt366.1 bt366.2.1 true)) else (laws_FnSorted.j0 k l0 l1 (wrap64 (3 + t350)) bt352.1 t356 bt366.1 bt366.2.1 true))) else (laws_FnSorted.j0 k l0 l1 (wrap64 (3 + t350)) bt352.1 t356 bt366.1 bt366.2.1 true)) else (laws_FnSorted.j0 k l0 l1 (wrap64 (3 + t350)) bt352.1 t356 bt366.1 bt366.2.1 true)) else (laws_FnSorted.j0 k l0 l1 (wrap64 (3 + t350)) bt352.1 t356 bt366.1 bt366.2.1 true))))))) = some r := H
   have A5 := Aside0.mk A50
   clear A50
   replace H := Option.bind_eq_some_iff.mp H
   obtain ⟨t351, A60, H⟩ := H
   replace H : ((spec_GreedyMarks.f k (wrap64 (3 + t350)) (wrap64 (1 + t351))).bind fun bt352 => ((spec_A2Marks.f k l1 (wrap64 (3 + t350))).bind fun t356 => ((impl_SortByMarks.f k (wrap64 (3 + t350)) bt352.1 t356).bind fun bt359 => ((spec_SortByMarks.f k (wrap64 (3 + t350)) bt352.1 t356).bind fun bt366 => (if bt352.2 = 0 then (if bt359.2.2 = bt366.2.2 then (if bt359.2.2 = 0 then ((spec_A2SameLists.f k bt359.1 bt366.1).bind fun t373 => (if t373 = true then (if (bt366.1.length : Int) = (bt352.1.length : Int) then ((spec_A2Same.f k bt359.2.1 bt366.2.1).bind fun t374 => (if t374 = true then (laws_FnSorted.j0 k l0 l1 (wrap64 (3 + t350)) bt352.1 t356 bt366.1 bt366.2.1 (decide ((bt352.1.length : Int) < 1))) else (laws_FnSorted.j0 k l0 l1 (wrap64 (3 + t350)) bt352.1 t356 bt366.1 bt366.2.1 true))) else (laws_FnSorted.j0 k l0 l1 (wrap64 (3 + t350)) bt352.1 t356 bt366.1 bt366.2.1 true)) else (laws_FnSorted.j0 k l0 l1 (wrap64 (3 + t350)) bt352.1 t356 bt366.1 bt366.2.1 true))) else (laws_FnSorted.j0 k l0 l1 (wrap64 (3 + t350)) bt352.1 t356 bt366.1 bt366.2.1 true)) else (laws_FnSorted.j0 k l0 l1 (wrap64 (3 + t350)) bt352.1 t356 bt366.1 bt366.2.1 true)) else (laws_FnSorted.j0 k l0 l1 (wrap64 (3 + t350)) bt352.1 t356 bt366.1 bt366.2.1 true)))))) = some r := H
   have A6 := Aside0.mk A60
   clear A60
   replace H := Option.bind_eq_some_iff.mp H
   obtain ⟨⟨t352, t353⟩, A70, H⟩ := H
   replace H : ((spec_A2Marks.f k l1 (wrap64 (3 + t350))).bind fun t356 => ((impl_SortByMarks.f k (wrap64 (3 + t350)) t352 t356).bind fun bt359 => ((spec_SortByMarks.f k (wrap64 (3 + t350)) t352 t356).bind fun bt366 => (if t353 = 0 then (if bt359.2.2 = bt366.2.2 then (if bt359.2.2 = 0 then ((spec_A2SameLists.f k bt359.1 bt366.1).bind fun t373 => (if t373 = true then (if (bt366.1.length : Int) = (t352.length : Int) then ((spec_A2Same.f k bt359.2.1 bt366.2.1).bind fun t374 => (if t374 = true then (laws_FnSorted.j0 k l0 l1 (wrap64 (3 + t350)) t352 t356 bt366.1 bt366.2.1 (decide ((t352.length : Int) < 1))) else (laws_FnSorted.j0 k l0 l1 (wrap64 (3 + t350)) t352 t356 bt366.1 bt366.2.1 true))) else (laws_FnSorted.j0 k l0 l1 (wrap64 (3 + t350)) t352 t356 bt366.1 bt366.2.1 true)) else (laws_FnSorted.j0 k l0 l1 (wrap64 (3 + t350)) t352 t356 bt366.1 bt366.2.1 true))) else (laws_FnSorted.j0 k l0 l1 (wrap64 (3 + t350)) t352 t356 bt366.1 bt366.2.1 true)) else (laws_FnSorted.j0 k l0 l1 (wrap64 (3 + t350)) t352 t356 bt366.1 bt366.2.1 true)) else (laws_FnSorted.j0 k l0 l1 (wrap64 (3 + t350)) t352 t356 bt366.1 bt366.2.1 true))))) = some r := H
   have A7 := Aside0.mk A70
   clear A70
   replace H := Option.bind_eq_some_iff.mp H
   obtain ⟨t356, A80, H⟩ := H
   replace H : ((impl_SortByMarks.f k (wrap64 (3 + t350)) t352 t356).bind fun bt359 => ((spec_SortByMarks.f k (wrap64 (3 + t350)) t352 t356).bind fun bt366 => (if t353 = 0 then (if bt359.2.2 = bt366.2.2 then (if bt359.2.2 = 0 then ((spec_A2SameLists.f k bt359.1 bt366.1).bind fun t373 => (if t373 = true then (if (bt366.1.length : Int) = (t352.length : Int) then ((spec_A2Same.f k bt359.2.1 bt366.2.1).bind fun t374 => (if t374 = true then (laws_FnSorted.j0 k l0 l1 (wrap64 (3 + t350)) t352 t356 bt366.1 bt366.2.1 (decide ((t352.length : Int) < 1))) else (laws_FnSorted.j0 k l0 l1 (wrap64 (3 + t350)) t352 t356 bt366.1 bt366.2.1 true))) else (laws_FnSorted.j0 k l0 l1 (wrap64 (3 + t350)) t352 t356 bt366.1 bt366.2.1 true)) else (laws_FnSorted.j0 k l0 l1 (wrap64 (3 + t350)) t352 t356 bt366.1 bt366.2.1 true))) else (laws_FnSorted.j0 k l0 l1 (wrap64 (3 + t350)) t352 t356 bt366.1 bt366.2.1 true)) else (laws_FnSorted.j0 k l0 l1 (wrap64 (3 + t350)) t352 t356 bt366.1 bt366.2.1 true)) else (laws_FnSorted.j0 k l0 l1 (wrap64 (3 + t350)) t352 t356 bt366.1 bt366.2.1 true)))) = some r := H
   have A8 := Aside0.mk A80
   clear A80
   replace H := Option.bind_eq_some_iff.mp H
   obtain ⟨⟨t359, t360, t361⟩, A90, H⟩ := H
   replace H : ((spec_SortByMarks.f k (wrap64 (3 + t350)) t352 t356).bind fun bt366 => (if t353 = 0 then (if t361 = bt366.2.2 then (if t361 = 0 then ((spec_A2SameLists.f k t359 bt366.1).bind fun t373 => (if t373 = true then (if (bt366.1.length : Int) = (t352.length : Int) then ((spec_A2Same.f k t360 bt366.2.1).bind fun t374 => (if t374 = true then (laws_FnSorted.j0 k l0 l1 (wrap64 (3 + t350)) t352 t356 bt366.1 bt366.2.1 (decide ((t352.length : Int) < 1))) else (laws_FnSorted.j0 k l0 l1 (wrap64 (3 + t350)) t352 t356 bt366.1 bt366.2.1 true))) else (laws_FnSorted.j0 k l0 l1 (wrap64 (3 + t350)) t352 t356 bt366.1 bt366.2.1 true)) else (laws_FnSorted.j0 k l0 l1 (wrap64 (3 + t350)) t352 t356 bt366.1 bt366.2.1 true))) else (laws_FnSorted.j0 k l0 l1 (wrap64 (3 + t350)) t352 t356 bt366.1 bt366.2.1 true)) else (laws_FnSorted.j0 k l0 l1 (wrap64 (3 + t350)) t352 t356 bt366.1 bt366.2.1 true)) else (laws_FnSorted.j0 k l0 l1 (wrap64 (3 + t350)) t352 t356 bt366.1 bt366.2.1 true))) = some r := H
   have A9 := Aside0.mk A90
   clear A90
   replace H := Option.bind_eq_some_iff.mp H
   obtain ⟨⟨t366, t367, t368⟩, A100, H⟩ := H
   replace H : (if t353 = 0 then (if t361 = t368 then (if t361 = 0 then ((spec_A2SameLists.f k t359 t366).bind fun t373 => (if t373 = true then (if (t366.length : Int) = (t352.length : Int) then ((spec_A2Same.f k t360 t367).bind fun t374 => (if t374 = true then (laws_FnSorted.j0 k l0 l1 (wrap64 (3 + t350)) t352 t356 t366 t367 (decide ((t352.length : Int) < 1))) else (laws_FnSorted.j0 k l0 l1 (wrap64 (3 + t350)) t352 t356 t366 t367 true))) else (laws_FnSorted.j0 k l0 l1 (wrap64 (3 + t350)) t352 t356 t366 t367 true)) else (laws_FnSorted.j0 k l0 l1 (wrap64 (3 + t350)) t352 t356 t366 t367 true))) else (laws_FnSorted.j0 k l0 l1 (wrap64 (3 + t350)) t352 t356 t366 t367 true)) else (laws_FnSorted.j0 k l0 l1 (wrap64 (3 + t350)) t352 t356 t366 t367 true)) else (laws_FnSorted.j0 k l0 l1 (wrap64 (3 + t350)) t352 t356 t366 t367 true)) = some r := H
   have A10 := Aside0.mk A100
   clear A100
   have HC11 := Aside0.mk H
   clear H
   go_enter Try.func3, Try.ntmps3
   go_upto_region 8 with (first | (go_at_call 4; (with_reducible refine (laws_a2Long.calls _ _ l0 _ _ l1 false _ ?side1 ?side2 ?side3 ?side4 A3.out).mono ?_); (case side1 => exact cvC (HR0.out)); (case side2 => exact HC0.out); (case side3 => exact cvC (HR1.out)); (case side4 => exact HC1.out); rintro e w' ⟨rfl, ⟨nd, rfl⟩⟩; (try first | exact ⟨rfl, _, World.drewN_drewN _ _ _⟩ | exact ⟨rfl, _, Eq.trans (World.drewN_drewN _ _ _) (congrArg (World.drewN _) (Nat.add_assoc _ _ _))⟩)) | (go_at_call 5; (with_reducible refine (laws_a2At.calls _ _ l0 0 5 t350 _ ?side1 ?side2 A5.out).mono ?_); (case side1 => exact cvC (HR0.out)); (case side2 => exact HC0.out); rintro e w' ⟨rfl, ⟨nd, rfl⟩⟩; (try first | exact ⟨rfl, _, World.drewN_drewN _ _ _⟩ | exact ⟨rfl, _, Eq.trans (World.drewN_drewN _ _ _) (congrArg (World.drewN _) (Nat.add_assoc _ _ _))⟩)) | (go_at_call 5; (with_reducible refine (laws_a2At.calls _ _ l0 1 8 t351 _ ?side1 ?side2 A6.out).mono ?_); (case side1 => exact cvC (HR0.out)); (case side2 => exact HC0.out); rintro e w' ⟨rfl, ⟨nd, rfl⟩⟩; (try first | exact ⟨rfl, _, World.drewN_drewN _ _ _⟩ | exact ⟨rfl, _, Eq.trans (World.drewN_drewN _ _ _) (congrArg (World.drewN _) (Nat.add_assoc _ _ _))⟩)) | (go_at_call 6; (with_reducible refine (spec_GreedyMarks.calls k (wrap64 (3 + t350)) (wrap64 (1 + t351)) t352 t353 _ A7.out).mono ?_); rintro e w12 ⟨v354, rfl, ho0, hb⟩; have n0_ := Aside0.mk (Kd.R_lower ho0 (below_size (blB HB))); have n1_ := Aside0.mk (below_step (blB HB) hb); clear HB; have HO355 := n0_; have HB := n1_; clear n0_ n1_; (try clear hb); (try clear hb2); (try clear hk); (try clear hi); (try clear ho0)) | (go_at_call 7; (with_reducible refine (spec_A2Marks.calls k _ _ l1 (wrap64 (3 + t350)) t356 _ ?side1 ?side2 A8.out).mono ?_); (case side1 => exact cvC ((Kd.C_below HR1.out HB.out))); (case side2 => exact HC1.out); rintro e w13 ⟨v357, rfl, ho0, hb⟩; have n0_ := Aside0.mk (Kd.R_elder' (mvR HO355) (Kd.R_base ho0) hb); have n1_ := Aside0.mk (Kd.R_lower (Kd.R_new' ho0 (Kd.R_lt (mvR HO355))) (below_size (blB HB))); have n2_ := Aside0.mk (below_step (blB HB) hb); clear HO355; clear HB; have HO355 := n0_; have HO358 := n1_; have HB := n2_; clear n0_ n1_ n2_; (try clear hb); (try clear hb2); (try clear hk); (try clear hi); (try clear ho0); obtain ⟨Ao14, co14, eo14⟩ := Kd.R_slice HO355.out; subst eo14; obtain ⟨Ao15, co15, eo15⟩ := Kd.R_slice HO358.out; subst eo15) | (go_at_call 8; (with_reducible refine (impl_SortByMarks.calls k (wrap64 (3 + t350)) _ _ t352 _ _ t356 t359 t360 t361 _ ?side1 ?side2 ?side3 ?side4 A9.out).mono ?_); (case side1 => exact cvC ((Kd.R_reads' HO355.out).2.2)); (case side2 => exact (Kd.R_reads' HO355.out).2.1); (case side3 => exact cvC ((Kd.R_reads' HO358.out).2.2)); (case side4 => exact (Kd.R_reads' HO358.out).2.1); rintro e w16 ⟨v362, v364, rfl, ho0, ho1, hb⟩; have n0_ := Aside0.mk (Kd.R_below (mvR HO355) hb); have n1_ := Aside0.mk (Kd.R_below (mvR HO358) hb); have n2_ := Aside0.mk (Kd.S_lower ho0 (below_size (blB HB))); have n3_ := Aside0.mk (Kd.R_lower ho1 (below_size (blB HB))); have n4_ := Aside0.mk (below_step (blB HB) hb); clear HO355; clear HO358; clear HB; have HO355 := n0_; have HO358 := n1_; have HO363 := n2_; have HO365 := n3_; have HB := n4_; clear n0_ n1_ n2_ n3_ n4_; (try clear hb); (try clear hb2); (try clear hk); (try clear hi); (try clear ho0); (try clear ho1)) | (go_at_call 9; (with_reducible refine (spec_SortByMarks.calls k (wrap64 (3 + t350)) _ _ t352 _ _ t356 t366 t367 t368 _ ?side1 ?side2 ?side3 ?side4 A10.out).mono ?_); (case side1 => exact cvC ((Kd.R_reads' HO355.out).2.2)); (case side2 => exact (Kd.R_reads' HO355.out).2.1); (case side3 => exact cvC ((Kd.R_reads' HO358.out).2.2)); (case side4 => exact (Kd.R_reads' HO358.out).2.1); rintro e w17 ⟨v369, v371, rfl, ho0, ho1, hb⟩; have n0_ := Aside0.mk (Kd.R_below (mvR HO355) hb); have n1_ := Aside0.mk (Kd.R_below (mvR HO358) hb); have n2_ := Aside0.mk (Kd.S_mono (Kd.S_told (Kd.S_told (Kd.S_old (by (with_reducible repeat (first | apply Kd.S_alloc | apply Kd.S_drewN | apply Kd.S_drew)); exact HO363.out) hb) (Kd.S_base ho0)) (Kd.R_base ho1)) (fun _ h_ => h_.1)); have n3_ := Aside0.mk (Kd.R_elder' (mvR HO365) (Kd.R_base ho1) hb); have n4_ := Aside0.mk (Kd.S_lower (Kd.S_new' (Kd.S_new' ho0 (Kd.S_lt (by (with_reducible repeat (first | apply Kd.S_alloc | apply Kd.S_drewN | apply Kd.S_drew)); exact HO363.out))) (Kd.R_lt (mvR HO365))) (below_size (blB HB))); have n5_ := Aside0.mk (Kd.R_lower (Kd.R_new' ho1 (Kd.R_lt (mvR HO365))) (below_size (blB HB))); have n6_ := Aside0.mk (below_step (blB HB) hb); clear HO355; clear HO358; clear HO363; clear HO365; clear HB; have HO355 := n0_; have HO358 := n1_; have HO363 := n2_; have HO365 := n3_; have HO370 := n4_; have HO372 := n5_; have HB := n6_; clear n0_ n1_ n2_ n3_ n4_ n5_ n6_; (try clear hb); (try clear hb2); (try clear hk); (try clear hi); (try clear ho0); (try clear ho1)))
   repeat (go_quiet (fail); try go_wp2)
   (try simp only [Act.put, List.setIfInBounds_toArray, List.set_cons_zero, List.set_cons_succ])
   go_cut [110] from 43 to 110 (fun v110 wc => ∃ (kq : Nat) (x110_10 : Bool), v110 = .bool x110_10 ∧ Aside0 (laws_FnSorted.j0 kq l0 l1 (wrap64 (3 + t350)) t352 t356 t366 t367 x110_10 = some r) ∧ Aside0 (kq ≤ k) ∧ Aside0 (Kd.R (Kd.int .u16) 38 wc w.heap.size (fun k_ => some k_ ≠ ((.slice Ao15 t356.length co15) : Value).ownBlock) (.slice Ao14 t352.length co14) t352) ∧ Aside0 (Kd.R (Kd.int .u16) 38 wc w.heap.size (fun k_ => some k_ ≠ ((.slice Ao14 t352.length co14) : Value).ownBlock) (.slice Ao15 t356.length co15) t356) ∧ Aside0 (Kd.S (Kd.slice 2 (Kd.int .i64)) 30 wc w.heap.size (fun k_ => some k_ ≠ (v371 : Value).ownBlock) v369 t366) ∧ Aside0 (Kd.R (Kd.int .i64) 2 wc w.heap.size (fun _ => True) v371 t367) ∧ Aside0 (Below w.heap.size w wc))
   case first =>
    as_aux_lemma =>
     have H := HC11.out
     clear HC11
     by_cases c18 : t353 = 0
     · rw [if_pos c18] at H
       have c18b0 : (t353 == 0) = true := beq_iff_eq.mpr c18
       have c18b1 : (t353 != 0) = false := bne_eq_false_iff_eq.mpr c18
       clear c18
       (first | rw [c18b0] | (simp only [i64_w, i32_w]; rw [c18b0]) | skip)
       by_cases c19 : t361 = t368
       · rw [if_pos c19] at H
         have c19b0 : (t361 == t368) = true := beq_iff_eq.mpr c19
         have c19b1 : (t361 != t368) = false := bne_eq_false_iff_eq.mpr c19
         clear c19
         by_cases c20 : t361 = 0
         · rw [if_pos c20] at H
           have c20b0 : (t361 == 0) = true := beq_iff_eq.mpr c20
           have c20b1 : (t361 != 0) = false := bne_eq_false_iff_eq.mpr c20
           clear c20
           replace H := Option.bind_eq_some_iff.mp H
           obtain ⟨t373, A210, H⟩ := H
           replace H : (if t373 = true then (if (t366.length : Int) = (t352.length : Int) then ((spec_A2Same.f k t360 t367).bind fun t374 => (if t374 = true then (laws_FnSorted.j0 k l0 l1 (wrap64 (3 + t350)) t352 t356 t366 t367 (decide ((t352.length : Int) < 1))) else (laws_FnSorted.j0 k l0 l1 (wrap64 (3 + t350)) t352 t356 t366 t367 true))) else (laws_FnSorted.j0 k l0 l1 (wrap64 (3 + t350)) t352 t356 t366 t367 true)) else (laws_FnSorted.j0 k l0 l1 (wrap64 (3 + t350)) t352 t356 t366 t367 true)) = some r := H
           have A21 := Aside0.mk A210
           clear A210
           by_cases c22 : t373 = true
           · subst c22
             have H1 : (if (t366.length : Int) = (t352.length : Int) then ((spec_A2Same.f k t360 t367).bind fun t374 => (if t374 = true then (laws_FnSorted.j0 k l0 l1 (wrap64 (3 + t350)) t352 t356 t366 t367 (decide ((t352.length : Int) < 1))) else (laws_FnSorted.j0 k l0 l1 (wrap64 (3 + t350)) t352 t356 t366 t367 true))) else (laws_FnSorted.j0 k l0 l1 (wrap64 (3 + t350)) t352 t356 t366 t367 true)) = some r := by rw [if_pos rfl] at H; exact H
             clear H
             have H := H1
             clear H1
             by_cases c23 : (t366.length : Int) = (t352.length : Int)
             · rw [if_pos c23] at H
               have c23b0 : ((t366.length : Int) == (t352.length : Int)) = true := beq_iff_eq.mpr c23
               have c23b1 : ((t366.length : Int) != (t352.length : Int)) = false := bne_eq_false_iff_eq.mpr c23
               have c23b2 : (t366.length == t352.length) = true := by first | simpa using c23 | (simp at c23 ⊢; omega)
               clear c23
               replace H := Option.bind_eq_some_iff.mp H
               obtain ⟨t374, A240, H⟩ := H
               replace H : (if t374 = true then (laws_FnSorted.j0 k l0 l1 (wrap64 (3 + t350)) t352 t356 t366 t367 (decide ((t352.length : Int) < 1))) else (laws_FnSorted.j0 k l0 l1 (wrap64 (3 + t350)) t352 t356 t366 t367 true)) = some r := H
               have A24 := Aside0.mk A240
               clear A240
               by_cases c25 : t374 = true
               · subst c25
                 have H1 : (laws_FnSorted.j0 k l0 l1 (wrap64 (3 + t350)) t352 t356 t366 t367 (decide ((t352.length : Int) < 1))) = some r := by rw [if_pos rfl] at H; exact H
                 clear H
                 have H := H1
                 clear H1
                 have H' := Aside0.mk H
                 clear H
                 obtain ⟨Ao26, co26, eo26⟩ := Kd.S_slice HO363.out
                 subst eo26
                 obtain ⟨Ao27, co27, eo27⟩ := Kd.S_slice HO370.out
                 subst eo27
                 go_wp2_with (first | (go_at_call 10; (with_reducible refine (spec_A2SameLists.calls k _ _ t359 _ _ t366 true _ ?side1 ?side2 ?side3 ?side4 A21.out).mono ?_); (case side1 => exact cvC ((Kd.S_reads' HO363.out).2.2)); (case side2 => exact (Kd.S_reads' HO363.out).2.1); (case side3 => exact cvC ((Kd.S_reads' HO370.out).2.2)); (case side4 => exact (Kd.S_reads' HO370.out).2.1); rintro e w' ⟨rfl, ⟨nd, rfl⟩⟩; (try first | exact ⟨rfl, _, World.drewN_drewN _ _ _⟩ | exact ⟨rfl, _, Eq.trans (World.drewN_drewN _ _ _) (congrArg (World.drewN _) (Nat.add_assoc _ _ _))⟩); obtain ⟨Ao28, co28, eo28⟩ := Kd.R_slice HO365.out; subst eo28; obtain ⟨Ao29, co29, eo29⟩ := Kd.R_slice HO372.out; subst eo29) | (go_at_call 11; (with_reducible refine (spec_A2Same.calls k _ _ t360 _ _ t367 true _ ?side1 ?side2 ?side3 ?side4 A24.out).mono ?_); (case side1 => exact cvC ((Kd.R_reads' HO365.out).2.2)); (case side2 => exact (Kd.R_reads' HO365.out).2.1); (case side3 => exact cvC ((Kd.R_reads' HO372.out).2.2)); (case side4 => exact (Kd.R_reads' HO372.out).2.1); rintro e w' ⟨rfl, ⟨nd, rfl⟩⟩; (try first | exact ⟨rfl, _, World.drewN_drewN _ _ _⟩ | exact ⟨rfl, _, Eq.trans (World.drewN_drewN _ _ _) (congrArg (World.drewN _) (Nat.add_assoc _ _ _))⟩)))
                 repeat (go_quiet (fail); try go_wp2)
                 go_meet
                 case rel => exact ⟨_, (decide ((t352.length : Int) < 1)), (by first | rfl | (simp; done) | (simp [*]; done)), H', ⟨by first | omega | exact Nat.le_refl _⟩, ⟨by (with_reducible repeat (first | apply Kd.R_alloc | apply Kd.R_drewN | apply Kd.R_drew)); exact Kd.R_mono HO355.out (fun _ hk => hk.2)⟩, ⟨by (with_reducible repeat (first | apply Kd.R_alloc | apply Kd.R_drewN | apply Kd.R_drew)); exact Kd.R_mono HO358.out (fun _ hk => hk.2)⟩, ⟨by (with_reducible repeat (first | apply Kd.S_alloc | apply Kd.S_drewN | apply Kd.S_drew)); exact Kd.S_mono HO370.out (fun _ hk => hk.1.1)⟩, ⟨by (with_reducible repeat (first | apply Kd.R_alloc | apply Kd.R_drewN | apply Kd.R_drew)); exact Kd.R_mono HO372.out (fun _ hk => trivial)⟩, ⟨blB HB⟩⟩
               · replace c25 := Bool.eq_false_iff.mpr c25
                 subst c25
                 have H1 : (laws_FnSorted.j0 k l0 l1 (wrap64 (3 + t350)) t352 t356 t366 t367 true) = some r := by rw [if_neg (show ¬ (false = true) by decide)] at H; exact H
                 clear H
                 have H := H1
                 clear H1
                 have H' := Aside0.mk H
                 clear H
                 obtain ⟨Ao30, co30, eo30⟩ := Kd.S_slice HO363.out
                 subst eo30
                 obtain ⟨Ao31, co31, eo31⟩ := Kd.S_slice HO370.out
                 subst eo31
                 go_wp2_with (first | (go_at_call 10; (with_reducible refine (spec_A2SameLists.calls k _ _ t359 _ _ t366 true _ ?side1 ?side2 ?side3 ?side4 A21.out).mono ?_); (case side1 => exact cvC ((Kd.S_reads' HO363.out).2.2)); (case side2 => exact (Kd.S_reads' HO363.out).2.1); (case side3 => exact cvC ((Kd.S_reads' HO370.out).2.2)); (case side4 => exact (Kd.S_reads' HO370.out).2.1); rintro e w' ⟨rfl, ⟨nd, rfl⟩⟩; (try first | exact ⟨rfl, _, World.drewN_drewN _ _ _⟩ | exact ⟨rfl, _, Eq.trans (World.drewN_drewN _ _ _) (congrArg (World.drewN _) (Nat.add_assoc _ _ _))⟩); obtain ⟨Ao32, co32, eo32⟩ := Kd.R_slice HO365.out; subst eo32; obtain ⟨Ao33, co33, eo33⟩ := Kd.R_slice HO372.out; subst eo33) | (go_at_call 11; (with_reducible refine (spec_A2Same.calls k _ _ t360 _ _ t367 false _ ?side1 ?side2 ?side3 ?side4 A24.out).mono ?_); (case side1 => exact cvC ((Kd.R_reads' HO365.out).2.2)); (case side2 => exact (Kd.R_reads' HO365.out).2.1); (case side3 => exact cvC ((Kd.R_reads' HO372.out).2.2)); (case side4 => exact (Kd.R_reads' HO372.out).2.1); rintro e w' ⟨rfl, ⟨nd, rfl⟩⟩; (try first | exact ⟨rfl, _, World.drewN_drewN _ _ _⟩ | exact ⟨rfl, _, Eq.trans (World.drewN_drewN _ _ _) (congrArg (World.drewN _) (Nat.add_assoc _ _ _))⟩)))
                 repeat (go_quiet (fail); try go_wp2)
                 go_meet
                 case rel => exact ⟨_, (true), (by first | rfl | (simp; done) | (simp [*]; done)), H', ⟨by first | omega | exact Nat.le_refl _⟩, ⟨by (with_reducible repeat (first | apply Kd.R_alloc | apply Kd.R_drewN | apply Kd.R_drew)); exact Kd.R_mono HO355.out (fun _ hk => hk.2)⟩, ⟨by (with_reducible repeat (first | apply Kd.R_alloc | apply Kd.R_drewN | apply Kd.R_drew)); exact Kd.R_mono HO358.out (fun _ hk => hk.2)⟩, ⟨by (with_reducible repeat (first | apply Kd.S_alloc | apply Kd.S_drewN | apply Kd.S_drew)); exact Kd.S_mono HO370.out (fun _ hk => hk.1.1)⟩, ⟨by (with_reducible repeat (first | apply Kd.R_alloc | apply Kd.R_drewN | apply Kd.R_drew)); exact Kd.R_mono HO372.out (fun _ hk => trivial)⟩, ⟨blB HB⟩⟩
             · rw [if_neg c23] at H
               have c23b0 : ((t366.length : Int) == (t352.length : Int)) = false := beq_eq_false_iff_ne.mpr c23
               have c23b1 : ((t366.length : Int) != (t352.length : Int)) = true := bne_iff_ne.mpr c23
               have c23b2 : (t366.length == t352.length) = false := by first | simpa using c23 | (simp at c23 ⊢; omega)
               have H' := Aside0.mk H
               clear H
               obtain ⟨Ao34, co34, eo34⟩ := Kd.S_slice HO363.out
               subst eo34
               obtain ⟨Ao35, co35, eo35⟩ := Kd.S_slice HO370.out
               subst eo35
               go_wp2_with (first | (go_at_call 10; (with_reducible refine (spec_A2SameLists.calls k _ _ t359 _ _ t366 true _ ?side1 ?side2 ?side3 ?side4 A21.out).mono ?_); (case side1 => exact cvC ((Kd.S_reads' HO363.out).2.2)); (case side2 => exact (Kd.S_reads' HO363.out).2.1); (case side3 => exact cvC ((Kd.S_reads' HO370.out).2.2)); (case side4 => exact (Kd.S_reads' HO370.out).2.1); rintro e w' ⟨rfl, ⟨nd, rfl⟩⟩; (try first | exact ⟨rfl, _, World.drewN_drewN _ _ _⟩ | exact ⟨rfl, _, Eq.trans (World.drewN_drewN _ _ _) (congrArg (World.drewN _) (Nat.add_assoc _ _ _))⟩)))
               repeat (go_quiet (fail); try go_wp2)
               go_meet
               case rel => exact ⟨_, (true), (by first | rfl | (simp; done) | (simp [*]; done)), H', ⟨by first | omega | exact Nat.le_refl _⟩, ⟨by (with_reducible repeat (first | apply Kd.R_alloc | apply Kd.R_drewN | apply Kd.R_drew)); exact Kd.R_mono HO355.out (fun _ hk => hk.2)⟩, ⟨by (with_reducible repeat (first | apply Kd.R_alloc | apply Kd.R_drewN | apply Kd.R_drew)); exact Kd.R_mono HO358.out (fun _ hk => hk.2)⟩, ⟨by (with_reducible repeat (first | apply Kd.S_alloc | apply Kd.S_drewN | apply Kd.S_drew)); exact Kd.S_mono HO370.out (fun _ hk => hk.1.1)⟩, ⟨by (with_reducible repeat (first | apply Kd.R_alloc | apply Kd.R_drewN | apply Kd.R_drew)); exact Kd.R_mono HO372.out (fun _ hk => trivial)⟩, ⟨blB HB⟩⟩
           · replace c22 := Bool.eq_false_iff.mpr c22
             subst c22
             have H1 : (laws_FnSorted.j0 k l0 l1 (wrap64 (3 + t350)) t352 t356 t366 t367 true) = some r := by rw [if_neg (show ¬ (false = true) by decide)] at H; exact H
             clear H
             have H := H1
             clear H1
             have H' := Aside0.mk H
             clear H
             obtain ⟨Ao36, co36, eo36⟩ := Kd.S_slice HO363.out
             subst eo36
             obtain ⟨Ao37, co37, eo37⟩ := Kd.S_slice HO370.out
             subst eo37
             go_wp2_with (first | (go_at_call 10; (with_reducible refine (spec_A2SameLists.calls k _ _ t359 _ _ t366 false _ ?side1 ?side2 ?side3 ?side4 A21.out).mono ?_); (case side1 => exact cvC ((Kd.S_reads' HO363.out).2.2)); (case side2 => exact (Kd.S_reads' HO363.out).2.1); (case side3 => exact cvC ((Kd.S_reads' HO370.out).2.2)); (case side4 => exact (Kd.S_reads' HO370.out).2.1); rintro e w' ⟨rfl, ⟨nd, rfl⟩⟩; (try first | exact ⟨rfl, _, World.drewN_drewN _ _ _⟩ | exact ⟨rfl, _, Eq.trans (World.drewN_drewN _ _ _) (congrArg (World.drewN _) (Nat.add_assoc _ _ _))⟩)))
             repeat (go_quiet (fail); try go_wp2)
             go_meet
             case rel => exact ⟨_, (true), (by first | rfl | (simp; done) | (simp [*]; done)), H', ⟨by first | omega | exact Nat.le_refl _⟩, ⟨by (with_reducible repeat (first | apply Kd.R_alloc | apply Kd.R_drewN | apply Kd.R_drew)); exact Kd.R_mono HO355.out (fun _ hk => hk.2)⟩, ⟨by (with_reducible repeat (first | apply Kd.R_alloc | apply Kd.R_drewN | apply Kd.R_drew)); exact Kd.R_mono HO358.out (fun _ hk => hk.2)⟩, ⟨by (with_reducible repeat (first | apply Kd.S_alloc | apply Kd.S_drewN | apply Kd.S_drew)); exact Kd.S_mono HO370.out (fun _ hk => hk.1.1)⟩, ⟨by (with_reducible repeat (first | apply Kd.R_alloc | apply Kd.R_drewN | apply Kd.R_drew)); exact Kd.R_mono HO372.out (fun _ hk => trivial)⟩, ⟨blB HB⟩⟩
         · rw [if_neg c20] at H
           have c20b0 : (t361 == 0) = false := beq_eq_false_iff_ne.mpr c20
           have c20b1 : (t361 != 0) = true := bne_iff_ne.mpr c20
           have H' := Aside0.mk H
           clear H
           go_wp2
           repeat (go_quiet (fail); try go_wp2)
           go_meet
           case rel => exact ⟨_, (true), (by first | rfl | (simp; done) | (simp [*]; done)), H', ⟨by first | omega | exact Nat.le_refl _⟩, ⟨by (with_reducible repeat (first | apply Kd.R_alloc | apply Kd.R_drewN | apply Kd.R_drew)); exact Kd.R_mono HO355.out (fun _ hk => hk.2)⟩, ⟨by (with_reducible repeat (first | apply Kd.R_alloc | apply Kd.R_drewN | apply Kd.R_drew)); exact Kd.R_mono HO358.out (fun _ hk => hk.2)⟩, ⟨by (with_reducible repeat (first | apply Kd.S_alloc | apply Kd.S_drewN | apply Kd.S_drew)); exact Kd.S_mono HO370.out (fun _ hk => hk.1.1)⟩, ⟨by (with_reducible repeat (first | apply Kd.R_alloc | apply Kd.R_drewN | apply Kd.R_drew)); exact Kd.R_mono HO372.out (fun _ hk => trivial)⟩, ⟨blB HB⟩⟩
       · rw [if_neg c19] at H
         have c19b0 : (t361 == t368) = false := beq_eq_false_iff_ne.mpr c19
         have c19b1 : (t361 != t368) = true := bne_iff_ne.mpr c19
         have H' := Aside0.mk H
         clear H
         go_wp2
         repeat (go_quiet (fail); try go_wp2)
         go_meet
         case rel => exact ⟨_, (true), (by first | rfl | (simp; done) | (simp [*]; done)), H', ⟨by first | omega | exact Nat.le_refl _⟩, ⟨by (with_reducible repeat (first | apply Kd.R_alloc | apply Kd.R_drewN | apply Kd.R_drew)); exact Kd.R_mono HO355.out (fun _ hk => hk.2)⟩, ⟨by (with_reducible repeat (first | apply Kd.R_alloc | apply Kd.R_drewN | apply Kd.R_drew)); exact Kd.R_mono HO358.out (fun _ hk => hk.2)⟩, ⟨by (with_reducible repeat (first | apply Kd.S_alloc | apply Kd.S_drewN | apply Kd.S_drew)); exact Kd.S_mono HO370.out (fun _ hk => hk.1.1)⟩, ⟨by (with_reducible repeat (first | apply Kd.R_alloc | apply Kd.R_drewN | apply Kd.R_drew)); exact Kd.R_mono HO372.out (fun _ hk => trivial)⟩, ⟨blB HB⟩⟩
     · rw [if_neg c18] at H
       have c18b0 : (t353 == 0) = false := beq_eq_false_iff_ne.mpr c18
       have c18b1 : (t353 != 0) = true := bne_iff_ne.mpr c18
       (first | rw [c18b0] | (simp only [i64_w, i32_w]; rw [c18b0]) | skip)
       have H' := Aside0.mk H
       clear H
       go_wp2
       repeat (go_quiet (fail); try go_wp2)
       go_meet
       case rel => exact ⟨_, (true), (by first | rfl | (simp; done) | (simp [*]; done)), H', ⟨by first | omega | exact Nat.le_refl _⟩, ⟨by (with_reducible repeat (first | apply Kd.R_alloc | apply Kd.R_drewN | apply Kd.R_drew)); exact Kd.R_mono HO355.out (fun _ hk => hk.2)⟩, ⟨by (with_reducible repeat (first | apply Kd.R_alloc | apply Kd.R_drewN | apply Kd.R_drew)); exact Kd.R_mono HO358.out (fun _ hk => hk.2)⟩, ⟨by (with_reducible repeat (first | apply Kd.S_alloc | apply Kd.S_drewN | apply Kd.S_drew)); exact Kd.S_mono HO370.out (fun _ hk => hk.1.1)⟩, ⟨by (with_reducible repeat (first | apply Kd.R_alloc | apply Kd.R_drewN | apply Kd.R_drew)); exact Kd.R_mono HO372.out (fun _ hk => trivial)⟩, ⟨blB HB⟩⟩
   case rest =>
    as_aux_lemma =>
     clear HC11
     try clear c1
     try clear c2
     try clear p2
     try clear c3
     try clear c4
     try clear p6
     try clear c18
     try clear c18b0
     try clear c18b1
     try clear c19
     try clear c19b0
     try clear c19b1
     try clear c20
     try clear c20b0
     try clear c20b1
     try clear c22
     try clear c23
     try clear c23b0
     try clear c23b1
     try clear c23b2
     try clear c25
     obtain ⟨kq, x110_10, rfl, HA, HJ10, HO_6, HO_8, HO_12, HO_13, HB⟩ := hcut
     cases kq with
     | zero => exact absurd HA.out (by simp [laws_FnSorted.j0])
     | succ kj10 =>
      have H := HA.out
      clear HA
      simp only [laws_FnSorted.j0] at H
      by_cases c38 : x110_10 = true
      · subst c38
        have H1 : (some false) = some r := by rw [if_pos rfl] at H; exact H
        clear H
        have H := H1
        clear H1
        obtain rfl := Option.some.inj H
        go_wp2
        repeat (go_quiet (fail); try go_wp2)
        go_ret
        exact ⟨by first | rfl | (simp [errW_none, errW_some] <;> rfl) | (simp [*, errW_none, errW_some] <;> rfl), blB HB⟩
      · replace c38 := Bool.eq_false_iff.mpr c38
        subst c38
        have H1 : (laws_FnSorted.l0 kj10 l0 l1 (wrap64 (3 + t350)) t352 t356 t366 t367 (t367.length : Int) (([] : List Int)) (([] : List Int)) 0) = some r := by rw [if_neg (show ¬ (false = true) by decide)] at H; exact H
        clear H
        have H := H1
        clear H1
        obtain ⟨y375, hy375⟩ : ∃ y_ : List Int, y_ = (([] : List Int)) := ⟨_, rfl⟩
        replace H : (laws_FnSorted.l0 kj10 l0 l1 (wrap64 (3 + t350)) t352 t356 t366 t367 (t367.length : Int) y375 (([] : List Int)) 0) = some r := by first | (rw [hy375]; with_reducible exact H) | (have H2_ := (Option.bind_some _ _).symm.trans H; rw [hy375]; with_reducible exact H2_) | (have H2_ := (Option.bind_some _ _).symm.trans H; with_reducible exact H2_) | with_reducible exact H | (rw [hy375]; exact H) | exact H
        have Ny375 := Aside0.mk hy375
        clear hy375
        obtain ⟨y378, hy378⟩ : ∃ y_ : List Int, y_ = (([] : List Int)) := ⟨_, rfl⟩
        replace H : (laws_FnSorted.l0 kj10 l0 l1 (wrap64 (3 + t350)) t352 t356 t366 t367 (t367.length : Int) y375 y378 0) = some r := by first | (rw [hy378]; with_reducible exact H) | (have H2_ := (Option.bind_some _ _).symm.trans H; rw [hy378]; with_reducible exact H2_) | (have H2_ := (Option.bind_some _ _).symm.trans H; with_reducible exact H2_) | with_reducible exact H | (rw [hy378]; exact H) | exact H
        have Ny378 := Aside0.mk hy378
        clear hy378
        have H' := Aside0.mk H
        clear H
        obtain ⟨Ao39, co39, eo39⟩ := Kd.R_slice HO_13.out
        subst eo39
        go_wp2_with (first | ((with_reducible refine gate_dst (N := 113) rfl ?_); (try (refine gate_guard (by rfl) ?_; dsimp only)); refine Kd.R_lit (Kd.int .i64) _ 2 ?hg (N := 113) ?hd (xs := ([] : List Int)) (inner := []) (ok := fun _ => True) (okp := fun _ => True) ?hr ?hp (fun _ hk => hk) trivial (Below.refl _ _) (Nat.le_refl _) (by simp) ?_; (case hd => rfl); (case hg => rfl); (case hr => first | (go_simp; done) | (go_simp; rfl)); (case hp => exact (Reps.none _ _)); intro v376 w40 ho41 hb hg_ hnew_; clear hg_ hnew_; (first | rw [← Ny375.out] at ho41 | (simp only [Int.reduceToNat] at ho41; rw [← Ny375.out] at ho41)); have n0_ := Aside0.mk (Kd.R_below (mvR HO_6) hb); have n1_ := Aside0.mk (Kd.R_below (mvR HO_8) hb); have n2_ := Aside0.mk (Kd.S_elder' (by (with_reducible repeat (first | apply Kd.S_alloc | apply Kd.S_drewN | apply Kd.S_drew)); exact HO_12.out) (Kd.R_base ho41) hb); have n3_ := Aside0.mk (Kd.R_elder' (mvR HO_13) (Kd.R_base ho41) hb); have n4_ := Aside0.mk (Kd.R_lower (Kd.R_new' ho41 (Kd.R_lt (mvR HO_13))) (below_size (blB HB))); have n5_ := Aside0.mk (below_step (blB HB) hb); clear HO_6; clear HO_8; clear HO_12; clear HO_13; clear HB; have HO_6 := n0_; have HO_8 := n1_; have HO_12 := n2_; have HO_13 := n3_; have HO377 := n4_; have HB := n5_; clear n0_ n1_ n2_ n3_ n4_ n5_; clear hb ho41) | ((with_reducible refine gate_dst (N := 114) rfl ?_); (try (refine gate_guard (by rfl) ?_; dsimp only)); refine Kd.R_lit (Kd.int .i64) _ 2 ?hg (N := 114) ?hd (xs := ([] : List Int)) (inner := []) (ok := fun _ => True) (okp := fun _ => True) ?hr ?hp (fun _ hk => hk) trivial (Below.refl _ _) (Nat.le_refl _) (by simp) ?_; (case hd => rfl); (case hg => rfl); (case hr => first | (go_simp; done) | (go_simp; rfl)); (case hp => exact (Reps.none _ _)); intro v379 w42 ho43 hb hg_ hnew_; clear hg_ hnew_; (first | rw [← Ny378.out] at ho43 | (simp only [Int.reduceToNat] at ho43; rw [← Ny378.out] at ho43)); have n0_ := Aside0.mk (Kd.R_below (mvR HO_6) hb); have n1_ := Aside0.mk (Kd.R_below (mvR HO_8) hb); have n2_ := Aside0.mk (Kd.S_elder' (by (with_reducible repeat (first | apply Kd.S_alloc | apply Kd.S_drewN | apply Kd.S_drew)); exact HO_12.out) (Kd.R_base ho43) hb); have n3_ := Aside0.mk (Kd.R_elder' (mvR HO_13) (Kd.R_base ho43) hb); have n4_ := Aside0.mk (Kd.R_elder' (mvR HO377) (Kd.R_base ho43) hb); have n5_ := Aside0.mk (Kd.R_lower (Kd.R_new' (Kd.R_new' ho43 (Kd.R_lt (mvR HO_13))) (Kd.R_lt (mvR HO377))) (below_size (blB HB))); have n6_ := Aside0.mk (below_step (blB HB) hb); clear HO_6; clear HO_8; clear HO_12; clear HO_13; clear HO377; clear HB; have HO_6 := n0_; have HO_8 := n1_; have HO_12 := n2_; have HO_13 := n3_; have HO377 := n4_; have HO380 := n5_; have HB := n6_; clear n0_ n1_ n2_ n3_ n4_ n5_ n6_; clear hb ho43))
        repeat (go_quiet (fail); try go_wp2)
        go_loopg [15, 16, 17, 18] kj10 (fun kq v15 v16 v17 v18 w' => ∃ (x15_2 : Int) (x16_2 : List Int) (x17_2 : List Int) (x18_2 : Int), v15 = .int .i64 x15_2 ∧ v18 = .int .i64 x18_2 ∧ Aside0 (laws_FnSorted.l0 kq l0 l1 (wrap64 (3 + t350)) t352 t356 t366 t367 x15_2 x16_2 x17_2 x18_2 = some r) ∧ Aside0 (kq ≤ kj10) ∧ Aside0 (Kd.R (Kd.int .u16) 38 w' w.heap.size (fun k_ => some k_ ≠ ((.slice Ao15 t356.length co15) : Value).ownBlock) (.slice Ao14 t352.length co14) t352) ∧ Aside0 (Kd.R (Kd.int .u16) 38 w' w.heap.size (fun k_ => some k_ ≠ ((.slice Ao14 t352.length co14) : Value).ownBlock) (.slice Ao15 t356.length co15) t356) ∧ Aside0 (Kd.S (Kd.slice 2 (Kd.int .i64)) 30 w' w.heap.size (fun k_ => some k_ ≠ ((.slice Ao39 t367.length co39) : Value).ownBlock ∧ some k_ ≠ (v16 : Value).ownBlock ∧ some k_ ≠ (v17 : Value).ownBlock) v369 t366) ∧ Aside0 (Kd.R (Kd.int .i64) 2 w' w.heap.size (fun k_ => some k_ ≠ (v16 : Value).ownBlock ∧ some k_ ≠ (v17 : Value).ownBlock) (.slice Ao39 t367.length co39) t367) ∧ Aside0 (Kd.R (Kd.int .i64) 2 w' w.heap.size (fun k_ => some k_ ≠ ((.slice Ao39 t367.length co39) : Value).ownBlock ∧ some k_ ≠ (v17 : Value).ownBlock) v16 x16_2) ∧ Aside0 (Kd.R (Kd.int .i64) 2 w' w.heap.size (fun k_ => some k_ ≠ ((.slice Ao39 t367.length co39) : Value).ownBlock ∧ some k_ ≠ (v16 : Value).ownBlock) v17 x17_2) ∧ Aside0 (Below w.heap.size w w'))
        case atStart => exact ⟨((t367.length : Int)), (y375), (y378), (0), (by first | rfl | (simp; done) | (simp [*]; done)), (by first | rfl | (simp; done) | (simp [*]; done)), H', ⟨Nat.le_refl _⟩, ⟨mvR HO_6⟩, ⟨mvR HO_8⟩, ⟨by (with_reducible repeat (first | apply Kd.S_alloc | apply Kd.S_drewN | apply Kd.S_drew)); exact Kd.S_mono HO_12.out (fun _ hk => ⟨hk.1.1, ⟨hk.1.2, hk.2⟩⟩)⟩, ⟨by (with_reducible repeat (first | apply Kd.R_alloc | apply Kd.R_drewN | apply Kd.R_drew)); exact Kd.R_mono HO_13.out (fun _ hk => ⟨hk.1.2, hk.2⟩)⟩, ⟨by (with_reducible repeat (first | apply Kd.R_alloc | apply Kd.R_drewN | apply Kd.R_drew)); exact Kd.R_mono HO377.out (fun _ hk => ⟨hk.1.2, hk.2⟩)⟩, ⟨by (with_reducible repeat (first | apply Kd.R_alloc | apply Kd.R_drewN | apply Kd.R_drew)); exact Kd.R_mono HO380.out (fun _ hk => ⟨hk.1.2, hk.2⟩)⟩, ⟨blB HB⟩⟩
        case round =>
         as_aux_lemma =>
          clear H'
          try clear c1
          try clear c2
          try clear p2
          try clear c3
          try clear c4
          try clear p6
          try clear c18
          try clear c18b0
          try clear c18b1
          try clear c19
          try clear c19b0
          try clear c19b1
          try clear c20
          try clear c20b0
          try clear c20b1
          try clear c22
          try clear c23
          try clear c23b0
          try clear c23b1
          try clear c23b2
          try clear c25
          try clear c38
          try clear p2
          try clear p6
          obtain ⟨x15_2, x16_2, x17_2, x18_2, rfl, rfl, HA, HK2, HO_6, HO_8, HO_12, HO_13, HO_16, HO_17, HB⟩ := hrel
          cases gk with
          | zero => exact absurd HA.out (by simp [laws_FnSorted.l0])
          | succ k2 =>
           have H := HA.out
           clear HA
           simp only [laws_FnSorted.l0] at H
           by_cases c44 : x18_2 < (t366.length : Int)
           · rw [if_pos c44] at H
             have c44b0 : decide (x18_2 < (t366.length : Int)) = true := decide_eq_true c44
             clear c44
             by_cases c45 : 0 ≤ x18_2
             · rw [if_pos c45] at H
               have c45b0 : decide (0 ≤ x18_2) = true := decide_eq_true c45
               clear c45
               replace H := Option.bind_eq_some_iff.mp H
               obtain ⟨t382, A460, H⟩ := H
               replace H : (if x16_2.length < 17592186044416 then (if x17_2.length < 17592186044416 then (laws_FnSorted.l1 k2 l0 l1 (wrap64 (3 + t350)) t352 t356 t366 t367 (wrap64 (x15_2 + ((rd_L6 t366 x18_2).length : Int))) (x16_2 ++ [t382]) (x17_2 ++ [((rd_L6 t366 x18_2).length : Int)]) x18_2 0) else (none)) else (none)) = some r := H
               have A46 := Aside0.mk A460
               clear A460
               by_cases c47 : x16_2.length < 17592186044416
               · rw [if_pos c47] at H
                 have LMc47 := Aside0.mk c47
                 clear c47
                 obtain ⟨y383, hy383⟩ : ∃ y_ : List Int, y_ = (x16_2 ++ [t382]) := ⟨_, rfl⟩
                 replace H : (if x17_2.length < 17592186044416 then (laws_FnSorted.l1 k2 l0 l1 (wrap64 (3 + t350)) t352 t356 t366 t367 (wrap64 (x15_2 + ((rd_L6 t366 x18_2).length : Int))) y383 (x17_2 ++ [((rd_L6 t366 x18_2).length : Int)]) x18_2 0) else (none)) = some r := by first | (rw [hy383]; with_reducible exact H) | (have H2_ := (Option.bind_some _ _).symm.trans H; rw [hy383]; with_reducible exact H2_) | (have H2_ := (Option.bind_some _ _).symm.trans H; with_reducible exact H2_) | with_reducible exact H | (rw [hy383]; exact H) | exact H
                 have Ny383 := Aside0.mk hy383
                 clear hy383
                 by_cases c48 : x17_2.length < 17592186044416
                 · rw [if_pos c48] at H
                   have LMc48 := Aside0.mk c48
                   clear c48
                   obtain ⟨y387, hy387⟩ : ∃ y_ : List Int, y_ = (x17_2 ++ [((rd_L6 t366 x18_2).length : Int)]) := ⟨_, rfl⟩
                   replace H : (laws_FnSorted.l1 k2 l0 l1 (wrap64 (3 + t350)) t352 t356 t366 t367 (wrap64 (x15_2 + ((rd_L6 t366 x18_2).length : Int))) y383 y387 x18_2 0) = some r := by first | (rw [hy387]; with_reducible exact H) | (have H2_ := (Option.bind_some _ _).symm.trans H; rw [hy387]; with_reducible exact H2_) | (have H2_ := (Option.bind_some _ _).symm.trans H; with_reducible exact H2_) | with_reducible exact H | (rw [hy387]; exact H) | exact H
                   have Ny387 := Aside0.mk hy387
                   clear hy387
                   have H' := Aside0.mk H
                   clear H
                   obtain ⟨Ao49, co49, eo49⟩ := Kd.S_slice HO_12.out
                   subst eo49
                   have p381 : 0 ≤ (x18_2 : Int) := dtB
                   have q381 : x18_2 < (t366.length : Int) := dtB
                   obtain ⟨ad381, A381_0, c381_0, e381, hx381_0, hl381_0, hi381_0⟩ := at_L6 (Kd.S_reads' HO_12.out).2.2 x18_2 p381 q381
                   cases e381
                   obtain ⟨ce381, hce381, hMe381, hcc381⟩ := Kd.S_get HO_12.out [] x18_2 p381 (by first | exact q381 | exact dtB | (have e_ := (Kd.S_reads' HO_12.out).1; omega))
                   obtain ⟨ve381_0, rfl, ge381_0⟩ := hMe381
                   have hv381_0 := hcc381 0 _ rfl
                   rw [Nat.add_zero, show ((Kd.slice 2 (Kd.int .i64))).sz = 1 from rfl, Nat.mul_one] at hv381_0
                   replace hv381_0 := Option.some.inj (hv381_0.symm.trans hx381_0)
                   rw [hv381_0] at ge381_0
                   have HL381_0 := Aside0.mk (show Kd.R (Kd.int .i64) 2 _ _ _ _ (rd_L6 t366 x18_2) from ge381_0)
                   clear hv381_0 ge381_0
                   clear hcc381 hce381
                   have HR381_0 := Aside0.mk hi381_0
                   have HC381_0 := Aside0.mk hl381_0
                   clear hi381_0 hl381_0
                   replace p381 := eq_true p381
                   replace q381 := eq_true q381
                   go_wp2_with (first | (go_at_call 5; (with_reducible refine (laws_a2At.calls _ _ l1 x18_2 4 t382 _ ?side1 ?side2 A46.out).mono ?_); (case side1 => exact cvC ((Kd.C_below HR1.out HB.out))); (case side2 => exact HC1.out); rintro e w' ⟨rfl, ⟨nd, rfl⟩⟩; (try first | exact ⟨rfl, _, World.drewN_drewN _ _ _⟩ | exact ⟨rfl, _, Eq.trans (World.drewN_drewN _ _ _) (congrArg (World.drewN _) (Nat.add_assoc _ _ _))⟩)) | ((with_reducible refine gate_builtin (b := .append) (xs := #[.tmp 128, .tmp 132]) rfl ?_); (try (refine gate_guard (by rfl) ?_; dsimp only)); at_builtin; refine Kd.R_append (Kd.int .i64) (w0 := w) w.heap.size rfl (.tmp 128) (.tmp 132) 30 2 (.int .i64 0) 8 rfl Try.underlying30 info2 rfl (by decide) (by omega) u16 x16_2 t382 [.int .i64 t382] (fun k_ => some k_ ≠ (.slice Ao39 t367.length co39 : Value).ownBlock ∧ some k_ ≠ (u17 : Value).ownBlock) (fun _ => False) rfl rfl ?aP (fun _ hk => hk.elim) ?aF ?aO ?aB ?aS ?aL ?_; (case aP => exact rfl); (case aB => exact (blB HB)); (case aF => exact (fun k_ hk => ⟨Kd.fresh' (Kd.R_lt (mvR HO_13)) k_ hk, Kd.fresh' (Kd.R_lt (mvR HO_17)) k_ hk⟩)); (case aO => exact (mvR HO_16)); (case aS => exact (below_size (blB HB))); (case aL => have := LMc47.out; omega); intro v384 w50 ho hb hg hat; rw [← Ny383.out] at ho; have n0_ := Aside0.mk (Kd.R_over' (mvR HO_6) (Kd.R_typed (mvR HO_16)) (by decide) hg); have n1_ := Aside0.mk (Kd.R_over' (mvR HO_8) (Kd.R_typed (mvR HO_16)) (by decide) hg); have n2_ := Aside0.mk (Kd.S_after (ok := (fun k_ => some k_ ≠ (.slice Ao39 t367.length co39 : Value).ownBlock ∧ some k_ ≠ (u17 : Value).ownBlock)) (by (with_reducible repeat (first | apply Kd.S_alloc | apply Kd.S_drewN | apply Kd.S_drew)); exact Kd.S_mono HO_12.out (fun _ hk => ⟨⟨hk.1, hk.2.2⟩, hk.2.1⟩)) hg hat); have n3_ := Aside0.mk (Kd.R_after (ok := (fun k_ => some k_ ≠ (u17 : Value).ownBlock)) (by (with_reducible repeat (first | apply Kd.R_alloc | apply Kd.R_drewN | apply Kd.R_drew)); exact Kd.R_mono HO_13.out (fun _ hk => ⟨hk.2, hk.1⟩)) hg hat); have n4_ := Aside0.mk (Kd.R_after (ok := (fun k_ => some k_ ≠ (.slice Ao39 t367.length co39 : Value).ownBlock)) (mvR HO_17) hg hat); have n5_ := Aside0.mk (Kd.R_after (ok := (fun k_ => some k_ ≠ (.slice (some ad381) t366.length co49 : Value).ownBlock ∧ some k_ ≠ (.slice Ao39 t367.length co39 : Value).ownBlock ∧ some k_ ≠ (u17 : Value).ownBlock)) (by (with_reducible repeat (first | apply Kd.R_alloc | apply Kd.R_drewN | apply Kd.R_drew)); exact Kd.R_mono HL381_0.out (fun _ hk => ⟨⟨hk.2, ⟨hk.1.1, hk.1.2.2⟩⟩, hk.1.2.1⟩)) hg hat); have n6_ := Aside0.mk (hb); have n7_ := Aside0.mk (ho); clear HO_6; clear HO_8; clear HO_12; clear HO_13; clear HO_17; clear HL381_0; clear HB; clear HO_16; have HO_6 := n0_; have HO_8 := n1_; have HO_12 := n2_; have HO_13 := n3_; have HO_17 := n4_; have HL381_0 := n5_; have HB := n6_; have HO385 := n7_; clear n0_ n1_ n2_ n3_ n4_ n5_ n6_ n7_; clear ho hb hg hat; have p386 : 0 ≤ (x18_2 : Int) := dtB; have q386 : x18_2 < (t366.length : Int) := dtB; obtain ⟨ad386, A386_0, c386_0, e386, hx386_0, hl386_0, hi386_0⟩ := at_L6 (Kd.S_reads' HO_12.out).2.2 x18_2 p386 q386; obtain rfl : ad381 = ad386 := (by injection e386); obtain ⟨ce386, hce386, hMe386, hcc386⟩ := Kd.S_get HO_12.out [] x18_2 p386 (by first | exact q386 | exact dtB | (have e_ := (Kd.S_reads' HO_12.out).1; omega)); obtain ⟨ve386_0, rfl, ge386_0⟩ := hMe386; have hv386_0 := hcc386 0 _ rfl; rw [Nat.add_zero, show ((Kd.slice 2 (Kd.int .i64))).sz = 1 from rfl, Nat.mul_one] at hv386_0; replace hv386_0 := Option.some.inj (hv386_0.symm.trans hx386_0); rw [hv386_0] at ge386_0; have HL386_0 := Aside0.mk (show Kd.R (Kd.int .i64) 2 _ _ _ _ (rd_L6 t366 x18_2) from ge386_0); clear hv386_0 ge386_0; clear hcc386 hce386; have HR386_0 := Aside0.mk hi386_0; have HC386_0 := Aside0.mk hl386_0; clear hi386_0 hl386_0; replace p386 := eq_true p386; replace q386 := eq_true q386) | ((with_reducible refine gate_builtin (b := .append) (xs := #[.tmp 134, .tmp 140]) rfl ?_); (try (refine gate_guard (by rfl) ?_; dsimp only)); at_builtin; refine Kd.R_append (Kd.int .i64) (w0 := w) w.heap.size rfl (.tmp 134) (.tmp 140) 30 2 (.int .i64 0) 8 rfl Try.underlying30 info2 rfl (by decide) (by omega) u17 x17_2 ((rd_L6 t366 x18_2).length : Int) [.int .i64 ((rd_L6 t366 x18_2).length : Int)] (fun k_ => some k_ ≠ (.slice Ao39 t367.length co39 : Value).ownBlock ∧ some k_ ≠ (v384 : Value).ownBlock) (fun _ => False) rfl rfl ?aP (fun _ hk => hk.elim) ?aF ?aO ?aB ?aS ?aL ?_; (case aP => exact rfl); (case aB => exact (blB HB)); (case aF => exact (fun k_ hk => ⟨Kd.fresh' (Kd.R_lt (mvR HO_13)) k_ hk, Kd.fresh' (Kd.R_lt (mvR HO385)) k_ hk⟩)); (case aO => exact (mvR HO_17)); (case aS => exact (below_size (blB HB))); (case aL => have := LMc48.out; omega); intro v388 w51 ho hb hg hat; rw [← Ny387.out] at ho; have n0_ := Aside0.mk (Kd.R_over' (mvR HO_6) (Kd.R_typed (mvR HO_17)) (by decide) hg); have n1_ := Aside0.mk (Kd.R_over' (mvR HO_8) (Kd.R_typed (mvR HO_17)) (by decide) hg); have n2_ := Aside0.mk (Kd.S_after (ok := (fun k_ => some k_ ≠ (.slice Ao39 t367.length co39 : Value).ownBlock ∧ some k_ ≠ (v384 : Value).ownBlock)) (by (with_reducible repeat (first | apply Kd.S_alloc | apply Kd.S_drewN | apply Kd.S_drew)); exact Kd.S_mono HO_12.out (fun _ hk => ⟨⟨hk.1.1, hk.2⟩, hk.1.2⟩)) hg hat); have n3_ := Aside0.mk (Kd.R_after (ok := (fun k_ => some k_ ≠ (v384 : Value).ownBlock)) (by (with_reducible repeat (first | apply Kd.R_alloc | apply Kd.R_drewN | apply Kd.R_drew)); exact Kd.R_mono HO_13.out (fun _ hk => ⟨hk.2, hk.1⟩)) hg hat); have n4_ := Aside0.mk (Kd.R_after (ok := (fun k_ => some k_ ≠ (.slice (some ad381) t366.length co49 : Value).ownBlock ∧ some k_ ≠ (.slice Ao39 t367.length co39 : Value).ownBlock ∧ some k_ ≠ (v384 : Value).ownBlock)) (by (with_reducible repeat (first | apply Kd.R_alloc | apply Kd.R_drewN | apply Kd.R_drew)); exact Kd.R_mono HL381_0.out (fun _ hk => ⟨⟨hk.1.1, ⟨hk.1.2.1, hk.2⟩⟩, hk.1.2.2⟩)) hg hat); have n5_ := Aside0.mk (Kd.R_after (ok := (fun k_ => some k_ ≠ (.slice Ao39 t367.length co39 : Value).ownBlock)) (mvR HO385) hg hat); have n6_ := Aside0.mk (Kd.R_after (ok := (fun k_ => some k_ ≠ (.slice (some ad381) t366.length co49 : Value).ownBlock ∧ some k_ ≠ (.slice Ao39 t367.length co39 : Value).ownBlock ∧ some k_ ≠ (v384 : Value).ownBlock)) (by (with_reducible repeat (first | apply Kd.R_alloc | apply Kd.R_drewN | apply Kd.R_drew)); exact Kd.R_mono HL386_0.out (fun _ hk => ⟨⟨hk.2, ⟨hk.1.1.1, hk.1.2⟩⟩, hk.1.1.2⟩)) hg hat); have n7_ := Aside0.mk (hb); have n8_ := Aside0.mk (ho); clear HO_6; clear HO_8; clear HO_12; clear HO_13; clear HL381_0; clear HO385; clear HL386_0; clear HB; clear HO_17; have HO_6 := n0_; have HO_8 := n1_; have HO_12 := n2_; have HO_13 := n3_; have HL381_0 := n4_; have HO385 := n5_; have HL386_0 := n6_; have HB := n7_; have HO389 := n8_; clear n0_ n1_ n2_ n3_ n4_ n5_ n6_ n7_ n8_; clear ho hb hg hat))
                   repeat (go_quiet (fail); try go_wp2)
                   go_loopg [19] k2 (fun kq v19 w' => ∃ (x19_3 : Int), v19 = .int .i64 x19_3 ∧ Aside0 (laws_FnSorted.l1 kq l0 l1 (wrap64 (3 + t350)) t352 t356 t366 t367 (wrap64 (x15_2 + ((rd_L6 t366 x18_2).length : Int))) y383 y387 x18_2 x19_3 = some r) ∧ Aside0 (kq ≤ k2) ∧ Aside0 (Kd.R (Kd.int .u16) 38 w' w.heap.size (fun k_ => some k_ ≠ ((.slice Ao15 t356.length co15) : Value).ownBlock) (.slice Ao14 t352.length co14) t352) ∧ Aside0 (Kd.R (Kd.int .u16) 38 w' w.heap.size (fun k_ => some k_ ≠ ((.slice Ao14 t352.length co14) : Value).ownBlock) (.slice Ao15 t356.length co15) t356) ∧ Aside0 (Kd.S (Kd.slice 2 (Kd.int .i64)) 30 w' w.heap.size (fun k_ => some k_ ≠ ((.slice Ao39 t367.length co39) : Value).ownBlock ∧ some k_ ≠ (v384 : Value).ownBlock ∧ some k_ ≠ (v388 : Value).ownBlock) (.slice (some ad381) t366.length co49) t366) ∧ Aside0 (Kd.R (Kd.int .i64) 2 w' w.heap.size (fun k_ => some k_ ≠ (v384 : Value).ownBlock ∧ some k_ ≠ (v388 : Value).ownBlock) (.slice Ao39 t367.length co39) t367) ∧ Aside0 (Kd.R (Kd.int .i64) 2 w' w.heap.size (fun k_ => some k_ ≠ ((.slice Ao39 t367.length co39) : Value).ownBlock ∧ some k_ ≠ (v388 : Value).ownBlock) v384 y383) ∧ Aside0 (Kd.R (Kd.int .i64) 2 w' w.heap.size (fun k_ => some k_ ≠ ((.slice Ao39 t367.length co39) : Value).ownBlock ∧ some k_ ≠ (v384 : Value).ownBlock) v388 y387) ∧ Aside0 (Below w.heap.size w w'))
                   case atStart => exact ⟨(0), (by first | rfl | (simp; done) | (simp [*]; done)), H', ⟨Nat.le_refl _⟩, ⟨mvR HO_6⟩, ⟨mvR HO_8⟩, ⟨by (with_reducible repeat (first | apply Kd.S_alloc | apply Kd.S_drewN | apply Kd.S_drew)); exact Kd.S_mono HO_12.out (fun _ hk => ⟨hk.1.1, ⟨hk.1.2, hk.2⟩⟩)⟩, ⟨mvR HO_13⟩, ⟨mvR HO385⟩, ⟨mvR HO389⟩, ⟨blB HB⟩⟩
                   case round =>
                    as_aux_lemma =>
                     clear H'
                     try clear c1
                     try clear c2
                     try clear p2
                     try clear c3
                     try clear p3
                     try clear q3
                     try clear hx3
                     try clear c4
                     try clear p6
                     try clear c18
                     try clear c18b0
                     try clear c18b1
                     try clear c19
                     try clear c19b0
                     try clear c19b1
                     try clear c20
                     try clear c20b0
                     try clear c20b1
                     try clear c22
                     try clear c23
                     try clear c23b0
                     try clear c23b1
                     try clear c23b2
                     try clear c25
                     try clear c38
                     try clear p38
                     try clear q38
                     try clear hx38
                     try clear c44
                     try clear c44b0
                     try clear c45
                     try clear c45b0
                     try clear c47
                     try clear c48
                     try clear hx381_0
                     try clear hx386_0
                     try clear p2
                     try clear p381
                     try clear p386
                     try clear p6
                     try clear q381
                     try clear q386
                     obtain ⟨x19_3, rfl, HA, HK3, HO_6, HO_8, HO_12, HO_13, HO_16, HO_17, HB⟩ := hrel
                     cases gk with
                     | zero => exact absurd HA.out (by simp [laws_FnSorted.l1])
                     | succ k3 =>
                      have H := HA.out
                      clear HA
                      simp only [laws_FnSorted.l1] at H
                      by_cases c52 : 0 ≤ x18_2
                      · rw [if_pos c52] at H
                        have c52b0 : decide (0 ≤ x18_2) = true := decide_eq_true c52
                        clear c52
                        by_cases c53 : x18_2 < (t366.length : Int)
                        · rw [if_pos c53] at H
                          have c53b0 : decide (x18_2 < (t366.length : Int)) = true := decide_eq_true c53
                          clear c53
                          by_cases c54 : x19_3 < ((rd_L6 t366 x18_2).length : Int)
                          · rw [if_pos c54] at H
                            have c54b0 : decide (x19_3 < ((rd_L6 t366 x18_2).length : Int)) = true := decide_eq_true c54
                            clear c54
                            by_cases c55 : 0 ≤ x19_3
                            · rw [if_pos c55] at H
                              have c55b0 : decide (0 ≤ x19_3) = true := decide_eq_true c55
                              clear c55
                              by_cases c56 : 0 ≤ (rd (rd_L6 t366 x18_2) x19_3)
                              · rw [if_pos c56] at H
                                have c56b0 : decide (0 ≤ (rd (rd_L6 t366 x18_2) x19_3)) = true := decide_eq_true c56
                                clear c56
                                by_cases c57 : (rd (rd_L6 t366 x18_2) x19_3) < (t356.length : Int)
                                · rw [if_pos c57] at H
                                  have c57b0 : decide ((rd (rd_L6 t366 x18_2) x19_3) < (t356.length : Int)) = true := decide_eq_true c57
                                  clear c57
                                  replace H := Option.bind_eq_some_iff.mp H
                                  obtain ⟨⟨t394, t395⟩, A580, H⟩ := H
                                  replace H : (if t395 = 0 then (if t394 = x18_2 then (if x19_3 > 0 then (if 0 ≤ (wrap64 (x19_3 - 1)) then (if (wrap64 (x19_3 - 1)) < ((rd_L6 t366 x18_2).length : Int) then (if (rd (rd_L6 t366 x18_2) x19_3) ≤ (rd (rd_L6 t366 x18_2) (wrap64 (x19_3 - 1))) then (some false) else (laws_FnSorted.l1 k3 l0 l1 (wrap64 (3 + t350)) t352 t356 t366 t367 (wrap64 (x15_2 + ((rd_L6 t366 x18_2).length : Int))) y383 y387 x18_2 (wrap64 (x19_3 + 1)))) else (none)) else (none)) else (laws_FnSorted.l1 k3 l0 l1 (wrap64 (3 + t350)) t352 t356 t366 t367 (wrap64 (x15_2 + ((rd_L6 t366 x18_2).length : Int))) y383 y387 x18_2 (wrap64 (x19_3 + 1)))) else (some false)) else (some false)) = some r := H
                                  have A58 := Aside0.mk A580
                                  clear A580
                                  by_cases c59 : t395 = 0
                                  · rw [if_pos c59] at H
                                    have c59b0 : (t395 == 0) = true := beq_iff_eq.mpr c59
                                    have c59b1 : (t395 != 0) = false := bne_eq_false_iff_eq.mpr c59
                                    clear c59
                                    by_cases c60 : t394 = x18_2
                                    · rw [if_pos c60] at H
                                      have c60b0 : (t394 == x18_2) = true := beq_iff_eq.mpr c60
                                      have c60b1 : (t394 != x18_2) = false := bne_eq_false_iff_eq.mpr c60
                                      clear c60
                                      by_cases c61 : x19_3 > 0
                                      · rw [if_pos c61] at H
                                        have c61b0 : decide (0 < x19_3) = true := decide_eq_true c61
                                        clear c61
                                        obtain ⟨ji62, hji62⟩ : ∃ j_ : Int, (wrap64 (x19_3 - 1)) = j_ := ⟨_, rfl⟩
                                        replace H : (if 0 ≤ (ji62) then (if (ji62) < ((rd_L6 t366 x18_2).length : Int) then (if (rd (rd_L6 t366 x18_2) x19_3) ≤ (rd (rd_L6 t366 x18_2) (ji62)) then (some false) else (laws_FnSorted.l1 k3 l0 l1 (wrap64 (3 + t350)) t352 t356 t366 t367 (wrap64 (x15_2 + ((rd_L6 t366 x18_2).length : Int))) y383 y387 x18_2 (wrap64 (x19_3 + 1)))) else (none)) else (none)) = some r := by first | (rw [hji62] at H; exact H) | (simp only [hji62] at H ⊢; exact H)
                                        (try rw [hji62] at A58)
                                        have hji62w : (IntKind.i64.wrap (x19_3 - 1)) = ji62 := (i64_w _).trans hji62
                                        by_cases c63 : 0 ≤ (ji62)
                                        · rw [if_pos c63] at H
                                          have c63b0 : decide (0 ≤ (ji62)) = true := decide_eq_true c63
                                          clear c63
                                          by_cases c64 : (ji62) < ((rd_L6 t366 x18_2).length : Int)
                                          · rw [if_pos c64] at H
                                            have c64b0 : decide ((ji62) < ((rd_L6 t366 x18_2).length : Int)) = true := decide_eq_true c64
                                            clear c64
                                            by_cases c65 : (rd (rd_L6 t366 x18_2) x19_3) ≤ (rd (rd_L6 t366 x18_2) (ji62))
                                            · rw [if_pos c65] at H
                                              have c65b0 : decide ((rd (rd_L6 t366 x18_2) x19_3) ≤ (rd (rd_L6 t366 x18_2) (ji62))) = true := decide_eq_true c65
                                              clear c65
                                              obtain rfl := Option.some.inj H
                                              have p390 : 0 ≤ (x18_2 : Int) := dtB
                                              have q390 : x18_2 < (t366.length : Int) := dtB
                                              obtain ⟨ad390, A390_0, c390_0, e390, hx390_0, hl390_0, hi390_0⟩ := at_L6 (Kd.S_reads' HO_12.out).2.2 x18_2 p390 q390
                                              obtain rfl : ad381 = ad390 := (by injection e390)
                                              obtain ⟨ce390, hce390, hMe390, hcc390⟩ := Kd.S_get HO_12.out [] x18_2 p390 (by first | exact q390 | exact dtB | (have e_ := (Kd.S_reads' HO_12.out).1; omega))
                                              obtain ⟨ve390_0, rfl, ge390_0⟩ := hMe390
                                              have hv390_0 := hcc390 0 _ rfl
                                              rw [Nat.add_zero, show ((Kd.slice 2 (Kd.int .i64))).sz = 1 from rfl, Nat.mul_one] at hv390_0
                                              replace hv390_0 := Option.some.inj (hv390_0.symm.trans hx390_0)
                                              rw [hv390_0] at ge390_0
                                              have HL390_0 := Aside0.mk (show Kd.R (Kd.int .i64) 2 _ _ _ _ (rd_L6 t366 x18_2) from ge390_0)
                                              clear hv390_0 ge390_0
                                              clear hcc390 hce390
                                              have HR390_0 := Aside0.mk hi390_0
                                              have HC390_0 := Aside0.mk hl390_0
                                              clear hi390_0 hl390_0
                                              replace p390 := eq_true p390
                                              replace q390 := eq_true q390
                                              have p391 : 0 ≤ (x18_2 : Int) := dtB
                                              have q391 : x18_2 < (t366.length : Int) := dtB
                                              obtain ⟨ad391, A391_0, c391_0, e391, hx391_0, hl391_0, hi391_0⟩ := at_L6 (Kd.S_reads' HO_12.out).2.2 x18_2 p391 q391
                                              obtain rfl : ad381 = ad391 := (by injection e391)
                                              obtain ⟨ce391, hce391, hMe391, hcc391⟩ := Kd.S_get HO_12.out [] x18_2 p391 (by first | exact q391 | exact dtB | (have e_ := (Kd.S_reads' HO_12.out).1; omega))
                                              obtain ⟨ve391_0, rfl, ge391_0⟩ := hMe391
                                              have hv391_0 := hcc391 0 _ rfl
                                              rw [Nat.add_zero, show ((Kd.slice 2 (Kd.int .i64))).sz = 1 from rfl, Nat.mul_one] at hv391_0
                                              replace hv391_0 := Option.some.inj (hv391_0.symm.trans hx391_0)
                                              rw [hv391_0] at ge391_0
                                              have HL391_0 := Aside0.mk (show Kd.R (Kd.int .i64) 2 _ _ _ _ (rd_L6 t366 x18_2) from ge391_0)
                                              clear hv391_0 ge391_0
                                              clear hcc391 hce391
                                              have HR391_0 := Aside0.mk hi391_0
                                              have HC391_0 := Aside0.mk hl391_0
                                              clear hi391_0 hl391_0
                                              replace p391 := eq_true p391
                                              replace q391 := eq_true q391
                                              have ea_ := Option.some.inj (hx390_0.symm.trans hx391_0)
                                              injection ea_ with ea_ en_ ec_
                                              subst ea_
                                              subst ec_
                                              clear en_
                                              have p392 : 0 ≤ (x19_3 : Int) := dtB
                                              have q392 : x19_3 < ((rd_L6 t366 x18_2).length : Int) := dtB
                                              obtain ⟨ad392, e392, hx392_0⟩ := Kd.at_int (by repeat (first | (with_reducible exact HR391_0.out) | (with_reducible refine Kd.C_alloc ?_ _) | (with_reducible refine Kd.C_drewN ?_ _) | (with_reducible refine Kd.C_drew ?_) | exact HR391_0.out)) x19_3 p392 q392
                                              cases e392
                                              replace p392 := eq_true p392
                                              replace q392 := eq_true q392
                                              have p393 : 0 ≤ ((rd (rd_L6 t366 x18_2) x19_3) : Int) := dtB
                                              have q393 : (rd (rd_L6 t366 x18_2) x19_3) < (t356.length : Int) := dtB
                                              obtain ⟨ad393, e393, hx393_0⟩ := Kd.at_int (Kd.R_reads' HO_8.out).2.2 (rd (rd_L6 t366 x18_2) x19_3) p393 q393
                                              cases e393
                                              replace p393 := eq_true p393
                                              replace q393 := eq_true q393
                                              go_wp2_with (first | (go_at_call 12; (with_reducible refine (impl_ReadStitches.calls k3 (wrap64 (3 + t350)) _ _ t352 (rd t356 (rd (rd_L6 t366 x18_2) x19_3)) t394 t395 _ ?side1 ?side2 A58.out).mono ?_); (case side1 => exact cvC ((Kd.R_reads' HO_6.out).2.2)); (case side2 => exact (Kd.R_reads' HO_6.out).2.1); rintro e w66 ⟨rfl, hb⟩; have n0_ := Aside0.mk (Kd.R_below (mvR HO_6) hb); have n1_ := Aside0.mk (Kd.R_below (mvR HO_8) hb); have n2_ := Aside0.mk (Kd.S_below (by (with_reducible repeat (first | apply Kd.S_alloc | apply Kd.S_drewN | apply Kd.S_drew)); exact HO_12.out) hb); have n3_ := Aside0.mk (Kd.R_below (mvR HO_13) hb); have n4_ := Aside0.mk (Kd.R_below (mvR HO_16) hb); have n5_ := Aside0.mk (Kd.R_below (mvR HO_17) hb); have n6_ := Aside0.mk (Kd.R_below (mvR HL390_0) hb); have n7_ := Aside0.mk (Kd.R_below (mvR HL391_0) hb); have n8_ := Aside0.mk (Kd.C_below (by repeat (first | (with_reducible exact HR390_0.out) | (with_reducible refine Kd.C_alloc ?_ _) | (with_reducible refine Kd.C_drewN ?_ _) | (with_reducible refine Kd.C_drew ?_) | exact HR390_0.out)) hb); have n9_ := Aside0.mk (Kd.C_below (by repeat (first | (with_reducible exact HR391_0.out) | (with_reducible refine Kd.C_alloc ?_ _) | (with_reducible refine Kd.C_drewN ?_ _) | (with_reducible refine Kd.C_drew ?_) | exact HR391_0.out)) hb); have n10_ := Aside0.mk (below_step (blB HB) hb); clear HO_6; clear HO_8; clear HO_12; clear HO_13; clear HO_16; clear HO_17; clear HL390_0; clear HL391_0; clear HR390_0; clear HR391_0; clear HB; have HO_6 := n0_; have HO_8 := n1_; have HO_12 := n2_; have HO_13 := n3_; have HO_16 := n4_; have HO_17 := n5_; have HL390_0 := n6_; have HL391_0 := n7_; have HR390_0 := n8_; have HR391_0 := n9_; have HB := n10_; clear n0_ n1_ n2_ n3_ n4_ n5_ n6_ n7_ n8_ n9_ n10_; (try clear hb); (try clear hb2); (try clear hk); (try clear hi); have p396 : 0 ≤ (x18_2 : Int) := dtB; have q396 : x18_2 < (t366.length : Int) := dtB; obtain ⟨ad396, A396_0, c396_0, e396, hx396_0, hl396_0, hi396_0⟩ := at_L6 (Kd.S_reads' HO_12.out).2.2 x18_2 p396 q396; obtain rfl : ad381 = ad396 := (by injection e396); obtain ⟨ce396, hce396, hMe396, hcc396⟩ := Kd.S_get HO_12.out [] x18_2 p396 (by first | exact q396 | exact dtB | (have e_ := (Kd.S_reads' HO_12.out).1; omega)); obtain ⟨ve396_0, rfl, ge396_0⟩ := hMe396; have hv396_0 := hcc396 0 _ rfl; rw [Nat.add_zero, show ((Kd.slice 2 (Kd.int .i64))).sz = 1 from rfl, Nat.mul_one] at hv396_0; replace hv396_0 := Option.some.inj (hv396_0.symm.trans hx396_0); rw [hv396_0] at ge396_0; have HL396_0 := Aside0.mk (show Kd.R (Kd.int .i64) 2 _ _ _ _ (rd_L6 t366 x18_2) from ge396_0); clear hv396_0 ge396_0; clear hcc396 hce396; have HR396_0 := Aside0.mk hi396_0; have HC396_0 := Aside0.mk hl396_0; clear hi396_0 hl396_0; replace p396 := eq_true p396; replace q396 := eq_true q396; have p397 : 0 ≤ (x19_3 : Int) := dtB; have q397 : x19_3 < ((rd_L6 t366 x18_2).length : Int) := dtB; obtain ⟨ad397, e397, hx397_0⟩ := Kd.at_int (by repeat (first | (with_reducible exact HR396_0.out) | (with_reducible refine Kd.C_alloc ?_ _) | (with_reducible refine Kd.C_drewN ?_ _) | (with_reducible refine Kd.C_drew ?_) | exact HR396_0.out)) x19_3 p397 q397; cases e397; replace p397 := eq_true p397; replace q397 := eq_true q397; have p398 : 0 ≤ (x18_2 : Int) := dtB; have q398 : x18_2 < (t366.length : Int) := dtB; obtain ⟨ad398, A398_0, c398_0, e398, hx398_0, hl398_0, hi398_0⟩ := at_L6 (Kd.S_reads' HO_12.out).2.2 x18_2 p398 q398; obtain rfl : ad381 = ad398 := (by injection e398); obtain ⟨ce398, hce398, hMe398, hcc398⟩ := Kd.S_get HO_12.out [] x18_2 p398 (by first | exact q398 | exact dtB | (have e_ := (Kd.S_reads' HO_12.out).1; omega)); obtain ⟨ve398_0, rfl, ge398_0⟩ := hMe398; have hv398_0 := hcc398 0 _ rfl; rw [Nat.add_zero, show ((Kd.slice 2 (Kd.int .i64))).sz = 1 from rfl, Nat.mul_one] at hv398_0; replace hv398_0 := Option.some.inj (hv398_0.symm.trans hx398_0); rw [hv398_0] at ge398_0; have HL398_0 := Aside0.mk (show Kd.R (Kd.int .i64) 2 _ _ _ _ (rd_L6 t366 x18_2) from ge398_0); clear hv398_0 ge398_0; clear hcc398 hce398; have HR398_0 := Aside0.mk hi398_0; have HC398_0 := Aside0.mk hl398_0; clear hi398_0 hl398_0; replace p398 := eq_true p398; replace q398 := eq_true q398; have ea_ := Option.some.inj (hx396_0.symm.trans hx398_0); injection ea_ with ea_ en_ ec_; subst ea_; subst ec_; clear en_; have p399 : 0 ≤ ((ji62) : Int) := dtB; have q399 : (ji62) < ((rd_L6 t366 x18_2).length : Int) := dtB; obtain ⟨ad399, e399, hx399_0⟩ := Kd.at_int (by repeat (first | (with_reducible exact HR398_0.out) | (with_reducible refine Kd.C_alloc ?_ _) | (with_reducible refine Kd.C_drewN ?_ _) | (with_reducible refine Kd.C_drew ?_) | exact HR398_0.out)) (ji62) p399 q399; cases e399; replace p399 := eq_true p399; replace q399 := eq_true q399))
                                              repeat (go_quiet (fail); try go_wp2)
                                              go_ret
                                              exact ⟨by first | rfl | (simp [errW_none, errW_some] <;> rfl) | (simp only [← hji62]; first | rfl | (simp [errW_none, errW_some] <;> rfl)) | (simp [*, errW_none, errW_some] <;> rfl), blB HB⟩
                                            · rw [if_neg c65] at H
                                              have c65b0 : decide ((rd (rd_L6 t366 x18_2) x19_3) ≤ (rd (rd_L6 t366 x18_2) (ji62))) = false := decide_eq_false c65
                                              clear c65
                                              have H' := Aside0.mk H
                                              clear H
                                              have p390 : 0 ≤ (x18_2 : Int) := dtB
                                              have q390 : x18_2 < (t366.length : Int) := dtB
                                              obtain ⟨ad390, A390_0, c390_0, e390, hx390_0, hl390_0, hi390_0⟩ := at_L6 (Kd.S_reads' HO_12.out).2.2 x18_2 p390 q390
                                              obtain rfl : ad381 = ad390 := (by injection e390)
                                              obtain ⟨ce390, hce390, hMe390, hcc390⟩ := Kd.S_get HO_12.out [] x18_2 p390 (by first | exact q390 | exact dtB | (have e_ := (Kd.S_reads' HO_12.out).1; omega))
                                              obtain ⟨ve390_0, rfl, ge390_0⟩ := hMe390
                                              have hv390_0 := hcc390 0 _ rfl
                                              rw [Nat.add_zero, show ((Kd.slice 2 (Kd.int .i64))).sz = 1 from rfl, Nat.mul_one] at hv390_0
                                              replace hv390_0 := Option.some.inj (hv390_0.symm.trans hx390_0)
                                              rw [hv390_0] at ge390_0
                                              have HL390_0 := Aside0.mk (show Kd.R (Kd.int .i64) 2 _ _ _ _ (rd_L6 t366 x18_2) from ge390_0)
                                              clear hv390_0 ge390_0
                                              clear hcc390 hce390
                                              have HR390_0 := Aside0.mk hi390_0
                                              have HC390_0 := Aside0.mk hl390_0
                                              clear hi390_0 hl390_0
                                              replace p390 := eq_true p390
                                              replace q390 := eq_true q390
                                              have p391 : 0 ≤ (x18_2 : Int) := dtB
                                              have q391 : x18_2 < (t366.length : Int) := dtB
                                              obtain ⟨ad391, A391_0, c391_0, e391, hx391_0, hl391_0, hi391_0⟩ := at_L6 (Kd.S_reads' HO_12.out).2.2 x18_2 p391 q391
                                              obtain rfl : ad381 = ad391 := (by injection e391)
                                              obtain ⟨ce391, hce391, hMe391, hcc391⟩ := Kd.S_get HO_12.out [] x18_2 p391 (by first | exact q391 | exact dtB | (have e_ := (Kd.S_reads' HO_12.out).1; omega))
                                              obtain ⟨ve391_0, rfl, ge391_0⟩ := hMe391
                                              have hv391_0 := hcc391 0 _ rfl
                                              rw [Nat.add_zero, show ((Kd.slice 2 (Kd.int .i64))).sz = 1 from rfl, Nat.mul_one] at hv391_0
                                              replace hv391_0 := Option.some.inj (hv391_0.symm.trans hx391_0)
                                              rw [hv391_0] at ge391_0
                                              have HL391_0 := Aside0.mk (show Kd.R (Kd.int .i64) 2 _ _ _ _ (rd_L6 t366 x18_2) from ge391_0)
                                              clear hv391_0 ge391_0
                                              clear hcc391 hce391
                                              have HR391_0 := Aside0.mk hi391_0
                                              have HC391_0 := Aside0.mk hl391_0
                                              clear hi391_0 hl391_0
                                              replace p391 := eq_true p391
                                              replace q391 := eq_true q391
                                              have ea_ := Option.some.inj (hx390_0.symm.trans hx391_0)
                                              injection ea_ with ea_ en_ ec_
                                              subst ea_
                                              subst ec_
                                              clear en_
                                              have p392 : 0 ≤ (x19_3 : Int) := dtB
                                              have q392 : x19_3 < ((rd_L6 t366 x18_2).length : Int) := dtB
                                              obtain ⟨ad392, e392, hx392_0⟩ := Kd.at_int (by repeat (first | (with_reducible exact HR391_0.out) | (with_reducible refine Kd.C_alloc ?_ _) | (with_reducible refine Kd.C_drewN ?_ _) | (with_reducible refine Kd.C_drew ?_) | exact HR391_0.out)) x19_3 p392 q392
                                              cases e392
                                              replace p392 := eq_true p392
                                              replace q392 := eq_true q392
                                              have p393 : 0 ≤ ((rd (rd_L6 t366 x18_2) x19_3) : Int) := dtB
                                              have q393 : (rd (rd_L6 t366 x18_2) x19_3) < (t356.length : Int) := dtB
                                              obtain ⟨ad393, e393, hx393_0⟩ := Kd.at_int (Kd.R_reads' HO_8.out).2.2 (rd (rd_L6 t366 x18_2) x19_3) p393 q393
                                              cases e393
                                              replace p393 := eq_true p393
                                              replace q393 := eq_true q393
                                              go_wp2_with (first | (go_at_call 12; (with_reducible refine (impl_ReadStitches.calls k3 (wrap64 (3 + t350)) _ _ t352 (rd t356 (rd (rd_L6 t366 x18_2) x19_3)) t394 t395 _ ?side1 ?side2 A58.out).mono ?_); (case side1 => exact cvC ((Kd.R_reads' HO_6.out).2.2)); (case side2 => exact (Kd.R_reads' HO_6.out).2.1); rintro e w67 ⟨rfl, hb⟩; have n0_ := Aside0.mk (Kd.R_below (mvR HO_6) hb); have n1_ := Aside0.mk (Kd.R_below (mvR HO_8) hb); have n2_ := Aside0.mk (Kd.S_below (by (with_reducible repeat (first | apply Kd.S_alloc | apply Kd.S_drewN | apply Kd.S_drew)); exact HO_12.out) hb); have n3_ := Aside0.mk (Kd.R_below (mvR HO_13) hb); have n4_ := Aside0.mk (Kd.R_below (mvR HO_16) hb); have n5_ := Aside0.mk (Kd.R_below (mvR HO_17) hb); have n6_ := Aside0.mk (Kd.R_below (mvR HL390_0) hb); have n7_ := Aside0.mk (Kd.R_below (mvR HL391_0) hb); have n8_ := Aside0.mk (Kd.C_below (by repeat (first | (with_reducible exact HR390_0.out) | (with_reducible refine Kd.C_alloc ?_ _) | (with_reducible refine Kd.C_drewN ?_ _) | (with_reducible refine Kd.C_drew ?_) | exact HR390_0.out)) hb); have n9_ := Aside0.mk (Kd.C_below (by repeat (first | (with_reducible exact HR391_0.out) | (with_reducible refine Kd.C_alloc ?_ _) | (with_reducible refine Kd.C_drewN ?_ _) | (with_reducible refine Kd.C_drew ?_) | exact HR391_0.out)) hb); have n10_ := Aside0.mk (below_step (blB HB) hb); clear HO_6; clear HO_8; clear HO_12; clear HO_13; clear HO_16; clear HO_17; clear HL390_0; clear HL391_0; clear HR390_0; clear HR391_0; clear HB; have HO_6 := n0_; have HO_8 := n1_; have HO_12 := n2_; have HO_13 := n3_; have HO_16 := n4_; have HO_17 := n5_; have HL390_0 := n6_; have HL391_0 := n7_; have HR390_0 := n8_; have HR391_0 := n9_; have HB := n10_; clear n0_ n1_ n2_ n3_ n4_ n5_ n6_ n7_ n8_ n9_ n10_; (try clear hb); (try clear hb2); (try clear hk); (try clear hi); have p396 : 0 ≤ (x18_2 : Int) := dtB; have q396 : x18_2 < (t366.length : Int) := dtB; obtain ⟨ad396, A396_0, c396_0, e396, hx396_0, hl396_0, hi396_0⟩ := at_L6 (Kd.S_reads' HO_12.out).2.2 x18_2 p396 q396; obtain rfl : ad381 = ad396 := (by injection e396); obtain ⟨ce396, hce396, hMe396, hcc396⟩ := Kd.S_get HO_12.out [] x18_2 p396 (by first | exact q396 | exact dtB | (have e_ := (Kd.S_reads' HO_12.out).1; omega)); obtain ⟨ve396_0, rfl, ge396_0⟩ := hMe396; have hv396_0 := hcc396 0 _ rfl; rw [Nat.add_zero, show ((Kd.slice 2 (Kd.int .i64))).sz = 1 from rfl, Nat.mul_one] at hv396_0; replace hv396_0 := Option.some.inj (hv396_0.symm.trans hx396_0); rw [hv396_0] at ge396_0; have HL396_0 := Aside0.mk (show Kd.R (Kd.int .i64) 2 _ _ _ _ (rd_L6 t366 x18_2) from ge396_0); clear hv396_0 ge396_0; clear hcc396 hce396; have HR396_0 := Aside0.mk hi396_0; have HC396_0 := Aside0.mk hl396_0; clear hi396_0 hl396_0; replace p396 := eq_true p396; replace q396 := eq_true q396; have p397 : 0 ≤ (x19_3 : Int) := dtB; have q397 : x19_3 < ((rd_L6 t366 x18_2).length : Int) := dtB; obtain ⟨ad397, e397, hx397_0⟩ := Kd.at_int (by repeat (first | (with_reducible exact HR396_0.out) | (with_reducible refine Kd.C_alloc ?_ _) | (with_reducible refine Kd.C_drewN ?_ _) | (with_reducible refine Kd.C_drew ?_) | exact HR396_0.out)) x19_3 p397 q397; cases e397; replace p397 := eq_true p397; replace q397 := eq_true q397; have p398 : 0 ≤ (x18_2 : Int) := dtB; have q398 : x18_2 < (t366.length : Int) := dtB; obtain ⟨ad398, A398_0, c398_0, e398, hx398_0, hl398_0, hi398_0⟩ := at_L6 (Kd.S_reads' HO_12.out).2.2 x18_2 p398 q398; obtain rfl : ad381 = ad398 := (by injection e398); obtain ⟨ce398, hce398, hMe398, hcc398⟩ := Kd.S_get HO_12.out [] x18_2 p398 (by first | exact q398 | exact dtB | (have e_ := (Kd.S_reads' HO_12.out).1; omega)); obtain ⟨ve398_0, rfl, ge398_0⟩ := hMe398; have hv398_0 := hcc398 0 _ rfl; rw [Nat.add_zero, show ((Kd.slice 2 (Kd.int .i64))).sz = 1 from rfl, Nat.mul_one] at hv398_0; replace hv398_0 := Option.some.inj (hv398_0.symm.trans hx398_0); rw [hv398_0] at ge398_0; have HL398_0 := Aside0.mk (show Kd.R (Kd.int .i64) 2 _ _ _ _ (rd_L6 t366 x18_2) from ge398_0); clear hv398_0 ge398_0; clear hcc398 hce398; have HR398_0 := Aside0.mk hi398_0; have HC398_0 := Aside0.mk hl398_0; clear hi398_0 hl398_0; replace p398 := eq_true p398; replace q398 := eq_true q398; have ea_ := Option.some.inj (hx396_0.symm.trans hx398_0); injection ea_ with ea_ en_ ec_; subst ea_; subst ec_; clear en_; have p399 : 0 ≤ ((ji62) : Int) := dtB; have q399 : (ji62) < ((rd_L6 t366 x18_2).length : Int) := dtB; obtain ⟨ad399, e399, hx399_0⟩ := Kd.at_int (by repeat (first | (with_reducible exact HR398_0.out) | (with_reducible refine Kd.C_alloc ?_ _) | (with_reducible refine Kd.C_drewN ?_ _) | (with_reducible refine Kd.C_drew ?_) | exact HR398_0.out)) (ji62) p399 q399; cases e399; replace p399 := eq_true p399; replace q399 := eq_true q399))
                                              repeat (go_quiet (fail); try go_wp2)
                                              go_roundg k3
                                              case measure => have := HJ10.out; have := HK2.out; have := HK3.out; omega
                                              case rel => exact ⟨(wrap64 (x19_3 + 1)), (by first | rfl | (simp; done) | (simp [*]; done)), H', ⟨by have := HJ10.out; have := HK2.out; have := HK3.out; omega⟩, ⟨mvR HO_6⟩, ⟨mvR HO_8⟩, ⟨by (with_reducible repeat (first | apply Kd.S_alloc | apply Kd.S_drewN | apply Kd.S_drew)); exact HO_12.out⟩, ⟨mvR HO_13⟩, ⟨mvR HO_16⟩, ⟨mvR HO_17⟩, ⟨blB HB⟩⟩
                                          · rw [if_neg c64] at H
                                            exact absurd H (by simp)
                                        · rw [if_neg c63] at H
                                          exact absurd H (by simp)
                                      · rw [if_neg c61] at H
                                        have c61b0 : decide (0 < x19_3) = false := decide_eq_false c61
                                        clear c61
                                        have H' := Aside0.mk H
                                        clear H
                                        have p390 : 0 ≤ (x18_2 : Int) := dtB
                                        have q390 : x18_2 < (t366.length : Int) := dtB
                                        obtain ⟨ad390, A390_0, c390_0, e390, hx390_0, hl390_0, hi390_0⟩ := at_L6 (Kd.S_reads' HO_12.out).2.2 x18_2 p390 q390
                                        obtain rfl : ad381 = ad390 := (by injection e390)
                                        obtain ⟨ce390, hce390, hMe390, hcc390⟩ := Kd.S_get HO_12.out [] x18_2 p390 (by first | exact q390 | exact dtB | (have e_ := (Kd.S_reads' HO_12.out).1; omega))
                                        obtain ⟨ve390_0, rfl, ge390_0⟩ := hMe390
                                        have hv390_0 := hcc390 0 _ rfl
                                        rw [Nat.add_zero, show ((Kd.slice 2 (Kd.int .i64))).sz = 1 from rfl, Nat.mul_one] at hv390_0
                                        replace hv390_0 := Option.some.inj (hv390_0.symm.trans hx390_0)
                                        rw [hv390_0] at ge390_0
                                        have HL390_0 := Aside0.mk (show Kd.R (Kd.int .i64) 2 _ _ _ _ (rd_L6 t366 x18_2) from ge390_0)
                                        clear hv390_0 ge390_0
                                        clear hcc390 hce390
                                        have HR390_0 := Aside0.mk hi390_0
                                        have HC390_0 := Aside0.mk hl390_0
                                        clear hi390_0 hl390_0
                                        replace p390 := eq_true p390
                                        replace q390 := eq_true q390
                                        have p391 : 0 ≤ (x18_2 : Int) := dtB
                                        have q391 : x18_2 < (t366.length : Int) := dtB
                                        obtain ⟨ad391, A391_0, c391_0, e391, hx391_0, hl391_0, hi391_0⟩ := at_L6 (Kd.S_reads' HO_12.out).2.2 x18_2 p391 q391
                                        obtain rfl : ad381 = ad391 := (by injection e391)
                                        obtain ⟨ce391, hce391, hMe391, hcc391⟩ := Kd.S_get HO_12.out [] x18_2 p391 (by first | exact q391 | exact dtB | (have e_ := (Kd.S_reads' HO_12.out).1; omega))
                                        obtain ⟨ve391_0, rfl, ge391_0⟩ := hMe391
                                        have hv391_0 := hcc391 0 _ rfl
                                        rw [Nat.add_zero, show ((Kd.slice 2 (Kd.int .i64))).sz = 1 from rfl, Nat.mul_one] at hv391_0
                                        replace hv391_0 := Option.some.inj (hv391_0.symm.trans hx391_0)
                                        rw [hv391_0] at ge391_0
                                        have HL391_0 := Aside0.mk (show Kd.R (Kd.int .i64) 2 _ _ _ _ (rd_L6 t366 x18_2) from ge391_0)
                                        clear hv391_0 ge391_0
                                        clear hcc391 hce391
                                        have HR391_0 := Aside0.mk hi391_0
                                        have HC391_0 := Aside0.mk hl391_0
                                        clear hi391_0 hl391_0
                                        replace p391 := eq_true p391
                                        replace q391 := eq_true q391
                                        have ea_ := Option.some.inj (hx390_0.symm.trans hx391_0)
                                        injection ea_ with ea_ en_ ec_
                                        subst ea_
                                        subst ec_
                                        clear en_
                                        have p392 : 0 ≤ (x19_3 : Int) := dtB
                                        have q392 : x19_3 < ((rd_L6 t366 x18_2).length : Int) := dtB
                                        obtain ⟨ad392, e392, hx392_0⟩ := Kd.at_int (by repeat (first | (with_reducible exact HR391_0.out) | (with_reducible refine Kd.C_alloc ?_ _) | (with_reducible refine Kd.C_drewN ?_ _) | (with_reducible refine Kd.C_drew ?_) | exact HR391_0.out)) x19_3 p392 q392
                                        cases e392
                                        replace p392 := eq_true p392
                                        replace q392 := eq_true q392
                                        have p393 : 0 ≤ ((rd (rd_L6 t366 x18_2) x19_3) : Int) := dtB
                                        have q393 : (rd (rd_L6 t366 x18_2) x19_3) < (t356.length : Int) := dtB
                                        obtain ⟨ad393, e393, hx393_0⟩ := Kd.at_int (Kd.R_reads' HO_8.out).2.2 (rd (rd_L6 t366 x18_2) x19_3) p393 q393
                                        cases e393
                                        replace p393 := eq_true p393
                                        replace q393 := eq_true q393
                                        go_wp2_with (first | (go_at_call 12; (with_reducible refine (impl_ReadStitches.calls k3 (wrap64 (3 + t350)) _ _ t352 (rd t356 (rd (rd_L6 t366 x18_2) x19_3)) t394 t395 _ ?side1 ?side2 A58.out).mono ?_); (case side1 => exact cvC ((Kd.R_reads' HO_6.out).2.2)); (case side2 => exact (Kd.R_reads' HO_6.out).2.1); rintro e w68 ⟨rfl, hb⟩; have n0_ := Aside0.mk (Kd.R_below (mvR HO_6) hb); have n1_ := Aside0.mk (Kd.R_below (mvR HO_8) hb); have n2_ := Aside0.mk (Kd.S_below (by (with_reducible repeat (first | apply Kd.S_alloc | apply Kd.S_drewN | apply Kd.S_drew)); exact HO_12.out) hb); have n3_ := Aside0.mk (Kd.R_below (mvR HO_13) hb); have n4_ := Aside0.mk (Kd.R_below (mvR HO_16) hb); have n5_ := Aside0.mk (Kd.R_below (mvR HO_17) hb); have n6_ := Aside0.mk (Kd.R_below (mvR HL390_0) hb); have n7_ := Aside0.mk (Kd.R_below (mvR HL391_0) hb); have n8_ := Aside0.mk (Kd.C_below (by repeat (first | (with_reducible exact HR390_0.out) | (with_reducible refine Kd.C_alloc ?_ _) | (with_reducible refine Kd.C_drewN ?_ _) | (with_reducible refine Kd.C_drew ?_) | exact HR390_0.out)) hb); have n9_ := Aside0.mk (Kd.C_below (by repeat (first | (with_reducible exact HR391_0.out) | (with_reducible refine Kd.C_alloc ?_ _) | (with_reducible refine Kd.C_drewN ?_ _) | (with_reducible refine Kd.C_drew ?_) | exact HR391_0.out)) hb); have n10_ := Aside0.mk (below_step (blB HB) hb); clear HO_6; clear HO_8; clear HO_12; clear HO_13; clear HO_16; clear HO_17; clear HL390_0; clear HL391_0; clear HR390_0; clear HR391_0; clear HB; have HO_6 := n0_; have HO_8 := n1_; have HO_12 := n2_; have HO_13 := n3_; have HO_16 := n4_; have HO_17 := n5_; have HL390_0 := n6_; have HL391_0 := n7_; have HR390_0 := n8_; have HR391_0 := n9_; have HB := n10_; clear n0_ n1_ n2_ n3_ n4_ n5_ n6_ n7_ n8_ n9_ n10_; (try clear hb); (try clear hb2); (try clear hk); (try clear hi)))
                                        repeat (go_quiet (fail); try go_wp2)
                                        go_roundg k3
                                        case measure => have := HJ10.out; have := HK2.out; have := HK3.out; omega
                                        case rel => exact ⟨(wrap64 (x19_3 + 1)), (by first | rfl | (simp; done) | (simp [*]; done)), H', ⟨by have := HJ10.out; have := HK2.out; have := HK3.out; omega⟩, ⟨mvR HO_6⟩, ⟨mvR HO_8⟩, ⟨by (with_reducible repeat (first | apply Kd.S_alloc | apply Kd.S_drewN | apply Kd.S_drew)); exact HO_12.out⟩, ⟨mvR HO_13⟩, ⟨mvR HO_16⟩, ⟨mvR HO_17⟩, ⟨blB HB⟩⟩
                                    · rw [if_neg c60] at H
                                      have c60b0 : (t394 == x18_2) = false := beq_eq_false_iff_ne.mpr c60
                                      have c60b1 : (t394 != x18_2) = true := bne_iff_ne.mpr c60
                                      obtain rfl := Option.some.inj H
                                      have p390 : 0 ≤ (x18_2 : Int) := dtB
                                      have q390 : x18_2 < (t366.length : Int) := dtB
                                      obtain ⟨ad390, A390_0, c390_0, e390, hx390_0, hl390_0, hi390_0⟩ := at_L6 (Kd.S_reads' HO_12.out).2.2 x18_2 p390 q390
                                      obtain rfl : ad381 = ad390 := (by injection e390)
                                      obtain ⟨ce390, hce390, hMe390, hcc390⟩ := Kd.S_get HO_12.out [] x18_2 p390 (by first | exact q390 | exact dtB | (have e_ := (Kd.S_reads' HO_12.out).1; omega))
                                      obtain ⟨ve390_0, rfl, ge390_0⟩ := hMe390
                                      have hv390_0 := hcc390 0 _ rfl
                                      rw [Nat.add_zero, show ((Kd.slice 2 (Kd.int .i64))).sz = 1 from rfl, Nat.mul_one] at hv390_0
                                      replace hv390_0 := Option.some.inj (hv390_0.symm.trans hx390_0)
                                      rw [hv390_0] at ge390_0
                                      have HL390_0 := Aside0.mk (show Kd.R (Kd.int .i64) 2 _ _ _ _ (rd_L6 t366 x18_2) from ge390_0)
                                      clear hv390_0 ge390_0
                                      clear hcc390 hce390
                                      have HR390_0 := Aside0.mk hi390_0
                                      have HC390_0 := Aside0.mk hl390_0
                                      clear hi390_0 hl390_0
                                      replace p390 := eq_true p390
                                      replace q390 := eq_true q390
                                      have p391 : 0 ≤ (x18_2 : Int) := dtB
                                      have q391 : x18_2 < (t366.length : Int) := dtB
                                      obtain ⟨ad391, A391_0, c391_0, e391, hx391_0, hl391_0, hi391_0⟩ := at_L6 (Kd.S_reads' HO_12.out).2.2 x18_2 p391 q391
                                      obtain rfl : ad381 = ad391 := (by injection e391)
                                      obtain ⟨ce391, hce391, hMe391, hcc391⟩ := Kd.S_get HO_12.out [] x18_2 p391 (by first | exact q391 | exact dtB | (have e_ := (Kd.S_reads' HO_12.out).1; omega))
                                      obtain ⟨ve391_0, rfl, ge391_0⟩ := hMe391
                                      have hv391_0 := hcc391 0 _ rfl
                                      rw [Nat.add_zero, show ((Kd.slice 2 (Kd.int .i64))).sz = 1 from rfl, Nat.mul_one] at hv391_0
                                      replace hv391_0 := Option.some.inj (hv391_0.symm.trans hx391_0)
                                      rw [hv391_0] at ge391_0
                                      have HL391_0 := Aside0.mk (show Kd.R (Kd.int .i64) 2 _ _ _ _ (rd_L6 t366 x18_2) from ge391_0)
                                      clear hv391_0 ge391_0
                                      clear hcc391 hce391
                                      have HR391_0 := Aside0.mk hi391_0
                                      have HC391_0 := Aside0.mk hl391_0
                                      clear hi391_0 hl391_0
                                      replace p391 := eq_true p391
                                      replace q391 := eq_true q391
                                      have ea_ := Option.some.inj (hx390_0.symm.trans hx391_0)
                                      injection ea_ with ea_ en_ ec_
                                      subst ea_
                                      subst ec_
                                      clear en_
                                      have p392 : 0 ≤ (x19_3 : Int) := dtB
                                      have q392 : x19_3 < ((rd_L6 t366 x18_2).length : Int) := dtB
                                      obtain ⟨ad392, e392, hx392_0⟩ := Kd.at_int (by repeat (first | (with_reducible exact HR391_0.out) | (with_reducible refine Kd.C_alloc ?_ _) | (with_reducible refine Kd.C_drewN ?_ _) | (with_reducible refine Kd.C_drew ?_) | exact HR391_0.out)) x19_3 p392 q392
                                      cases e392
                                      replace p392 := eq_true p392
                                      replace q392 := eq_true q392
                                      have p393 : 0 ≤ ((rd (rd_L6 t366 x18_2) x19_3) : Int) := dtB
                                      have q393 : (rd (rd_L6 t366 x18_2) x19_3) < (t356.length : Int) := dtB
                                      obtain ⟨ad393, e393, hx393_0⟩ := Kd.at_int (Kd.R_reads' HO_8.out).2.2 (rd (rd_L6 t366 x18_2) x19_3) p393 q393
                                      cases e393
                                      replace p393 := eq_true p393
                                      replace q393 := eq_true q393
                                      go_wp2_with (first | (go_at_call 12; (with_reducible refine (impl_ReadStitches.calls k3 (wrap64 (3 + t350)) _ _ t352 (rd t356 (rd (rd_L6 t366 x18_2) x19_3)) t394 t395 _ ?side1 ?side2 A58.out).mono ?_); (case side1 => exact cvC ((Kd.R_reads' HO_6.out).2.2)); (case side2 => exact (Kd.R_reads' HO_6.out).2.1); rintro e w69 ⟨rfl, hb⟩; have n0_ := Aside0.mk (Kd.R_below (mvR HO_6) hb); have n1_ := Aside0.mk (Kd.R_below (mvR HO_8) hb); have n2_ := Aside0.mk (Kd.S_below (by (with_reducible repeat (first | apply Kd.S_alloc | apply Kd.S_drewN | apply Kd.S_drew)); exact HO_12.out) hb); have n3_ := Aside0.mk (Kd.R_below (mvR HO_13) hb); have n4_ := Aside0.mk (Kd.R_below (mvR HO_16) hb); have n5_ := Aside0.mk (Kd.R_below (mvR HO_17) hb); have n6_ := Aside0.mk (Kd.R_below (mvR HL390_0) hb); have n7_ := Aside0.mk (Kd.R_below (mvR HL391_0) hb); have n8_ := Aside0.mk (Kd.C_below (by repeat (first | (with_reducible exact HR390_0.out) | (with_reducible refine Kd.C_alloc ?_ _) | (with_reducible refine Kd.C_drewN ?_ _) | (with_reducible refine Kd.C_drew ?_) | exact HR390_0.out)) hb); have n9_ := Aside0.mk (Kd.C_below (by repeat (first | (with_reducible exact HR391_0.out) | (with_reducible refine Kd.C_alloc ?_ _) | (with_reducible refine Kd.C_drewN ?_ _) | (with_reducible refine Kd.C_drew ?_) | exact HR391_0.out)) hb); have n10_ := Aside0.mk (below_step (blB HB) hb); clear HO_6; clear HO_8; clear HO_12; clear HO_13; clear HO_16; clear HO_17; clear HL390_0; clear HL391_0; clear HR390_0; clear HR391_0; clear HB; have HO_6 := n0_; have HO_8 := n1_; have HO_12 := n2_; have HO_13 := n3_; have HO_16 := n4_; have HO_17 := n5_; have HL390_0 := n6_; have HL391_0 := n7_; have HR390_0 := n8_; have HR391_0 := n9_; have HB := n10_; clear n0_ n1_ n2_ n3_ n4_ n5_ n6_ n7_ n8_ n9_ n10_; (try clear hb); (try clear hb2); (try clear hk); (try clear hi)))
                                      repeat (go_quiet (fail); try go_wp2)
                                      go_ret
                                      exact ⟨by first | rfl | (simp [errW_none, errW_some] <;> rfl) | (simp [*, errW_none, errW_some] <;> rfl), blB HB⟩
                                  · rw [if_neg c59] at H
                                    have c59b0 : (t395 == 0) = false := beq_eq_false_iff_ne.mpr c59
                                    have c59b1 : (t395 != 0) = true := bne_iff_ne.mpr c59
                                    obtain rfl := Option.some.inj H
                                    have p390 : 0 ≤ (x18_2 : Int) := dtB
                                    have q390 : x18_2 < (t366.length : Int) := dtB
                                    obtain ⟨ad390, A390_0, c390_0, e390, hx390_0, hl390_0, hi390_0⟩ := at_L6 (Kd.S_reads' HO_12.out).2.2 x18_2 p390 q390
                                    obtain rfl : ad381 = ad390 := (by injection e390)
                                    obtain ⟨ce390, hce390, hMe390, hcc390⟩ := Kd.S_get HO_12.out [] x18_2 p390 (by first | exact q390 | exact dtB | (have e_ := (Kd.S_reads' HO_12.out).1; omega))
                                    obtain ⟨ve390_0, rfl, ge390_0⟩ := hMe390
                                    have hv390_0 := hcc390 0 _ rfl
                                    rw [Nat.add_zero, show ((Kd.slice 2 (Kd.int .i64))).sz = 1 from rfl, Nat.mul_one] at hv390_0
                                    replace hv390_0 := Option.some.inj (hv390_0.symm.trans hx390_0)
                                    rw [hv390_0] at ge390_0
                                    have HL390_0 := Aside0.mk (show Kd.R (Kd.int .i64) 2 _ _ _ _ (rd_L6 t366 x18_2) from ge390_0)
                                    clear hv390_0 ge390_0
                                    clear hcc390 hce390
                                    have HR390_0 := Aside0.mk hi390_0
                                    have HC390_0 := Aside0.mk hl390_0
                                    clear hi390_0 hl390_0
                                    replace p390 := eq_true p390
                                    replace q390 := eq_true q390
                                    have p391 : 0 ≤ (x18_2 : Int) := dtB
                                    have q391 : x18_2 < (t366.length : Int) := dtB
                                    obtain ⟨ad391, A391_0, c391_0, e391, hx391_0, hl391_0, hi391_0⟩ := at_L6 (Kd.S_reads' HO_12.out).2.2 x18_2 p391 q391
                                    obtain rfl : ad381 = ad391 := (by injection e391)
                                    obtain ⟨ce391, hce391, hMe391, hcc391⟩ := Kd.S_get HO_12.out [] x18_2 p391 (by first | exact q391 | exact dtB | (have e_ := (Kd.S_reads' HO_12.out).1; omega))
                                    obtain ⟨ve391_0, rfl, ge391_0⟩ := hMe391
                                    have hv391_0 := hcc391 0 _ rfl
                                    rw [Nat.add_zero, show ((Kd.slice 2 (Kd.int .i64))).sz = 1 from rfl, Nat.mul_one] at hv391_0
                                    replace hv391_0 := Option.some.inj (hv391_0.symm.trans hx391_0)
                                    rw [hv391_0] at ge391_0
                                    have HL391_0 := Aside0.mk (show Kd.R (Kd.int .i64) 2 _ _ _ _ (rd_L6 t366 x18_2) from ge391_0)
                                    clear hv391_0 ge391_0
                                    clear hcc391 hce391
                                    have HR391_0 := Aside0.mk hi391_0
                                    have HC391_0 := Aside0.mk hl391_0
                                    clear hi391_0 hl391_0
                                    replace p391 := eq_true p391
                                    replace q391 := eq_true q391
                                    have ea_ := Option.some.inj (hx390_0.symm.trans hx391_0)
                                    injection ea_ with ea_ en_ ec_
                                    subst ea_
                                    subst ec_
                                    clear en_
                                    have p392 : 0 ≤ (x19_3 : Int) := dtB
                                    have q392 : x19_3 < ((rd_L6 t366 x18_2).length : Int) := dtB
                                    obtain ⟨ad392, e392, hx392_0⟩ := Kd.at_int (by repeat (first | (with_reducible exact HR391_0.out) | (with_reducible refine Kd.C_alloc ?_ _) | (with_reducible refine Kd.C_drewN ?_ _) | (with_reducible refine Kd.C_drew ?_) | exact HR391_0.out)) x19_3 p392 q392
                                    cases e392
                                    replace p392 := eq_true p392
                                    replace q392 := eq_true q392
                                    have p393 : 0 ≤ ((rd (rd_L6 t366 x18_2) x19_3) : Int) := dtB
                                    have q393 : (rd (rd_L6 t366 x18_2) x19_3) < (t356.length : Int) := dtB
                                    obtain ⟨ad393, e393, hx393_0⟩ := Kd.at_int (Kd.R_reads' HO_8.out).2.2 (rd (rd_L6 t366 x18_2) x19_3) p393 q393
                                    cases e393
                                    replace p393 := eq_true p393
                                    replace q393 := eq_true q393
                                    go_wp2_with (first | (go_at_call 12; (with_reducible refine (impl_ReadStitches.calls k3 (wrap64 (3 + t350)) _ _ t352 (rd t356 (rd (rd_L6 t366 x18_2) x19_3)) t394 t395 _ ?side1 ?side2 A58.out).mono ?_); (case side1 => exact cvC ((Kd.R_reads' HO_6.out).2.2)); (case side2 => exact (Kd.R_reads' HO_6.out).2.1); rintro e w70 ⟨rfl, hb⟩; have n0_ := Aside0.mk (Kd.R_below (mvR HO_6) hb); have n1_ := Aside0.mk (Kd.R_below (mvR HO_8) hb); have n2_ := Aside0.mk (Kd.S_below (by (with_reducible repeat (first | apply Kd.S_alloc | apply Kd.S_drewN | apply Kd.S_drew)); exact HO_12.out) hb); have n3_ := Aside0.mk (Kd.R_below (mvR HO_13) hb); have n4_ := Aside0.mk (Kd.R_below (mvR HO_16) hb); have n5_ := Aside0.mk (Kd.R_below (mvR HO_17) hb); have n6_ := Aside0.mk (Kd.R_below (mvR HL390_0) hb); have n7_ := Aside0.mk (Kd.R_below (mvR HL391_0) hb); have n8_ := Aside0.mk (Kd.C_below (by repeat (first | (with_reducible exact HR390_0.out) | (with_reducible refine Kd.C_alloc ?_ _) | (with_reducible refine Kd.C_drewN ?_ _) | (with_reducible refine Kd.C_drew ?_) | exact HR390_0.out)) hb); have n9_ := Aside0.mk (Kd.C_below (by repeat (first | (with_reducible exact HR391_0.out) | (with_reducible refine Kd.C_alloc ?_ _) | (with_reducible refine Kd.C_drewN ?_ _) | (with_reducible refine Kd.C_drew ?_) | exact HR391_0.out)) hb); have n10_ := Aside0.mk (below_step (blB HB) hb); clear HO_6; clear HO_8; clear HO_12; clear HO_13; clear HO_16; clear HO_17; clear HL390_0; clear HL391_0; clear HR390_0; clear HR391_0; clear HB; have HO_6 := n0_; have HO_8 := n1_; have HO_12 := n2_; have HO_13 := n3_; have HO_16 := n4_; have HO_17 := n5_; have HL390_0 := n6_; have HL391_0 := n7_; have HR390_0 := n8_; have HR391_0 := n9_; have HB := n10_; clear n0_ n1_ n2_ n3_ n4_ n5_ n6_ n7_ n8_ n9_ n10_; (try clear hb); (try clear hb2); (try clear hk); (try clear hi)))
                                    repeat (go_quiet (fail); try go_wp2)
                                    go_ret
                                    exact ⟨by first | rfl | (simp [errW_none, errW_some] <;> rfl) | (simp [*, errW_none, errW_some] <;> rfl), blB HB⟩
                                · rw [if_neg c57] at H
                                  exact absurd H (by simp)
                              · rw [if_neg c56] at H
                                exact absurd H (by simp)
                            · rw [if_neg c55] at H
                              exact absurd H (by simp)
                          · rw [if_neg c54] at H
                            have c54b0 : decide (x19_3 < ((rd_L6 t366 x18_2).length : Int)) = false := decide_eq_false c54
                            clear c54
                            have H' := Aside0.mk H
                            clear H
                            have p390 : 0 ≤ (x18_2 : Int) := dtB
                            have q390 : x18_2 < (t366.length : Int) := dtB
                            obtain ⟨ad390, A390_0, c390_0, e390, hx390_0, hl390_0, hi390_0⟩ := at_L6 (Kd.S_reads' HO_12.out).2.2 x18_2 p390 q390
                            obtain rfl : ad381 = ad390 := (by injection e390)
                            obtain ⟨ce390, hce390, hMe390, hcc390⟩ := Kd.S_get HO_12.out [] x18_2 p390 (by first | exact q390 | exact dtB | (have e_ := (Kd.S_reads' HO_12.out).1; omega))
                            obtain ⟨ve390_0, rfl, ge390_0⟩ := hMe390
                            have hv390_0 := hcc390 0 _ rfl
                            rw [Nat.add_zero, show ((Kd.slice 2 (Kd.int .i64))).sz = 1 from rfl, Nat.mul_one] at hv390_0
                            replace hv390_0 := Option.some.inj (hv390_0.symm.trans hx390_0)
                            rw [hv390_0] at ge390_0
                            have HL390_0 := Aside0.mk (show Kd.R (Kd.int .i64) 2 _ _ _ _ (rd_L6 t366 x18_2) from ge390_0)
                            clear hv390_0 ge390_0
                            clear hcc390 hce390
                            have HR390_0 := Aside0.mk hi390_0
                            have HC390_0 := Aside0.mk hl390_0
                            clear hi390_0 hl390_0
                            replace p390 := eq_true p390
                            replace q390 := eq_true q390
                            go_wp2
                            repeat (go_quiet (fail); try go_wp2)
                            go_roundg k3
                            case measure => have := HJ10.out; have := HK2.out; have := HK3.out; omega
                            case rel => exact ⟨((wrap64 (x15_2 + ((rd_L6 t366 x18_2).length : Int)))), (y383), (y387), (wrap64 (x18_2 + 1)), (by first | rfl | (simp; done) | (simp [*]; done)), (by first | rfl | (simp; done) | (simp [*]; done)), H', ⟨by have := HJ10.out; have := HK2.out; have := HK3.out; omega⟩, ⟨mvR HO_6⟩, ⟨mvR HO_8⟩, ⟨by (with_reducible repeat (first | apply Kd.S_alloc | apply Kd.S_drewN | apply Kd.S_drew)); exact HO_12.out⟩, ⟨mvR HO_13⟩, ⟨mvR HO_16⟩, ⟨mvR HO_17⟩, ⟨blB HB⟩⟩
                        · rw [if_neg c53] at H
                          exact absurd H (by simp)
                      · rw [if_neg c52] at H
                        exact absurd H (by simp)
                 · rw [if_neg c48] at H
                   exact absurd H (by simp)
               · rw [if_neg c47] at H
                 exact absurd H (by simp)
             · rw [if_neg c45] at H
               exact absurd H (by simp)
           · rw [if_neg c44] at H
             have c44b0 : decide (x18_2 < (t366.length : Int)) = false := decide_eq_false c44
             clear c44
             have H' := Aside0.mk H
             clear H
             obtain ⟨Ao71, co71, eo71⟩ := Kd.S_slice HO_12.out
             subst eo71
             go_wp2
             repeat (go_quiet (fail); try go_wp2)
             go_loopg [22] k2 (fun kq v22 w' => ∃ (x22_3 : Int), v22 = .int .i64 x22_3 ∧ Aside0 (laws_FnSorted.l2 kq l0 (wrap64 (3 + t350)) t352 t356 t367 x15_2 x16_2 x17_2 x22_3 = some r) ∧ Aside0 (kq ≤ k2) ∧ Aside0 (Kd.R (Kd.int .u16) 38 w' w.heap.size (fun k_ => some k_ ≠ ((.slice Ao15 t356.length co15) : Value).ownBlock) (.slice Ao14 t352.length co14) t352) ∧ Aside0 (Kd.R (Kd.int .u16) 38 w' w.heap.size (fun k_ => some k_ ≠ ((.slice Ao14 t352.length co14) : Value).ownBlock) (.slice Ao15 t356.length co15) t356) ∧ Aside0 (Kd.R (Kd.int .i64) 2 w' w.heap.size (fun k_ => some k_ ≠ (u16 : Value).ownBlock ∧ some k_ ≠ (u17 : Value).ownBlock) (.slice Ao39 t367.length co39) t367) ∧ Aside0 (Kd.R (Kd.int .i64) 2 w' w.heap.size (fun k_ => some k_ ≠ ((.slice Ao39 t367.length co39) : Value).ownBlock ∧ some k_ ≠ (u17 : Value).ownBlock) u16 x16_2) ∧ Aside0 (Kd.R (Kd.int .i64) 2 w' w.heap.size (fun k_ => some k_ ≠ ((.slice Ao39 t367.length co39) : Value).ownBlock ∧ some k_ ≠ (u16 : Value).ownBlock) u17 x17_2) ∧ Aside0 (Below w.heap.size w w'))
             case atStart => exact ⟨(0), (by first | rfl | (simp; done) | (simp [*]; done)), H', ⟨Nat.le_refl _⟩, ⟨mvR HO_6⟩, ⟨mvR HO_8⟩, ⟨mvR HO_13⟩, ⟨mvR HO_16⟩, ⟨mvR HO_17⟩, ⟨blB HB⟩⟩
             case round =>
              as_aux_lemma =>
               clear H'
               try clear c1
               try clear c2
               try clear p2
               try clear c3
               try clear p3
               try clear q3
               try clear hx3
               try clear c4
               try clear c5
               try clear c6
               try clear p6
               try clear c18
               try clear c18b0
               try clear c18b1
               try clear c19
               try clear c19b0
               try clear c19b1
               try clear c20
               try clear c20b0
               try clear c20b1
               try clear c22
               try clear c23
               try clear c23b0
               try clear c23b1
               try clear c23b2
               try clear c25
               try clear c38
               try clear p38
               try clear q38
               try clear hx38
               try clear c39
               try clear p39
               try clear q39
               try clear hx39
               try clear c44
               try clear c44b0
               try clear c45
               try clear c45b0
               try clear c47
               try clear c48
               try clear c52
               try clear c52b0
               try clear c53
               try clear c53b0
               try clear c54
               try clear c54b0
               try clear c55
               try clear c55b0
               try clear c56
               try clear c56b0
               try clear c57
               try clear c57b0
               try clear c59
               try clear c59b0
               try clear c59b1
               try clear c60
               try clear c60b0
               try clear c60b1
               try clear c61
               try clear c61b0
               try clear c63
               try clear c63b0
               try clear c64
               try clear c64b0
               try clear p64
               try clear c65
               try clear c65b0
               try clear hx381_0
               try clear hx386_0
               try clear hx390_0
               try clear hx391_0
               try clear hx392_0
               try clear hx393_0
               try clear hx396_0
               try clear hx397_0
               try clear hx398_0
               try clear hx399_0
               try clear p2
               try clear p3
               try clear p38
               try clear p381
               try clear p386
               try clear p390
               try clear p391
               try clear p392
               try clear p393
               try clear p396
               try clear p397
               try clear p398
               try clear p399
               try clear p6
               try clear q3
               try clear q38
               try clear q381
               try clear q386
               try clear q390
               try clear q391
               try clear q392
               try clear q393
               try clear q396
               try clear q397
               try clear q398
               try clear q399
               obtain ⟨x22_3, rfl, HA, HK3, HO_6, HO_8, HO_13, HO_16, HO_17, HB⟩ := hrel
               cases gk with
               | zero => exact absurd HA.out (by simp [laws_FnSorted.l2])
               | succ k3 =>
                have H := HA.out
                clear HA
                simp only [laws_FnSorted.l2] at H
                by_cases c72 : x22_3 < (t367.length : Int)
                · rw [if_pos c72] at H
                  have c72b0 : decide (x22_3 < (t367.length : Int)) = true := decide_eq_true c72
                  clear c72
                  by_cases c73 : 0 ≤ x22_3
                  · rw [if_pos c73] at H
                    have c73b0 : decide (0 ≤ x22_3) = true := decide_eq_true c73
                    clear c73
                    by_cases c74 : 0 ≤ (rd t367 x22_3)
                    · rw [if_pos c74] at H
                      have c74b0 : decide (0 ≤ (rd t367 x22_3)) = true := decide_eq_true c74
                      clear c74
                      by_cases c75 : (rd t367 x22_3) < (t356.length : Int)
                      · rw [if_pos c75] at H
                        have c75b0 : decide ((rd t367 x22_3) < (t356.length : Int)) = true := decide_eq_true c75
                        clear c75
                        replace H := Option.bind_eq_some_iff.mp H
                        obtain ⟨⟨t402, t403⟩, A760, H⟩ := H
                        replace H : (if t403 = 6 then (laws_FnSorted.l2 k3 l0 (wrap64 (3 + t350)) t352 t356 t367 x15_2 x16_2 x17_2 (wrap64 (x22_3 + 1))) else (some false)) = some r := H
                        have A76 := Aside0.mk A760
                        clear A760
                        by_cases c77 : t403 = 6
                        · rw [if_pos c77] at H
                          have c77b0 : (t403 == 6) = true := beq_iff_eq.mpr c77
                          have c77b1 : (t403 != 6) = false := bne_eq_false_iff_eq.mpr c77
                          clear c77
                          have H' := Aside0.mk H
                          clear H
                          have p400 : 0 ≤ (x22_3 : Int) := dtB
                          have q400 : x22_3 < (t367.length : Int) := dtB
                          obtain ⟨ad400, e400, hx400_0⟩ := Kd.at_int (Kd.R_reads' HO_13.out).2.2 x22_3 p400 q400
                          cases e400
                          replace p400 := eq_true p400
                          replace q400 := eq_true q400
                          have p401 : 0 ≤ ((rd t367 x22_3) : Int) := dtB
                          have q401 : (rd t367 x22_3) < (t356.length : Int) := dtB
                          obtain ⟨ad401, e401, hx401_0⟩ := Kd.at_int (Kd.R_reads' HO_8.out).2.2 (rd t367 x22_3) p401 q401
                          cases e401
                          replace p401 := eq_true p401
                          replace q401 := eq_true q401
                          go_wp2_with (first | (go_at_call 12; (with_reducible refine (impl_ReadStitches.calls k3 (wrap64 (3 + t350)) _ _ t352 (rd t356 (rd t367 x22_3)) t402 t403 _ ?side1 ?side2 A76.out).mono ?_); (case side1 => exact cvC ((Kd.R_reads' HO_6.out).2.2)); (case side2 => exact (Kd.R_reads' HO_6.out).2.1); rintro e w78 ⟨rfl, hb⟩; have n0_ := Aside0.mk (Kd.R_below (mvR HO_6) hb); have n1_ := Aside0.mk (Kd.R_below (mvR HO_8) hb); have n2_ := Aside0.mk (Kd.R_below (mvR HO_13) hb); have n3_ := Aside0.mk (Kd.R_below (mvR HO_16) hb); have n4_ := Aside0.mk (Kd.R_below (mvR HO_17) hb); have n5_ := Aside0.mk (below_step (blB HB) hb); clear HO_6; clear HO_8; clear HO_13; clear HO_16; clear HO_17; clear HB; have HO_6 := n0_; have HO_8 := n1_; have HO_13 := n2_; have HO_16 := n3_; have HO_17 := n4_; have HB := n5_; clear n0_ n1_ n2_ n3_ n4_ n5_; (try clear hb); (try clear hb2); (try clear hk); (try clear hi)))
                          repeat (go_quiet (fail); try go_wp2)
                          go_roundg k3
                          case measure => have := HJ10.out; have := HK2.out; have := HK3.out; omega
                          case rel => exact ⟨(wrap64 (x22_3 + 1)), (by first | rfl | (simp; done) | (simp [*]; done)), H', ⟨by have := HJ10.out; have := HK2.out; have := HK3.out; omega⟩, ⟨mvR HO_6⟩, ⟨mvR HO_8⟩, ⟨mvR HO_13⟩, ⟨mvR HO_16⟩, ⟨mvR HO_17⟩, ⟨blB HB⟩⟩
                        · rw [if_neg c77] at H
                          have c77b0 : (t403 == 6) = false := beq_eq_false_iff_ne.mpr c77
                          have c77b1 : (t403 != 6) = true := bne_iff_ne.mpr c77
                          obtain rfl := Option.some.inj H
                          have p400 : 0 ≤ (x22_3 : Int) := dtB
                          have q400 : x22_3 < (t367.length : Int) := dtB
                          obtain ⟨ad400, e400, hx400_0⟩ := Kd.at_int (Kd.R_reads' HO_13.out).2.2 x22_3 p400 q400
                          cases e400
                          replace p400 := eq_true p400
                          replace q400 := eq_true q400
                          have p401 : 0 ≤ ((rd t367 x22_3) : Int) := dtB
                          have q401 : (rd t367 x22_3) < (t356.length : Int) := dtB
                          obtain ⟨ad401, e401, hx401_0⟩ := Kd.at_int (Kd.R_reads' HO_8.out).2.2 (rd t367 x22_3) p401 q401
                          cases e401
                          replace p401 := eq_true p401
                          replace q401 := eq_true q401
                          go_wp2_with (first | (go_at_call 12; (with_reducible refine (impl_ReadStitches.calls k3 (wrap64 (3 + t350)) _ _ t352 (rd t356 (rd t367 x22_3)) t402 t403 _ ?side1 ?side2 A76.out).mono ?_); (case side1 => exact cvC ((Kd.R_reads' HO_6.out).2.2)); (case side2 => exact (Kd.R_reads' HO_6.out).2.1); rintro e w79 ⟨rfl, hb⟩; have n0_ := Aside0.mk (Kd.R_below (mvR HO_6) hb); have n1_ := Aside0.mk (Kd.R_below (mvR HO_8) hb); have n2_ := Aside0.mk (Kd.R_below (mvR HO_13) hb); have n3_ := Aside0.mk (Kd.R_below (mvR HO_16) hb); have n4_ := Aside0.mk (Kd.R_below (mvR HO_17) hb); have n5_ := Aside0.mk (below_step (blB HB) hb); clear HO_6; clear HO_8; clear HO_13; clear HO_16; clear HO_17; clear HB; have HO_6 := n0_; have HO_8 := n1_; have HO_13 := n2_; have HO_16 := n3_; have HO_17 := n4_; have HB := n5_; clear n0_ n1_ n2_ n3_ n4_ n5_; (try clear hb); (try clear hb2); (try clear hk); (try clear hi)))
                          repeat (go_quiet (fail); try go_wp2)
                          go_ret
                          exact ⟨by first | rfl | (simp [errW_none, errW_some] <;> rfl) | (simp [*, errW_none, errW_some] <;> rfl), blB HB⟩
                      · rw [if_neg c75] at H
                        exact absurd H (by simp)
                    · rw [if_neg c74] at H
                      exact absurd H (by simp)
                  · rw [if_neg c73] at H
                    exact absurd H (by simp)
                · rw [if_neg c72] at H
                  have c72b0 : decide (x22_3 < (t367.length : Int)) = false := decide_eq_false c72
                  clear c72
                  replace H := Option.bind_eq_some_iff.mp H
                  obtain ⟨⟨t404, t407⟩, A800, H⟩ := H
                  replace H : ((spec_MissingBy.f k3 x16_2 x17_2).bind fun bt408 => (if x15_2 = (t356.length : Int) then (if t407 = bt408.2 then (if t407 = 0 then ((spec_A2Same.f k3 t404 bt408.1).bind fun t412 => (if t412 = true then (laws_FnSorted.j4 k3 l0 (wrap64 (3 + t350)) t352 x16_2 x17_2 bt408.1 ((bt408.1.length : Int) != (t352.length : Int))) else (laws_FnSorted.j4 k3 l0 (wrap64 (3 + t350)) t352 x16_2 x17_2 bt408.1 true))) else (laws_FnSorted.j4 k3 l0 (wrap64 (3 + t350)) t352 x16_2 x17_2 bt408.1 true)) else (laws_FnSorted.j4 k3 l0 (wrap64 (3 + t350)) t352 x16_2 x17_2 bt408.1 true)) else (laws_FnSorted.j4 k3 l0 (wrap64 (3 + t350)) t352 x16_2 x17_2 bt408.1 true))) = some r := H
                  have A80 := Aside0.mk A800
                  clear A800
                  replace H := Option.bind_eq_some_iff.mp H
                  obtain ⟨⟨t408, t409⟩, A810, H⟩ := H
                  replace H : (if x15_2 = (t356.length : Int) then (if t407 = t409 then (if t407 = 0 then ((spec_A2Same.f k3 t404 t408).bind fun t412 => (if t412 = true then (laws_FnSorted.j4 k3 l0 (wrap64 (3 + t350)) t352 x16_2 x17_2 t408 ((t408.length : Int) != (t352.length : Int))) else (laws_FnSorted.j4 k3 l0 (wrap64 (3 + t350)) t352 x16_2 x17_2 t408 true))) else (laws_FnSorted.j4 k3 l0 (wrap64 (3 + t350)) t352 x16_2 x17_2 t408 true)) else (laws_FnSorted.j4 k3 l0 (wrap64 (3 + t350)) t352 x16_2 x17_2 t408 true)) else (laws_FnSorted.j4 k3 l0 (wrap64 (3 + t350)) t352 x16_2 x17_2 t408 true)) = some r := H
                  have A81 := Aside0.mk A810
                  clear A810
                  have HC82 := Aside0.mk H
                  clear H
                  obtain ⟨Ao83, co83, eo83⟩ := Kd.R_slice HO_16.out
                  subst eo83
                  obtain ⟨Ao84, co84, eo84⟩ := Kd.R_slice HO_17.out
                  subst eo84
                  go_upto_region 33 with (first | (go_at_call 13; (with_reducible refine (impl_MissingBy.calls k3 (fun k_ => some k_ = (.slice Ao83 x16_2.length co83 : Value).ownBlock) _ _ x16_2 (fun k_ => some k_ = (.slice Ao84 x17_2.length co84 : Value).ownBlock) _ _ x17_2 t404 t407 _ ?side1 ?side2 A80.out).mono ?_); (case side1 => exact Kd.R_V (Kd.R_tight rfl (Kd.R_apart' (Kd.R_apart' (HO_16.out) (Kd.R_typed HO_6.out) (by decide)) (Kd.R_typed HO_8.out) (by decide)))); (case side2 => exact Kd.R_V (Kd.R_tight rfl (Kd.R_apart' (Kd.R_apart' (HO_17.out) (Kd.R_typed HO_6.out) (by decide)) (Kd.R_typed HO_8.out) (by decide)))); rintro e w85 ⟨v405, rfl, ho0, hb⟩; have n0_ := Aside0.mk (Kd.R_below (mvR HO_6) hb); have n1_ := Aside0.mk (Kd.R_below (mvR HO_8) hb); have n2_ := Aside0.mk (Kd.R_elder' (mvR HO_13) (Kd.R_base ho0) hb); have n3_ := Aside0.mk (Kd.R_elder' (mvR HO_16) (Kd.R_base ho0) hb); have n4_ := Aside0.mk (Kd.R_elder' (mvR HO_17) (Kd.R_base ho0) hb); have n5_ := Aside0.mk (Kd.R_lower (Kd.R_new' (Kd.R_new' (Kd.R_new' (Kd.R_mono (ok' := fun k_ => True) ho0 (fun _ hk_ => trivial)) (Kd.R_lt (mvR HO_13))) (Kd.R_lt (mvR HO_16))) (Kd.R_lt (mvR HO_17))) (below_size (blB HB))); have n6_ := Aside0.mk (below_step (blB HB) hb); clear HO_6; clear HO_8; clear HO_13; clear HO_16; clear HO_17; clear HB; have HO_6 := n0_; have HO_8 := n1_; have HO_13 := n2_; have HO_16 := n3_; have HO_17 := n4_; have HO406 := n5_; have HB := n6_; clear n0_ n1_ n2_ n3_ n4_ n5_ n6_; (try clear hb); (try clear hb2); (try clear hk); (try clear hi); (try clear ho0)) | (go_at_call 14; (with_reducible refine (spec_MissingBy.calls k3 _ _ x16_2 _ _ x17_2 t408 t409 _ ?side1 ?side2 ?side3 ?side4 A81.out).mono ?_); (case side1 => exact cvC ((Kd.R_reads' HO_16.out).2.2)); (case side2 => exact (Kd.R_reads' HO_16.out).2.1); (case side3 => exact cvC ((Kd.R_reads' HO_17.out).2.2)); (case side4 => exact (Kd.R_reads' HO_17.out).2.1); rintro e w86 ⟨v410, rfl, ho0, hb⟩; have n0_ := Aside0.mk (Kd.R_below (mvR HO_6) hb); have n1_ := Aside0.mk (Kd.R_below (mvR HO_8) hb); have n2_ := Aside0.mk (Kd.R_elder' (mvR HO_13) (Kd.R_base ho0) hb); have n3_ := Aside0.mk (Kd.R_elder' (mvR HO_16) (Kd.R_base ho0) hb); have n4_ := Aside0.mk (Kd.R_elder' (mvR HO_17) (Kd.R_base ho0) hb); have n5_ := Aside0.mk (Kd.R_elder' (mvR HO406) (Kd.R_base ho0) hb); have n6_ := Aside0.mk (Kd.R_lower (Kd.R_new' (Kd.R_new' (Kd.R_new' (Kd.R_new' ho0 (Kd.R_lt (mvR HO_13))) (Kd.R_lt (mvR HO_16))) (Kd.R_lt (mvR HO_17))) (Kd.R_lt (mvR HO406))) (below_size (blB HB))); have n7_ := Aside0.mk (below_step (blB HB) hb); clear HO_6; clear HO_8; clear HO_13; clear HO_16; clear HO_17; clear HO406; clear HB; have HO_6 := n0_; have HO_8 := n1_; have HO_13 := n2_; have HO_16 := n3_; have HO_17 := n4_; have HO406 := n5_; have HO411 := n6_; have HB := n7_; clear n0_ n1_ n2_ n3_ n4_ n5_ n6_ n7_; (try clear hb); (try clear hb2); (try clear hk); (try clear hi); (try clear ho0)))
                  repeat (go_quiet (fail); try go_wp2)
                  (try simp only [Act.put, List.setIfInBounds_toArray, List.set_cons_zero, List.set_cons_succ])
                  go_cut [254] from 196 to 254 (fun v254 wc => ∃ (kq : Nat) (x254_81 : Bool), v254 = .bool x254_81 ∧ Aside0 (laws_FnSorted.j4 kq l0 (wrap64 (3 + t350)) t352 x16_2 x17_2 t408 x254_81 = some r) ∧ Aside0 (kq ≤ k3) ∧ Aside0 (Kd.R (Kd.int .u16) 38 wc w.heap.size (fun _ => True) (.slice Ao14 t352.length co14) t352) ∧ Aside0 (Kd.R (Kd.int .i64) 2 wc w.heap.size (fun k_ => some k_ ≠ ((.slice Ao84 x17_2.length co84) : Value).ownBlock ∧ some k_ ≠ (v410 : Value).ownBlock) (.slice Ao83 x16_2.length co83) x16_2) ∧ Aside0 (Kd.R (Kd.int .i64) 2 wc w.heap.size (fun k_ => some k_ ≠ ((.slice Ao83 x16_2.length co83) : Value).ownBlock ∧ some k_ ≠ (v410 : Value).ownBlock) (.slice Ao84 x17_2.length co84) x17_2) ∧ Aside0 (Kd.R (Kd.int .i64) 2 wc w.heap.size (fun k_ => some k_ ≠ ((.slice Ao83 x16_2.length co83) : Value).ownBlock ∧ some k_ ≠ ((.slice Ao84 x17_2.length co84) : Value).ownBlock) v410 t408) ∧ Aside0 (Below w.heap.size w wc))
                  case first =>
                   as_aux_lemma =>
                    have H := HC82.out
                    clear HC82
                    by_cases c87 : x15_2 = (t356.length : Int)
                    · rw [if_pos c87] at H
                      have c87b0 : (x15_2 == (t356.length : Int)) = true := beq_iff_eq.mpr c87
                      have c87b1 : (x15_2 != (t356.length : Int)) = false := bne_eq_false_iff_eq.mpr c87
                      clear c87
                      (first | rw [c87b0] | (simp only [i64_w, i32_w]; rw [c87b0]) | skip)
                      by_cases c88 : t407 = t409
                      · rw [if_pos c88] at H
                        have c88b0 : (t407 == t409) = true := beq_iff_eq.mpr c88
                        have c88b1 : (t407 != t409) = false := bne_eq_false_iff_eq.mpr c88
                        clear c88
                        by_cases c89 : t407 = 0
                        · rw [if_pos c89] at H
                          have c89b0 : (t407 == 0) = true := beq_iff_eq.mpr c89
                          have c89b1 : (t407 != 0) = false := bne_eq_false_iff_eq.mpr c89
                          clear c89
                          replace H := Option.bind_eq_some_iff.mp H
                          obtain ⟨t412, A900, H⟩ := H
                          replace H : (if t412 = true then (laws_FnSorted.j4 k3 l0 (wrap64 (3 + t350)) t352 x16_2 x17_2 t408 ((t408.length : Int) != (t352.length : Int))) else (laws_FnSorted.j4 k3 l0 (wrap64 (3 + t350)) t352 x16_2 x17_2 t408 true)) = some r := H
                          have A90 := Aside0.mk A900
                          clear A900
                          by_cases c91 : t412 = true
                          · subst c91
                            have H1 : (laws_FnSorted.j4 k3 l0 (wrap64 (3 + t350)) t352 x16_2 x17_2 t408 ((t408.length : Int) != (t352.length : Int))) = some r := by rw [if_pos rfl] at H; exact H
                            clear H
                            have H := H1
                            clear H1
                            have H' := Aside0.mk H
                            clear H
                            obtain ⟨Ao92, co92, eo92⟩ := Kd.R_slice HO406.out
                            subst eo92
                            obtain ⟨Ao93, co93, eo93⟩ := Kd.R_slice HO411.out
                            subst eo93
                            go_wp2_with (first | (go_at_call 11; (with_reducible refine (spec_A2Same.calls k3 _ _ t404 _ _ t408 true _ ?side1 ?side2 ?side3 ?side4 A90.out).mono ?_); (case side1 => exact cvC ((Kd.R_reads' HO406.out).2.2)); (case side2 => exact (Kd.R_reads' HO406.out).2.1); (case side3 => exact cvC ((Kd.R_reads' HO411.out).2.2)); (case side4 => exact (Kd.R_reads' HO411.out).2.1); rintro e w' ⟨rfl, ⟨nd, rfl⟩⟩; (try first | exact ⟨rfl, _, World.drewN_drewN _ _ _⟩ | exact ⟨rfl, _, Eq.trans (World.drewN_drewN _ _ _) (congrArg (World.drewN _) (Nat.add_assoc _ _ _))⟩)))
                            repeat (go_quiet (fail); try go_wp2)
                            go_meet
                            case rel => exact ⟨_, (((t408.length : Int) != (t352.length : Int))), (by first | rfl | (simp; done) | (simp [*]; done)), H', ⟨by have := HJ10.out; have := HK2.out; have := HK3.out; first | omega | exact Nat.le_refl _⟩, ⟨by (with_reducible repeat (first | apply Kd.R_alloc | apply Kd.R_drewN | apply Kd.R_drew)); exact Kd.R_mono HO_6.out (fun _ hk => trivial)⟩, ⟨by (with_reducible repeat (first | apply Kd.R_alloc | apply Kd.R_drewN | apply Kd.R_drew)); exact Kd.R_mono HO_16.out (fun _ hk => ⟨hk.1.1.2, hk.2⟩)⟩, ⟨by (with_reducible repeat (first | apply Kd.R_alloc | apply Kd.R_drewN | apply Kd.R_drew)); exact Kd.R_mono HO_17.out (fun _ hk => ⟨hk.1.1.2, hk.2⟩)⟩, ⟨by (with_reducible repeat (first | apply Kd.R_alloc | apply Kd.R_drewN | apply Kd.R_drew)); exact Kd.R_mono HO411.out (fun _ hk => ⟨hk.1.1.2, hk.1.2⟩)⟩, ⟨blB HB⟩⟩
                          · replace c91 := Bool.eq_false_iff.mpr c91
                            subst c91
                            have H1 : (laws_FnSorted.j4 k3 l0 (wrap64 (3 + t350)) t352 x16_2 x17_2 t408 true) = some r := by rw [if_neg (show ¬ (false = true) by decide)] at H; exact H
                            clear H
                            have H := H1
                            clear H1
                            have H' := Aside0.mk H
                            clear H
                            obtain ⟨Ao94, co94, eo94⟩ := Kd.R_slice HO406.out
                            subst eo94
                            obtain ⟨Ao95, co95, eo95⟩ := Kd.R_slice HO411.out
                            subst eo95
                            go_wp2_with (first | (go_at_call 11; (with_reducible refine (spec_A2Same.calls k3 _ _ t404 _ _ t408 false _ ?side1 ?side2 ?side3 ?side4 A90.out).mono ?_); (case side1 => exact cvC ((Kd.R_reads' HO406.out).2.2)); (case side2 => exact (Kd.R_reads' HO406.out).2.1); (case side3 => exact cvC ((Kd.R_reads' HO411.out).2.2)); (case side4 => exact (Kd.R_reads' HO411.out).2.1); rintro e w' ⟨rfl, ⟨nd, rfl⟩⟩; (try first | exact ⟨rfl, _, World.drewN_drewN _ _ _⟩ | exact ⟨rfl, _, Eq.trans (World.drewN_drewN _ _ _) (congrArg (World.drewN _) (Nat.add_assoc _ _ _))⟩)))
                            repeat (go_quiet (fail); try go_wp2)
                            go_meet
                            case rel => exact ⟨_, (true), (by first | rfl | (simp; done) | (simp [*]; done)), H', ⟨by have := HJ10.out; have := HK2.out; have := HK3.out; first | omega | exact Nat.le_refl _⟩, ⟨by (with_reducible repeat (first | apply Kd.R_alloc | apply Kd.R_drewN | apply Kd.R_drew)); exact Kd.R_mono HO_6.out (fun _ hk => trivial)⟩, ⟨by (with_reducible repeat (first | apply Kd.R_alloc | apply Kd.R_drewN | apply Kd.R_drew)); exact Kd.R_mono HO_16.out (fun _ hk => ⟨hk.1.1.2, hk.2⟩)⟩, ⟨by (with_reducible repeat (first | apply Kd.R_alloc | apply Kd.R_drewN | apply Kd.R_drew)); exact Kd.R_mono HO_17.out (fun _ hk => ⟨hk.1.1.2, hk.2⟩)⟩, ⟨by (with_reducible repeat (first | apply Kd.R_alloc | apply Kd.R_drewN | apply Kd.R_drew)); exact Kd.R_mono HO411.out (fun _ hk => ⟨hk.1.1.2, hk.1.2⟩)⟩, ⟨blB HB⟩⟩
                        · rw [if_neg c89] at H
                          have c89b0 : (t407 == 0) = false := beq_eq_false_iff_ne.mpr c89
                          have c89b1 : (t407 != 0) = true := bne_iff_ne.mpr c89
                          have H' := Aside0.mk H
                          clear H
                          go_wp2
                          repeat (go_quiet (fail); try go_wp2)
                          go_meet
                          case rel => exact ⟨_, (true), (by first | rfl | (simp; done) | (simp [*]; done)), H', ⟨by have := HJ10.out; have := HK2.out; have := HK3.out; first | omega | exact Nat.le_refl _⟩, ⟨by (with_reducible repeat (first | apply Kd.R_alloc | apply Kd.R_drewN | apply Kd.R_drew)); exact Kd.R_mono HO_6.out (fun _ hk => trivial)⟩, ⟨by (with_reducible repeat (first | apply Kd.R_alloc | apply Kd.R_drewN | apply Kd.R_drew)); exact Kd.R_mono HO_16.out (fun _ hk => ⟨hk.1.1.2, hk.2⟩)⟩, ⟨by (with_reducible repeat (first | apply Kd.R_alloc | apply Kd.R_drewN | apply Kd.R_drew)); exact Kd.R_mono HO_17.out (fun _ hk => ⟨hk.1.1.2, hk.2⟩)⟩, ⟨by (with_reducible repeat (first | apply Kd.R_alloc | apply Kd.R_drewN | apply Kd.R_drew)); exact Kd.R_mono HO411.out (fun _ hk => ⟨hk.1.1.2, hk.1.2⟩)⟩, ⟨blB HB⟩⟩
                      · rw [if_neg c88] at H
                        have c88b0 : (t407 == t409) = false := beq_eq_false_iff_ne.mpr c88
                        have c88b1 : (t407 != t409) = true := bne_iff_ne.mpr c88
                        have H' := Aside0.mk H
                        clear H
                        go_wp2
                        repeat (go_quiet (fail); try go_wp2)
                        go_meet
                        case rel => exact ⟨_, (true), (by first | rfl | (simp; done) | (simp [*]; done)), H', ⟨by have := HJ10.out; have := HK2.out; have := HK3.out; first | omega | exact Nat.le_refl _⟩, ⟨by (with_reducible repeat (first | apply Kd.R_alloc | apply Kd.R_drewN | apply Kd.R_drew)); exact Kd.R_mono HO_6.out (fun _ hk => trivial)⟩, ⟨by (with_reducible repeat (first | apply Kd.R_alloc | apply Kd.R_drewN | apply Kd.R_drew)); exact Kd.R_mono HO_16.out (fun _ hk => ⟨hk.1.1.2, hk.2⟩)⟩, ⟨by (with_reducible repeat (first | apply Kd.R_alloc | apply Kd.R_drewN | apply Kd.R_drew)); exact Kd.R_mono HO_17.out (fun _ hk => ⟨hk.1.1.2, hk.2⟩)⟩, ⟨by (with_reducible repeat (first | apply Kd.R_alloc | apply Kd.R_drewN | apply Kd.R_drew)); exact Kd.R_mono HO411.out (fun _ hk => ⟨hk.1.1.2, hk.1.2⟩)⟩, ⟨blB HB⟩⟩
                    · rw [if_neg c87] at H
                      have c87b0 : (x15_2 == (t356.length : Int)) = false := beq_eq_false_iff_ne.mpr c87
                      have c87b1 : (x15_2 != (t356.length : Int)) = true := bne_iff_ne.mpr c87
                      (first | rw [c87b0] | (simp only [i64_w, i32_w]; rw [c87b0]) | skip)
                      have H' := Aside0.mk H
                      clear H
                      go_wp2
                      repeat (go_quiet (fail); try go_wp2)
                      go_meet
                      case rel => exact ⟨_, (true), (by first | rfl | (simp; done) | (simp [*]; done)), H', ⟨by have := HJ10.out; have := HK2.out; have := HK3.out; first | omega | exact Nat.le_refl _⟩, ⟨by (with_reducible repeat (first | apply Kd.R_alloc | apply Kd.R_drewN | apply Kd.R_drew)); exact Kd.R_mono HO_6.out (fun _ hk => trivial)⟩, ⟨by (with_reducible repeat (first | apply Kd.R_alloc | apply Kd.R_drewN | apply Kd.R_drew)); exact Kd.R_mono HO_16.out (fun _ hk => ⟨hk.1.1.2, hk.2⟩)⟩, ⟨by (with_reducible repeat (first | apply Kd.R_alloc | apply Kd.R_drewN | apply Kd.R_drew)); exact Kd.R_mono HO_17.out (fun _ hk => ⟨hk.1.1.2, hk.2⟩)⟩, ⟨by (with_reducible repeat (first | apply Kd.R_alloc | apply Kd.R_drewN | apply Kd.R_drew)); exact Kd.R_mono HO411.out (fun _ hk => ⟨hk.1.1.2, hk.1.2⟩)⟩, ⟨blB HB⟩⟩
                  case rest =>
                   as_aux_lemma =>
                    clear HC82
                    try clear c1
                    try clear c2
                    try clear p2
                    try clear c3
                    try clear p3
                    try clear q3
                    try clear hx3
                    try clear c4
                    try clear p4
                    try clear q4
                    try clear hx4
                    try clear c5
                    try clear c6
                    try clear p6
                    try clear c7
                    try clear c8
                    try clear c9
                    try clear c18
                    try clear c18b0
                    try clear c18b1
                    try clear c19
                    try clear c19b0
                    try clear c19b1
                    try clear c20
                    try clear c20b0
                    try clear c20b1
                    try clear c22
                    try clear c23
                    try clear c23b0
                    try clear c23b1
                    try clear c23b2
                    try clear c25
                    try clear c38
                    try clear p38
                    try clear q38
                    try clear hx38
                    try clear c39
                    try clear p39
                    try clear q39
                    try clear hx39
                    try clear p40
                    try clear q40
                    try clear hx40
                    try clear c44
                    try clear c44b0
                    try clear c45
                    try clear c45b0
                    try clear c47
                    try clear c48
                    try clear c52
                    try clear c52b0
                    try clear c53
                    try clear c53b0
                    try clear c54
                    try clear c54b0
                    try clear c55
                    try clear c55b0
                    try clear c56
                    try clear c56b0
                    try clear c57
                    try clear c57b0
                    try clear c59
                    try clear c59b0
                    try clear c59b1
                    try clear c60
                    try clear c60b0
                    try clear c60b1
                    try clear c61
                    try clear c61b0
                    try clear c63
                    try clear c63b0
                    try clear c64
                    try clear c64b0
                    try clear p64
                    try clear c65
                    try clear c65b0
                    try clear c72
                    try clear c72b0
                    try clear c73
                    try clear c73b0
                    try clear c74
                    try clear c74b0
                    try clear c75
                    try clear c75b0
                    try clear c77
                    try clear c77b0
                    try clear c77b1
                    try clear c87
                    try clear c87b0
                    try clear c87b1
                    try clear c88
                    try clear c88b0
                    try clear c88b1
                    try clear c89
                    try clear c89b0
                    try clear c89b1
                    try clear c91
                    try clear hx381_0
                    try clear hx386_0
                    try clear hx390_0
                    try clear hx391_0
                    try clear hx392_0
                    try clear hx393_0
                    try clear hx396_0
                    try clear hx397_0
                    try clear hx398_0
                    try clear hx399_0
                    try clear hx400_0
                    try clear hx401_0
                    try clear p2
                    try clear p3
                    try clear p38
                    try clear p381
                    try clear p386
                    try clear p39
                    try clear p390
                    try clear p391
                    try clear p392
                    try clear p393
                    try clear p396
                    try clear p397
                    try clear p398
                    try clear p399
                    try clear p400
                    try clear p401
                    try clear p6
                    try clear p64
                    try clear q3
                    try clear q38
                    try clear q381
                    try clear q386
                    try clear q39
                    try clear q390
                    try clear q391
                    try clear q392
                    try clear q393
                    try clear q396
                    try clear q397
                    try clear q398
                    try clear q399
                    try clear q400
                    try clear q401
                    obtain ⟨kq, x254_81, rfl, HA, HJ81, HO_6, HO_16, HO_17, HO_27, HB⟩ := hcut
                    cases kq with
                    | zero => exact absurd HA.out (by simp [laws_FnSorted.j4])
                    | succ kj81 =>
                     have H := HA.out
                     clear HA
                     simp only [laws_FnSorted.j4] at H
                     by_cases c96 : x254_81 = true
                     · subst c96
                       have H1 : (some false) = some r := by rw [if_pos rfl] at H; exact H
                       clear H
                       have H := H1
                       clear H1
                       obtain rfl := Option.some.inj H
                       go_wp2
                       repeat (go_quiet (fail); try go_wp2)
                       go_ret
                       exact ⟨by first | rfl | (simp [errW_none, errW_some] <;> rfl) | (simp [*, errW_none, errW_some] <;> rfl), blB HB⟩
                     · replace c96 := Bool.eq_false_iff.mpr c96
                       subst c96
                       have H1 : (laws_FnSorted.l3 kj81 l0 (wrap64 (3 + t350)) t352 x16_2 x17_2 t408 0) = some r := by rw [if_neg (show ¬ (false = true) by decide)] at H; exact H
                       clear H
                       have H := H1
                       clear H1
                       have H' := Aside0.mk H
                       clear H
                       go_wp2
                       repeat (go_quiet (fail); try go_wp2)
                       go_loopg [29] kj81 (fun kq v29 w' => ∃ (x29_5 : Int), v29 = .int .i64 x29_5 ∧ Aside0 (laws_FnSorted.l3 kq l0 (wrap64 (3 + t350)) t352 x16_2 x17_2 t408 x29_5 = some r) ∧ Aside0 (kq ≤ kj81) ∧ Aside0 (Kd.R (Kd.int .u16) 38 w' w.heap.size (fun _ => True) (.slice Ao14 t352.length co14) t352) ∧ Aside0 (Kd.R (Kd.int .i64) 2 w' w.heap.size (fun k_ => some k_ ≠ ((.slice Ao84 x17_2.length co84) : Value).ownBlock ∧ some k_ ≠ (v410 : Value).ownBlock) (.slice Ao83 x16_2.length co83) x16_2) ∧ Aside0 (Kd.R (Kd.int .i64) 2 w' w.heap.size (fun k_ => some k_ ≠ ((.slice Ao83 x16_2.length co83) : Value).ownBlock ∧ some k_ ≠ (v410 : Value).ownBlock) (.slice Ao84 x17_2.length co84) x17_2) ∧ Aside0 (Kd.R (Kd.int .i64) 2 w' w.heap.size (fun k_ => some k_ ≠ ((.slice Ao83 x16_2.length co83) : Value).ownBlock ∧ some k_ ≠ ((.slice Ao84 x17_2.length co84) : Value).ownBlock) v410 t408) ∧ Aside0 (Below w.heap.size w w'))
                       case atStart => exact ⟨(0), (by first | rfl | (simp; done) | (simp [*]; done)), H', ⟨Nat.le_refl _⟩, ⟨mvR HO_6⟩, ⟨mvR HO_16⟩, ⟨mvR HO_17⟩, ⟨mvR HO_27⟩, ⟨blB HB⟩⟩
                       case round =>
                        as_aux_lemma =>
                         clear H'
                         try clear c1
                         try clear c2
                         try clear p2
                         try clear c3
                         try clear p3
                         try clear q3
                         try clear hx3
                         try clear c4
                         try clear p4
                         try clear q4
                         try clear hx4
                         try clear c5
                         try clear c6
                         try clear p6
                         try clear c7
                         try clear c8
                         try clear c9
                         try clear c18
                         try clear c18b0
                         try clear c18b1
                         try clear c19
                         try clear c19b0
                         try clear c19b1
                         try clear c20
                         try clear c20b0
                         try clear c20b1
                         try clear c22
                         try clear c23
                         try clear c23b0
                         try clear c23b1
                         try clear c23b2
                         try clear c25
                         try clear c38
                         try clear p38
                         try clear q38
                         try clear hx38
                         try clear c39
                         try clear p39
                         try clear q39
                         try clear hx39
                         try clear p40
                         try clear q40
                         try clear hx40
                         try clear c44
                         try clear c44b0
                         try clear c45
                         try clear c45b0
                         try clear c47
                         try clear c48
                         try clear c52
                         try clear c52b0
                         try clear c53
                         try clear c53b0
                         try clear c54
                         try clear c54b0
                         try clear c55
                         try clear c55b0
                         try clear c56
                         try clear c56b0
                         try clear c57
                         try clear c57b0
                         try clear c59
                         try clear c59b0
                         try clear c59b1
                         try clear c60
                         try clear c60b0
                         try clear c60b1
                         try clear c61
                         try clear c61b0
                         try clear c63
                         try clear c63b0
                         try clear c64
                         try clear c64b0
                         try clear p64
                         try clear c65
                         try clear c65b0
                         try clear c72
                         try clear c72b0
                         try clear c73
                         try clear c73b0
                         try clear c74
                         try clear c74b0
                         try clear c75
                         try clear c75b0
                         try clear c77
                         try clear c77b0
                         try clear c77b1
                         try clear c87
                         try clear c87b0
                         try clear c87b1
                         try clear c88
                         try clear c88b0
                         try clear c88b1
                         try clear c89
                         try clear c89b0
                         try clear c89b1
                         try clear c91
                         try clear c96
                         try clear hx381_0
                         try clear hx386_0
                         try clear hx390_0
                         try clear hx391_0
                         try clear hx392_0
                         try clear hx393_0
                         try clear hx396_0
                         try clear hx397_0
                         try clear hx398_0
                         try clear hx399_0
                         try clear hx400_0
                         try clear hx401_0
                         try clear p2
                         try clear p3
                         try clear p38
                         try clear p381
                         try clear p386
                         try clear p39
                         try clear p390
                         try clear p391
                         try clear p392
                         try clear p393
                         try clear p396
                         try clear p397
                         try clear p398
                         try clear p399
                         try clear p4
                         try clear p40
                         try clear p400
                         try clear p401
                         try clear p6
                         try clear p64
                         try clear q3
                         try clear q38
                         try clear q381
                         try clear q386
                         try clear q39
                         try clear q390
                         try clear q391
                         try clear q392
                         try clear q393
                         try clear q396
                         try clear q397
                         try clear q398
                         try clear q399
                         try clear q4
                         try clear q40
                         try clear q400
                         try clear q401
                         obtain ⟨x29_5, rfl, HA, HK5, HO_6, HO_16, HO_17, HO_27, HB⟩ := hrel
                         cases gk with
                         | zero => exact absurd HA.out (by simp [laws_FnSorted.l3])
                         | succ k5 =>
                          have H := HA.out
                          clear HA
                          simp only [laws_FnSorted.l3] at H
                          by_cases c97 : x29_5 < (t408.length : Int)
                          · rw [if_pos c97] at H
                            have c97b0 : decide (x29_5 < (t408.length : Int)) = true := decide_eq_true c97
                            clear c97
                            by_cases c98 : 0 ≤ x29_5
                            · rw [if_pos c98] at H
                              have c98b0 : decide (0 ≤ x29_5) = true := decide_eq_true c98
                              clear c98
                              by_cases c99 : x29_5 < (x16_2.length : Int)
                              · rw [if_pos c99] at H
                                have c99b0 : decide (x29_5 < (x16_2.length : Int)) = true := decide_eq_true c99
                                clear c99
                                by_cases c100 : x29_5 < (x17_2.length : Int)
                                · rw [if_pos c100] at H
                                  have c100b0 : decide (x29_5 < (x17_2.length : Int)) = true := decide_eq_true c100
                                  clear c100
                                  obtain ⟨ji101, hji101⟩ : ∃ j_ : Int, (mx 0 (wrap64 ((rd x16_2 x29_5) - (rd x17_2 x29_5)))) = j_ := ⟨_, rfl⟩
                                  replace H : (if (rd t408 x29_5) = (ji101) then (laws_FnSorted.l3 k5 l0 (wrap64 (3 + t350)) t352 x16_2 x17_2 t408 (wrap64 (x29_5 + 1))) else (some false)) = some r := by first | (rw [hji101] at H; exact H) | (simp only [hji101] at H ⊢; exact H)
                                  have hji101_ : (if 0 < (wrap64 ((rd x16_2 x29_5) - (rd x17_2 x29_5))) then (wrap64 ((rd x16_2 x29_5) - (rd x17_2 x29_5))) else 0) = ji101 := hji101
                                  by_cases c102 : (rd t408 x29_5) = (ji101)
                                  · rw [if_pos c102] at H
                                    have c102b0 : ((rd t408 x29_5) == (ji101)) = true := beq_iff_eq.mpr c102
                                    have c102b1 : ((rd t408 x29_5) != (ji101)) = false := bne_eq_false_iff_eq.mpr c102
                                    clear c102
                                    have H' := Aside0.mk H
                                    clear H
                                    obtain ⟨Ao103, co103, eo103⟩ := Kd.R_slice HO_27.out
                                    subst eo103
                                    have p413 : 0 ≤ (x29_5 : Int) := dtB
                                    have q413 : x29_5 < (t408.length : Int) := dtB
                                    obtain ⟨ad413, e413, hx413_0⟩ := Kd.at_int (Kd.R_reads' HO_27.out).2.2 x29_5 p413 q413
                                    cases e413
                                    replace p413 := eq_true p413
                                    replace q413 := eq_true q413
                                    have p414 : 0 ≤ (x29_5 : Int) := dtB
                                    have q414 : x29_5 < (x16_2.length : Int) := dtB
                                    obtain ⟨ad414, e414, hx414_0⟩ := Kd.at_int (Kd.R_reads' HO_16.out).2.2 x29_5 p414 q414
                                    cases e414
                                    replace p414 := eq_true p414
                                    replace q414 := eq_true q414
                                    have p415 : 0 ≤ (x29_5 : Int) := dtB
                                    have q415 : x29_5 < (x17_2.length : Int) := dtB
                                    obtain ⟨ad415, e415, hx415_0⟩ := Kd.at_int (Kd.R_reads' HO_17.out).2.2 x29_5 p415 q415
                                    cases e415
                                    replace p415 := eq_true p415
                                    replace q415 := eq_true q415
                                    go_wp2
                                    repeat (go_quiet (fail); try go_wp2)
                                    go_roundg k5
                                    case measure => have := HJ10.out; have := HK2.out; have := HK3.out; have := HJ81.out; have := HK5.out; omega
                                    case rel => exact ⟨(wrap64 (x29_5 + 1)), (by first | rfl | (simp; done) | (simp [*]; done)), H', ⟨by have := HJ10.out; have := HK2.out; have := HK3.out; have := HJ81.out; have := HK5.out; omega⟩, ⟨mvR HO_6⟩, ⟨mvR HO_16⟩, ⟨mvR HO_17⟩, ⟨mvR HO_27⟩, ⟨blB HB⟩⟩
                                  · rw [if_neg c102] at H
                                    have c102b0 : ((rd t408 x29_5) == (ji101)) = false := beq_eq_false_iff_ne.mpr c102
                                    have c102b1 : ((rd t408 x29_5) != (ji101)) = true := bne_iff_ne.mpr c102
                                    obtain rfl := Option.some.inj H
                                    obtain ⟨Ao104, co104, eo104⟩ := Kd.R_slice HO_27.out
                                    subst eo104
                                    have p413 : 0 ≤ (x29_5 : Int) := dtB
                                    have q413 : x29_5 < (t408.length : Int) := dtB
                                    obtain ⟨ad413, e413, hx413_0⟩ := Kd.at_int (Kd.R_reads' HO_27.out).2.2 x29_5 p413 q413
                                    cases e413
                                    replace p413 := eq_true p413
                                    replace q413 := eq_true q413
                                    have p414 : 0 ≤ (x29_5 : Int) := dtB
                                    have q414 : x29_5 < (x16_2.length : Int) := dtB
                                    obtain ⟨ad414, e414, hx414_0⟩ := Kd.at_int (Kd.R_reads' HO_16.out).2.2 x29_5 p414 q414
                                    cases e414
                                    replace p414 := eq_true p414
                                    replace q414 := eq_true q414
                                    have p415 : 0 ≤ (x29_5 : Int) := dtB
                                    have q415 : x29_5 < (x17_2.length : Int) := dtB
                                    obtain ⟨ad415, e415, hx415_0⟩ := Kd.at_int (Kd.R_reads' HO_17.out).2.2 x29_5 p415 q415
                                    cases e415
                                    replace p415 := eq_true p415
                                    replace q415 := eq_true q415
                                    go_wp2
                                    repeat (go_quiet (fail); try go_wp2)
                                    go_ret
                                    exact ⟨by first | rfl | (simp [errW_none, errW_some] <;> rfl) | (simp only [← hji101]; first | rfl | (simp [errW_none, errW_some] <;> rfl)) | (simp [*, errW_none, errW_some] <;> rfl), blB HB⟩
                                · rw [if_neg c100] at H
                                  exact absurd H (by simp)
                              · rw [if_neg c99] at H
                                exact absurd H (by simp)
                            · rw [if_neg c98] at H
                              exact absurd H (by simp)
                          · rw [if_neg c97] at H
                            have c97b0 : decide (x29_5 < (t408.length : Int)) = false := decide_eq_false c97
                            clear c97
                            replace H := Option.bind_eq_some_iff.mp H
                            obtain ⟨t416, A1050, H⟩ := H
                            replace H : ((impl_LikelyLost.f k5 (wrap64 (3 + t350)) t352 t416).bind fun bt417 => ((spec_LikelyLost.f k5 (wrap64 (3 + t350)) t352 t416).bind fun bt421 => (if bt417.2 = bt421.2 then (if bt417.2 = 0 then ((spec_A2Same.f k5 bt417.1 bt421.1).bind fun t425 => (laws_FnSorted.j6 k5 (wrap64 (3 + t350)) t352 t416 bt421.1 (!t425))) else (laws_FnSorted.j6 k5 (wrap64 (3 + t350)) t352 t416 bt421.1 true)) else (laws_FnSorted.j6 k5 (wrap64 (3 + t350)) t352 t416 bt421.1 true)))) = some r := H
                            have A105 := Aside0.mk A1050
                            clear A1050
                            replace H := Option.bind_eq_some_iff.mp H
                            obtain ⟨⟨t417, t418⟩, A1060, H⟩ := H
                            replace H : ((spec_LikelyLost.f k5 (wrap64 (3 + t350)) t352 t416).bind fun bt421 => (if t418 = bt421.2 then (if t418 = 0 then ((spec_A2Same.f k5 t417 bt421.1).bind fun t425 => (laws_FnSorted.j6 k5 (wrap64 (3 + t350)) t352 t416 bt421.1 (!t425))) else (laws_FnSorted.j6 k5 (wrap64 (3 + t350)) t352 t416 bt421.1 true)) else (laws_FnSorted.j6 k5 (wrap64 (3 + t350)) t352 t416 bt421.1 true))) = some r := H
                            have A106 := Aside0.mk A1060
                            clear A1060
                            replace H := Option.bind_eq_some_iff.mp H
                            obtain ⟨⟨t421, t422⟩, A1070, H⟩ := H
                            replace H : (if t418 = t422 then (if t418 = 0 then ((spec_A2Same.f k5 t417 t421).bind fun t425 => (laws_FnSorted.j6 k5 (wrap64 (3 + t350)) t352 t416 t421 (!t425))) else (laws_FnSorted.j6 k5 (wrap64 (3 + t350)) t352 t416 t421 true)) else (laws_FnSorted.j6 k5 (wrap64 (3 + t350)) t352 t416 t421 true)) = some r := H
                            have A107 := Aside0.mk A1070
                            clear A1070
                            have HC108 := Aside0.mk H
                            clear H
                            obtain ⟨Ao109, co109, eo109⟩ := Kd.R_slice HO_27.out
                            subst eo109
                            go_upto_region 43 with (first | (go_at_call 15; (with_reducible refine (spec_A2Mark.calls _ _ l0 (wrap64 (3 + t350)) t416 _ ?side1 ?side2 A105.out).mono ?_); (case side1 => exact cvC ((Kd.C_below HR0.out HB.out))); (case side2 => exact HC0.out); rintro e w110 ⟨rfl, hb⟩; have n0_ := Aside0.mk (Kd.R_below (mvR HO_6) hb); have n1_ := Aside0.mk (Kd.R_below (mvR HO_16) hb); have n2_ := Aside0.mk (Kd.R_below (mvR HO_17) hb); have n3_ := Aside0.mk (Kd.R_below (mvR HO_27) hb); have n4_ := Aside0.mk (below_step (blB HB) hb); clear HO_6; clear HO_16; clear HO_17; clear HO_27; clear HB; have HO_6 := n0_; have HO_16 := n1_; have HO_17 := n2_; have HO_27 := n3_; have HB := n4_; clear n0_ n1_ n2_ n3_ n4_; (try clear hb); (try clear hb2); (try clear hk); (try clear hi)) | (go_at_call 16; (with_reducible refine (impl_LikelyLost.calls k5 (wrap64 (3 + t350)) _ _ t352 t416 t417 t418 _ ?side1 ?side2 A106.out).mono ?_); (case side1 => exact cvC ((Kd.R_reads' HO_6.out).2.2)); (case side2 => exact (Kd.R_reads' HO_6.out).2.1); rintro e w111 ⟨v419, rfl, ho0, hb⟩; have n0_ := Aside0.mk (Kd.R_below (mvR HO_6) hb); have n1_ := Aside0.mk (Kd.R_elder' (mvR HO_16) (Kd.R_base ho0) hb); have n2_ := Aside0.mk (Kd.R_elder' (mvR HO_17) (Kd.R_base ho0) hb); have n3_ := Aside0.mk (Kd.R_elder' (mvR HO_27) (Kd.R_base ho0) hb); have n4_ := Aside0.mk (Kd.R_lower (Kd.R_new' (Kd.R_new' (Kd.R_new' ho0 (Kd.R_lt (mvR HO_16))) (Kd.R_lt (mvR HO_17))) (Kd.R_lt (mvR HO_27))) (below_size (blB HB))); have n5_ := Aside0.mk (below_step (blB HB) hb); clear HO_6; clear HO_16; clear HO_17; clear HO_27; clear HB; have HO_6 := n0_; have HO_16 := n1_; have HO_17 := n2_; have HO_27 := n3_; have HO420 := n4_; have HB := n5_; clear n0_ n1_ n2_ n3_ n4_ n5_; (try clear hb); (try clear hb2); (try clear hk); (try clear hi); (try clear ho0)) | (go_at_call 17; (with_reducible refine (spec_LikelyLost.calls k5 (wrap64 (3 + t350)) _ _ t352 t416 t421 t422 _ ?side1 ?side2 A107.out).mono ?_); (case side1 => exact cvC ((Kd.R_reads' HO_6.out).2.2)); (case side2 => exact (Kd.R_reads' HO_6.out).2.1); rintro e w112 ⟨v423, rfl, ho0, hb⟩; have n0_ := Aside0.mk (Kd.R_below (mvR HO_6) hb); have n1_ := Aside0.mk (Kd.R_elder' (mvR HO_16) (Kd.R_base ho0) hb); have n2_ := Aside0.mk (Kd.R_elder' (mvR HO_17) (Kd.R_base ho0) hb); have n3_ := Aside0.mk (Kd.R_elder' (mvR HO_27) (Kd.R_base ho0) hb); have n4_ := Aside0.mk (Kd.R_elder' (mvR HO420) (Kd.R_base ho0) hb); have n5_ := Aside0.mk (Kd.R_lower (Kd.R_new' (Kd.R_new' (Kd.R_new' (Kd.R_new' ho0 (Kd.R_lt (mvR HO_16))) (Kd.R_lt (mvR HO_17))) (Kd.R_lt (mvR HO_27))) (Kd.R_lt (mvR HO420))) (below_size (blB HB))); have n6_ := Aside0.mk (below_step (blB HB) hb); clear HO_6; clear HO_16; clear HO_17; clear HO_27; clear HO420; clear HB; have HO_6 := n0_; have HO_16 := n1_; have HO_17 := n2_; have HO_27 := n3_; have HO420 := n4_; have HO424 := n5_; have HB := n6_; clear n0_ n1_ n2_ n3_ n4_ n5_ n6_; (try clear hb); (try clear hb2); (try clear hk); (try clear hi); (try clear ho0)))
                            repeat (go_quiet (fail); try go_wp2)
                            (try simp only [Act.put, List.setIfInBounds_toArray, List.set_cons_zero, List.set_cons_succ])
                            go_cut [305] from 255 to 305 (fun v305 wc => ∃ (kq : Nat) (x305_107 : Bool), v305 = .bool x305_107 ∧ Aside0 (laws_FnSorted.j6 kq (wrap64 (3 + t350)) t352 t416 t421 x305_107 = some r) ∧ Aside0 (kq ≤ k5) ∧ Aside0 (Kd.R (Kd.int .u16) 38 wc w.heap.size (fun _ => True) (.slice Ao14 t352.length co14) t352) ∧ Aside0 (Kd.R (Kd.int .i64) 2 wc w.heap.size (fun _ => True) v423 t421) ∧ Aside0 (Below w.heap.size w wc))
                            case first =>
                             as_aux_lemma =>
                              have H := HC108.out
                              clear HC108
                              by_cases c113 : t418 = t422
                              · rw [if_pos c113] at H
                                have c113b0 : (t418 == t422) = true := beq_iff_eq.mpr c113
                                have c113b1 : (t418 != t422) = false := bne_eq_false_iff_eq.mpr c113
                                clear c113
                                (first | rw [c113b0] | (simp only [i64_w, i32_w]; rw [c113b0]) | skip)
                                by_cases c114 : t418 = 0
                                · rw [if_pos c114] at H
                                  have c114b0 : (t418 == 0) = true := beq_iff_eq.mpr c114
                                  have c114b1 : (t418 != 0) = false := bne_eq_false_iff_eq.mpr c114
                                  clear c114
                                  replace H := Option.bind_eq_some_iff.mp H
                                  obtain ⟨t425, A1150, H⟩ := H
                                  replace H : (laws_FnSorted.j6 k5 (wrap64 (3 + t350)) t352 t416 t421 (!t425)) = some r := H
                                  have A115 := Aside0.mk A1150
                                  clear A1150
                                  have H' := Aside0.mk H
                                  clear H
                                  obtain ⟨Ao116, co116, eo116⟩ := Kd.R_slice HO420.out
                                  subst eo116
                                  obtain ⟨Ao117, co117, eo117⟩ := Kd.R_slice HO424.out
                                  subst eo117
                                  go_wp2_with (first | (go_at_call 11; (with_reducible refine (spec_A2Same.calls k5 _ _ t417 _ _ t421 t425 _ ?side1 ?side2 ?side3 ?side4 A115.out).mono ?_); (case side1 => exact cvC ((Kd.R_reads' HO420.out).2.2)); (case side2 => exact (Kd.R_reads' HO420.out).2.1); (case side3 => exact cvC ((Kd.R_reads' HO424.out).2.2)); (case side4 => exact (Kd.R_reads' HO424.out).2.1); rintro e w' ⟨rfl, ⟨nd, rfl⟩⟩; (try first | exact ⟨rfl, _, World.drewN_drewN _ _ _⟩ | exact ⟨rfl, _, Eq.trans (World.drewN_drewN _ _ _) (congrArg (World.drewN _) (Nat.add_assoc _ _ _))⟩)))
                                  repeat (go_quiet (fail); try go_wp2)
                                  go_meet
                                  case rel => exact ⟨_, (!t425), (by first | rfl | (simp; done) | (simp [*]; done)), H', ⟨by have := HJ10.out; have := HK2.out; have := HK3.out; have := HJ81.out; have := HK5.out; first | omega | exact Nat.le_refl _⟩, ⟨mvR HO_6⟩, ⟨by (with_reducible repeat (first | apply Kd.R_alloc | apply Kd.R_drewN | apply Kd.R_drew)); exact Kd.R_mono HO424.out (fun _ hk => trivial)⟩, ⟨blB HB⟩⟩
                                · rw [if_neg c114] at H
                                  have c114b0 : (t418 == 0) = false := beq_eq_false_iff_ne.mpr c114
                                  have c114b1 : (t418 != 0) = true := bne_iff_ne.mpr c114
                                  have H' := Aside0.mk H
                                  clear H
                                  go_wp2
                                  repeat (go_quiet (fail); try go_wp2)
                                  go_meet
                                  case rel => exact ⟨_, (true), (by first | rfl | (simp; done) | (simp [*]; done)), H', ⟨by have := HJ10.out; have := HK2.out; have := HK3.out; have := HJ81.out; have := HK5.out; first | omega | exact Nat.le_refl _⟩, ⟨mvR HO_6⟩, ⟨by (with_reducible repeat (first | apply Kd.R_alloc | apply Kd.R_drewN | apply Kd.R_drew)); exact Kd.R_mono HO424.out (fun _ hk => trivial)⟩, ⟨blB HB⟩⟩
                              · rw [if_neg c113] at H
                                have c113b0 : (t418 == t422) = false := beq_eq_false_iff_ne.mpr c113
                                have c113b1 : (t418 != t422) = true := bne_iff_ne.mpr c113
                                (first | rw [c113b0] | (simp only [i64_w, i32_w]; rw [c113b0]) | skip)
                                have H' := Aside0.mk H
                                clear H
                                go_wp2
                                repeat (go_quiet (fail); try go_wp2)
                                go_meet
                                case rel => exact ⟨_, (true), (by first | rfl | (simp; done) | (simp [*]; done)), H', ⟨by have := HJ10.out; have := HK2.out; have := HK3.out; have := HJ81.out; have := HK5.out; first | omega | exact Nat.le_refl _⟩, ⟨mvR HO_6⟩, ⟨by (with_reducible repeat (first | apply Kd.R_alloc | apply Kd.R_drewN | apply Kd.R_drew)); exact Kd.R_mono HO424.out (fun _ hk => trivial)⟩, ⟨blB HB⟩⟩
                            case rest =>
                             as_aux_lemma =>
                              clear HC108
                              try clear c1
                              try clear c2
                              try clear p2
                              try clear c3
                              try clear p3
                              try clear q3
                              try clear hx3
                              try clear c4
                              try clear p4
                              try clear q4
                              try clear hx4
                              try clear c5
                              try clear c6
                              try clear p6
                              try clear c7
                              try clear c8
                              try clear c9
                              try clear c10
                              try clear c11
                              try clear c18
                              try clear c18b0
                              try clear c18b1
                              try clear c19
                              try clear c19b0
                              try clear c19b1
                              try clear c20
                              try clear c20b0
                              try clear c20b1
                              try clear c22
                              try clear c23
                              try clear c23b0
                              try clear c23b1
                              try clear c23b2
                              try clear c25
                              try clear c38
                              try clear p38
                              try clear q38
                              try clear hx38
                              try clear c39
                              try clear p39
                              try clear q39
                              try clear hx39
                              try clear p40
                              try clear q40
                              try clear hx40
                              try clear p41
                              try clear q41
                              try clear hx41
                              try clear c44
                              try clear c44b0
                              try clear c45
                              try clear c45b0
                              try clear c47
                              try clear c48
                              try clear c52
                              try clear c52b0
                              try clear c53
                              try clear c53b0
                              try clear c54
                              try clear c54b0
                              try clear c55
                              try clear c55b0
                              try clear c56
                              try clear c56b0
                              try clear c57
                              try clear c57b0
                              try clear c59
                              try clear c59b0
                              try clear c59b1
                              try clear c60
                              try clear c60b0
                              try clear c60b1
                              try clear c61
                              try clear c61b0
                              try clear c63
                              try clear c63b0
                              try clear c64
                              try clear c64b0
                              try clear p64
                              try clear c65
                              try clear c65b0
                              try clear c72
                              try clear c72b0
                              try clear c73
                              try clear c73b0
                              try clear c74
                              try clear c74b0
                              try clear c75
                              try clear c75b0
                              try clear c77
                              try clear c77b0
                              try clear c77b1
                              try clear c87
                              try clear c87b0
                              try clear c87b1
                              try clear c88
                              try clear c88b0
                              try clear c88b1
                              try clear c89
                              try clear c89b0
                              try clear c89b1
                              try clear c91
                              try clear c96
                              try clear c97
                              try clear c97b0
                              try clear c98
                              try clear c98b0
                              try clear c99
                              try clear c99b0
                              try clear c100
                              try clear c100b0
                              try clear c102
                              try clear c102b0
                              try clear c102b1
                              try clear c113
                              try clear c113b0
                              try clear c113b1
                              try clear c114
                              try clear c114b0
                              try clear c114b1
                              try clear hx381_0
                              try clear hx386_0
                              try clear hx390_0
                              try clear hx391_0
                              try clear hx392_0
                              try clear hx393_0
                              try clear hx396_0
                              try clear hx397_0
                              try clear hx398_0
                              try clear hx399_0
                              try clear hx400_0
                              try clear hx401_0
                              try clear hx413_0
                              try clear hx414_0
                              try clear hx415_0
                              try clear p2
                              try clear p3
                              try clear p38
                              try clear p381
                              try clear p386
                              try clear p39
                              try clear p390
                              try clear p391
                              try clear p392
                              try clear p393
                              try clear p396
                              try clear p397
                              try clear p398
                              try clear p399
                              try clear p4
                              try clear p40
                              try clear p400
                              try clear p401
                              try clear p413
                              try clear p414
                              try clear p415
                              try clear p6
                              try clear p64
                              try clear q3
                              try clear q38
                              try clear q381
                              try clear q386
                              try clear q39
                              try clear q390
                              try clear q391
                              try clear q392
                              try clear q393
                              try clear q396
                              try clear q397
                              try clear q398
                              try clear q399
                              try clear q4
                              try clear q40
                              try clear q400
                              try clear q401
                              try clear q413
                              try clear q414
                              try clear q415
                              obtain ⟨kq, x305_107, rfl, HA, HJ107, HO_6, HO_33, HB⟩ := hcut
                              cases kq with
                              | zero => exact absurd HA.out (by simp [laws_FnSorted.j6])
                              | succ kj107 =>
                               have H := HA.out
                               clear HA
                               simp only [laws_FnSorted.j6] at H
                               by_cases c118 : x305_107 = true
                               · subst c118
                                 have H1 : (some false) = some r := by rw [if_pos rfl] at H; exact H
                                 clear H
                                 have H := H1
                                 clear H1
                                 obtain rfl := Option.some.inj H
                                 go_wp2
                                 repeat (go_quiet (fail); try go_wp2)
                                 go_ret
                                 exact ⟨by first | rfl | (simp [errW_none, errW_some] <;> rfl) | (simp [*, errW_none, errW_some] <;> rfl), blB HB⟩
                               · replace c118 := Bool.eq_false_iff.mpr c118
                                 subst c118
                                 have H1 : (laws_FnSorted.l4 kj107 (wrap64 (3 + t350)) t352 t416 t421 99 0) = some r := by rw [if_neg (show ¬ (false = true) by decide)] at H; exact H
                                 clear H
                                 have H := H1
                                 clear H1
                                 have H' := Aside0.mk H
                                 clear H
                                 go_wp2
                                 repeat (go_quiet (fail); try go_wp2)
                                 go_loopg [35, 36] kj107 (fun kq v35 v36 w' => ∃ (x35_7 : Int) (x36_7 : Int), v35 = .int .i64 x35_7 ∧ v36 = .int .i64 x36_7 ∧ Aside0 (laws_FnSorted.l4 kq (wrap64 (3 + t350)) t352 t416 t421 x35_7 x36_7 = some r) ∧ Aside0 (kq ≤ kj107) ∧ Aside0 (Kd.R (Kd.int .u16) 38 w' w.heap.size (fun _ => True) (.slice Ao14 t352.length co14) t352) ∧ Aside0 (Kd.R (Kd.int .i64) 2 w' w.heap.size (fun _ => True) v423 t421) ∧ Aside0 (Below w.heap.size w w'))
                                 case atStart => exact ⟨(99), (0), (by first | rfl | (simp; done) | (simp [*]; done)), (by first | rfl | (simp; done) | (simp [*]; done)), H', ⟨Nat.le_refl _⟩, ⟨mvR HO_6⟩, ⟨mvR HO_33⟩, ⟨blB HB⟩⟩
                                 case round =>
                                  as_aux_lemma =>
                                   clear H'
                                   try clear c1
                                   try clear c2
                                   try clear p2
                                   try clear c3
                                   try clear p3
                                   try clear q3
                                   try clear hx3
                                   try clear c4
                                   try clear p4
                                   try clear q4
                                   try clear hx4
                                   try clear c5
                                   try clear c6
                                   try clear p6
                                   try clear c7
                                   try clear c8
                                   try clear c9
                                   try clear c10
                                   try clear c11
                                   try clear c18
                                   try clear c18b0
                                   try clear c18b1
                                   try clear c19
                                   try clear c19b0
                                   try clear c19b1
                                   try clear c20
                                   try clear c20b0
                                   try clear c20b1
                                   try clear c22
                                   try clear c23
                                   try clear c23b0
                                   try clear c23b1
                                   try clear c23b2
                                   try clear c25
                                   try clear c38
                                   try clear p38
                                   try clear q38
                                   try clear hx38
                                   try clear c39
                                   try clear p39
                                   try clear q39
                                   try clear hx39
                                   try clear p40
                                   try clear q40
                                   try clear hx40
                                   try clear p41
                                   try clear q41
                                   try clear hx41
                                   try clear c44
                                   try clear c44b0
                                   try clear c45
                                   try clear c45b0
                                   try clear c47
                                   try clear c48
                                   try clear c52
                                   try clear c52b0
                                   try clear c53
                                   try clear c53b0
                                   try clear c54
                                   try clear c54b0
                                   try clear c55
                                   try clear c55b0
                                   try clear c56
                                   try clear c56b0
                                   try clear c57
                                   try clear c57b0
                                   try clear c59
                                   try clear c59b0
                                   try clear c59b1
                                   try clear c60
                                   try clear c60b0
                                   try clear c60b1
                                   try clear c61
                                   try clear c61b0
                                   try clear c63
                                   try clear c63b0
                                   try clear c64
                                   try clear c64b0
                                   try clear p64
                                   try clear c65
                                   try clear c65b0
                                   try clear c72
                                   try clear c72b0
                                   try clear c73
                                   try clear c73b0
                                   try clear c74
                                   try clear c74b0
                                   try clear c75
                                   try clear c75b0
                                   try clear c77
                                   try clear c77b0
                                   try clear c77b1
                                   try clear c87
                                   try clear c87b0
                                   try clear c87b1
                                   try clear c88
                                   try clear c88b0
                                   try clear c88b1
                                   try clear c89
                                   try clear c89b0
                                   try clear c89b1
                                   try clear c91
                                   try clear c96
                                   try clear c97
                                   try clear c97b0
                                   try clear c98
                                   try clear c98b0
                                   try clear c99
                                   try clear c99b0
                                   try clear c100
                                   try clear c100b0
                                   try clear c102
                                   try clear c102b0
                                   try clear c102b1
                                   try clear c113
                                   try clear c113b0
                                   try clear c113b1
                                   try clear c114
                                   try clear c114b0
                                   try clear c114b1
                                   try clear c118
                                   try clear hx381_0
                                   try clear hx386_0
                                   try clear hx390_0
                                   try clear hx391_0
                                   try clear hx392_0
                                   try clear hx393_0
                                   try clear hx396_0
                                   try clear hx397_0
                                   try clear hx398_0
                                   try clear hx399_0
                                   try clear hx400_0
                                   try clear hx401_0
                                   try clear hx413_0
                                   try clear hx414_0
                                   try clear hx415_0
                                   try clear p2
                                   try clear p3
                                   try clear p38
                                   try clear p381
                                   try clear p386
                                   try clear p39
                                   try clear p390
                                   try clear p391
                                   try clear p392
                                   try clear p393
                                   try clear p396
                                   try clear p397
                                   try clear p398
                                   try clear p399
                                   try clear p4
                                   try clear p40
                                   try clear p400
                                   try clear p401
                                   try clear p41
                                   try clear p413
                                   try clear p414
                                   try clear p415
                                   try clear p6
                                   try clear p64
                                   try clear q3
                                   try clear q38
                                   try clear q381
                                   try clear q386
                                   try clear q39
                                   try clear q390
                                   try clear q391
                                   try clear q392
                                   try clear q393
                                   try clear q396
                                   try clear q397
                                   try clear q398
                                   try clear q399
                                   try clear q4
                                   try clear q40
                                   try clear q400
                                   try clear q401
                                   try clear q41
                                   try clear q413
                                   try clear q414
                                   try clear q415
                                   obtain ⟨x35_7, x36_7, rfl, rfl, HA, HK7, HO_6, HO_33, HB⟩ := hrel
                                   cases gk with
                                   | zero => exact absurd HA.out (by simp [laws_FnSorted.l4])
                                   | succ k7 =>
                                    have H := HA.out
                                    clear HA
                                    simp only [laws_FnSorted.l4] at H
                                    by_cases c119 : x36_7 < (t352.length : Int)
                                    · rw [if_pos c119] at H
                                      have c119b0 : decide (x36_7 < (t352.length : Int)) = true := decide_eq_true c119
                                      clear c119
                                      by_cases c120 : 0 ≤ x36_7
                                      · rw [if_pos c120] at H
                                        have c120b0 : decide (0 ≤ x36_7) = true := decide_eq_true c120
                                        clear c120
                                        by_cases c121 : (Go.bits .andNot .u16 t416 (rd t352 x36_7)) = 0
                                        · rw [if_pos c121] at H
                                          have c121b0 : ((Go.bits .andNot .u16 t416 (rd t352 x36_7)) == 0) = true := beq_iff_eq.mpr c121
                                          have c121b1 : ((Go.bits .andNot .u16 t416 (rd t352 x36_7)) != 0) = false := bne_eq_false_iff_eq.mpr c121
                                          clear c121
                                          replace H := Option.bind_eq_some_iff.mp H
                                          obtain ⟨t428, A1220, H⟩ := H
                                          replace H : ((impl_StitchesIn.f t416).bind fun t429 => (laws_FnSorted.l4 k7 (wrap64 (3 + t350)) t352 t416 t421 (mn x35_7 (wrap64 (t428 - t429))) (wrap64 (x36_7 + 1)))) = some r := H
                                          have A122 := Aside0.mk A1220
                                          clear A1220
                                          replace H := Option.bind_eq_some_iff.mp H
                                          obtain ⟨t429, A1230, H⟩ := H
                                          replace H : (laws_FnSorted.l4 k7 (wrap64 (3 + t350)) t352 t416 t421 (mn x35_7 (wrap64 (t428 - t429))) (wrap64 (x36_7 + 1))) = some r := H
                                          have A123 := Aside0.mk A1230
                                          clear A1230
                                          obtain ⟨ji124, hji124⟩ : ∃ j_ : Int, (mn x35_7 (wrap64 (t428 - t429))) = j_ := ⟨_, rfl⟩
                                          replace H : (laws_FnSorted.l4 k7 (wrap64 (3 + t350)) t352 t416 t421 ji124 (wrap64 (x36_7 + 1))) = some r := by first | (rw [hji124] at H; exact H) | (simp only [hji124] at H ⊢; exact H)
                                          (try rw [hji124] at A122)
                                          (try rw [hji124] at A123)
                                          have hji124_ : (if (wrap64 (t428 - t429)) < x35_7 then (wrap64 (t428 - t429)) else x35_7) = ji124 := hji124
                                          have H' := Aside0.mk H
                                          clear H
                                          have p426 : 0 ≤ (x36_7 : Int) := dtB
                                          have q426 : x36_7 < (t352.length : Int) := dtB
                                          obtain ⟨ad426, e426, hx426_0⟩ := Kd.at_int (Kd.R_reads' HO_6.out).2.2 x36_7 p426 q426
                                          cases e426
                                          replace p426 := eq_true p426
                                          replace q426 := eq_true q426
                                          have p427 : 0 ≤ (x36_7 : Int) := dtB
                                          have q427 : x36_7 < (t352.length : Int) := dtB
                                          obtain ⟨ad427, e427, hx427_0⟩ := Kd.at_int (Kd.R_reads' HO_6.out).2.2 x36_7 p427 q427
                                          obtain rfl : ad426 = ad427 := (by injection e427)
                                          replace p427 := eq_true p427
                                          replace q427 := eq_true q427
                                          go_wp2_with (first | (go_at_call 18; (with_reducible refine (impl_StitchesIn.calls (rd t352 x36_7) t428 _ A122.out).mono ?_); rintro e w' ⟨rfl, ⟨nd, rfl⟩⟩; (try first | exact ⟨rfl, _, World.drewN_drewN _ _ _⟩ | exact ⟨rfl, _, Eq.trans (World.drewN_drewN _ _ _) (congrArg (World.drewN _) (Nat.add_assoc _ _ _))⟩)) | (go_at_call 18; (with_reducible refine (impl_StitchesIn.calls t416 t429 _ A123.out).mono ?_); rintro e w' ⟨rfl, ⟨nd, rfl⟩⟩; (try first | exact ⟨rfl, _, World.drewN_drewN _ _ _⟩ | exact ⟨rfl, _, Eq.trans (World.drewN_drewN _ _ _) (congrArg (World.drewN _) (Nat.add_assoc _ _ _))⟩)))
                                          repeat (go_quiet (fail); try go_wp2)
                                          go_roundg k7
                                          case measure => have := HJ10.out; have := HK2.out; have := HK3.out; have := HJ81.out; have := HK5.out; have := HJ107.out; have := HK7.out; omega
                                          case rel => exact ⟨(ji124), (wrap64 (x36_7 + 1)), (by first | rfl | (simp; done) | (simp only [← hji124] <;> (first | rfl | simp)) | (simp [*]; done)), (by first | rfl | (simp; done) | (simp [*]; done)), H', ⟨by have := HJ10.out; have := HK2.out; have := HK3.out; have := HJ81.out; have := HK5.out; have := HJ107.out; have := HK7.out; omega⟩, ⟨mvR HO_6⟩, ⟨mvR HO_33⟩, ⟨blB HB⟩⟩
                                        · rw [if_neg c121] at H
                                          have c121b0 : ((Go.bits .andNot .u16 t416 (rd t352 x36_7)) == 0) = false := beq_eq_false_iff_ne.mpr c121
                                          have c121b1 : ((Go.bits .andNot .u16 t416 (rd t352 x36_7)) != 0) = true := bne_iff_ne.mpr c121
                                          have H' := Aside0.mk H
                                          clear H
                                          have p426 : 0 ≤ (x36_7 : Int) := dtB
                                          have q426 : x36_7 < (t352.length : Int) := dtB
                                          obtain ⟨ad426, e426, hx426_0⟩ := Kd.at_int (Kd.R_reads' HO_6.out).2.2 x36_7 p426 q426
                                          cases e426
                                          replace p426 := eq_true p426
                                          replace q426 := eq_true q426
                                          go_wp2
                                          repeat (go_quiet (fail); try go_wp2)
                                          go_roundg k7
                                          case measure => have := HJ10.out; have := HK2.out; have := HK3.out; have := HJ81.out; have := HK5.out; have := HJ107.out; have := HK7.out; omega
                                          case rel => exact ⟨(x35_7), (wrap64 (x36_7 + 1)), (by first | rfl | (simp; done) | (simp [*]; done)), (by first | rfl | (simp; done) | (simp [*]; done)), H', ⟨by have := HJ10.out; have := HK2.out; have := HK3.out; have := HJ81.out; have := HK5.out; have := HJ107.out; have := HK7.out; omega⟩, ⟨mvR HO_6⟩, ⟨mvR HO_33⟩, ⟨blB HB⟩⟩
                                      · rw [if_neg c120] at H
                                        exact absurd H (by simp)
                                    · rw [if_neg c119] at H
                                      have c119b0 : decide (x36_7 < (t352.length : Int)) = false := decide_eq_false c119
                                      clear c119
                                      have H' := Aside0.mk H
                                      clear H
                                      go_wp2
                                      repeat (go_quiet (fail); try go_wp2)
                                      go_loopg [37] k7 (fun kq v37 w' => ∃ (x37_8 : Int), v37 = .int .i64 x37_8 ∧ Aside0 (laws_FnSorted.l5 kq (wrap64 (3 + t350)) t352 t416 t421 x35_7 x37_8 = some r) ∧ Aside0 (kq ≤ k7) ∧ Aside0 (Kd.R (Kd.int .u16) 38 w' w.heap.size (fun _ => True) (.slice Ao14 t352.length co14) t352) ∧ Aside0 (Kd.R (Kd.int .i64) 2 w' w.heap.size (fun _ => True) v423 t421) ∧ Aside0 (Below w.heap.size w w'))
                                      case atStart => exact ⟨(0), (by first | rfl | (simp; done) | (simp [*]; done)), H', ⟨Nat.le_refl _⟩, ⟨mvR HO_6⟩, ⟨mvR HO_33⟩, ⟨blB HB⟩⟩
                                      case round =>
                                       as_aux_lemma =>
                                        clear H'
                                        try clear c1
                                        try clear c2
                                        try clear p2
                                        try clear c3
                                        try clear p3
                                        try clear q3
                                        try clear hx3
                                        try clear c4
                                        try clear p4
                                        try clear q4
                                        try clear hx4
                                        try clear c5
                                        try clear c6
                                        try clear p6
                                        try clear c7
                                        try clear c8
                                        try clear c9
                                        try clear c10
                                        try clear c11
                                        try clear c12
                                        try clear c18
                                        try clear c18b0
                                        try clear c18b1
                                        try clear c19
                                        try clear c19b0
                                        try clear c19b1
                                        try clear c20
                                        try clear c20b0
                                        try clear c20b1
                                        try clear c22
                                        try clear c23
                                        try clear c23b0
                                        try clear c23b1
                                        try clear c23b2
                                        try clear c25
                                        try clear c38
                                        try clear p38
                                        try clear q38
                                        try clear hx38
                                        try clear c39
                                        try clear p39
                                        try clear q39
                                        try clear hx39
                                        try clear p40
                                        try clear q40
                                        try clear hx40
                                        try clear p41
                                        try clear q41
                                        try clear hx41
                                        try clear p42
                                        try clear q42
                                        try clear hx42
                                        try clear c44
                                        try clear c44b0
                                        try clear c45
                                        try clear c45b0
                                        try clear c47
                                        try clear c48
                                        try clear c52
                                        try clear c52b0
                                        try clear c53
                                        try clear c53b0
                                        try clear c54
                                        try clear c54b0
                                        try clear c55
                                        try clear c55b0
                                        try clear c56
                                        try clear c56b0
                                        try clear c57
                                        try clear c57b0
                                        try clear c59
                                        try clear c59b0
                                        try clear c59b1
                                        try clear c60
                                        try clear c60b0
                                        try clear c60b1
                                        try clear c61
                                        try clear c61b0
                                        try clear c63
                                        try clear c63b0
                                        try clear c64
                                        try clear c64b0
                                        try clear p64
                                        try clear c65
                                        try clear c65b0
                                        try clear c72
                                        try clear c72b0
                                        try clear c73
                                        try clear c73b0
                                        try clear c74
                                        try clear c74b0
                                        try clear c75
                                        try clear c75b0
                                        try clear c77
                                        try clear c77b0
                                        try clear c77b1
                                        try clear c87
                                        try clear c87b0
                                        try clear c87b1
                                        try clear c88
                                        try clear c88b0
                                        try clear c88b1
                                        try clear c89
                                        try clear c89b0
                                        try clear c89b1
                                        try clear c91
                                        try clear c96
                                        try clear c97
                                        try clear c97b0
                                        try clear c98
                                        try clear c98b0
                                        try clear c99
                                        try clear c99b0
                                        try clear c100
                                        try clear c100b0
                                        try clear c102
                                        try clear c102b0
                                        try clear c102b1
                                        try clear c113
                                        try clear c113b0
                                        try clear c113b1
                                        try clear c114
                                        try clear c114b0
                                        try clear c114b1
                                        try clear c118
                                        try clear c119
                                        try clear c119b0
                                        try clear c120
                                        try clear c120b0
                                        try clear c121
                                        try clear c121b0
                                        try clear c121b1
                                        try clear hx381_0
                                        try clear hx386_0
                                        try clear hx390_0
                                        try clear hx391_0
                                        try clear hx392_0
                                        try clear hx393_0
                                        try clear hx396_0
                                        try clear hx397_0
                                        try clear hx398_0
                                        try clear hx399_0
                                        try clear hx400_0
                                        try clear hx401_0
                                        try clear hx413_0
                                        try clear hx414_0
                                        try clear hx415_0
                                        try clear hx426_0
                                        try clear hx427_0
                                        try clear p2
                                        try clear p3
                                        try clear p38
                                        try clear p381
                                        try clear p386
                                        try clear p39
                                        try clear p390
                                        try clear p391
                                        try clear p392
                                        try clear p393
                                        try clear p396
                                        try clear p397
                                        try clear p398
                                        try clear p399
                                        try clear p4
                                        try clear p40
                                        try clear p400
                                        try clear p401
                                        try clear p41
                                        try clear p413
                                        try clear p414
                                        try clear p415
                                        try clear p426
                                        try clear p427
                                        try clear p6
                                        try clear p64
                                        try clear q3
                                        try clear q38
                                        try clear q381
                                        try clear q386
                                        try clear q39
                                        try clear q390
                                        try clear q391
                                        try clear q392
                                        try clear q393
                                        try clear q396
                                        try clear q397
                                        try clear q398
                                        try clear q399
                                        try clear q4
                                        try clear q40
                                        try clear q400
                                        try clear q401
                                        try clear q41
                                        try clear q413
                                        try clear q414
                                        try clear q415
                                        try clear q426
                                        try clear q427
                                        obtain ⟨x37_8, rfl, HA, HK8, HO_6, HO_33, HB⟩ := hrel
                                        cases gk with
                                        | zero => exact absurd HA.out (by simp [laws_FnSorted.l5])
                                        | succ k8 =>
                                         have H := HA.out
                                         clear HA
                                         simp only [laws_FnSorted.l5] at H
                                         by_cases c125 : x37_8 < (t352.length : Int)
                                         · rw [if_pos c125] at H
                                           have c125b0 : decide (x37_8 < (t352.length : Int)) = true := decide_eq_true c125
                                           clear c125
                                           by_cases c126 : 0 ≤ x37_8
                                           · rw [if_pos c126] at H
                                             have c126b0 : decide (0 ≤ x37_8) = true := decide_eq_true c126
                                             clear c126
                                             by_cases c127 : (Go.bits .andNot .u16 t416 (rd t352 x37_8)) = 0
                                             · rw [if_pos c127] at H
                                               have c127b0 : ((Go.bits .andNot .u16 t416 (rd t352 x37_8)) == 0) = true := beq_iff_eq.mpr c127
                                               have c127b1 : ((Go.bits .andNot .u16 t416 (rd t352 x37_8)) != 0) = false := bne_eq_false_iff_eq.mpr c127
                                               clear c127
                                               replace H := Option.bind_eq_some_iff.mp H
                                               obtain ⟨t436, A1280, H⟩ := H
                                               replace H : ((impl_StitchesIn.f t416).bind fun t437 => ((spec_A2Has.f k8 t421 x37_8).bind fun t438 => (if (t438 != ((wrap64 (t436 - t437)) == x35_7)) = true then (some false) else (laws_FnSorted.l5 k8 (wrap64 (3 + t350)) t352 t416 t421 x35_7 (wrap64 (x37_8 + 1)))))) = some r := H
                                               have A128 := Aside0.mk A1280
                                               clear A1280
                                               replace H := Option.bind_eq_some_iff.mp H
                                               obtain ⟨t437, A1290, H⟩ := H
                                               replace H : ((spec_A2Has.f k8 t421 x37_8).bind fun t438 => (if (t438 != ((wrap64 (t436 - t437)) == x35_7)) = true then (some false) else (laws_FnSorted.l5 k8 (wrap64 (3 + t350)) t352 t416 t421 x35_7 (wrap64 (x37_8 + 1))))) = some r := H
                                               have A129 := Aside0.mk A1290
                                               clear A1290
                                               replace H := Option.bind_eq_some_iff.mp H
                                               obtain ⟨t438, A1300, H⟩ := H
                                               replace H : (if (t438 != ((wrap64 (t436 - t437)) == x35_7)) = true then (some false) else (laws_FnSorted.l5 k8 (wrap64 (3 + t350)) t352 t416 t421 x35_7 (wrap64 (x37_8 + 1)))) = some r := H
                                               have A130 := Aside0.mk A1300
                                               clear A1300
                                               by_cases c131 : (t438 != ((wrap64 (t436 - t437)) == x35_7)) = true
                                               · rw [if_pos c131] at H
                                                 have c131b0 : (t438 != ((wrap64 (t436 - t437)) == x35_7)) = true := c131
                                                 (try (have c131b1 : decide (t438 = ((wrap64 (t436 - t437)) == x35_7)) = false := by simpa using c131))
                                                 (try (have c131b2 : (t438 == ((wrap64 (t436 - t437)) == x35_7)) = false := by simpa using c131))
                                                 (try (have c131b3 : ¬ (t438 = ((wrap64 (t436 - t437)) == x35_7)) := by simpa using c131))
                                                 clear c131
                                                 obtain rfl := Option.some.inj H
                                                 have p434 : 0 ≤ (x37_8 : Int) := dtB
                                                 have q434 : x37_8 < (t352.length : Int) := dtB
                                                 obtain ⟨ad434, e434, hx434_0⟩ := Kd.at_int (Kd.R_reads' HO_6.out).2.2 x37_8 p434 q434
                                                 cases e434
                                                 replace p434 := eq_true p434
                                                 replace q434 := eq_true q434
                                                 have p435 : 0 ≤ (x37_8 : Int) := dtB
                                                 have q435 : x37_8 < (t352.length : Int) := dtB
                                                 obtain ⟨ad435, e435, hx435_0⟩ := Kd.at_int (Kd.R_reads' HO_6.out).2.2 x37_8 p435 q435
                                                 obtain rfl : ad434 = ad435 := (by injection e435)
                                                 replace p435 := eq_true p435
                                                 replace q435 := eq_true q435
                                                 go_wp2_with (first | (go_at_call 18; (with_reducible refine (impl_StitchesIn.calls (rd t352 x37_8) t436 _ A128.out).mono ?_); rintro e w' ⟨rfl, ⟨nd, rfl⟩⟩; (try first | exact ⟨rfl, _, World.drewN_drewN _ _ _⟩ | exact ⟨rfl, _, Eq.trans (World.drewN_drewN _ _ _) (congrArg (World.drewN _) (Nat.add_assoc _ _ _))⟩)) | (go_at_call 18; (with_reducible refine (impl_StitchesIn.calls t416 t437 _ A129.out).mono ?_); rintro e w' ⟨rfl, ⟨nd, rfl⟩⟩; (try first | exact ⟨rfl, _, World.drewN_drewN _ _ _⟩ | exact ⟨rfl, _, Eq.trans (World.drewN_drewN _ _ _) (congrArg (World.drewN _) (Nat.add_assoc _ _ _))⟩); obtain ⟨Ao132, co132, eo132⟩ := Kd.R_slice HO_33.out; subst eo132) | (go_at_call 19; (with_reducible refine (spec_A2Has.calls k8 _ _ t421 x37_8 t438 _ ?side1 ?side2 A130.out).mono ?_); (case side1 => exact cvC ((Kd.R_reads' HO_33.out).2.2)); (case side2 => exact (Kd.R_reads' HO_33.out).2.1); rintro e w' ⟨rfl, ⟨nd, rfl⟩⟩; (try first | exact ⟨rfl, _, World.drewN_drewN _ _ _⟩ | exact ⟨rfl, _, Eq.trans (World.drewN_drewN _ _ _) (congrArg (World.drewN _) (Nat.add_assoc _ _ _))⟩)))
                                                 repeat (go_quiet (fail); try go_wp2)
                                                 go_ret
                                                 exact ⟨by first | rfl | (simp [errW_none, errW_some] <;> rfl) | (simp [*, errW_none, errW_some] <;> rfl), blB HB⟩
                                               · rw [if_neg c131] at H
                                                 have c131b0 : (t438 != ((wrap64 (t436 - t437)) == x35_7)) = false := by simpa using c131
                                                 (try (have c131b1 : decide (t438 = ((wrap64 (t436 - t437)) == x35_7)) = true := by simpa using c131))
                                                 (try (have c131b2 : (t438 == ((wrap64 (t436 - t437)) == x35_7)) = true := by simpa using c131))
                                                 clear c131
                                                 have H' := Aside0.mk H
                                                 clear H
                                                 have p434 : 0 ≤ (x37_8 : Int) := dtB
                                                 have q434 : x37_8 < (t352.length : Int) := dtB
                                                 obtain ⟨ad434, e434, hx434_0⟩ := Kd.at_int (Kd.R_reads' HO_6.out).2.2 x37_8 p434 q434
                                                 cases e434
                                                 replace p434 := eq_true p434
                                                 replace q434 := eq_true q434
                                                 have p435 : 0 ≤ (x37_8 : Int) := dtB
                                                 have q435 : x37_8 < (t352.length : Int) := dtB
                                                 obtain ⟨ad435, e435, hx435_0⟩ := Kd.at_int (Kd.R_reads' HO_6.out).2.2 x37_8 p435 q435
                                                 obtain rfl : ad434 = ad435 := (by injection e435)
                                                 replace p435 := eq_true p435
                                                 replace q435 := eq_true q435
                                                 go_wp2_with (first | (go_at_call 18; (with_reducible refine (impl_StitchesIn.calls (rd t352 x37_8) t436 _ A128.out).mono ?_); rintro e w' ⟨rfl, ⟨nd, rfl⟩⟩; (try first | exact ⟨rfl, _, World.drewN_drewN _ _ _⟩ | exact ⟨rfl, _, Eq.trans (World.drewN_drewN _ _ _) (congrArg (World.drewN _) (Nat.add_assoc _ _ _))⟩)) | (go_at_call 18; (with_reducible refine (impl_StitchesIn.calls t416 t437 _ A129.out).mono ?_); rintro e w' ⟨rfl, ⟨nd, rfl⟩⟩; (try first | exact ⟨rfl, _, World.drewN_drewN _ _ _⟩ | exact ⟨rfl, _, Eq.trans (World.drewN_drewN _ _ _) (congrArg (World.drewN _) (Nat.add_assoc _ _ _))⟩); obtain ⟨Ao133, co133, eo133⟩ := Kd.R_slice HO_33.out; subst eo133) | (go_at_call 19; (with_reducible refine (spec_A2Has.calls k8 _ _ t421 x37_8 t438 _ ?side1 ?side2 A130.out).mono ?_); (case side1 => exact cvC ((Kd.R_reads' HO_33.out).2.2)); (case side2 => exact (Kd.R_reads' HO_33.out).2.1); rintro e w' ⟨rfl, ⟨nd, rfl⟩⟩; (try first | exact ⟨rfl, _, World.drewN_drewN _ _ _⟩ | exact ⟨rfl, _, Eq.trans (World.drewN_drewN _ _ _) (congrArg (World.drewN _) (Nat.add_assoc _ _ _))⟩)))
                                                 repeat (go_quiet (fail); try go_wp2)
                                                 go_roundg k8
                                                 case measure => have := HJ10.out; have := HK2.out; have := HK3.out; have := HJ81.out; have := HK5.out; have := HJ107.out; have := HK7.out; have := HK8.out; omega
                                                 case rel => exact ⟨(wrap64 (x37_8 + 1)), (by first | rfl | (simp; done) | (simp [*]; done)), H', ⟨by have := HJ10.out; have := HK2.out; have := HK3.out; have := HJ81.out; have := HK5.out; have := HJ107.out; have := HK7.out; have := HK8.out; omega⟩, ⟨mvR HO_6⟩, ⟨mvR HO_33⟩, ⟨blB HB⟩⟩
                                             · rw [if_neg c127] at H
                                               have c127b0 : ((Go.bits .andNot .u16 t416 (rd t352 x37_8)) == 0) = false := beq_eq_false_iff_ne.mpr c127
                                               have c127b1 : ((Go.bits .andNot .u16 t416 (rd t352 x37_8)) != 0) = true := bne_iff_ne.mpr c127
                                               replace H := Option.bind_eq_some_iff.mp H
                                               obtain ⟨t439, A1340, H⟩ := H
                                               replace H : (if (t439 != false) = true then (some false) else (laws_FnSorted.l5 k8 (wrap64 (3 + t350)) t352 t416 t421 x35_7 (wrap64 (x37_8 + 1)))) = some r := H
                                               have A134 := Aside0.mk A1340
                                               clear A1340
                                               by_cases c135 : (t439 != false) = true
                                               · rw [if_pos c135] at H
                                                 have c135b0 : (t439 != false) = true := c135
                                                 (try (have c135b1 : decide (t439 = false) = false := by simpa using c135))
                                                 (try (have c135b2 : (t439 == false) = false := by simpa using c135))
                                                 (try (have c135b3 : ¬ (t439 = false) := by simpa using c135))
                                                 clear c135
                                                 obtain rfl := Option.some.inj H
                                                 have p434 : 0 ≤ (x37_8 : Int) := dtB
                                                 have q434 : x37_8 < (t352.length : Int) := dtB
                                                 obtain ⟨ad434, e434, hx434_0⟩ := Kd.at_int (Kd.R_reads' HO_6.out).2.2 x37_8 p434 q434
                                                 cases e434
                                                 replace p434 := eq_true p434
                                                 replace q434 := eq_true q434
                                                 obtain ⟨Ao136, co136, eo136⟩ := Kd.R_slice HO_33.out
                                                 subst eo136
                                                 go_wp2_with (first | (go_at_call 19; (with_reducible refine (spec_A2Has.calls k8 _ _ t421 x37_8 t439 _ ?side1 ?side2 A134.out).mono ?_); (case side1 => exact cvC ((Kd.R_reads' HO_33.out).2.2)); (case side2 => exact (Kd.R_reads' HO_33.out).2.1); rintro e w' ⟨rfl, ⟨nd, rfl⟩⟩; (try first | exact ⟨rfl, _, World.drewN_drewN _ _ _⟩ | exact ⟨rfl, _, Eq.trans (World.drewN_drewN _ _ _) (congrArg (World.drewN _) (Nat.add_assoc _ _ _))⟩)))
                                                 repeat (go_quiet (fail); try go_wp2)
                                                 go_ret
                                                 exact ⟨by first | rfl | (simp [errW_none, errW_some] <;> rfl) | (simp [*, errW_none, errW_some] <;> rfl), blB HB⟩
                                               · rw [if_neg c135] at H
                                                 have c135b0 : (t439 != false) = false := by simpa using c135
                                                 (try (have c135b1 : decide (t439 = false) = true := by simpa using c135))
                                                 (try (have c135b2 : (t439 == false) = true := by simpa using c135))
                                                 clear c135
                                                 have H' := Aside0.mk H
                                                 clear H
                                                 have p434 : 0 ≤ (x37_8 : Int) := dtB
                                                 have q434 : x37_8 < (t352.length : Int) := dtB
                                                 obtain ⟨ad434, e434, hx434_0⟩ := Kd.at_int (Kd.R_reads' HO_6.out).2.2 x37_8 p434 q434
                                                 cases e434
                                                 replace p434 := eq_true p434
                                                 replace q434 := eq_true q434
                                                 obtain ⟨Ao137, co137, eo137⟩ := Kd.R_slice HO_33.out
                                                 subst eo137
                                                 go_wp2_with (first | (go_at_call 19; (with_reducible refine (spec_A2Has.calls k8 _ _ t421 x37_8 t439 _ ?side1 ?side2 A134.out).mono ?_); (case side1 => exact cvC ((Kd.R_reads' HO_33.out).2.2)); (case side2 => exact (Kd.R_reads' HO_33.out).2.1); rintro e w' ⟨rfl, ⟨nd, rfl⟩⟩; (try first | exact ⟨rfl, _, World.drewN_drewN _ _ _⟩ | exact ⟨rfl, _, Eq.trans (World.drewN_drewN _ _ _) (congrArg (World.drewN _) (Nat.add_assoc _ _ _))⟩)))
                                                 repeat (go_quiet (fail); try go_wp2)
                                                 go_roundg k8
                                                 case measure => have := HJ10.out; have := HK2.out; have := HK3.out; have := HJ81.out; have := HK5.out; have := HJ107.out; have := HK7.out; have := HK8.out; omega
                                                 case rel => exact ⟨(wrap64 (x37_8 + 1)), (by first | rfl | (simp; done) | (simp [*]; done)), H', ⟨by have := HJ10.out; have := HK2.out; have := HK3.out; have := HJ81.out; have := HK5.out; have := HJ107.out; have := HK7.out; have := HK8.out; omega⟩, ⟨mvR HO_6⟩, ⟨mvR HO_33⟩, ⟨blB HB⟩⟩
                                           · rw [if_neg c126] at H
                                             exact absurd H (by simp)
                                         · rw [if_neg c125] at H
                                           have c125b0 : decide (x37_8 < (t352.length : Int)) = false := decide_eq_false c125
                                           clear c125
                                           replace H := Option.bind_eq_some_iff.mp H
                                           obtain ⟨⟨t430, t431⟩, A1380, H⟩ := H
                                           replace H : ((spec_LeastApart.f k8 (wrap64 (3 + t350)) t352).bind fun bt432 => (if t431 = bt432.2 then (if t430 = bt432.1 then (if ((t431 == 0) == (decide ((t352.length : Int) > 1))) = true then (if t431 = 0 then (some (decide (bt432.1 ≥ 2))) else (some true)) else (some false)) else (some false)) else (some false))) = some r := H
                                           have A138 := Aside0.mk A1380
                                           clear A1380
                                           replace H := Option.bind_eq_some_iff.mp H
                                           obtain ⟨⟨t432, t433⟩, A1390, H⟩ := H
                                           replace H : (if t431 = t433 then (if t430 = t432 then (if ((t431 == 0) == (decide ((t352.length : Int) > 1))) = true then (if t431 = 0 then (some (decide (t432 ≥ 2))) else (some true)) else (some false)) else (some false)) else (some false)) = some r := H
                                           have A139 := Aside0.mk A1390
                                           clear A1390
                                           by_cases c140 : t431 = t433
                                           · rw [if_pos c140] at H
                                             have c140b0 : (t431 == t433) = true := beq_iff_eq.mpr c140
                                             have c140b1 : (t431 != t433) = false := bne_eq_false_iff_eq.mpr c140
                                             clear c140
                                             by_cases c141 : t430 = t432
                                             · rw [if_pos c141] at H
                                               have c141b0 : (t430 == t432) = true := beq_iff_eq.mpr c141
                                               have c141b1 : (t430 != t432) = false := bne_eq_false_iff_eq.mpr c141
                                               clear c141
                                               by_cases c142 : ((t431 == 0) == (decide ((t352.length : Int) > 1))) = true
                                               · rw [if_pos c142] at H
                                                 have c142b0 : ((t431 == 0) == (decide ((t352.length : Int) > 1))) = true := c142
                                                 (try (have c142b1 : decide ((t431 == 0) = (decide ((t352.length : Int) > 1))) = true := by simpa using c142))
                                                 (try (have c142b2 : ((t431 == 0) == (decide ((t352.length : Int) > 1))) = true := by simpa using c142))
                                                 clear c142
                                                 by_cases c143 : t431 = 0
                                                 · rw [if_pos c143] at H
                                                   have c143b0 : (t431 == 0) = true := beq_iff_eq.mpr c143
                                                   have c143l : decide (1 < (t352.length : Int)) = true := by have h_ := c142b0; rw [c143b0] at h_; cases hd : decide ((t352.length : Int) > 1) with | true => rfl | false => rw [hd] at h_; exact absurd h_ (by decide)
                                                   have c143b1 : (t431 != 0) = false := bne_eq_false_iff_eq.mpr c143
                                                   clear c143
                                                   obtain rfl := Option.some.inj H
                                                   go_wp2_with (first | (go_at_call 20; (with_reducible refine (impl_LeastApart.calls k8 (wrap64 (3 + t350)) _ _ t352 t430 t431 _ ?side1 ?side2 A138.out).mono ?_); (case side1 => exact cvC ((Kd.R_reads' HO_6.out).2.2)); (case side2 => exact (Kd.R_reads' HO_6.out).2.1); rintro e w144 ⟨rfl, hb⟩; have n0_ := Aside0.mk (Kd.R_below (mvR HO_6) hb); have n1_ := Aside0.mk (Kd.R_below (mvR HO_33) hb); have n2_ := Aside0.mk (below_step (blB HB) hb); clear HO_6; clear HO_33; clear HB; have HO_6 := n0_; have HO_33 := n1_; have HB := n2_; clear n0_ n1_ n2_; (try clear hb); (try clear hb2); (try clear hk); (try clear hi)) | (go_at_call 21; (with_reducible refine (spec_LeastApart.calls k8 (wrap64 (3 + t350)) _ _ t352 t432 t433 _ ?side1 ?side2 A139.out).mono ?_); (case side1 => exact cvC ((Kd.R_reads' HO_6.out).2.2)); (case side2 => exact (Kd.R_reads' HO_6.out).2.1); rintro e w' ⟨rfl, ⟨nd, rfl⟩⟩; (try first | exact ⟨rfl, _, World.drewN_drewN _ _ _⟩ | exact ⟨rfl, _, Eq.trans (World.drewN_drewN _ _ _) (congrArg (World.drewN _) (Nat.add_assoc _ _ _))⟩)))
                                                   repeat (go_quiet (fail); try go_wp2)
                                                   go_ret
                                                   exact ⟨by first | rfl | (simp [errW_none, errW_some] <;> rfl) | (simp [*, errW_none, errW_some] <;> rfl), blB HB⟩
                                                 · rw [if_neg c143] at H
                                                   have c143b0 : (t431 == 0) = false := beq_eq_false_iff_ne.mpr c143
                                                   have c143l : decide (1 < (t352.length : Int)) = false := by have h_ := c142b0; rw [c143b0] at h_; cases hd : decide ((t352.length : Int) > 1) with | false => rfl | true => rw [hd] at h_; exact absurd h_ (by decide)
                                                   have c143b1 : (t431 != 0) = true := bne_iff_ne.mpr c143
                                                   obtain rfl := Option.some.inj H
                                                   go_wp2_with (first | (go_at_call 20; (with_reducible refine (impl_LeastApart.calls k8 (wrap64 (3 + t350)) _ _ t352 t430 t431 _ ?side1 ?side2 A138.out).mono ?_); (case side1 => exact cvC ((Kd.R_reads' HO_6.out).2.2)); (case side2 => exact (Kd.R_reads' HO_6.out).2.1); rintro e w145 ⟨rfl, hb⟩; have n0_ := Aside0.mk (Kd.R_below (mvR HO_6) hb); have n1_ := Aside0.mk (Kd.R_below (mvR HO_33) hb); have n2_ := Aside0.mk (below_step (blB HB) hb); clear HO_6; clear HO_33; clear HB; have HO_6 := n0_; have HO_33 := n1_; have HB := n2_; clear n0_ n1_ n2_; (try clear hb); (try clear hb2); (try clear hk); (try clear hi)) | (go_at_call 21; (with_reducible refine (spec_LeastApart.calls k8 (wrap64 (3 + t350)) _ _ t352 t432 t433 _ ?side1 ?side2 A139.out).mono ?_); (case side1 => exact cvC ((Kd.R_reads' HO_6.out).2.2)); (case side2 => exact (Kd.R_reads' HO_6.out).2.1); rintro e w' ⟨rfl, ⟨nd, rfl⟩⟩; (try first | exact ⟨rfl, _, World.drewN_drewN _ _ _⟩ | exact ⟨rfl, _, Eq.trans (World.drewN_drewN _ _ _) (congrArg (World.drewN _) (Nat.add_assoc _ _ _))⟩)))
                                                   repeat (go_quiet (fail); try go_wp2)
                                                   go_ret
                                                   exact ⟨by first | rfl | (simp [errW_none, errW_some] <;> rfl) | (simp [*, errW_none, errW_some] <;> rfl), blB HB⟩
                                               · rw [if_neg c142] at H
                                                 have c142b0 : ((t431 == 0) == (decide ((t352.length : Int) > 1))) = false := by simpa using c142
                                                 (try (have c142b1 : decide ((t431 == 0) = (decide ((t352.length : Int) > 1))) = false := by simpa using c142))
                                                 (try (have c142b2 : ((t431 == 0) == (decide ((t352.length : Int) > 1))) = false := by simpa using c142))
                                                 (try (have c142b3 : ¬ ((t431 == 0) = (decide ((t352.length : Int) > 1))) := by simpa using c142))
                                                 clear c142
                                                 obtain rfl := Option.some.inj H
                                                 go_wp2_with (first | (go_at_call 20; (with_reducible refine (impl_LeastApart.calls k8 (wrap64 (3 + t350)) _ _ t352 t430 t431 _ ?side1 ?side2 A138.out).mono ?_); (case side1 => exact cvC ((Kd.R_reads' HO_6.out).2.2)); (case side2 => exact (Kd.R_reads' HO_6.out).2.1); rintro e w146 ⟨rfl, hb⟩; have n0_ := Aside0.mk (Kd.R_below (mvR HO_6) hb); have n1_ := Aside0.mk (Kd.R_below (mvR HO_33) hb); have n2_ := Aside0.mk (below_step (blB HB) hb); clear HO_6; clear HO_33; clear HB; have HO_6 := n0_; have HO_33 := n1_; have HB := n2_; clear n0_ n1_ n2_; (try clear hb); (try clear hb2); (try clear hk); (try clear hi)) | (go_at_call 21; (with_reducible refine (spec_LeastApart.calls k8 (wrap64 (3 + t350)) _ _ t352 t432 t433 _ ?side1 ?side2 A139.out).mono ?_); (case side1 => exact cvC ((Kd.R_reads' HO_6.out).2.2)); (case side2 => exact (Kd.R_reads' HO_6.out).2.1); rintro e w' ⟨rfl, ⟨nd, rfl⟩⟩; (try first | exact ⟨rfl, _, World.drewN_drewN _ _ _⟩ | exact ⟨rfl, _, Eq.trans (World.drewN_drewN _ _ _) (congrArg (World.drewN _) (Nat.add_assoc _ _ _))⟩)))
                                                 repeat (go_quiet (fail); try go_wp2)
                                                 go_ret
                                                 exact ⟨by first | rfl | (simp [errW_none, errW_some] <;> rfl) | (simp [*, errW_none, errW_some] <;> rfl), blB HB⟩
                                             · rw [if_neg c141] at H
                                               have c141b0 : (t430 == t432) = false := beq_eq_false_iff_ne.mpr c141
                                               have c141b1 : (t430 != t432) = true := bne_iff_ne.mpr c141
                                               obtain rfl := Option.some.inj H
                                               go_wp2_with (first | (go_at_call 20; (with_reducible refine (impl_LeastApart.calls k8 (wrap64 (3 + t350)) _ _ t352 t430 t431 _ ?side1 ?side2 A138.out).mono ?_); (case side1 => exact cvC ((Kd.R_reads' HO_6.out).2.2)); (case side2 => exact (Kd.R_reads' HO_6.out).2.1); rintro e w147 ⟨rfl, hb⟩; have n0_ := Aside0.mk (Kd.R_below (mvR HO_6) hb); have n1_ := Aside0.mk (Kd.R_below (mvR HO_33) hb); have n2_ := Aside0.mk (below_step (blB HB) hb); clear HO_6; clear HO_33; clear HB; have HO_6 := n0_; have HO_33 := n1_; have HB := n2_; clear n0_ n1_ n2_; (try clear hb); (try clear hb2); (try clear hk); (try clear hi)) | (go_at_call 21; (with_reducible refine (spec_LeastApart.calls k8 (wrap64 (3 + t350)) _ _ t352 t432 t433 _ ?side1 ?side2 A139.out).mono ?_); (case side1 => exact cvC ((Kd.R_reads' HO_6.out).2.2)); (case side2 => exact (Kd.R_reads' HO_6.out).2.1); rintro e w' ⟨rfl, ⟨nd, rfl⟩⟩; (try first | exact ⟨rfl, _, World.drewN_drewN _ _ _⟩ | exact ⟨rfl, _, Eq.trans (World.drewN_drewN _ _ _) (congrArg (World.drewN _) (Nat.add_assoc _ _ _))⟩)))
                                               repeat (go_quiet (fail); try go_wp2)
                                               go_ret
                                               exact ⟨by first | rfl | (simp [errW_none, errW_some] <;> rfl) | (simp [*, errW_none, errW_some] <;> rfl), blB HB⟩
                                           · rw [if_neg c140] at H
                                             have c140b0 : (t431 == t433) = false := beq_eq_false_iff_ne.mpr c140
                                             have c140b1 : (t431 != t433) = true := bne_iff_ne.mpr c140
                                             obtain rfl := Option.some.inj H
                                             go_wp2_with (first | (go_at_call 20; (with_reducible refine (impl_LeastApart.calls k8 (wrap64 (3 + t350)) _ _ t352 t430 t431 _ ?side1 ?side2 A138.out).mono ?_); (case side1 => exact cvC ((Kd.R_reads' HO_6.out).2.2)); (case side2 => exact (Kd.R_reads' HO_6.out).2.1); rintro e w148 ⟨rfl, hb⟩; have n0_ := Aside0.mk (Kd.R_below (mvR HO_6) hb); have n1_ := Aside0.mk (Kd.R_below (mvR HO_33) hb); have n2_ := Aside0.mk (below_step (blB HB) hb); clear HO_6; clear HO_33; clear HB; have HO_6 := n0_; have HO_33 := n1_; have HB := n2_; clear n0_ n1_ n2_; (try clear hb); (try clear hb2); (try clear hk); (try clear hi)) | (go_at_call 21; (with_reducible refine (spec_LeastApart.calls k8 (wrap64 (3 + t350)) _ _ t352 t432 t433 _ ?side1 ?side2 A139.out).mono ?_); (case side1 => exact cvC ((Kd.R_reads' HO_6.out).2.2)); (case side2 => exact (Kd.R_reads' HO_6.out).2.1); rintro e w' ⟨rfl, ⟨nd, rfl⟩⟩; (try first | exact ⟨rfl, _, World.drewN_drewN _ _ _⟩ | exact ⟨rfl, _, Eq.trans (World.drewN_drewN _ _ _) (congrArg (World.drewN _) (Nat.add_assoc _ _ _))⟩)))
                                             repeat (go_quiet (fail); try go_wp2)
                                             go_ret
                                             exact ⟨by first | rfl | (simp [errW_none, errW_some] <;> rfl) | (simp [*, errW_none, errW_some] <;> rfl), blB HB⟩
def laws_FnSorted.Pure : Prop := ∀ (l0 : List Int) (l1 : List Int), l0.length ≤ maxLen → l0.length * 1 ≤ 140737488351232 → (∀ x ∈ l0, (Lit.int .u8 x).wf = true) → l1.length ≤ maxLen → l1.length * 1 ≤ 140737488351232 → (∀ x ∈ l1, (Lit.int .u8 x).wf = true) → ∃ k, laws_FnSorted.f k l0 l1 = some true
theorem laws_FnSorted.walk (P : laws_FnSorted.Pure) (a0 : Option Addr) (len0 cap0 : Nat) (z0 : List Int) (a1 : Option Addr) (len1 cap1 : Nat) (z1 : List Int) (w : World) (w0 : (a0 = none ∧ len0 = 0 ∧ cap0 = 0 ∧ z0 = []) ∨ ∃ x, a0 = some x ∧ len0 ≤ cap0 ∧ cap0 ≤ maxLen ∧ z0.length = cap0 ∧ (∀ i, i < z0.length → w.cell? (x.add i) = some (.int .u8 (z0.getD i 0))) ∧ ∀ n ∈ z0, (Lit.int .u8 n).wf = true) (y0 : len0 * 1 ≤ 140737488351232) (w1 : (a1 = none ∧ len1 = 0 ∧ cap1 = 0 ∧ z1 = []) ∨ ∃ x, a1 = some x ∧ len1 ≤ cap1 ∧ cap1 ≤ maxLen ∧ z1.length = cap1 ∧ (∀ i, i < z1.length → w.cell? (x.add i) = some (.int .u8 (z1.getD i 0))) ∧ ∀ n ∈ z1, (Lit.int .u8 n).wf = true) (y1 : len1 * 1 ≤ 140737488351232) :
    Calls Try.prog 3 #[.slice a0 len0 cap0, .slice a1 len1 cap1] w fun e w' => e = .returned (.bool true) ∧ Below w.heap.size w w' := by
  obtain ⟨l0, rfl, hr0, hm0, hw0, hc0⟩ := ReadsInt.ofRowC w0
  obtain ⟨l1, rfl, hr1, hm1, hw1, hc1⟩ := ReadsInt.ofRowC w1
  obtain ⟨k, h⟩ := P l0 l1 hm0 y0 hw0 hm1 y1 hw1
  refine (laws_FnSorted.calls k _ _ l0 _ _ l1 true w (Kd.C_of_reads (d := (0 : Int)) (h1 := fun _ => rfl) hr0) hc0 (Kd.C_of_reads (d := (0 : Int)) (h1 := fun _ => rfl) hr1) hc1 h).mono ?_
  rintro e w' ⟨rfl, hd⟩
  exact ⟨rfl, hd⟩
end Go.Proofs.Ytedbegibkcegnac.M
