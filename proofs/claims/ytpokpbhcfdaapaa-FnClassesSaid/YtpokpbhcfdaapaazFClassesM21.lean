import Derived.Test.YtpokpbhcfdaapaazFClassesM0
import Derived.Test.YtpokpbhcfdaapaazFClassesM13
import Derived.Test.YtpokpbhcfdaapaazFClassesM14
import Derived.Test.YtpokpbhcfdaapaazFClassesM15
import Derived.Test.YtpokpbhcfdaapaazFClassesM16
import Derived.Test.YtpokpbhcfdaapaazFClassesM17
import Derived.Test.YtpokpbhcfdaapaazFClassesM18
import Derived.Test.YtpokpbhcfdaapaazFClassesM19
import Derived.Test.YtpokpbhcfdaapaazFClassesM20
namespace Go.Proofs.Ytpokpbhcfdaapaa.M
open Go.RowKit Go.Proofs.YtpokpbhcfdaapaaW.PrintWords Go.Proofs.YtpokpbhcfdaapaaW.PrintLast Go.Proofs.YtpokpbhcfdaapaaW.PrintMore
attribute [local go_sem] max2_int min2_int max_two min_two max_three min_three max_four min_four   -- for this text's walks alone
set_option linter.unusedVariables false
set_option linter.unusedSimpArgs false
mutual
def laws_FnClasses.j0 : Nat → Int → Int → Int → Int → Int → Bool → Option (Bool)
  | 0, _, _, _, _, _, _ => none
  | k + 1, x5, x6, x9, x14, x15, x116 => if x116 = true then (some false) else ((spec_LostFrom.f k x5 x6).bind fun bt452 => (laws_FnClasses.l0 k x5 x6 x9 x14 x15 bt452.1 bt452.2 0))
def laws_FnClasses.l0 : Nat → Int → Int → Int → Int → Int → List Int → Int → Int → Option (Bool)
  | 0, _, _, _, _, _, _, _, _ => none
  | k + 1, x5, x6, x9, x14, x15, x17, x18, x19 => if x19 < (x17.length : Int) then (if 0 ≤ x19 then ((impl_MendStitch.f k x5 x9 (rd x17 x19)).bind fun bt457 => ((spec_MendStitch.f k x5 x9 (rd x17 x19)).bind fun bt460 => (if bt457.2 = bt460.2 then (if bt457.2 = 0 then (if bt457.1 = bt460.1 then (if bt460.1 = x6 then (laws_FnClasses.l0 k x5 x6 x9 x14 x15 x17 x18 (wrap64 (x19 + 1))) else (some false)) else (some false)) else (some false)) else (some false)))) else (none)) else (laws_FnClasses.l1 k x5 x6 x9 x14 x15 x17 x18 0 0)
def laws_FnClasses.l1 : Nat → Int → Int → Int → Int → Int → List Int → Int → Int → Int → Option (Bool)
  | 0, _, _, _, _, _, _, _, _, _ => none
  | k + 1, x5, x6, x9, x14, x15, x17, x18, x24, x25 => if x25 ≤ x5 then ((impl_ClassMarks.f k x5 x25).bind fun bt462 => ((spec_ClassMarks.f k x5 x25).bind fun bt466 => ((impl_CheckMarks.f k x5 bt466.1).bind fun bt470 => (if bt462.2 = bt466.2 then (if bt462.2 = 0 then ((spec_A2SameMarks.f k bt462.1 bt466.1).bind fun t472 => (if t472 = true then (if bt470.2 = 0 then (if bt470.1 = true then (if (bt466.1.length : Int) > x15 then (laws_FnClasses.j3 k x5 x6 x9 x14 x15 x17 x18 x24 x25 bt466.1 true) else (if x25 < x14 then (if (bt466.1.length : Int) = x15 then (laws_FnClasses.j3 k x5 x6 x9 x14 x15 x17 x18 x24 x25 bt466.1 true) else (if x25 = x14 then (laws_FnClasses.j3 k x5 x6 x9 x14 x15 x17 x18 x24 x25 bt466.1 true) else ((spec_A2HasMark.f k bt466.1 x6).bind fun t473 => (laws_FnClasses.j3 k x5 x6 x9 x14 x15 x17 x18 x24 x25 bt466.1 (t473 != (x25 == x9)))))) else (if x25 = x14 then (if (bt466.1.length : Int) = x15 then ((spec_A2HasMark.f k bt466.1 x6).bind fun t474 => (laws_FnClasses.j3 k x5 x6 x9 x14 x15 x17 x18 x24 x25 bt466.1 (t474 != (x25 == x9)))) else (laws_FnClasses.j3 k x5 x6 x9 x14 x15 x17 x18 x24 x25 bt466.1 true)) else ((spec_A2HasMark.f k bt466.1 x6).bind fun t475 => (laws_FnClasses.j3 k x5 x6 x9 x14 x15 x17 x18 x24 x25 bt466.1 (t475 != (x25 == x9))))))) else (laws_FnClasses.j3 k x5 x6 x9 x14 x15 x17 x18 x24 x25 bt466.1 true)) else (laws_FnClasses.j3 k x5 x6 x9 x14 x15 x17 x18 x24 x25 bt466.1 true)) else (laws_FnClasses.j3 k x5 x6 x9 x14 x15 x17 x18 x24 x25 bt466.1 true))) else (laws_FnClasses.j3 k x5 x6 x9 x14 x15 x17 x18 x24 x25 bt466.1 true)) else (laws_FnClasses.j3 k x5 x6 x9 x14 x15 x17 x18 x24 x25 bt466.1 true))))) else (if x18 = 0 then (if (x17.length : Int) > 0 then (if 0 ≤ (IntKind.u64.wrap (x5)) then (some (x24 == (shl .i64 1 (IntKind.u64.wrap (x5))))) else (none)) else (some false)) else (some false))
def laws_FnClasses.j3 : Nat → Int → Int → Int → Int → Int → List Int → Int → Int → Int → List Int → Bool → Option (Bool)
  | 0, _, _, _, _, _, _, _, _, _, _, _ => none
  | k + 1, x5, x6, x9, x14, x15, x17, x18, x24, x25, x28, x246 => if x246 = true then (some false) else ((impl_MendStitch.f k x5 x25 x6).bind fun bt476 => ((spec_MendStitch.f k x5 x25 x6).bind fun bt478 => (if bt476.2 = bt478.2 then (laws_FnClasses.j4 k x5 x6 x9 x14 x15 x17 x18 (wrap64 (x24 + (x28.length : Int))) x25 bt476.2 bt478.1 (bt476.1 != bt478.1)) else (laws_FnClasses.j4 k x5 x6 x9 x14 x15 x17 x18 (wrap64 (x24 + (x28.length : Int))) x25 bt476.2 bt478.1 true))))
def laws_FnClasses.j4 : Nat → Int → Int → Int → Int → Int → List Int → Int → Int → Int → Int → Int → Bool → Option (Bool)
  | 0, _, _, _, _, _, _, _, _, _, _, _, _ => none
  | k + 1, x5, x6, x9, x14, x15, x17, x18, x24, x25, x33, x34, x272 => if x272 = true then (some false) else (if x33 = 0 then ((impl_ClassOf.f k x5 x34).bind fun bt480 => ((impl_ApartBy.f x5 x34 x6).bind fun bt482 => (if bt480.2 = 0 then (if bt480.1 = x25 then (if bt482.2 = 0 then (if bt482.1 > 1 then (some false) else (if (Go.bits .andNot .u16 x6 x34) = 0 then (laws_FnClasses.l1 k x5 x6 x9 x14 x15 x17 x18 x24 (wrap64 (x25 + 1))) else (some false))) else (some false)) else (some false)) else (some false)))) else (laws_FnClasses.l1 k x5 x6 x9 x14 x15 x17 x18 x24 (wrap64 (x25 + 1))))
end
def laws_FnClasses.f (k : Nat) (l0 : List Int) (l1 : List Int) : Option (Bool) := (laws_a2Long.f l0 l1).bind fun t439 => (if t439 = true then (some true) else ((laws_a2At.f l0 0 6).bind fun t440 => ((spec_A2Mark.f l1 (wrap64 (2 + t440))).bind fun t441 => ((impl_ClassOf.f k (wrap64 (2 + t440)) t441).bind fun bt442 => ((spec_ClassOf.f k (wrap64 (2 + t440)) t441).bind fun bt444 => ((impl_BestClass.f k (wrap64 (2 + t440))).bind fun bt446 => ((spec_BestClass.f k (wrap64 (2 + t440))).bind fun bt449 => (if bt442.2 = bt444.2 then (if bt442.2 = 0 then (if bt442.1 = bt444.1 then (if bt444.1 < 0 then (laws_FnClasses.j0 k (wrap64 (2 + t440)) t441 bt444.1 bt449.1 bt449.2.1 true) else (if bt444.1 > (wrap64 (2 + t440)) then (laws_FnClasses.j0 k (wrap64 (2 + t440)) t441 bt444.1 bt449.1 bt449.2.1 true) else (if bt446.2.2 = bt449.2.2 then (if bt446.2.2 = 0 then (if bt446.1 = bt449.1 then (if bt446.2.1 = bt449.2.1 then (laws_FnClasses.j0 k (wrap64 (2 + t440)) t441 bt444.1 bt449.1 bt449.2.1 (decide (bt449.2.1 < 1))) else (laws_FnClasses.j0 k (wrap64 (2 + t440)) t441 bt444.1 bt449.1 bt449.2.1 true)) else (laws_FnClasses.j0 k (wrap64 (2 + t440)) t441 bt444.1 bt449.1 bt449.2.1 true)) else (laws_FnClasses.j0 k (wrap64 (2 + t440)) t441 bt444.1 bt449.1 bt449.2.1 true)) else (laws_FnClasses.j0 k (wrap64 (2 + t440)) t441 bt444.1 bt449.1 bt449.2.1 true)))) else (laws_FnClasses.j0 k (wrap64 (2 + t440)) t441 bt444.1 bt449.1 bt449.2.1 true)) else (laws_FnClasses.j0 k (wrap64 (2 + t440)) t441 bt444.1 bt449.1 bt449.2.1 true)) else (laws_FnClasses.j0 k (wrap64 (2 + t440)) t441 bt444.1 bt449.1 bt449.2.1 true)))))))))
theorem laws_FnClasses.mono_l : ∀ k, (∀ y0 y1 y2 y3 y4 y5, LeO (laws_FnClasses.j0 k y0 y1 y2 y3 y4 y5) (laws_FnClasses.j0 (k + 1) y0 y1 y2 y3 y4 y5)) ∧ (∀ y0 y1 y2 y3 y4 y5 y6 y7, LeO (laws_FnClasses.l0 k y0 y1 y2 y3 y4 y5 y6 y7) (laws_FnClasses.l0 (k + 1) y0 y1 y2 y3 y4 y5 y6 y7)) ∧ (∀ y0 y1 y2 y3 y4 y5 y6 y7 y8, LeO (laws_FnClasses.l1 k y0 y1 y2 y3 y4 y5 y6 y7 y8) (laws_FnClasses.l1 (k + 1) y0 y1 y2 y3 y4 y5 y6 y7 y8)) ∧ (∀ y0 y1 y2 y3 y4 y5 y6 y7 y8 y9 y10, LeO (laws_FnClasses.j3 k y0 y1 y2 y3 y4 y5 y6 y7 y8 y9 y10) (laws_FnClasses.j3 (k + 1) y0 y1 y2 y3 y4 y5 y6 y7 y8 y9 y10)) ∧ (∀ y0 y1 y2 y3 y4 y5 y6 y7 y8 y9 y10 y11, LeO (laws_FnClasses.j4 k y0 y1 y2 y3 y4 y5 y6 y7 y8 y9 y10 y11) (laws_FnClasses.j4 (k + 1) y0 y1 y2 y3 y4 y5 y6 y7 y8 y9 y10 y11))
  | 0 => ⟨fun _ _ _ _ _ _ r h => by simp [laws_FnClasses.j0] at h, fun _ _ _ _ _ _ _ _ r h => by simp [laws_FnClasses.l0] at h, fun _ _ _ _ _ _ _ _ _ r h => by simp [laws_FnClasses.l1] at h, fun _ _ _ _ _ _ _ _ _ _ _ r h => by simp [laws_FnClasses.j3] at h, fun _ _ _ _ _ _ _ _ _ _ _ _ r h => by simp [laws_FnClasses.j4] at h⟩
  | k + 1 => by
    obtain ⟨ih0, ih1, ih2, ih3, ih4⟩ := laws_FnClasses.mono_l k
    refine ⟨?_, ?_, ?_, ?_, ?_⟩
    · intro y0 y1 y2 y3 y4 y5
      unfold laws_FnClasses.j0
      repeat' first
      | (with_reducible exact ih0 _ _ _ _ _ _)
      | (with_reducible exact ih1 _ _ _ _ _ _ _ _)
      | (with_reducible exact ih2 _ _ _ _ _ _ _ _ _)
      | (with_reducible exact ih3 _ _ _ _ _ _ _ _ _ _ _)
      | (with_reducible exact ih4 _ _ _ _ _ _ _ _ _ _ _ _)
      | (with_reducible exact impl_BestClass.mono _ _)
      | (with_reducible exact impl_CheckMarks.mono _ _ _)
      | (with_reducible exact impl_ClassMarks.mono _ _ _)
      | (with_reducible exact impl_ClassOf.mono _ _ _)
      | (with_reducible exact impl_MendStitch.mono _ _ _ _)
      | (with_reducible exact spec_A2HasMark.mono _ _ _)
      | (with_reducible exact spec_A2SameMarks.mono _ _ _)
      | (with_reducible exact spec_BestClass.mono _ _)
      | (with_reducible exact spec_ClassMarks.mono _ _ _)
      | (with_reducible exact spec_ClassOf.mono _ _ _)
      | (with_reducible exact spec_LostFrom.mono _ _ _)
      | (with_reducible exact spec_MendStitch.mono _ _ _ _)
      | (with_reducible exact LeO.refl _)
      | (with_reducible exact LeO.none _)
      | (with_reducible refine LeO.ite ?_ ?_)
      | (with_reducible refine LeO.bind ?_ (fun _ => ?_))
      | exact ih0 _ _ _ _ _ _
      | exact ih1 _ _ _ _ _ _ _ _
      | exact ih2 _ _ _ _ _ _ _ _ _
      | exact ih3 _ _ _ _ _ _ _ _ _ _ _
      | exact ih4 _ _ _ _ _ _ _ _ _ _ _ _
      | exact impl_BestClass.mono _ _
      | exact impl_CheckMarks.mono _ _ _
      | exact impl_ClassMarks.mono _ _ _
      | exact impl_ClassOf.mono _ _ _
      | exact impl_MendStitch.mono _ _ _ _
      | exact spec_A2HasMark.mono _ _ _
      | exact spec_A2SameMarks.mono _ _ _
      | exact spec_BestClass.mono _ _
      | exact spec_ClassMarks.mono _ _ _
      | exact spec_ClassOf.mono _ _ _
      | exact spec_LostFrom.mono _ _ _
      | exact spec_MendStitch.mono _ _ _ _
      | exact LeO.none _
      | refine LeO.ite ?_ ?_
      | refine LeO.bind ?_ (fun _ => ?_)
    · intro y0 y1 y2 y3 y4 y5 y6 y7
      unfold laws_FnClasses.l0
      repeat' first
      | (with_reducible exact ih0 _ _ _ _ _ _)
      | (with_reducible exact ih1 _ _ _ _ _ _ _ _)
      | (with_reducible exact ih2 _ _ _ _ _ _ _ _ _)
      | (with_reducible exact ih3 _ _ _ _ _ _ _ _ _ _ _)
      | (with_reducible exact ih4 _ _ _ _ _ _ _ _ _ _ _ _)
      | (with_reducible exact impl_BestClass.mono _ _)
      | (with_reducible exact impl_CheckMarks.mono _ _ _)
      | (with_reducible exact impl_ClassMarks.mono _ _ _)
      | (with_reducible exact impl_ClassOf.mono _ _ _)
      | (with_reducible exact impl_MendStitch.mono _ _ _ _)
      | (with_reducible exact spec_A2HasMark.mono _ _ _)
      | (with_reducible exact spec_A2SameMarks.mono _ _ _)
      | (with_reducible exact spec_BestClass.mono _ _)
      | (with_reducible exact spec_ClassMarks.mono _ _ _)
      | (with_reducible exact spec_ClassOf.mono _ _ _)
      | (with_reducible exact spec_LostFrom.mono _ _ _)
      | (with_reducible exact spec_MendStitch.mono _ _ _ _)
      | (with_reducible exact LeO.refl _)
      | (with_reducible exact LeO.none _)
      | (with_reducible refine LeO.ite ?_ ?_)
      | (with_reducible refine LeO.bind ?_ (fun _ => ?_))
      | exact ih0 _ _ _ _ _ _
      | exact ih1 _ _ _ _ _ _ _ _
      | exact ih2 _ _ _ _ _ _ _ _ _
      | exact ih3 _ _ _ _ _ _ _ _ _ _ _
      | exact ih4 _ _ _ _ _ _ _ _ _ _ _ _
      | exact impl_BestClass.mono _ _
      | exact impl_CheckMarks.mono _ _ _
      | exact impl_ClassMarks.mono _ _ _
      | exact impl_ClassOf.mono _ _ _
      | exact impl_MendStitch.mono _ _ _ _
      | exact spec_A2HasMark.mono _ _ _
      | exact spec_A2SameMarks.mono _ _ _
      | exact spec_BestClass.mono _ _
      | exact spec_ClassMarks.mono _ _ _
      | exact spec_ClassOf.mono _ _ _
      | exact spec_LostFrom.mono _ _ _
      | exact spec_MendStitch.mono _ _ _ _
      | exact LeO.none _
      | refine LeO.ite ?_ ?_
      | refine LeO.bind ?_ (fun _ => ?_)
    · intro y0 y1 y2 y3 y4 y5 y6 y7 y8
      unfold laws_FnClasses.l1
      repeat' first
      | (with_reducible exact ih0 _ _ _ _ _ _)
      | (with_reducible exact ih1 _ _ _ _ _ _ _ _)
      | (with_reducible exact ih2 _ _ _ _ _ _ _ _ _)
      | (with_reducible exact ih3 _ _ _ _ _ _ _ _ _ _ _)
      | (with_reducible exact ih4 _ _ _ _ _ _ _ _ _ _ _ _)
      | (with_reducible exact impl_BestClass.mono _ _)
      | (with_reducible exact impl_CheckMarks.mono _ _ _)
      | (with_reducible exact impl_ClassMarks.mono _ _ _)
      | (with_reducible exact impl_ClassOf.mono _ _ _)
      | (with_reducible exact impl_MendStitch.mono _ _ _ _)
      | (with_reducible exact spec_A2HasMark.mono _ _ _)
      | (with_reducible exact spec_A2SameMarks.mono _ _ _)
      | (with_reducible exact spec_BestClass.mono _ _)
      | (with_reducible exact spec_ClassMarks.mono _ _ _)
      | (with_reducible exact spec_ClassOf.mono _ _ _)
      | (with_reducible exact spec_LostFrom.mono _ _ _)
      | (with_reducible exact spec_MendStitch.mono _ _ _ _)
      | (with_reducible exact LeO.refl _)
      | (with_reducible exact LeO.none _)
      | (with_reducible refine LeO.ite ?_ ?_)
      | (with_reducible refine LeO.bind ?_ (fun _ => ?_))
      | exact ih0 _ _ _ _ _ _
      | exact ih1 _ _ _ _ _ _ _ _
      | exact ih2 _ _ _ _ _ _ _ _ _
      | exact ih3 _ _ _ _ _ _ _ _ _ _ _
      | exact ih4 _ _ _ _ _ _ _ _ _ _ _ _
      | exact impl_BestClass.mono _ _
      | exact impl_CheckMarks.mono _ _ _
      | exact impl_ClassMarks.mono _ _ _
      | exact impl_ClassOf.mono _ _ _
      | exact impl_MendStitch.mono _ _ _ _
      | exact spec_A2HasMark.mono _ _ _
      | exact spec_A2SameMarks.mono _ _ _
      | exact spec_BestClass.mono _ _
      | exact spec_ClassMarks.mono _ _ _
      | exact spec_ClassOf.mono _ _ _
      | exact spec_LostFrom.mono _ _ _
      | exact spec_MendStitch.mono _ _ _ _
      | exact LeO.none _
      | refine LeO.ite ?_ ?_
      | refine LeO.bind ?_ (fun _ => ?_)
    · intro y0 y1 y2 y3 y4 y5 y6 y7 y8 y9 y10
      unfold laws_FnClasses.j3
      repeat' first
      | (with_reducible exact ih0 _ _ _ _ _ _)
      | (with_reducible exact ih1 _ _ _ _ _ _ _ _)
      | (with_reducible exact ih2 _ _ _ _ _ _ _ _ _)
      | (with_reducible exact ih3 _ _ _ _ _ _ _ _ _ _ _)
      | (with_reducible exact ih4 _ _ _ _ _ _ _ _ _ _ _ _)
      | (with_reducible exact impl_BestClass.mono _ _)
      | (with_reducible exact impl_CheckMarks.mono _ _ _)
      | (with_reducible exact impl_ClassMarks.mono _ _ _)
      | (with_reducible exact impl_ClassOf.mono _ _ _)
      | (with_reducible exact impl_MendStitch.mono _ _ _ _)
      | (with_reducible exact spec_A2HasMark.mono _ _ _)
      | (with_reducible exact spec_A2SameMarks.mono _ _ _)
      | (with_reducible exact spec_BestClass.mono _ _)
      | (with_reducible exact spec_ClassMarks.mono _ _ _)
      | (with_reducible exact spec_ClassOf.mono _ _ _)
      | (with_reducible exact spec_LostFrom.mono _ _ _)
      | (with_reducible exact spec_MendStitch.mono _ _ _ _)
      | (with_reducible exact LeO.refl _)
      | (with_reducible exact LeO.none _)
      | (with_reducible refine LeO.ite ?_ ?_)
      | (with_reducible refine LeO.bind ?_ (fun _ => ?_))
      | exact ih0 _ _ _ _ _ _
      | exact ih1 _ _ _ _ _ _ _ _
      | exact ih2 _ _ _ _ _ _ _ _ _
      | exact ih3 _ _ _ _ _ _ _ _ _ _ _
      | exact ih4 _ _ _ _ _ _ _ _ _ _ _ _
      | exact impl_BestClass.mono _ _
      | exact impl_CheckMarks.mono _ _ _
      | exact impl_ClassMarks.mono _ _ _
      | exact impl_ClassOf.mono _ _ _
      | exact impl_MendStitch.mono _ _ _ _
      | exact spec_A2HasMark.mono _ _ _
      | exact spec_A2SameMarks.mono _ _ _
      | exact spec_BestClass.mono _ _
      | exact spec_ClassMarks.mono _ _ _
      | exact spec_ClassOf.mono _ _ _
      | exact spec_LostFrom.mono _ _ _
      | exact spec_MendStitch.mono _ _ _ _
      | exact LeO.none _
      | refine LeO.ite ?_ ?_
      | refine LeO.bind ?_ (fun _ => ?_)
    · intro y0 y1 y2 y3 y4 y5 y6 y7 y8 y9 y10 y11
      unfold laws_FnClasses.j4
      repeat' first
      | (with_reducible exact ih0 _ _ _ _ _ _)
      | (with_reducible exact ih1 _ _ _ _ _ _ _ _)
      | (with_reducible exact ih2 _ _ _ _ _ _ _ _ _)
      | (with_reducible exact ih3 _ _ _ _ _ _ _ _ _ _ _)
      | (with_reducible exact ih4 _ _ _ _ _ _ _ _ _ _ _ _)
      | (with_reducible exact impl_BestClass.mono _ _)
      | (with_reducible exact impl_CheckMarks.mono _ _ _)
      | (with_reducible exact impl_ClassMarks.mono _ _ _)
      | (with_reducible exact impl_ClassOf.mono _ _ _)
      | (with_reducible exact impl_MendStitch.mono _ _ _ _)
      | (with_reducible exact spec_A2HasMark.mono _ _ _)
      | (with_reducible exact spec_A2SameMarks.mono _ _ _)
      | (with_reducible exact spec_BestClass.mono _ _)
      | (with_reducible exact spec_ClassMarks.mono _ _ _)
      | (with_reducible exact spec_ClassOf.mono _ _ _)
      | (with_reducible exact spec_LostFrom.mono _ _ _)
      | (with_reducible exact spec_MendStitch.mono _ _ _ _)
      | (with_reducible exact LeO.refl _)
      | (with_reducible exact LeO.none _)
      | (with_reducible refine LeO.ite ?_ ?_)
      | (with_reducible refine LeO.bind ?_ (fun _ => ?_))
      | exact ih0 _ _ _ _ _ _
      | exact ih1 _ _ _ _ _ _ _ _
      | exact ih2 _ _ _ _ _ _ _ _ _
      | exact ih3 _ _ _ _ _ _ _ _ _ _ _
      | exact ih4 _ _ _ _ _ _ _ _ _ _ _ _
      | exact impl_BestClass.mono _ _
      | exact impl_CheckMarks.mono _ _ _
      | exact impl_ClassMarks.mono _ _ _
      | exact impl_ClassOf.mono _ _ _
      | exact impl_MendStitch.mono _ _ _ _
      | exact spec_A2HasMark.mono _ _ _
      | exact spec_A2SameMarks.mono _ _ _
      | exact spec_BestClass.mono _ _
      | exact spec_ClassMarks.mono _ _ _
      | exact spec_ClassOf.mono _ _ _
      | exact spec_LostFrom.mono _ _ _
      | exact spec_MendStitch.mono _ _ _ _
      | exact LeO.none _
      | refine LeO.ite ?_ ?_
      | refine LeO.bind ?_ (fun _ => ?_)
theorem laws_FnClasses.mono : ∀ a0 a1 k, LeO (laws_FnClasses.f k a0 a1) (laws_FnClasses.f (k + 1) a0 a1) := by
  intro a0 a1 k
  obtain ⟨ih0, ih1, ih2, ih3, ih4⟩ := laws_FnClasses.mono_l k
  unfold laws_FnClasses.f
  repeat' first
      | (with_reducible exact ih0 _ _ _ _ _ _)
      | (with_reducible exact ih1 _ _ _ _ _ _ _ _)
      | (with_reducible exact ih2 _ _ _ _ _ _ _ _ _)
      | (with_reducible exact ih3 _ _ _ _ _ _ _ _ _ _ _)
      | (with_reducible exact ih4 _ _ _ _ _ _ _ _ _ _ _ _)
      | (with_reducible exact impl_BestClass.mono _ _)
      | (with_reducible exact impl_CheckMarks.mono _ _ _)
      | (with_reducible exact impl_ClassMarks.mono _ _ _)
      | (with_reducible exact impl_ClassOf.mono _ _ _)
      | (with_reducible exact impl_MendStitch.mono _ _ _ _)
      | (with_reducible exact spec_A2HasMark.mono _ _ _)
      | (with_reducible exact spec_A2SameMarks.mono _ _ _)
      | (with_reducible exact spec_BestClass.mono _ _)
      | (with_reducible exact spec_ClassMarks.mono _ _ _)
      | (with_reducible exact spec_ClassOf.mono _ _ _)
      | (with_reducible exact spec_LostFrom.mono _ _ _)
      | (with_reducible exact spec_MendStitch.mono _ _ _ _)
      | (with_reducible exact LeO.refl _)
      | (with_reducible exact LeO.none _)
      | (with_reducible refine LeO.ite ?_ ?_)
      | (with_reducible refine LeO.bind ?_ (fun _ => ?_))
      | exact ih0 _ _ _ _ _ _
      | exact ih1 _ _ _ _ _ _ _ _
      | exact ih2 _ _ _ _ _ _ _ _ _
      | exact ih3 _ _ _ _ _ _ _ _ _ _ _
      | exact ih4 _ _ _ _ _ _ _ _ _ _ _ _
      | exact impl_BestClass.mono _ _
      | exact impl_CheckMarks.mono _ _ _
      | exact impl_ClassMarks.mono _ _ _
      | exact impl_ClassOf.mono _ _ _
      | exact impl_MendStitch.mono _ _ _ _
      | exact spec_A2HasMark.mono _ _ _
      | exact spec_A2SameMarks.mono _ _ _
      | exact spec_BestClass.mono _ _
      | exact spec_ClassMarks.mono _ _ _
      | exact spec_ClassOf.mono _ _ _
      | exact spec_LostFrom.mono _ _ _
      | exact spec_MendStitch.mono _ _ _ _
      | exact LeO.none _
      | refine LeO.ite ?_ ?_
      | refine LeO.bind ?_ (fun _ => ?_)
set_option maxHeartbeats 8000000 in
set_option maxRecDepth 100000 in
theorem laws_FnClasses.calls (k : Nat) (A0 : Option Addr) (c0 : Nat) (l0 : List Int) (A1 : Option Addr) (c1 : Nat) (l1 : List Int) (r : Bool) (w : World) (hr0 : Kd.C (Kd.int .u8) w A0 l0.length l0) (hc0 : l0.length ≤ c0) (hr1 : Kd.C (Kd.int .u8) w A1 l1.length l1) (hc1 : l1.length ≤ c1) (h : laws_FnClasses.f k l0 l1 = some r) :
    Calls Try.prog 5 #[.slice A0 l0.length c0, .slice A1 l1.length c1] w fun e w' => e = .returned (.bool r) ∧ Below w.heap.size w w' := by
  have HR0 := Aside0.mk hr0
  have HC0 := Aside0.mk hc0
  clear hr0 hc0
  have HR1 := Aside0.mk hr1
  have HC1 := Aside0.mk hc1
  clear hr1 hc1
  have HB := Aside0.mk (Below.refl w.heap.size w)
  have H : ((laws_a2Long.f l0 l1).bind fun t439 => (if t439 = true then (some true) else ((laws_a2At.f l0 0 6).bind fun t440 => ((spec_A2Mark.f l1 (wrap64 (2 + t440))).bind fun t441 => ((impl_ClassOf.f k (wrap64 (2 + t440)) t441).bind fun bt442 => ((spec_ClassOf.f k (wrap64 (2 + t440)) t441).bind fun bt444 => ((impl_BestClass.f k (wrap64 (2 + t440))).bind fun bt446 => ((spec_BestClass.f k (wrap64 (2 + t440))).bind fun bt449 => (if bt442.2 = bt444.2 then (if bt442.2 = 0 then (if bt442.1 = bt444.1 then (if bt444.1 < 0 then (laws_FnClasses.j0 k (wrap64 (2 + t440)) t441 bt444.1 bt449.1 bt449.2.1 true) else (if bt444.1 > (wrap64 (2 + t440)) then (laws_FnClasses.j0 k (wrap64 (2 + t440)) t441 bt444.1 bt449.1 bt449.2.1 true) else (if bt446.2.2 = bt449.2.2 then (if bt446.2.2 = 0 then (if bt446.1 = bt449.1 then (if bt446.2.1 = bt449.2.1 then (laws_FnClasses.j0 k (wrap64 (2 + t440)) t441 bt444.1 bt449.1 bt449.2.1 (decide (bt449.2.1 < 1))) else (laws_FnClasses.j0 k (wrap64 (2 + t440)) t441 bt444.1 bt449.1 bt449.2.1 true)) else (laws_FnClasses.j0 k (wrap64 (2 + t440)) t441 bt444.1 bt449.1 bt449.2.1 true)) else (laws_FnClasses.j0 k (wrap64 (2 + t440)) t441 bt444.1 bt449.1 bt449.2.1 true)) else (laws_FnClasses.j0 k (wrap64 (2 + t440)) t441 bt444.1 bt449.1 bt449.2.1 true)))) else (laws_FnClasses.j0 k (wrap64 (2 + t440)) t441 bt444.1 bt449.1 bt449.2.1 true)) else (laws_FnClasses.j0 k (wrap64 (2 + t440)) t441 bt444.1 bt449.1 bt449.2.1 true)) else (laws_FnClasses.j0 k (wrap64 (2 + t440)) t441 bt444.1 bt449.1 bt449.2.1 true)))))))))) = some r := h
  clear h
  replace H := Option.bind_eq_some_iff.mp H
  obtain ⟨t439, A30, H⟩ := H
  replace H : (if t439 = true then (some true) else ((laws_a2At.f l0 0 6).bind fun t440 => ((spec_A2Mark.f l1 (wrap64 (2 + t440))).bind fun t441 => ((impl_ClassOf.f k (wrap64 (2 + t440)) t441).bind fun bt442 => ((spec_ClassOf.f k (wrap64 (2 + t440)) t441).bind fun bt444 => ((impl_BestClass.f k (wrap64 (2 + t440))).bind fun bt446 => ((spec_BestClass.f k (wrap64 (2 + t440))).bind fun bt449 => (if bt442.2 = bt444.2 then (if bt442.2 = 0 then (if bt442.1 = bt444.1 then (if bt444.1 < 0 then (laws_FnClasses.j0 k (wrap64 (2 + t440)) t441 bt444.1 bt449.1 bt449.2.1 true) else (if bt444.1 > (wrap64 (2 + t440)) then (laws_FnClasses.j0 k (wrap64 (2 + t440)) t441 bt444.1 bt449.1 bt449.2.1 true) else (if bt446.2.2 = bt449.2.2 then (if bt446.2.2 = 0 then (if bt446.1 = bt449.1 then (if bt446.2.1 = bt449.2.1 then (laws_FnClasses.j0 k (wrap64 (2 + t440)) t441 bt444.1 bt449.1 bt449.2.1 (decide (bt449.2.1 < 1))) else (laws_FnClasses.j0 k (wrap64 (2 + t440)) t441 bt444.1 bt449.1 bt449.2.1 true)) else (laws_FnClasses.j0 k (wrap64 (2 + t440)) t441 bt444.1 bt449.1 bt449.2.1 true)) else (laws_FnClasses.j0 k (wrap64 (2 + t440)) t441 bt444.1 bt449.1 bt449.2.1 true)) else (laws_FnClasses.j0 k (wrap64 (2 + t440)) t441 bt444.1 bt449.1 bt449.2.1 true)))) else (laws_FnClasses.j0 k (wrap64 (2 + t440)) t441 bt444.1 bt449.1 bt449.2.1 true)) else (laws_FnClasses.j0 k (wrap64 (2 + t440)) t441 bt444.1 bt449.1 bt449.2.1 true)) else (laws_FnClasses.j0 k (wrap64 (2 + t440)) t441 bt444.1 bt449.1 bt449.2.1 true))))))))) = some r := H
  have A3 := Aside0.mk A30
  clear A30
  by_cases c4 : t439 = true
  · subst c4
    have H1 : (some true) = some r := by rw [if_pos rfl] at H; exact H
    clear H
    have H := H1
    clear H1
    obtain rfl := Option.some.inj H
    go_enter Try.func5, Try.ntmps5
    go_wp2_with (first | ((with_reducible refine gate_callee (f := 21) rfl ?_); refine goesL_ (some 42) rfl rfl Try.func21 (by kernel_rfl) rfl #[.slice A0 l0.length c0, .slice A1 l1.length c1] rfl (by (try simp only [List.map_toArray, List.map_cons, List.map_nil]); first | done | rfl | (simp only [List.length_drop, List.length_take]; rfl)) ?_; (with_reducible refine (laws_a2Long.calls _ _ l0 _ _ l1 true _ ?side1 ?side2 ?side3 ?side4 A3.out).mono ?_); (case side1 => repeat (first | exact HR0.out | (with_reducible refine Kd.C_alloc ?_ _) | (with_reducible refine Kd.C_drewN ?_ _) | (with_reducible refine Kd.C_drew ?_))); (case side2 => exact HC0.out); (case side3 => repeat (first | exact HR1.out | (with_reducible refine Kd.C_alloc ?_ _) | (with_reducible refine Kd.C_drewN ?_ _) | (with_reducible refine Kd.C_drew ?_))); (case side4 => exact HC1.out); rintro e w' ⟨rfl, ⟨nd, rfl⟩⟩; refine ⟨_, rfl, ?_⟩))
    go_ret
    exact ⟨by first | rfl | (simp [errW_none, errW_some] <;> rfl) | (simp [*, errW_none, errW_some] <;> rfl), by repeat (first | (with_reducible first | exact HB.out | apply below_alloc | apply pw_below_drewN | apply below_drew1) | exact HB.out)⟩
  · replace c4 := Bool.eq_false_iff.mpr c4
    subst c4
    have H1 : ((laws_a2At.f l0 0 6).bind fun t440 => ((spec_A2Mark.f l1 (wrap64 (2 + t440))).bind fun t441 => ((impl_ClassOf.f k (wrap64 (2 + t440)) t441).bind fun bt442 => ((spec_ClassOf.f k (wrap64 (2 + t440)) t441).bind fun bt444 => ((impl_BestClass.f k (wrap64 (2 + t440))).bind fun bt446 => ((spec_BestClass.f k (wrap64 (2 + t440))).bind fun bt449 => (if bt442.2 = bt444.2 then (if bt442.2 = 0 then (if bt442.1 = bt444.1 then (if bt444.1 < 0 then (laws_FnClasses.j0 k (wrap64 (2 + t440)) t441 bt444.1 bt449.1 bt449.2.1 true) else (if bt444.1 > (wrap64 (2 + t440)) then (laws_FnClasses.j0 k (wrap64 (2 + t440)) t441 bt444.1 bt449.1 bt449.2.1 true) else (if bt446.2.2 = bt449.2.2 then (if bt446.2.2 = 0 then (if bt446.1 = bt449.1 then (if bt446.2.1 = bt449.2.1 then (laws_FnClasses.j0 k (wrap64 (2 + t440)) t441 bt444.1 bt449.1 bt449.2.1 (decide (bt449.2.1 < 1))) else (laws_FnClasses.j0 k (wrap64 (2 + t440)) t441 bt444.1 bt449.1 bt449.2.1 true)) else (laws_FnClasses.j0 k (wrap64 (2 + t440)) t441 bt444.1 bt449.1 bt449.2.1 true)) else (laws_FnClasses.j0 k (wrap64 (2 + t440)) t441 bt444.1 bt449.1 bt449.2.1 true)) else (laws_FnClasses.j0 k (wrap64 (2 + t440)) t441 bt444.1 bt449.1 bt449.2.1 true)))) else (laws_FnClasses.j0 k (wrap64 (2 + t440)) t441 bt444.1 bt449.1 bt449.2.1 true)) else (laws_FnClasses.j0 k (wrap64 (2 + t440)) t441 bt444.1 bt449.1 bt449.2.1 true)) else (laws_FnClasses.j0 k (wrap64 (2 + t440)) t441 bt444.1 bt449.1 bt449.2.1 true)))))))) = some r := by rw [if_neg (show ¬ (false = true) by decide)] at H; exact H
    clear H
    have H := H1
    clear H1
    replace H := Option.bind_eq_some_iff.mp H
    obtain ⟨t440, A50, H⟩ := H
    replace H : ((spec_A2Mark.f l1 (wrap64 (2 + t440))).bind fun t441 => ((impl_ClassOf.f k (wrap64 (2 + t440)) t441).bind fun bt442 => ((spec_ClassOf.f k (wrap64 (2 + t440)) t441).bind fun bt444 => ((impl_BestClass.f k (wrap64 (2 + t440))).bind fun bt446 => ((spec_BestClass.f k (wrap64 (2 + t440))).bind fun bt449 => (if bt442.2 = bt444.2 then (if bt442.2 = 0 then (if bt442.1 = bt444.1 then (if bt444.1 < 0 then (laws_FnClasses.j0 k (wrap64 (2 + t440)) t441 bt444.1 bt449.1 bt449.2.1 true) else (if bt444.1 > (wrap64 (2 + t440)) then (laws_FnClasses.j0 k (wrap64 (2 + t440)) t441 bt444.1 bt449.1 bt449.2.1 true) else (if bt446.2.2 = bt449.2.2 then (if bt446.2.2 = 0 then (if bt446.1 = bt449.1 then (if bt446.2.1 = bt449.2.1 then (laws_FnClasses.j0 k (wrap64 (2 + t440)) t441 bt444.1 bt449.1 bt449.2.1 (decide (bt449.2.1 < 1))) else (laws_FnClasses.j0 k (wrap64 (2 + t440)) t441 bt444.1 bt449.1 bt449.2.1 true)) else (laws_FnClasses.j0 k (wrap64 (2 + t440)) t441 bt444.1 bt449.1 bt449.2.1 true)) else (laws_FnClasses.j0 k (wrap64 (2 + t440)) t441 bt444.1 bt449.1 bt449.2.1 true)) else (laws_FnClasses.j0 k (wrap64 (2 + t440)) t441 bt444.1 bt449.1 bt449.2.1 true)))) else (laws_FnClasses.j0 k (wrap64 (2 + t440)) t441 bt444.1 bt449.1 bt449.2.1 true)) else (laws_FnClasses.j0 k (wrap64 (2 + t440)) t441 bt444.1 bt449.1 bt449.2.1 true)) else (laws_FnClasses.j0 k (wrap64 (2 + t440)) t441 bt444.1 bt449.1 bt449.2.1 true))))))) = some r := H
    have A5 := Aside0.mk A50
    clear A50
    replace H := Option.bind_eq_some_iff.mp H
    obtain ⟨t441, A60, H⟩ := H
    replace H : ((impl_ClassOf.f k (wrap64 (2 + t440)) t441).bind fun bt442 => ((spec_ClassOf.f k (wrap64 (2 + t440)) t441).bind fun bt444 => ((impl_BestClass.f k (wrap64 (2 + t440))).bind fun bt446 => ((spec_BestClass.f k (wrap64 (2 + t440))).bind fun bt449 => (if bt442.2 = bt444.2 then (if bt442.2 = 0 then (if bt442.1 = bt444.1 then (if bt444.1 < 0 then (laws_FnClasses.j0 k (wrap64 (2 + t440)) t441 bt444.1 bt449.1 bt449.2.1 true) else (if bt444.1 > (wrap64 (2 + t440)) then (laws_FnClasses.j0 k (wrap64 (2 + t440)) t441 bt444.1 bt449.1 bt449.2.1 true) else (if bt446.2.2 = bt449.2.2 then (if bt446.2.2 = 0 then (if bt446.1 = bt449.1 then (if bt446.2.1 = bt449.2.1 then (laws_FnClasses.j0 k (wrap64 (2 + t440)) t441 bt444.1 bt449.1 bt449.2.1 (decide (bt449.2.1 < 1))) else (laws_FnClasses.j0 k (wrap64 (2 + t440)) t441 bt444.1 bt449.1 bt449.2.1 true)) else (laws_FnClasses.j0 k (wrap64 (2 + t440)) t441 bt444.1 bt449.1 bt449.2.1 true)) else (laws_FnClasses.j0 k (wrap64 (2 + t440)) t441 bt444.1 bt449.1 bt449.2.1 true)) else (laws_FnClasses.j0 k (wrap64 (2 + t440)) t441 bt444.1 bt449.1 bt449.2.1 true)))) else (laws_FnClasses.j0 k (wrap64 (2 + t440)) t441 bt444.1 bt449.1 bt449.2.1 true)) else (laws_FnClasses.j0 k (wrap64 (2 + t440)) t441 bt444.1 bt449.1 bt449.2.1 true)) else (laws_FnClasses.j0 k (wrap64 (2 + t440)) t441 bt444.1 bt449.1 bt449.2.1 true)))))) = some r := H
    have A6 := Aside0.mk A60
    clear A60
    replace H := Option.bind_eq_some_iff.mp H
    obtain ⟨⟨t442, t443⟩, A70, H⟩ := H
    replace H : ((spec_ClassOf.f k (wrap64 (2 + t440)) t441).bind fun bt444 => ((impl_BestClass.f k (wrap64 (2 + t440))).bind fun bt446 => ((spec_BestClass.f k (wrap64 (2 + t440))).bind fun bt449 => (if t443 = bt444.2 then (if t443 = 0 then (if t442 = bt444.1 then (if bt444.1 < 0 then (laws_FnClasses.j0 k (wrap64 (2 + t440)) t441 bt444.1 bt449.1 bt449.2.1 true) else (if bt444.1 > (wrap64 (2 + t440)) then (laws_FnClasses.j0 k (wrap64 (2 + t440)) t441 bt444.1 bt449.1 bt449.2.1 true) else (if bt446.2.2 = bt449.2.2 then (if bt446.2.2 = 0 then (if bt446.1 = bt449.1 then (if bt446.2.1 = bt449.2.1 then (laws_FnClasses.j0 k (wrap64 (2 + t440)) t441 bt444.1 bt449.1 bt449.2.1 (decide (bt449.2.1 < 1))) else (laws_FnClasses.j0 k (wrap64 (2 + t440)) t441 bt444.1 bt449.1 bt449.2.1 true)) else (laws_FnClasses.j0 k (wrap64 (2 + t440)) t441 bt444.1 bt449.1 bt449.2.1 true)) else (laws_FnClasses.j0 k (wrap64 (2 + t440)) t441 bt444.1 bt449.1 bt449.2.1 true)) else (laws_FnClasses.j0 k (wrap64 (2 + t440)) t441 bt444.1 bt449.1 bt449.2.1 true)))) else (laws_FnClasses.j0 k (wrap64 (2 + t440)) t441 bt444.1 bt449.1 bt449.2.1 true)) else (laws_FnClasses.j0 k (wrap64 (2 + t440)) t441 bt444.1 bt449.1 bt449.2.1 true)) else (laws_FnClasses.j0 k (wrap64 (2 + t440)) t441 bt444.1 bt449.1 bt449.2.1 true))))) = some r := H
    have A7 := Aside0.mk A70
    clear A70
    replace H := Option.bind_eq_some_iff.mp H
    obtain ⟨⟨t444, t445⟩, A80, H⟩ := H
    replace H : ((impl_BestClass.f k (wrap64 (2 + t440))).bind fun bt446 => ((spec_BestClass.f k (wrap64 (2 + t440))).bind fun bt449 => (if t443 = t445 then (if t443 = 0 then (if t442 = t444 then (if t444 < 0 then (laws_FnClasses.j0 k (wrap64 (2 + t440)) t441 t444 bt449.1 bt449.2.1 true) else (if t444 > (wrap64 (2 + t440)) then (laws_FnClasses.j0 k (wrap64 (2 + t440)) t441 t444 bt449.1 bt449.2.1 true) else (if bt446.2.2 = bt449.2.2 then (if bt446.2.2 = 0 then (if bt446.1 = bt449.1 then (if bt446.2.1 = bt449.2.1 then (laws_FnClasses.j0 k (wrap64 (2 + t440)) t441 t444 bt449.1 bt449.2.1 (decide (bt449.2.1 < 1))) else (laws_FnClasses.j0 k (wrap64 (2 + t440)) t441 t444 bt449.1 bt449.2.1 true)) else (laws_FnClasses.j0 k (wrap64 (2 + t440)) t441 t444 bt449.1 bt449.2.1 true)) else (laws_FnClasses.j0 k (wrap64 (2 + t440)) t441 t444 bt449.1 bt449.2.1 true)) else (laws_FnClasses.j0 k (wrap64 (2 + t440)) t441 t444 bt449.1 bt449.2.1 true)))) else (laws_FnClasses.j0 k (wrap64 (2 + t440)) t441 t444 bt449.1 bt449.2.1 true)) else (laws_FnClasses.j0 k (wrap64 (2 + t440)) t441 t444 bt449.1 bt449.2.1 true)) else (laws_FnClasses.j0 k (wrap64 (2 + t440)) t441 t444 bt449.1 bt449.2.1 true)))) = some r := H
    have A8 := Aside0.mk A80
    clear A80
    replace H := Option.bind_eq_some_iff.mp H
    obtain ⟨⟨t446, t447, t448⟩, A90, H⟩ := H
    replace H : ((spec_BestClass.f k (wrap64 (2 + t440))).bind fun bt449 => (if t443 = t445 then (if t443 = 0 then (if t442 = t444 then (if t444 < 0 then (laws_FnClasses.j0 k (wrap64 (2 + t440)) t441 t444 bt449.1 bt449.2.1 true) else (if t444 > (wrap64 (2 + t440)) then (laws_FnClasses.j0 k (wrap64 (2 + t440)) t441 t444 bt449.1 bt449.2.1 true) else (if t448 = bt449.2.2 then (if t448 = 0 then (if t446 = bt449.1 then (if t447 = bt449.2.1 then (laws_FnClasses.j0 k (wrap64 (2 + t440)) t441 t444 bt449.1 bt449.2.1 (decide (bt449.2.1 < 1))) else (laws_FnClasses.j0 k (wrap64 (2 + t440)) t441 t444 bt449.1 bt449.2.1 true)) else (laws_FnClasses.j0 k (wrap64 (2 + t440)) t441 t444 bt449.1 bt449.2.1 true)) else (laws_FnClasses.j0 k (wrap64 (2 + t440)) t441 t444 bt449.1 bt449.2.1 true)) else (laws_FnClasses.j0 k (wrap64 (2 + t440)) t441 t444 bt449.1 bt449.2.1 true)))) else (laws_FnClasses.j0 k (wrap64 (2 + t440)) t441 t444 bt449.1 bt449.2.1 true)) else (laws_FnClasses.j0 k (wrap64 (2 + t440)) t441 t444 bt449.1 bt449.2.1 true)) else (laws_FnClasses.j0 k (wrap64 (2 + t440)) t441 t444 bt449.1 bt449.2.1 true))) = some r := H
    have A9 := Aside0.mk A90
    clear A90
    replace H := Option.bind_eq_some_iff.mp H
    obtain ⟨⟨t449, t450, t451⟩, A100, H⟩ := H
    replace H : (if t443 = t445 then (if t443 = 0 then (if t442 = t444 then (if t444 < 0 then (laws_FnClasses.j0 k (wrap64 (2 + t440)) t441 t444 t449 t450 true) else (if t444 > (wrap64 (2 + t440)) then (laws_FnClasses.j0 k (wrap64 (2 + t440)) t441 t444 t449 t450 true) else (if t448 = t451 then (if t448 = 0 then (if t446 = t449 then (if t447 = t450 then (laws_FnClasses.j0 k (wrap64 (2 + t440)) t441 t444 t449 t450 (decide (t450 < 1))) else (laws_FnClasses.j0 k (wrap64 (2 + t440)) t441 t444 t449 t450 true)) else (laws_FnClasses.j0 k (wrap64 (2 + t440)) t441 t444 t449 t450 true)) else (laws_FnClasses.j0 k (wrap64 (2 + t440)) t441 t444 t449 t450 true)) else (laws_FnClasses.j0 k (wrap64 (2 + t440)) t441 t444 t449 t450 true)))) else (laws_FnClasses.j0 k (wrap64 (2 + t440)) t441 t444 t449 t450 true)) else (laws_FnClasses.j0 k (wrap64 (2 + t440)) t441 t444 t449 t450 true)) else (laws_FnClasses.j0 k (wrap64 (2 + t440)) t441 t444 t449 t450 true)) = some r := H
    have A10 := Aside0.mk A100
    clear A100
    have HC11 := Aside0.mk H
    clear H
    go_enter Try.func5, Try.ntmps5
    go_upto_region 9 with (first | ((with_reducible refine gate_callee (f := 21) rfl ?_); refine goesL_ (some 42) rfl rfl Try.func21 (by kernel_rfl) rfl #[.slice A0 l0.length c0, .slice A1 l1.length c1] rfl (by (try simp only [List.map_toArray, List.map_cons, List.map_nil]); first | done | rfl | (simp only [List.length_drop, List.length_take]; rfl)) ?_; (with_reducible refine (laws_a2Long.calls _ _ l0 _ _ l1 false _ ?side1 ?side2 ?side3 ?side4 A3.out).mono ?_); (case side1 => repeat (first | exact HR0.out | (with_reducible refine Kd.C_alloc ?_ _) | (with_reducible refine Kd.C_drewN ?_ _) | (with_reducible refine Kd.C_drew ?_))); (case side2 => exact HC0.out); (case side3 => repeat (first | exact HR1.out | (with_reducible refine Kd.C_alloc ?_ _) | (with_reducible refine Kd.C_drewN ?_ _) | (with_reducible refine Kd.C_drew ?_))); (case side4 => exact HC1.out); rintro e w' ⟨rfl, ⟨nd, rfl⟩⟩; refine ⟨_, rfl, ?_⟩) | ((with_reducible refine gate_callee (f := 22) rfl ?_); refine goesL_ (some 44) rfl rfl Try.func22 (by kernel_rfl) rfl #[.slice A0 l0.length c0, .int .i64 0, .int .i64 6] rfl (by (try simp only [List.map_toArray, List.map_cons, List.map_nil]); first | done | rfl | (simp only [List.length_drop, List.length_take]; rfl)) ?_; (with_reducible refine (laws_a2At.calls _ _ l0 0 6 t440 _ ?side1 ?side2 A5.out).mono ?_); (case side1 => repeat (first | exact HR0.out | (with_reducible refine Kd.C_alloc ?_ _) | (with_reducible refine Kd.C_drewN ?_ _) | (with_reducible refine Kd.C_drew ?_))); (case side2 => exact HC0.out); rintro e w' ⟨rfl, ⟨nd, rfl⟩⟩; refine ⟨_, rfl, ?_⟩) | ((with_reducible refine gate_callee (f := 23) rfl ?_); refine goesL_ (some 48) rfl rfl Try.func23 (by kernel_rfl) rfl #[.slice A1 l1.length c1, .int .i64 (wrap64 (2 + t440))] rfl (by (try simp only [List.map_toArray, List.map_cons, List.map_nil]); first | done | rfl | (simp only [List.length_drop, List.length_take]; rfl)) ?_; (with_reducible refine (spec_A2Mark.calls _ _ l1 (wrap64 (2 + t440)) t441 _ ?side1 ?side2 A6.out).mono ?_); (case side1 => repeat (first | exact HR1.out | (with_reducible refine Kd.C_alloc ?_ _) | (with_reducible refine Kd.C_drewN ?_ _) | (with_reducible refine Kd.C_drew ?_))); (case side2 => exact HC1.out); rintro e w12 ⟨rfl, hb⟩; refine ⟨_, rfl, ?_⟩; have n0_ := Aside0.mk (below_step (by repeat (first | (with_reducible first | exact HB.out | apply below_alloc | apply pw_below_drewN | apply below_drew1) | exact HB.out)) hb); clear HB; have HB := n0_; clear n0_; (try clear hb); (try clear hb2); (try clear hk); (try clear hi)) | ((with_reducible refine gate_callee (f := 24) rfl ?_); refine goesL_ (some 52) rfl rfl Try.func24 (by kernel_rfl) rfl #[.int .i64 (wrap64 (2 + t440)), .int .u16 t441] rfl (by (try simp only [List.map_toArray, List.map_cons, List.map_nil]); first | done | rfl | (simp only [List.length_drop, List.length_take]; rfl)) ?_; (with_reducible refine (impl_ClassOf.calls k (wrap64 (2 + t440)) t441 t442 t443 _ A7.out).mono ?_); rintro e w13 ⟨rfl, hb⟩; refine ⟨_, rfl, ?_⟩; have n0_ := Aside0.mk (below_step (by repeat (first | (with_reducible first | exact HB.out | apply below_alloc | apply pw_below_drewN | apply below_drew1) | exact HB.out)) hb); clear HB; have HB := n0_; clear n0_; (try clear hb); (try clear hb2); (try clear hk); (try clear hi)) | ((with_reducible refine gate_callee (f := 25) rfl ?_); refine goesL_ (some 58) rfl rfl Try.func25 (by kernel_rfl) rfl #[.int .i64 (wrap64 (2 + t440)), .int .u16 t441] rfl (by (try simp only [List.map_toArray, List.map_cons, List.map_nil]); first | done | rfl | (simp only [List.length_drop, List.length_take]; rfl)) ?_; (with_reducible refine (spec_ClassOf.calls k (wrap64 (2 + t440)) t441 t444 t445 _ A8.out).mono ?_); rintro e w' ⟨rfl, ⟨nd, rfl⟩⟩; refine ⟨_, rfl, ?_⟩) | ((with_reducible refine gate_callee (f := 26) rfl ?_); refine goesL_ (some 63) rfl rfl Try.func26 (by kernel_rfl) rfl #[.int .i64 (wrap64 (2 + t440))] rfl (by (try simp only [List.map_toArray, List.map_cons, List.map_nil]); first | done | rfl | (simp only [List.length_drop, List.length_take]; rfl)) ?_; (with_reducible refine (impl_BestClass.calls k (wrap64 (2 + t440)) t446 t447 t448 _ A9.out).mono ?_); rintro e w14 ⟨rfl, hb⟩; refine ⟨_, rfl, ?_⟩; have n0_ := Aside0.mk (below_step (by repeat (first | (with_reducible first | exact HB.out | apply below_alloc | apply pw_below_drewN | apply below_drew1) | exact HB.out)) hb); clear HB; have HB := n0_; clear n0_; (try clear hb); (try clear hb2); (try clear hk); (try clear hi)) | ((with_reducible refine gate_callee (f := 27) rfl ?_); refine goesL_ (some 69) rfl rfl Try.func27 (by kernel_rfl) rfl #[.int .i64 (wrap64 (2 + t440))] rfl (by (try simp only [List.map_toArray, List.map_cons, List.map_nil]); first | done | rfl | (simp only [List.length_drop, List.length_take]; rfl)) ?_; (with_reducible refine (spec_BestClass.calls k (wrap64 (2 + t440)) t449 t450 t451 _ A10.out).mono ?_); rintro e w15 ⟨rfl, hb⟩; refine ⟨_, rfl, ?_⟩; have n0_ := Aside0.mk (below_step (by repeat (first | (with_reducible first | exact HB.out | apply below_alloc | apply pw_below_drewN | apply below_drew1) | exact HB.out)) hb); clear HB; have HB := n0_; clear n0_; (try clear hb); (try clear hb2); (try clear hk); (try clear hi)))
    (try simp only [Act.put, List.setIfInBounds_toArray, List.set_cons_zero, List.set_cons_succ])
    go_cut [116] (fun v116 wc => ∃ (kq : Nat) (x116_10 : Bool), v116 = .bool x116_10 ∧ Aside0 (laws_FnClasses.j0 kq (wrap64 (2 + t440)) t441 t444 t449 t450 x116_10 = some r) ∧ Aside0 (kq ≤ k) ∧ Aside0 (Below w.heap.size w wc))
    case first =>
      as_aux_lemma =>
        have H := HC11.out
        clear HC11
        by_cases c16 : t443 = t445
        · rw [if_pos c16] at H
          have c16b0 : (t443 == t445) = true := beq_iff_eq.mpr c16
          have c16b1 : (t443 != t445) = false := bne_eq_false_iff_eq.mpr c16
          clear c16
          (first | rw [c16b0] | (simp only [i64_w, i32_w]; rw [c16b0]) | skip)
          by_cases c17 : t443 = 0
          · rw [if_pos c17] at H
            have c17b0 : (t443 == 0) = true := beq_iff_eq.mpr c17
            have c17b1 : (t443 != 0) = false := bne_eq_false_iff_eq.mpr c17
            clear c17
            by_cases c18 : t442 = t444
            · rw [if_pos c18] at H
              have c18b0 : (t442 == t444) = true := beq_iff_eq.mpr c18
              have c18b1 : (t442 != t444) = false := bne_eq_false_iff_eq.mpr c18
              clear c18
              by_cases c19 : t444 < 0
              · rw [if_pos c19] at H
                have c19b0 : decide (t444 < 0) = true := decide_eq_true c19
                clear c19
                have H' := Aside0.mk H
                clear H
                go_wp2
                go_meet
                case rel => exact ⟨_, (true), (by first | rfl | (simp; done) | (simp [*]; done)), H', ⟨by first | omega | exact Nat.le_refl _⟩, ⟨by repeat (first | (with_reducible first | exact HB.out | apply below_alloc | apply pw_below_drewN | apply below_drew1) | exact HB.out)⟩⟩
              · rw [if_neg c19] at H
                have c19b0 : decide (t444 < 0) = false := decide_eq_false c19
                clear c19
                by_cases c20 : t444 > (wrap64 (2 + t440))
                · rw [if_pos c20] at H
                  have c20b0 : decide ((wrap64 (2 + t440)) < t444) = true := decide_eq_true c20
                  clear c20
                  have H' := Aside0.mk H
                  clear H
                  go_wp2
                  go_meet
                  case rel => exact ⟨_, (true), (by first | rfl | (simp; done) | (simp [*]; done)), H', ⟨by first | omega | exact Nat.le_refl _⟩, ⟨by repeat (first | (with_reducible first | exact HB.out | apply below_alloc | apply pw_below_drewN | apply below_drew1) | exact HB.out)⟩⟩
                · rw [if_neg c20] at H
                  have c20b0 : decide ((wrap64 (2 + t440)) < t444) = false := decide_eq_false c20
                  clear c20
                  by_cases c21 : t448 = t451
                  · rw [if_pos c21] at H
                    have c21b0 : (t448 == t451) = true := beq_iff_eq.mpr c21
                    have c21b1 : (t448 != t451) = false := bne_eq_false_iff_eq.mpr c21
                    clear c21
                    by_cases c22 : t448 = 0
                    · rw [if_pos c22] at H
                      have c22b0 : (t448 == 0) = true := beq_iff_eq.mpr c22
                      have c22b1 : (t448 != 0) = false := bne_eq_false_iff_eq.mpr c22
                      clear c22
                      by_cases c23 : t446 = t449
                      · rw [if_pos c23] at H
                        have c23b0 : (t446 == t449) = true := beq_iff_eq.mpr c23
                        have c23b1 : (t446 != t449) = false := bne_eq_false_iff_eq.mpr c23
                        clear c23
                        by_cases c24 : t447 = t450
                        · rw [if_pos c24] at H
                          have c24b0 : (t447 == t450) = true := beq_iff_eq.mpr c24
                          have c24b1 : (t447 != t450) = false := bne_eq_false_iff_eq.mpr c24
                          clear c24
                          have H' := Aside0.mk H
                          clear H
                          go_wp2
                          go_meet
                          case rel => exact ⟨_, (decide (t450 < 1)), (by first | rfl | (simp; done) | (simp [*]; done)), H', ⟨by first | omega | exact Nat.le_refl _⟩, ⟨by repeat (first | (with_reducible first | exact HB.out | apply below_alloc | apply pw_below_drewN | apply below_drew1) | exact HB.out)⟩⟩
                        · rw [if_neg c24] at H
                          have c24b0 : (t447 == t450) = false := beq_eq_false_iff_ne.mpr c24
                          have c24b1 : (t447 != t450) = true := bne_iff_ne.mpr c24
                          have H' := Aside0.mk H
                          clear H
                          go_wp2
                          go_meet
                          case rel => exact ⟨_, (true), (by first | rfl | (simp; done) | (simp [*]; done)), H', ⟨by first | omega | exact Nat.le_refl _⟩, ⟨by repeat (first | (with_reducible first | exact HB.out | apply below_alloc | apply pw_below_drewN | apply below_drew1) | exact HB.out)⟩⟩
                      · rw [if_neg c23] at H
                        have c23b0 : (t446 == t449) = false := beq_eq_false_iff_ne.mpr c23
                        have c23b1 : (t446 != t449) = true := bne_iff_ne.mpr c23
                        have H' := Aside0.mk H
                        clear H
                        go_wp2
                        go_meet
                        case rel => exact ⟨_, (true), (by first | rfl | (simp; done) | (simp [*]; done)), H', ⟨by first | omega | exact Nat.le_refl _⟩, ⟨by repeat (first | (with_reducible first | exact HB.out | apply below_alloc | apply pw_below_drewN | apply below_drew1) | exact HB.out)⟩⟩
                    · rw [if_neg c22] at H
                      have c22b0 : (t448 == 0) = false := beq_eq_false_iff_ne.mpr c22
                      have c22b1 : (t448 != 0) = true := bne_iff_ne.mpr c22
                      have H' := Aside0.mk H
                      clear H
                      go_wp2
                      go_meet
                      case rel => exact ⟨_, (true), (by first | rfl | (simp; done) | (simp [*]; done)), H', ⟨by first | omega | exact Nat.le_refl _⟩, ⟨by repeat (first | (with_reducible first | exact HB.out | apply below_alloc | apply pw_below_drewN | apply below_drew1) | exact HB.out)⟩⟩
                  · rw [if_neg c21] at H
                    have c21b0 : (t448 == t451) = false := beq_eq_false_iff_ne.mpr c21
                    have c21b1 : (t448 != t451) = true := bne_iff_ne.mpr c21
                    have H' := Aside0.mk H
                    clear H
                    go_wp2
                    go_meet
                    case rel => exact ⟨_, (true), (by first | rfl | (simp; done) | (simp [*]; done)), H', ⟨by first | omega | exact Nat.le_refl _⟩, ⟨by repeat (first | (with_reducible first | exact HB.out | apply below_alloc | apply pw_below_drewN | apply below_drew1) | exact HB.out)⟩⟩
            · rw [if_neg c18] at H
              have c18b0 : (t442 == t444) = false := beq_eq_false_iff_ne.mpr c18
              have c18b1 : (t442 != t444) = true := bne_iff_ne.mpr c18
              have H' := Aside0.mk H
              clear H
              go_wp2
              go_meet
              case rel => exact ⟨_, (true), (by first | rfl | (simp; done) | (simp [*]; done)), H', ⟨by first | omega | exact Nat.le_refl _⟩, ⟨by repeat (first | (with_reducible first | exact HB.out | apply below_alloc | apply pw_below_drewN | apply below_drew1) | exact HB.out)⟩⟩
          · rw [if_neg c17] at H
            have c17b0 : (t443 == 0) = false := beq_eq_false_iff_ne.mpr c17
            have c17b1 : (t443 != 0) = true := bne_iff_ne.mpr c17
            have H' := Aside0.mk H
            clear H
            go_wp2
            go_meet
            case rel => exact ⟨_, (true), (by first | rfl | (simp; done) | (simp [*]; done)), H', ⟨by first | omega | exact Nat.le_refl _⟩, ⟨by repeat (first | (with_reducible first | exact HB.out | apply below_alloc | apply pw_below_drewN | apply below_drew1) | exact HB.out)⟩⟩
        · rw [if_neg c16] at H
          have c16b0 : (t443 == t445) = false := beq_eq_false_iff_ne.mpr c16
          have c16b1 : (t443 != t445) = true := bne_iff_ne.mpr c16
          (first | rw [c16b0] | (simp only [i64_w, i32_w]; rw [c16b0]) | skip)
          have H' := Aside0.mk H
          clear H
          go_wp2
          go_meet
          case rel => exact ⟨_, (true), (by first | rfl | (simp; done) | (simp [*]; done)), H', ⟨by first | omega | exact Nat.le_refl _⟩, ⟨by repeat (first | (with_reducible first | exact HB.out | apply below_alloc | apply pw_below_drewN | apply below_drew1) | exact HB.out)⟩⟩
    case rest =>
      as_aux_lemma =>
        clear HC11
        try clear c1
        try clear c2
        try clear p2
        try clear c4
        try clear c5
        try clear p6
        try clear c16
        try clear c16b0
        try clear c16b1
        try clear c17
        try clear c17b0
        try clear c17b1
        try clear c18
        try clear c18b0
        try clear c18b1
        try clear c19
        try clear c19b0
        try clear c20
        try clear c20b0
        try clear c21
        try clear c21b0
        try clear c21b1
        try clear c22
        try clear c22b0
        try clear c22b1
        try clear c23
        try clear c23b0
        try clear c23b1
        try clear c24
        try clear c24b0
        try clear c24b1
        obtain ⟨kq, x116_10, rfl, HA, HJ10, HB⟩ := hcut
        cases kq with
        | zero => exact absurd HA.out (by simp [laws_FnClasses.j0])
        | succ kj10 =>
          have H := HA.out
          clear HA
          simp only [laws_FnClasses.j0] at H
          by_cases c25 : x116_10 = true
          · subst c25
            have H1 : (some false) = some r := by rw [if_pos rfl] at H; exact H
            clear H
            have H := H1
            clear H1
            obtain rfl := Option.some.inj H
            go_wp2
            go_ret
            exact ⟨by first | rfl | (simp [errW_none, errW_some] <;> rfl) | (simp [*, errW_none, errW_some] <;> rfl), by repeat (first | (with_reducible first | exact HB.out | apply below_alloc | apply pw_below_drewN | apply below_drew1) | exact HB.out)⟩
          · replace c25 := Bool.eq_false_iff.mpr c25
            subst c25
            have H1 : ((spec_LostFrom.f kj10 (wrap64 (2 + t440)) t441).bind fun bt452 => (laws_FnClasses.l0 kj10 (wrap64 (2 + t440)) t441 t444 t449 t450 bt452.1 bt452.2 0)) = some r := by rw [if_neg (show ¬ (false = true) by decide)] at H; exact H
            clear H
            have H := H1
            clear H1
            replace H := Option.bind_eq_some_iff.mp H
            obtain ⟨⟨t452, t453⟩, A260, H⟩ := H
            replace H : (laws_FnClasses.l0 kj10 (wrap64 (2 + t440)) t441 t444 t449 t450 t452 t453 0) = some r := H
            have A26 := Aside0.mk A260
            clear A260
            have H' := Aside0.mk H
            clear H
            go_wp2_with (first | ((with_reducible refine gate_callee (f := 28) rfl ?_); refine goesL_ (some 120) rfl rfl Try.func28 (by kernel_rfl) rfl #[.int .i64 (wrap64 (2 + t440)), .int .u16 t441] rfl (by (try simp only [List.map_toArray, List.map_cons, List.map_nil]); first | done | rfl | (simp only [List.length_drop, List.length_take]; rfl)) ?_; (with_reducible refine (spec_LostFrom.calls kj10 (wrap64 (2 + t440)) t441 t452 t453 _ A26.out).mono ?_); rintro e w27 ⟨v454, rfl, ho0, hb⟩; refine ⟨_, rfl, ?_⟩; have n0_ := Aside0.mk (Kd.R_lower ho0 (below_size (by repeat (first | (with_reducible first | exact HB.out | apply below_alloc | apply pw_below_drewN | apply below_drew1) | exact HB.out)))); have n1_ := Aside0.mk (below_step (by repeat (first | (with_reducible first | exact HB.out | apply below_alloc | apply pw_below_drewN | apply below_drew1) | exact HB.out)) hb); clear HB; have HO455 := n0_; have HB := n1_; clear n0_ n1_; (try clear hb); (try clear hb2); (try clear hk); (try clear hi); (try clear ho0)))
            go_loopg [19] kj10 (fun kq v19 w' => ∃ (x19_2 : Int), v19 = .int .i64 x19_2 ∧ Aside0 (laws_FnClasses.l0 kq (wrap64 (2 + t440)) t441 t444 t449 t450 t452 t453 x19_2 = some r) ∧ Aside0 (kq ≤ kj10) ∧ Aside0 (Kd.R (Kd.int .u16) 43 w' w.heap.size (fun _ => True) v454 t452) ∧ Aside0 (Below w.heap.size w w'))
            case atStart => exact ⟨(0), (by first | rfl | (simp; done) | (simp [*]; done)), H', ⟨Nat.le_refl _⟩, ⟨by (with_reducible repeat (first | apply Kd.R_alloc | apply Kd.R_drewN | apply Kd.R_drew)); exact HO455.out⟩, ⟨by repeat (first | (with_reducible first | exact HB.out | apply below_alloc | apply pw_below_drewN | apply below_drew1) | exact HB.out)⟩⟩
            case round =>
              as_aux_lemma =>
                clear H'
                try clear c1
                try clear c2
                try clear p2
                try clear c4
                try clear c5
                try clear p6
                try clear c16
                try clear c16b0
                try clear c16b1
                try clear c17
                try clear c17b0
                try clear c17b1
                try clear c18
                try clear c18b0
                try clear c18b1
                try clear c19
                try clear c19b0
                try clear c20
                try clear c20b0
                try clear c21
                try clear c21b0
                try clear c21b1
                try clear c22
                try clear c22b0
                try clear c22b1
                try clear c23
                try clear c23b0
                try clear c23b1
                try clear c24
                try clear c24b0
                try clear c24b1
                try clear c25
                try clear c26
                try clear c27
                try clear p2
                try clear p6
                obtain ⟨x19_2, rfl, HA, HK2, HO_17, HB⟩ := hrel
                cases gk with
                | zero => exact absurd HA.out (by simp [laws_FnClasses.l0])
                | succ k2 =>
                  have H := HA.out
                  clear HA
                  simp only [laws_FnClasses.l0] at H
                  by_cases c28 : x19_2 < (t452.length : Int)
                  · rw [if_pos c28] at H
                    have c28b0 : decide (x19_2 < (t452.length : Int)) = true := decide_eq_true c28
                    clear c28
                    by_cases c29 : 0 ≤ x19_2
                    · rw [if_pos c29] at H
                      have c29b0 : decide (0 ≤ x19_2) = true := decide_eq_true c29
                      clear c29
                      replace H := Option.bind_eq_some_iff.mp H
                      obtain ⟨⟨t457, t458⟩, A300, H⟩ := H
                      replace H : ((spec_MendStitch.f k2 (wrap64 (2 + t440)) t444 (rd t452 x19_2)).bind fun bt460 => (if t458 = bt460.2 then (if t458 = 0 then (if t457 = bt460.1 then (if bt460.1 = t441 then (laws_FnClasses.l0 k2 (wrap64 (2 + t440)) t441 t444 t449 t450 t452 t453 (wrap64 (x19_2 + 1))) else (some false)) else (some false)) else (some false)) else (some false))) = some r := H
                      have A30 := Aside0.mk A300
                      clear A300
                      replace H := Option.bind_eq_some_iff.mp H
                      obtain ⟨⟨t460, t461⟩, A310, H⟩ := H
                      replace H : (if t458 = t461 then (if t458 = 0 then (if t457 = t460 then (if t460 = t441 then (laws_FnClasses.l0 k2 (wrap64 (2 + t440)) t441 t444 t449 t450 t452 t453 (wrap64 (x19_2 + 1))) else (some false)) else (some false)) else (some false)) else (some false)) = some r := H
                      have A31 := Aside0.mk A310
                      clear A310
                      by_cases c32 : t458 = t461
                      · rw [if_pos c32] at H
                        have c32b0 : (t458 == t461) = true := beq_iff_eq.mpr c32
                        have c32b1 : (t458 != t461) = false := bne_eq_false_iff_eq.mpr c32
                        clear c32
                        by_cases c33 : t458 = 0
                        · rw [if_pos c33] at H
                          have c33b0 : (t458 == 0) = true := beq_iff_eq.mpr c33
                          have c33b1 : (t458 != 0) = false := bne_eq_false_iff_eq.mpr c33
                          clear c33
                          by_cases c34 : t457 = t460
                          · rw [if_pos c34] at H
                            have c34b0 : (t457 == t460) = true := beq_iff_eq.mpr c34
                            have c34b1 : (t457 != t460) = false := bne_eq_false_iff_eq.mpr c34
                            clear c34
                            by_cases c35 : t460 = t441
                            · rw [if_pos c35] at H
                              have c35b0 : (t460 == t441) = true := beq_iff_eq.mpr c35
                              have c35b1 : (t460 != t441) = false := bne_eq_false_iff_eq.mpr c35
                              clear c35
                              have H' := Aside0.mk H
                              clear H
                              obtain ⟨Ao36, co36, eo36⟩ := Kd.R_slice HO_17.out
                              subst eo36
                              have p456 : 0 ≤ (x19_2 : Int) := of_decide_eq_true (by first | (with_reducible assumption) | assumption)
                              have q456 : x19_2 < (t452.length : Int) := of_decide_eq_true (by first | (with_reducible assumption) | assumption)
                              obtain ⟨ad456, e456, hx456_0⟩ := Kd.at_int (Kd.R_reads' HO_17.out).2.2 x19_2 p456 q456
                              cases e456
                              replace p456 := eq_true p456
                              replace q456 := eq_true q456
                              go_wp2_with (first | ((with_reducible refine gate_callee (f := 29) rfl ?_); refine goesL_ (some 136) rfl rfl Try.func29 (by kernel_rfl) rfl #[.int .i64 (wrap64 (2 + t440)), .int .i64 t444, .int .u16 (rd t452 x19_2)] rfl (by (try simp only [List.map_toArray, List.map_cons, List.map_nil]); first | done | rfl | (simp only [List.length_drop, List.length_take]; rfl)) ?_; (with_reducible refine (impl_MendStitch.calls k2 (wrap64 (2 + t440)) t444 (rd t452 x19_2) t457 t458 _ A30.out).mono ?_); rintro e w37 ⟨rfl, hb⟩; refine ⟨_, rfl, ?_⟩; have n0_ := Aside0.mk (Kd.R_below (by (with_reducible repeat (first | apply Kd.R_alloc | apply Kd.R_drewN | apply Kd.R_drew)); exact HO_17.out) hb); have n1_ := Aside0.mk (below_step (by repeat (first | (with_reducible first | exact HB.out | apply below_alloc | apply pw_below_drewN | apply below_drew1) | exact HB.out)) hb); clear HO_17; clear HB; have HO_17 := n0_; have HB := n1_; clear n0_ n1_; (try clear hb); (try clear hb2); (try clear hk); (try clear hi); have p459 : 0 ≤ (x19_2 : Int) := of_decide_eq_true (by first | (with_reducible assumption) | assumption); have q459 : x19_2 < (t452.length : Int) := of_decide_eq_true (by first | (with_reducible assumption) | assumption); obtain ⟨ad459, e459, hx459_0⟩ := Kd.at_int (Kd.R_reads' HO_17.out).2.2 x19_2 p459 q459; obtain rfl : ad456 = ad459 := (by injection e459); replace p459 := eq_true p459; replace q459 := eq_true q459) | ((with_reducible refine gate_callee (f := 30) rfl ?_); refine goesL_ (some 146) rfl rfl Try.func30 (by kernel_rfl) rfl #[.int .i64 (wrap64 (2 + t440)), .int .i64 t444, .int .u16 (rd t452 x19_2)] rfl (by (try simp only [List.map_toArray, List.map_cons, List.map_nil]); first | done | rfl | (simp only [List.length_drop, List.length_take]; rfl)) ?_; (with_reducible refine (spec_MendStitch.calls k2 (wrap64 (2 + t440)) t444 (rd t452 x19_2) t460 t461 _ A31.out).mono ?_); rintro e w' ⟨rfl, ⟨nd, rfl⟩⟩; refine ⟨_, rfl, ?_⟩))
                              go_roundg k2
                              case measure => have := HJ10.out; have := HK2.out; omega
                              case rel => exact ⟨(wrap64 (x19_2 + 1)), (by first | rfl | (simp; done) | (simp [*]; done)), H', ⟨by have := HJ10.out; have := HK2.out; omega⟩, ⟨by (with_reducible repeat (first | apply Kd.R_alloc | apply Kd.R_drewN | apply Kd.R_drew)); exact HO_17.out⟩, ⟨by repeat (first | (with_reducible first | exact HB.out | apply below_alloc | apply pw_below_drewN | apply below_drew1) | exact HB.out)⟩⟩
                            · rw [if_neg c35] at H
                              have c35b0 : (t460 == t441) = false := beq_eq_false_iff_ne.mpr c35
                              have c35b1 : (t460 != t441) = true := bne_iff_ne.mpr c35
                              obtain rfl := Option.some.inj H
                              obtain ⟨Ao38, co38, eo38⟩ := Kd.R_slice HO_17.out
                              subst eo38
                              have p456 : 0 ≤ (x19_2 : Int) := of_decide_eq_true (by first | (with_reducible assumption) | assumption)
                              have q456 : x19_2 < (t452.length : Int) := of_decide_eq_true (by first | (with_reducible assumption) | assumption)
                              obtain ⟨ad456, e456, hx456_0⟩ := Kd.at_int (Kd.R_reads' HO_17.out).2.2 x19_2 p456 q456
                              cases e456
                              replace p456 := eq_true p456
                              replace q456 := eq_true q456
                              go_wp2_with (first | ((with_reducible refine gate_callee (f := 29) rfl ?_); refine goesL_ (some 136) rfl rfl Try.func29 (by kernel_rfl) rfl #[.int .i64 (wrap64 (2 + t440)), .int .i64 t444, .int .u16 (rd t452 x19_2)] rfl (by (try simp only [List.map_toArray, List.map_cons, List.map_nil]); first | done | rfl | (simp only [List.length_drop, List.length_take]; rfl)) ?_; (with_reducible refine (impl_MendStitch.calls k2 (wrap64 (2 + t440)) t444 (rd t452 x19_2) t457 t458 _ A30.out).mono ?_); rintro e w39 ⟨rfl, hb⟩; refine ⟨_, rfl, ?_⟩; have n0_ := Aside0.mk (Kd.R_below (by (with_reducible repeat (first | apply Kd.R_alloc | apply Kd.R_drewN | apply Kd.R_drew)); exact HO_17.out) hb); have n1_ := Aside0.mk (below_step (by repeat (first | (with_reducible first | exact HB.out | apply below_alloc | apply pw_below_drewN | apply below_drew1) | exact HB.out)) hb); clear HO_17; clear HB; have HO_17 := n0_; have HB := n1_; clear n0_ n1_; (try clear hb); (try clear hb2); (try clear hk); (try clear hi); have p459 : 0 ≤ (x19_2 : Int) := of_decide_eq_true (by first | (with_reducible assumption) | assumption); have q459 : x19_2 < (t452.length : Int) := of_decide_eq_true (by first | (with_reducible assumption) | assumption); obtain ⟨ad459, e459, hx459_0⟩ := Kd.at_int (Kd.R_reads' HO_17.out).2.2 x19_2 p459 q459; obtain rfl : ad456 = ad459 := (by injection e459); replace p459 := eq_true p459; replace q459 := eq_true q459) | ((with_reducible refine gate_callee (f := 30) rfl ?_); refine goesL_ (some 146) rfl rfl Try.func30 (by kernel_rfl) rfl #[.int .i64 (wrap64 (2 + t440)), .int .i64 t444, .int .u16 (rd t452 x19_2)] rfl (by (try simp only [List.map_toArray, List.map_cons, List.map_nil]); first | done | rfl | (simp only [List.length_drop, List.length_take]; rfl)) ?_; (with_reducible refine (spec_MendStitch.calls k2 (wrap64 (2 + t440)) t444 (rd t452 x19_2) t460 t461 _ A31.out).mono ?_); rintro e w' ⟨rfl, ⟨nd, rfl⟩⟩; refine ⟨_, rfl, ?_⟩))
                              go_ret
                              exact ⟨by first | rfl | (simp [errW_none, errW_some] <;> rfl) | (simp [*, errW_none, errW_some] <;> rfl), by repeat (first | (with_reducible first | exact HB.out | apply below_alloc | apply pw_below_drewN | apply below_drew1) | exact HB.out)⟩
                          · rw [if_neg c34] at H
                            have c34b0 : (t457 == t460) = false := beq_eq_false_iff_ne.mpr c34
                            have c34b1 : (t457 != t460) = true := bne_iff_ne.mpr c34
                            obtain rfl := Option.some.inj H
                            obtain ⟨Ao40, co40, eo40⟩ := Kd.R_slice HO_17.out
                            subst eo40
                            have p456 : 0 ≤ (x19_2 : Int) := of_decide_eq_true (by first | (with_reducible assumption) | assumption)
                            have q456 : x19_2 < (t452.length : Int) := of_decide_eq_true (by first | (with_reducible assumption) | assumption)
                            obtain ⟨ad456, e456, hx456_0⟩ := Kd.at_int (Kd.R_reads' HO_17.out).2.2 x19_2 p456 q456
                            cases e456
                            replace p456 := eq_true p456
                            replace q456 := eq_true q456
                            go_wp2_with (first | ((with_reducible refine gate_callee (f := 29) rfl ?_); refine goesL_ (some 136) rfl rfl Try.func29 (by kernel_rfl) rfl #[.int .i64 (wrap64 (2 + t440)), .int .i64 t444, .int .u16 (rd t452 x19_2)] rfl (by (try simp only [List.map_toArray, List.map_cons, List.map_nil]); first | done | rfl | (simp only [List.length_drop, List.length_take]; rfl)) ?_; (with_reducible refine (impl_MendStitch.calls k2 (wrap64 (2 + t440)) t444 (rd t452 x19_2) t457 t458 _ A30.out).mono ?_); rintro e w41 ⟨rfl, hb⟩; refine ⟨_, rfl, ?_⟩; have n0_ := Aside0.mk (Kd.R_below (by (with_reducible repeat (first | apply Kd.R_alloc | apply Kd.R_drewN | apply Kd.R_drew)); exact HO_17.out) hb); have n1_ := Aside0.mk (below_step (by repeat (first | (with_reducible first | exact HB.out | apply below_alloc | apply pw_below_drewN | apply below_drew1) | exact HB.out)) hb); clear HO_17; clear HB; have HO_17 := n0_; have HB := n1_; clear n0_ n1_; (try clear hb); (try clear hb2); (try clear hk); (try clear hi); have p459 : 0 ≤ (x19_2 : Int) := of_decide_eq_true (by first | (with_reducible assumption) | assumption); have q459 : x19_2 < (t452.length : Int) := of_decide_eq_true (by first | (with_reducible assumption) | assumption); obtain ⟨ad459, e459, hx459_0⟩ := Kd.at_int (Kd.R_reads' HO_17.out).2.2 x19_2 p459 q459; obtain rfl : ad456 = ad459 := (by injection e459); replace p459 := eq_true p459; replace q459 := eq_true q459) | ((with_reducible refine gate_callee (f := 30) rfl ?_); refine goesL_ (some 146) rfl rfl Try.func30 (by kernel_rfl) rfl #[.int .i64 (wrap64 (2 + t440)), .int .i64 t444, .int .u16 (rd t452 x19_2)] rfl (by (try simp only [List.map_toArray, List.map_cons, List.map_nil]); first | done | rfl | (simp only [List.length_drop, List.length_take]; rfl)) ?_; (with_reducible refine (spec_MendStitch.calls k2 (wrap64 (2 + t440)) t444 (rd t452 x19_2) t460 t461 _ A31.out).mono ?_); rintro e w' ⟨rfl, ⟨nd, rfl⟩⟩; refine ⟨_, rfl, ?_⟩))
                            go_ret
                            exact ⟨by first | rfl | (simp [errW_none, errW_some] <;> rfl) | (simp [*, errW_none, errW_some] <;> rfl), by repeat (first | (with_reducible first | exact HB.out | apply below_alloc | apply pw_below_drewN | apply below_drew1) | exact HB.out)⟩
                        · rw [if_neg c33] at H
                          have c33b0 : (t458 == 0) = false := beq_eq_false_iff_ne.mpr c33
                          have c33b1 : (t458 != 0) = true := bne_iff_ne.mpr c33
                          obtain rfl := Option.some.inj H
                          obtain ⟨Ao42, co42, eo42⟩ := Kd.R_slice HO_17.out
                          subst eo42
                          have p456 : 0 ≤ (x19_2 : Int) := of_decide_eq_true (by first | (with_reducible assumption) | assumption)
                          have q456 : x19_2 < (t452.length : Int) := of_decide_eq_true (by first | (with_reducible assumption) | assumption)
                          obtain ⟨ad456, e456, hx456_0⟩ := Kd.at_int (Kd.R_reads' HO_17.out).2.2 x19_2 p456 q456
                          cases e456
                          replace p456 := eq_true p456
                          replace q456 := eq_true q456
                          go_wp2_with (first | ((with_reducible refine gate_callee (f := 29) rfl ?_); refine goesL_ (some 136) rfl rfl Try.func29 (by kernel_rfl) rfl #[.int .i64 (wrap64 (2 + t440)), .int .i64 t444, .int .u16 (rd t452 x19_2)] rfl (by (try simp only [List.map_toArray, List.map_cons, List.map_nil]); first | done | rfl | (simp only [List.length_drop, List.length_take]; rfl)) ?_; (with_reducible refine (impl_MendStitch.calls k2 (wrap64 (2 + t440)) t444 (rd t452 x19_2) t457 t458 _ A30.out).mono ?_); rintro e w43 ⟨rfl, hb⟩; refine ⟨_, rfl, ?_⟩; have n0_ := Aside0.mk (Kd.R_below (by (with_reducible repeat (first | apply Kd.R_alloc | apply Kd.R_drewN | apply Kd.R_drew)); exact HO_17.out) hb); have n1_ := Aside0.mk (below_step (by repeat (first | (with_reducible first | exact HB.out | apply below_alloc | apply pw_below_drewN | apply below_drew1) | exact HB.out)) hb); clear HO_17; clear HB; have HO_17 := n0_; have HB := n1_; clear n0_ n1_; (try clear hb); (try clear hb2); (try clear hk); (try clear hi); have p459 : 0 ≤ (x19_2 : Int) := of_decide_eq_true (by first | (with_reducible assumption) | assumption); have q459 : x19_2 < (t452.length : Int) := of_decide_eq_true (by first | (with_reducible assumption) | assumption); obtain ⟨ad459, e459, hx459_0⟩ := Kd.at_int (Kd.R_reads' HO_17.out).2.2 x19_2 p459 q459; obtain rfl : ad456 = ad459 := (by injection e459); replace p459 := eq_true p459; replace q459 := eq_true q459) | ((with_reducible refine gate_callee (f := 30) rfl ?_); refine goesL_ (some 146) rfl rfl Try.func30 (by kernel_rfl) rfl #[.int .i64 (wrap64 (2 + t440)), .int .i64 t444, .int .u16 (rd t452 x19_2)] rfl (by (try simp only [List.map_toArray, List.map_cons, List.map_nil]); first | done | rfl | (simp only [List.length_drop, List.length_take]; rfl)) ?_; (with_reducible refine (spec_MendStitch.calls k2 (wrap64 (2 + t440)) t444 (rd t452 x19_2) t460 t461 _ A31.out).mono ?_); rintro e w' ⟨rfl, ⟨nd, rfl⟩⟩; refine ⟨_, rfl, ?_⟩))
                          go_ret
                          exact ⟨by first | rfl | (simp [errW_none, errW_some] <;> rfl) | (simp [*, errW_none, errW_some] <;> rfl), by repeat (first | (with_reducible first | exact HB.out | apply below_alloc | apply pw_below_drewN | apply below_drew1) | exact HB.out)⟩
                      · rw [if_neg c32] at H
                        have c32b0 : (t458 == t461) = false := beq_eq_false_iff_ne.mpr c32
                        have c32b1 : (t458 != t461) = true := bne_iff_ne.mpr c32
                        obtain rfl := Option.some.inj H
                        obtain ⟨Ao44, co44, eo44⟩ := Kd.R_slice HO_17.out
                        subst eo44
                        have p456 : 0 ≤ (x19_2 : Int) := of_decide_eq_true (by first | (with_reducible assumption) | assumption)
                        have q456 : x19_2 < (t452.length : Int) := of_decide_eq_true (by first | (with_reducible assumption) | assumption)
                        obtain ⟨ad456, e456, hx456_0⟩ := Kd.at_int (Kd.R_reads' HO_17.out).2.2 x19_2 p456 q456
                        cases e456
                        replace p456 := eq_true p456
                        replace q456 := eq_true q456
                        go_wp2_with (first | ((with_reducible refine gate_callee (f := 29) rfl ?_); refine goesL_ (some 136) rfl rfl Try.func29 (by kernel_rfl) rfl #[.int .i64 (wrap64 (2 + t440)), .int .i64 t444, .int .u16 (rd t452 x19_2)] rfl (by (try simp only [List.map_toArray, List.map_cons, List.map_nil]); first | done | rfl | (simp only [List.length_drop, List.length_take]; rfl)) ?_; (with_reducible refine (impl_MendStitch.calls k2 (wrap64 (2 + t440)) t444 (rd t452 x19_2) t457 t458 _ A30.out).mono ?_); rintro e w45 ⟨rfl, hb⟩; refine ⟨_, rfl, ?_⟩; have n0_ := Aside0.mk (Kd.R_below (by (with_reducible repeat (first | apply Kd.R_alloc | apply Kd.R_drewN | apply Kd.R_drew)); exact HO_17.out) hb); have n1_ := Aside0.mk (below_step (by repeat (first | (with_reducible first | exact HB.out | apply below_alloc | apply pw_below_drewN | apply below_drew1) | exact HB.out)) hb); clear HO_17; clear HB; have HO_17 := n0_; have HB := n1_; clear n0_ n1_; (try clear hb); (try clear hb2); (try clear hk); (try clear hi); have p459 : 0 ≤ (x19_2 : Int) := of_decide_eq_true (by first | (with_reducible assumption) | assumption); have q459 : x19_2 < (t452.length : Int) := of_decide_eq_true (by first | (with_reducible assumption) | assumption); obtain ⟨ad459, e459, hx459_0⟩ := Kd.at_int (Kd.R_reads' HO_17.out).2.2 x19_2 p459 q459; obtain rfl : ad456 = ad459 := (by injection e459); replace p459 := eq_true p459; replace q459 := eq_true q459) | ((with_reducible refine gate_callee (f := 30) rfl ?_); refine goesL_ (some 146) rfl rfl Try.func30 (by kernel_rfl) rfl #[.int .i64 (wrap64 (2 + t440)), .int .i64 t444, .int .u16 (rd t452 x19_2)] rfl (by (try simp only [List.map_toArray, List.map_cons, List.map_nil]); first | done | rfl | (simp only [List.length_drop, List.length_take]; rfl)) ?_; (with_reducible refine (spec_MendStitch.calls k2 (wrap64 (2 + t440)) t444 (rd t452 x19_2) t460 t461 _ A31.out).mono ?_); rintro e w' ⟨rfl, ⟨nd, rfl⟩⟩; refine ⟨_, rfl, ?_⟩))
                        go_ret
                        exact ⟨by first | rfl | (simp [errW_none, errW_some] <;> rfl) | (simp [*, errW_none, errW_some] <;> rfl), by repeat (first | (with_reducible first | exact HB.out | apply below_alloc | apply pw_below_drewN | apply below_drew1) | exact HB.out)⟩
                    · rw [if_neg c29] at H
                      exact absurd H (by simp)
                  · rw [if_neg c28] at H
                    have c28b0 : decide (x19_2 < (t452.length : Int)) = false := decide_eq_false c28
                    clear c28
                    have H' := Aside0.mk H
                    clear H
                    obtain ⟨Ao46, co46, eo46⟩ := Kd.R_slice HO_17.out
                    subst eo46
                    go_wp2
                    go_loopg [24, 25] k2 (fun kq v24 v25 w' => ∃ (x24_3 : Int) (x25_3 : Int), v24 = .int .i64 x24_3 ∧ v25 = .int .i64 x25_3 ∧ Aside0 (laws_FnClasses.l1 kq (wrap64 (2 + t440)) t441 t444 t449 t450 t452 t453 x24_3 x25_3 = some r) ∧ Aside0 (kq ≤ k2) ∧ Aside0 (Kd.R (Kd.int .u16) 43 w' w.heap.size (fun _ => True) (.slice Ao46 t452.length co46) t452) ∧ Aside0 (Below w.heap.size w w'))
                    case atStart => exact ⟨(0), (0), (by first | rfl | (simp; done) | (simp [*]; done)), (by first | rfl | (simp; done) | (simp [*]; done)), H', ⟨Nat.le_refl _⟩, ⟨by (with_reducible repeat (first | apply Kd.R_alloc | apply Kd.R_drewN | apply Kd.R_drew)); exact HO_17.out⟩, ⟨by repeat (first | (with_reducible first | exact HB.out | apply below_alloc | apply pw_below_drewN | apply below_drew1) | exact HB.out)⟩⟩
                    case round =>
                      as_aux_lemma =>
                        clear H'
                        try clear c1
                        try clear c2
                        try clear p2
                        try clear c3
                        try clear c4
                        try clear p4
                        try clear q4
                        try clear hx4
                        try clear c5
                        try clear p6
                        try clear c16
                        try clear c16b0
                        try clear c16b1
                        try clear c17
                        try clear c17b0
                        try clear c17b1
                        try clear c18
                        try clear c18b0
                        try clear c18b1
                        try clear c19
                        try clear c19b0
                        try clear c20
                        try clear c20b0
                        try clear c21
                        try clear c21b0
                        try clear c21b1
                        try clear c22
                        try clear c22b0
                        try clear c22b1
                        try clear c23
                        try clear c23b0
                        try clear c23b1
                        try clear c24
                        try clear c24b0
                        try clear c24b1
                        try clear c25
                        try clear c26
                        try clear c27
                        try clear c28
                        try clear c28b0
                        try clear c29
                        try clear c29b0
                        try clear c30
                        try clear c32
                        try clear c32b0
                        try clear c32b1
                        try clear c33
                        try clear c33b0
                        try clear c33b1
                        try clear c34
                        try clear c34b0
                        try clear c34b1
                        try clear c35
                        try clear c35b0
                        try clear c35b1
                        try clear p45
                        try clear q45
                        try clear hx45
                        try clear hx456_0
                        try clear hx459_0
                        try clear p2
                        try clear p456
                        try clear p459
                        try clear p6
                        try clear q456
                        try clear q459
                        obtain ⟨x24_3, x25_3, rfl, rfl, HA, HK3, HO_17, HB⟩ := hrel
                        cases gk with
                        | zero => exact absurd HA.out (by simp [laws_FnClasses.l1])
                        | succ k3 =>
                          have H := HA.out
                          clear HA
                          simp only [laws_FnClasses.l1] at H
                          by_cases c47 : x25_3 ≤ (wrap64 (2 + t440))
                          · rw [if_pos c47] at H
                            have c47b0 : decide (x25_3 ≤ (wrap64 (2 + t440))) = true := decide_eq_true c47
                            clear c47
                            replace H := Option.bind_eq_some_iff.mp H
                            obtain ⟨⟨t462, t463⟩, A480, H⟩ := H
                            replace H : ((spec_ClassMarks.f k3 (wrap64 (2 + t440)) x25_3).bind fun bt466 => ((impl_CheckMarks.f k3 (wrap64 (2 + t440)) bt466.1).bind fun bt470 => (if t463 = bt466.2 then (if t463 = 0 then ((spec_A2SameMarks.f k3 t462 bt466.1).bind fun t472 => (if t472 = true then (if bt470.2 = 0 then (if bt470.1 = true then (if (bt466.1.length : Int) > t450 then (laws_FnClasses.j3 k3 (wrap64 (2 + t440)) t441 t444 t449 t450 t452 t453 x24_3 x25_3 bt466.1 true) else (if x25_3 < t449 then (if (bt466.1.length : Int) = t450 then (laws_FnClasses.j3 k3 (wrap64 (2 + t440)) t441 t444 t449 t450 t452 t453 x24_3 x25_3 bt466.1 true) else (if x25_3 = t449 then (laws_FnClasses.j3 k3 (wrap64 (2 + t440)) t441 t444 t449 t450 t452 t453 x24_3 x25_3 bt466.1 true) else ((spec_A2HasMark.f k3 bt466.1 t441).bind fun t473 => (laws_FnClasses.j3 k3 (wrap64 (2 + t440)) t441 t444 t449 t450 t452 t453 x24_3 x25_3 bt466.1 (t473 != (x25_3 == t444)))))) else (if x25_3 = t449 then (if (bt466.1.length : Int) = t450 then ((spec_A2HasMark.f k3 bt466.1 t441).bind fun t474 => (laws_FnClasses.j3 k3 (wrap64 (2 + t440)) t441 t444 t449 t450 t452 t453 x24_3 x25_3 bt466.1 (t474 != (x25_3 == t444)))) else (laws_FnClasses.j3 k3 (wrap64 (2 + t440)) t441 t444 t449 t450 t452 t453 x24_3 x25_3 bt466.1 true)) else ((spec_A2HasMark.f k3 bt466.1 t441).bind fun t475 => (laws_FnClasses.j3 k3 (wrap64 (2 + t440)) t441 t444 t449 t450 t452 t453 x24_3 x25_3 bt466.1 (t475 != (x25_3 == t444))))))) else (laws_FnClasses.j3 k3 (wrap64 (2 + t440)) t441 t444 t449 t450 t452 t453 x24_3 x25_3 bt466.1 true)) else (laws_FnClasses.j3 k3 (wrap64 (2 + t440)) t441 t444 t449 t450 t452 t453 x24_3 x25_3 bt466.1 true)) else (laws_FnClasses.j3 k3 (wrap64 (2 + t440)) t441 t444 t449 t450 t452 t453 x24_3 x25_3 bt466.1 true))) else (laws_FnClasses.j3 k3 (wrap64 (2 + t440)) t441 t444 t449 t450 t452 t453 x24_3 x25_3 bt466.1 true)) else (laws_FnClasses.j3 k3 (wrap64 (2 + t440)) t441 t444 t449 t450 t452 t453 x24_3 x25_3 bt466.1 true)))) = some r := H
                            have A48 := Aside0.mk A480
                            clear A480
                            replace H := Option.bind_eq_some_iff.mp H
                            obtain ⟨⟨t466, t467⟩, A490, H⟩ := H
                            replace H : ((impl_CheckMarks.f k3 (wrap64 (2 + t440)) t466).bind fun bt470 => (if t463 = t467 then (if t463 = 0 then ((spec_A2SameMarks.f k3 t462 t466).bind fun t472 => (if t472 = true then (if bt470.2 = 0 then (if bt470.1 = true then (if (t466.length : Int) > t450 then (laws_FnClasses.j3 k3 (wrap64 (2 + t440)) t441 t444 t449 t450 t452 t453 x24_3 x25_3 t466 true) else (if x25_3 < t449 then (if (t466.length : Int) = t450 then (laws_FnClasses.j3 k3 (wrap64 (2 + t440)) t441 t444 t449 t450 t452 t453 x24_3 x25_3 t466 true) else (if x25_3 = t449 then (laws_FnClasses.j3 k3 (wrap64 (2 + t440)) t441 t444 t449 t450 t452 t453 x24_3 x25_3 t466 true) else ((spec_A2HasMark.f k3 t466 t441).bind fun t473 => (laws_FnClasses.j3 k3 (wrap64 (2 + t440)) t441 t444 t449 t450 t452 t453 x24_3 x25_3 t466 (t473 != (x25_3 == t444)))))) else (if x25_3 = t449 then (if (t466.length : Int) = t450 then ((spec_A2HasMark.f k3 t466 t441).bind fun t474 => (laws_FnClasses.j3 k3 (wrap64 (2 + t440)) t441 t444 t449 t450 t452 t453 x24_3 x25_3 t466 (t474 != (x25_3 == t444)))) else (laws_FnClasses.j3 k3 (wrap64 (2 + t440)) t441 t444 t449 t450 t452 t453 x24_3 x25_3 t466 true)) else ((spec_A2HasMark.f k3 t466 t441).bind fun t475 => (laws_FnClasses.j3 k3 (wrap64 (2 + t440)) t441 t444 t449 t450 t452 t453 x24_3 x25_3 t466 (t475 != (x25_3 == t444))))))) else (laws_FnClasses.j3 k3 (wrap64 (2 + t440)) t441 t444 t449 t450 t452 t453 x24_3 x25_3 t466 true)) else (laws_FnClasses.j3 k3 (wrap64 (2 + t440)) t441 t444 t449 t450 t452 t453 x24_3 x25_3 t466 true)) else (laws_FnClasses.j3 k3 (wrap64 (2 + t440)) t441 t444 t449 t450 t452 t453 x24_3 x25_3 t466 true))) else (laws_FnClasses.j3 k3 (wrap64 (2 + t440)) t441 t444 t449 t450 t452 t453 x24_3 x25_3 t466 true)) else (laws_FnClasses.j3 k3 (wrap64 (2 + t440)) t441 t444 t449 t450 t452 t453 x24_3 x25_3 t466 true))) = some r := H
                            have A49 := Aside0.mk A490
                            clear A490
                            replace H := Option.bind_eq_some_iff.mp H
                            obtain ⟨⟨t470, t471⟩, A500, H⟩ := H
                            replace H : (if t463 = t467 then (if t463 = 0 then ((spec_A2SameMarks.f k3 t462 t466).bind fun t472 => (if t472 = true then (if t471 = 0 then (if t470 = true then (if (t466.length : Int) > t450 then (laws_FnClasses.j3 k3 (wrap64 (2 + t440)) t441 t444 t449 t450 t452 t453 x24_3 x25_3 t466 true) else (if x25_3 < t449 then (if (t466.length : Int) = t450 then (laws_FnClasses.j3 k3 (wrap64 (2 + t440)) t441 t444 t449 t450 t452 t453 x24_3 x25_3 t466 true) else (if x25_3 = t449 then (laws_FnClasses.j3 k3 (wrap64 (2 + t440)) t441 t444 t449 t450 t452 t453 x24_3 x25_3 t466 true) else ((spec_A2HasMark.f k3 t466 t441).bind fun t473 => (laws_FnClasses.j3 k3 (wrap64 (2 + t440)) t441 t444 t449 t450 t452 t453 x24_3 x25_3 t466 (t473 != (x25_3 == t444)))))) else (if x25_3 = t449 then (if (t466.length : Int) = t450 then ((spec_A2HasMark.f k3 t466 t441).bind fun t474 => (laws_FnClasses.j3 k3 (wrap64 (2 + t440)) t441 t444 t449 t450 t452 t453 x24_3 x25_3 t466 (t474 != (x25_3 == t444)))) else (laws_FnClasses.j3 k3 (wrap64 (2 + t440)) t441 t444 t449 t450 t452 t453 x24_3 x25_3 t466 true)) else ((spec_A2HasMark.f k3 t466 t441).bind fun t475 => (laws_FnClasses.j3 k3 (wrap64 (2 + t440)) t441 t444 t449 t450 t452 t453 x24_3 x25_3 t466 (t475 != (x25_3 == t444))))))) else (laws_FnClasses.j3 k3 (wrap64 (2 + t440)) t441 t444 t449 t450 t452 t453 x24_3 x25_3 t466 true)) else (laws_FnClasses.j3 k3 (wrap64 (2 + t440)) t441 t444 t449 t450 t452 t453 x24_3 x25_3 t466 true)) else (laws_FnClasses.j3 k3 (wrap64 (2 + t440)) t441 t444 t449 t450 t452 t453 x24_3 x25_3 t466 true))) else (laws_FnClasses.j3 k3 (wrap64 (2 + t440)) t441 t444 t449 t450 t452 t453 x24_3 x25_3 t466 true)) else (laws_FnClasses.j3 k3 (wrap64 (2 + t440)) t441 t444 t449 t450 t452 t453 x24_3 x25_3 t466 true)) = some r := H
                            have A50 := Aside0.mk A500
                            clear A500
                            have HC51 := Aside0.mk H
                            clear H
                            go_upto_region 26 with (first | ((with_reducible refine gate_callee (f := 31) rfl ?_); refine goesL_ (some 174) rfl rfl Try.func31 (by kernel_rfl) rfl #[.int .i64 (wrap64 (2 + t440)), .int .i64 x25_3] rfl (by (try simp only [List.map_toArray, List.map_cons, List.map_nil]); first | done | rfl | (simp only [List.length_drop, List.length_take]; rfl)) ?_; (with_reducible refine (impl_ClassMarks.calls k3 (wrap64 (2 + t440)) x25_3 t462 t463 _ A48.out).mono ?_); rintro e w52 ⟨v464, rfl, ho0, hb⟩; refine ⟨_, rfl, ?_⟩; have n0_ := Aside0.mk (Kd.R_elder' (by (with_reducible repeat (first | apply Kd.R_alloc | apply Kd.R_drewN | apply Kd.R_drew)); exact HO_17.out) (Kd.R_base ho0) hb); have n1_ := Aside0.mk (Kd.R_lower (Kd.R_new' ho0 (Kd.R_lt (by (with_reducible repeat (first | apply Kd.R_alloc | apply Kd.R_drewN | apply Kd.R_drew)); exact HO_17.out))) (below_size (by repeat (first | (with_reducible first | exact HB.out | apply below_alloc | apply pw_below_drewN | apply below_drew1) | exact HB.out)))); have n2_ := Aside0.mk (below_step (by repeat (first | (with_reducible first | exact HB.out | apply below_alloc | apply pw_below_drewN | apply below_drew1) | exact HB.out)) hb); clear HO_17; clear HB; have HO_17 := n0_; have HO465 := n1_; have HB := n2_; clear n0_ n1_ n2_; (try clear hb); (try clear hb2); (try clear hk); (try clear hi); (try clear ho0)) | ((with_reducible refine gate_callee (f := 32) rfl ?_); refine goesL_ (some 180) rfl rfl Try.func32 (by kernel_rfl) rfl #[.int .i64 (wrap64 (2 + t440)), .int .i64 x25_3] rfl (by (try simp only [List.map_toArray, List.map_cons, List.map_nil]); first | done | rfl | (simp only [List.length_drop, List.length_take]; rfl)) ?_; (with_reducible refine (spec_ClassMarks.calls k3 (wrap64 (2 + t440)) x25_3 t466 t467 _ A49.out).mono ?_); rintro e w53 ⟨v468, rfl, ho0, hb⟩; refine ⟨_, rfl, ?_⟩; have n0_ := Aside0.mk (Kd.R_elder' (by (with_reducible repeat (first | apply Kd.R_alloc | apply Kd.R_drewN | apply Kd.R_drew)); exact HO_17.out) (Kd.R_base ho0) hb); have n1_ := Aside0.mk (Kd.R_elder' (by (with_reducible repeat (first | apply Kd.R_alloc | apply Kd.R_drewN | apply Kd.R_drew)); exact HO465.out) (Kd.R_base ho0) hb); have n2_ := Aside0.mk (Kd.R_lower (Kd.R_new' (Kd.R_new' ho0 (Kd.R_lt (by (with_reducible repeat (first | apply Kd.R_alloc | apply Kd.R_drewN | apply Kd.R_drew)); exact HO_17.out))) (Kd.R_lt (by (with_reducible repeat (first | apply Kd.R_alloc | apply Kd.R_drewN | apply Kd.R_drew)); exact HO465.out))) (below_size (by repeat (first | (with_reducible first | exact HB.out | apply below_alloc | apply pw_below_drewN | apply below_drew1) | exact HB.out)))); have n3_ := Aside0.mk (below_step (by repeat (first | (with_reducible first | exact HB.out | apply below_alloc | apply pw_below_drewN | apply below_drew1) | exact HB.out)) hb); clear HO_17; clear HO465; clear HB; have HO_17 := n0_; have HO465 := n1_; have HO469 := n2_; have HB := n3_; clear n0_ n1_ n2_ n3_; (try clear hb); (try clear hb2); (try clear hk); (try clear hi); (try clear ho0); obtain ⟨Ao54, co54, eo54⟩ := Kd.R_slice HO469.out; subst eo54) | ((with_reducible refine gate_callee (f := 33) rfl ?_); refine goesL_ (some 186) rfl rfl Try.func33 (by kernel_rfl) rfl #[.int .i64 (wrap64 (2 + t440)), .slice Ao54 t466.length co54] rfl (by (try simp only [List.map_toArray, List.map_cons, List.map_nil]); first | done | rfl | (simp only [List.length_drop, List.length_take]; rfl)) ?_; (with_reducible refine (impl_CheckMarks.calls k3 (wrap64 (2 + t440)) _ _ t466 t470 t471 _ ?side1 ?side2 A50.out).mono ?_); (case side1 => repeat (first | exact (Kd.R_reads' HO469.out).2.2 | (with_reducible refine Kd.C_alloc ?_ _) | (with_reducible refine Kd.C_drewN ?_ _) | (with_reducible refine Kd.C_drew ?_))); (case side2 => exact (Kd.R_reads' HO469.out).2.1); rintro e w55 ⟨rfl, hb⟩; refine ⟨_, rfl, ?_⟩; have n0_ := Aside0.mk (Kd.R_below (by (with_reducible repeat (first | apply Kd.R_alloc | apply Kd.R_drewN | apply Kd.R_drew)); exact HO_17.out) hb); have n1_ := Aside0.mk (Kd.R_below (by (with_reducible repeat (first | apply Kd.R_alloc | apply Kd.R_drewN | apply Kd.R_drew)); exact HO465.out) hb); have n2_ := Aside0.mk (Kd.R_below (by (with_reducible repeat (first | apply Kd.R_alloc | apply Kd.R_drewN | apply Kd.R_drew)); exact HO469.out) hb); have n3_ := Aside0.mk (below_step (by repeat (first | (with_reducible first | exact HB.out | apply below_alloc | apply pw_below_drewN | apply below_drew1) | exact HB.out)) hb); clear HO_17; clear HO465; clear HO469; clear HB; have HO_17 := n0_; have HO465 := n1_; have HO469 := n2_; have HB := n3_; clear n0_ n1_ n2_ n3_; (try clear hb); (try clear hb2); (try clear hk); (try clear hi)))
                            (try simp only [Act.put, List.setIfInBounds_toArray, List.set_cons_zero, List.set_cons_succ])
                            go_cut [246] (fun v246 wc => ∃ (kq : Nat) (x246_50 : Bool), v246 = .bool x246_50 ∧ Aside0 (laws_FnClasses.j3 kq (wrap64 (2 + t440)) t441 t444 t449 t450 t452 t453 x24_3 x25_3 t466 x246_50 = some r) ∧ Aside0 (kq ≤ k3) ∧ Aside0 (Kd.R (Kd.int .u16) 43 wc w.heap.size (fun k_ => some k_ ≠ ((.slice Ao54 t466.length co54) : Value).ownBlock) (.slice Ao46 t452.length co46) t452) ∧ Aside0 (Kd.R (Kd.int .u16) 43 wc w.heap.size (fun k_ => some k_ ≠ ((.slice Ao46 t452.length co46) : Value).ownBlock) (.slice Ao54 t466.length co54) t466) ∧ Aside0 (Below w.heap.size w wc))
                            case first =>
                              as_aux_lemma =>
                                have H := HC51.out
                                clear HC51
                                by_cases c56 : t463 = t467
                                · rw [if_pos c56] at H
                                  have c56b0 : (t463 == t467) = true := beq_iff_eq.mpr c56
                                  have c56b1 : (t463 != t467) = false := bne_eq_false_iff_eq.mpr c56
                                  clear c56
                                  (first | rw [c56b0] | (simp only [i64_w, i32_w]; rw [c56b0]) | skip)
                                  by_cases c57 : t463 = 0
                                  · rw [if_pos c57] at H
                                    have c57b0 : (t463 == 0) = true := beq_iff_eq.mpr c57
                                    have c57b1 : (t463 != 0) = false := bne_eq_false_iff_eq.mpr c57
                                    clear c57
                                    replace H := Option.bind_eq_some_iff.mp H
                                    obtain ⟨t472, A580, H⟩ := H
                                    replace H : (if t472 = true then (if t471 = 0 then (if t470 = true then (if (t466.length : Int) > t450 then (laws_FnClasses.j3 k3 (wrap64 (2 + t440)) t441 t444 t449 t450 t452 t453 x24_3 x25_3 t466 true) else (if x25_3 < t449 then (if (t466.length : Int) = t450 then (laws_FnClasses.j3 k3 (wrap64 (2 + t440)) t441 t444 t449 t450 t452 t453 x24_3 x25_3 t466 true) else (if x25_3 = t449 then (laws_FnClasses.j3 k3 (wrap64 (2 + t440)) t441 t444 t449 t450 t452 t453 x24_3 x25_3 t466 true) else ((spec_A2HasMark.f k3 t466 t441).bind fun t473 => (laws_FnClasses.j3 k3 (wrap64 (2 + t440)) t441 t444 t449 t450 t452 t453 x24_3 x25_3 t466 (t473 != (x25_3 == t444)))))) else (if x25_3 = t449 then (if (t466.length : Int) = t450 then ((spec_A2HasMark.f k3 t466 t441).bind fun t474 => (laws_FnClasses.j3 k3 (wrap64 (2 + t440)) t441 t444 t449 t450 t452 t453 x24_3 x25_3 t466 (t474 != (x25_3 == t444)))) else (laws_FnClasses.j3 k3 (wrap64 (2 + t440)) t441 t444 t449 t450 t452 t453 x24_3 x25_3 t466 true)) else ((spec_A2HasMark.f k3 t466 t441).bind fun t475 => (laws_FnClasses.j3 k3 (wrap64 (2 + t440)) t441 t444 t449 t450 t452 t453 x24_3 x25_3 t466 (t475 != (x25_3 == t444))))))) else (laws_FnClasses.j3 k3 (wrap64 (2 + t440)) t441 t444 t449 t450 t452 t453 x24_3 x25_3 t466 true)) else (laws_FnClasses.j3 k3 (wrap64 (2 + t440)) t441 t444 t449 t450 t452 t453 x24_3 x25_3 t466 true)) else (laws_FnClasses.j3 k3 (wrap64 (2 + t440)) t441 t444 t449 t450 t452 t453 x24_3 x25_3 t466 true)) = some r := H
                                    have A58 := Aside0.mk A580
                                    clear A580
                                    by_cases c59 : t472 = true
                                    · subst c59
                                      have H1 : (if t471 = 0 then (if t470 = true then (if (t466.length : Int) > t450 then (laws_FnClasses.j3 k3 (wrap64 (2 + t440)) t441 t444 t449 t450 t452 t453 x24_3 x25_3 t466 true) else (if x25_3 < t449 then (if (t466.length : Int) = t450 then (laws_FnClasses.j3 k3 (wrap64 (2 + t440)) t441 t444 t449 t450 t452 t453 x24_3 x25_3 t466 true) else (if x25_3 = t449 then (laws_FnClasses.j3 k3 (wrap64 (2 + t440)) t441 t444 t449 t450 t452 t453 x24_3 x25_3 t466 true) else ((spec_A2HasMark.f k3 t466 t441).bind fun t473 => (laws_FnClasses.j3 k3 (wrap64 (2 + t440)) t441 t444 t449 t450 t452 t453 x24_3 x25_3 t466 (t473 != (x25_3 == t444)))))) else (if x25_3 = t449 then (if (t466.length : Int) = t450 then ((spec_A2HasMark.f k3 t466 t441).bind fun t474 => (laws_FnClasses.j3 k3 (wrap64 (2 + t440)) t441 t444 t449 t450 t452 t453 x24_3 x25_3 t466 (t474 != (x25_3 == t444)))) else (laws_FnClasses.j3 k3 (wrap64 (2 + t440)) t441 t444 t449 t450 t452 t453 x24_3 x25_3 t466 true)) else ((spec_A2HasMark.f k3 t466 t441).bind fun t475 => (laws_FnClasses.j3 k3 (wrap64 (2 + t440)) t441 t444 t449 t450 t452 t453 x24_3 x25_3 t466 (t475 != (x25_3 == t444))))))) else (laws_FnClasses.j3 k3 (wrap64 (2 + t440)) t441 t444 t449 t450 t452 t453 x24_3 x25_3 t466 true)) else (laws_FnClasses.j3 k3 (wrap64 (2 + t440)) t441 t444 t449 t450 t452 t453 x24_3 x25_3 t466 true)) = some r := by rw [if_pos rfl] at H; exact H
                                      clear H
                                      have H := H1
                                      clear H1
                                      by_cases c60 : t471 = 0
                                      · rw [if_pos c60] at H
                                        have c60b0 : (t471 == 0) = true := beq_iff_eq.mpr c60
                                        have c60b1 : (t471 != 0) = false := bne_eq_false_iff_eq.mpr c60
                                        clear c60
                                        by_cases c61 : t470 = true
                                        · subst c61
                                          have H1 : (if (t466.length : Int) > t450 then (laws_FnClasses.j3 k3 (wrap64 (2 + t440)) t441 t444 t449 t450 t452 t453 x24_3 x25_3 t466 true) else (if x25_3 < t449 then (if (t466.length : Int) = t450 then (laws_FnClasses.j3 k3 (wrap64 (2 + t440)) t441 t444 t449 t450 t452 t453 x24_3 x25_3 t466 true) else (if x25_3 = t449 then (laws_FnClasses.j3 k3 (wrap64 (2 + t440)) t441 t444 t449 t450 t452 t453 x24_3 x25_3 t466 true) else ((spec_A2HasMark.f k3 t466 t441).bind fun t473 => (laws_FnClasses.j3 k3 (wrap64 (2 + t440)) t441 t444 t449 t450 t452 t453 x24_3 x25_3 t466 (t473 != (x25_3 == t444)))))) else (if x25_3 = t449 then (if (t466.length : Int) = t450 then ((spec_A2HasMark.f k3 t466 t441).bind fun t474 => (laws_FnClasses.j3 k3 (wrap64 (2 + t440)) t441 t444 t449 t450 t452 t453 x24_3 x25_3 t466 (t474 != (x25_3 == t444)))) else (laws_FnClasses.j3 k3 (wrap64 (2 + t440)) t441 t444 t449 t450 t452 t453 x24_3 x25_3 t466 true)) else ((spec_A2HasMark.f k3 t466 t441).bind fun t475 => (laws_FnClasses.j3 k3 (wrap64 (2 + t440)) t441 t444 t449 t450 t452 t453 x24_3 x25_3 t466 (t475 != (x25_3 == t444))))))) = some r := by rw [if_pos rfl] at H; exact H
                                          clear H
                                          have H := H1
                                          clear H1
                                          by_cases c62 : (t466.length : Int) > t450
                                          · rw [if_pos c62] at H
                                            have c62b0 : decide (t450 < (t466.length : Int)) = true := decide_eq_true c62
                                            clear c62
                                            have H' := Aside0.mk H
                                            clear H
                                            obtain ⟨Ao63, co63, eo63⟩ := Kd.R_slice HO465.out
                                            subst eo63
                                            go_wp2_with (first | (go_at_call 34; (with_reducible refine (spec_A2SameMarks.calls k3 _ _ t462 _ _ t466 true _ ?side1 ?side2 ?side3 ?side4 A58.out).mono ?_); (case side1 => repeat (first | exact (Kd.R_reads' HO465.out).2.2 | (with_reducible refine Kd.C_alloc ?_ _) | (with_reducible refine Kd.C_drewN ?_ _) | (with_reducible refine Kd.C_drew ?_))); (case side2 => exact (Kd.R_reads' HO465.out).2.1); (case side3 => repeat (first | exact (Kd.R_reads' HO469.out).2.2 | (with_reducible refine Kd.C_alloc ?_ _) | (with_reducible refine Kd.C_drewN ?_ _) | (with_reducible refine Kd.C_drew ?_))); (case side4 => exact (Kd.R_reads' HO469.out).2.1); rintro e w' ⟨rfl, ⟨nd, rfl⟩⟩))
                                            go_meet
                                            case rel => exact ⟨_, (true), (by first | rfl | (simp; done) | (simp [*]; done)), H', ⟨by have := HJ10.out; have := HK2.out; have := HK3.out; first | omega | exact Nat.le_refl _⟩, ⟨by (with_reducible repeat (first | apply Kd.R_alloc | apply Kd.R_drewN | apply Kd.R_drew)); exact Kd.R_mono HO_17.out (fun _ hk => hk.2)⟩, ⟨by (with_reducible repeat (first | apply Kd.R_alloc | apply Kd.R_drewN | apply Kd.R_drew)); exact Kd.R_mono HO469.out (fun _ hk => hk.1.2)⟩, ⟨by repeat (first | (with_reducible first | exact HB.out | apply below_alloc | apply pw_below_drewN | apply below_drew1) | exact HB.out)⟩⟩
                                          · rw [if_neg c62] at H
                                            have c62b0 : decide (t450 < (t466.length : Int)) = false := decide_eq_false c62
                                            clear c62
                                            by_cases c64 : x25_3 < t449
                                            · rw [if_pos c64] at H
                                              have c64b0 : decide (x25_3 < t449) = true := decide_eq_true c64
                                              clear c64
                                              by_cases c65 : (t466.length : Int) = t450
                                              · rw [if_pos c65] at H
                                                have c65b0 : ((t466.length : Int) == t450) = true := beq_iff_eq.mpr c65
                                                have c65b1 : ((t466.length : Int) != t450) = false := bne_eq_false_iff_eq.mpr c65
                                                clear c65
                                                have H' := Aside0.mk H
                                                clear H
                                                obtain ⟨Ao66, co66, eo66⟩ := Kd.R_slice HO465.out
                                                subst eo66
                                                go_wp2_with (first | (go_at_call 34; (with_reducible refine (spec_A2SameMarks.calls k3 _ _ t462 _ _ t466 true _ ?side1 ?side2 ?side3 ?side4 A58.out).mono ?_); (case side1 => repeat (first | exact (Kd.R_reads' HO465.out).2.2 | (with_reducible refine Kd.C_alloc ?_ _) | (with_reducible refine Kd.C_drewN ?_ _) | (with_reducible refine Kd.C_drew ?_))); (case side2 => exact (Kd.R_reads' HO465.out).2.1); (case side3 => repeat (first | exact (Kd.R_reads' HO469.out).2.2 | (with_reducible refine Kd.C_alloc ?_ _) | (with_reducible refine Kd.C_drewN ?_ _) | (with_reducible refine Kd.C_drew ?_))); (case side4 => exact (Kd.R_reads' HO469.out).2.1); rintro e w' ⟨rfl, ⟨nd, rfl⟩⟩))
                                                go_meet
                                                case rel => exact ⟨_, (true), (by first | rfl | (simp; done) | (simp [*]; done)), H', ⟨by have := HJ10.out; have := HK2.out; have := HK3.out; first | omega | exact Nat.le_refl _⟩, ⟨by (with_reducible repeat (first | apply Kd.R_alloc | apply Kd.R_drewN | apply Kd.R_drew)); exact Kd.R_mono HO_17.out (fun _ hk => hk.2)⟩, ⟨by (with_reducible repeat (first | apply Kd.R_alloc | apply Kd.R_drewN | apply Kd.R_drew)); exact Kd.R_mono HO469.out (fun _ hk => hk.1.2)⟩, ⟨by repeat (first | (with_reducible first | exact HB.out | apply below_alloc | apply pw_below_drewN | apply below_drew1) | exact HB.out)⟩⟩
                                              · rw [if_neg c65] at H
                                                have c65b0 : ((t466.length : Int) == t450) = false := beq_eq_false_iff_ne.mpr c65
                                                have c65b1 : ((t466.length : Int) != t450) = true := bne_iff_ne.mpr c65
                                                by_cases c67 : x25_3 = t449
                                                · rw [if_pos c67] at H
                                                  have c67b0 : (x25_3 == t449) = true := beq_iff_eq.mpr c67
                                                  have c67b1 : (x25_3 != t449) = false := bne_eq_false_iff_eq.mpr c67
                                                  clear c67
                                                  have H' := Aside0.mk H
                                                  clear H
                                                  obtain ⟨Ao68, co68, eo68⟩ := Kd.R_slice HO465.out
                                                  subst eo68
                                                  go_wp2_with (first | (go_at_call 34; (with_reducible refine (spec_A2SameMarks.calls k3 _ _ t462 _ _ t466 true _ ?side1 ?side2 ?side3 ?side4 A58.out).mono ?_); (case side1 => repeat (first | exact (Kd.R_reads' HO465.out).2.2 | (with_reducible refine Kd.C_alloc ?_ _) | (with_reducible refine Kd.C_drewN ?_ _) | (with_reducible refine Kd.C_drew ?_))); (case side2 => exact (Kd.R_reads' HO465.out).2.1); (case side3 => repeat (first | exact (Kd.R_reads' HO469.out).2.2 | (with_reducible refine Kd.C_alloc ?_ _) | (with_reducible refine Kd.C_drewN ?_ _) | (with_reducible refine Kd.C_drew ?_))); (case side4 => exact (Kd.R_reads' HO469.out).2.1); rintro e w' ⟨rfl, ⟨nd, rfl⟩⟩))
                                                  go_meet
                                                  case rel => exact ⟨_, (true), (by first | rfl | (simp; done) | (simp [*]; done)), H', ⟨by have := HJ10.out; have := HK2.out; have := HK3.out; first | omega | exact Nat.le_refl _⟩, ⟨by (with_reducible repeat (first | apply Kd.R_alloc | apply Kd.R_drewN | apply Kd.R_drew)); exact Kd.R_mono HO_17.out (fun _ hk => hk.2)⟩, ⟨by (with_reducible repeat (first | apply Kd.R_alloc | apply Kd.R_drewN | apply Kd.R_drew)); exact Kd.R_mono HO469.out (fun _ hk => hk.1.2)⟩, ⟨by repeat (first | (with_reducible first | exact HB.out | apply below_alloc | apply pw_below_drewN | apply below_drew1) | exact HB.out)⟩⟩
                                                · rw [if_neg c67] at H
                                                  have c67b0 : (x25_3 == t449) = false := beq_eq_false_iff_ne.mpr c67
                                                  have c67b1 : (x25_3 != t449) = true := bne_iff_ne.mpr c67
                                                  replace H := Option.bind_eq_some_iff.mp H
                                                  obtain ⟨t473, A690, H⟩ := H
                                                  replace H : (laws_FnClasses.j3 k3 (wrap64 (2 + t440)) t441 t444 t449 t450 t452 t453 x24_3 x25_3 t466 (t473 != (x25_3 == t444))) = some r := H
                                                  have A69 := Aside0.mk A690
                                                  clear A690
                                                  have H' := Aside0.mk H
                                                  clear H
                                                  obtain ⟨Ao70, co70, eo70⟩ := Kd.R_slice HO465.out
                                                  subst eo70
                                                  go_wp2_with (first | (go_at_call 34; (with_reducible refine (spec_A2SameMarks.calls k3 _ _ t462 _ _ t466 true _ ?side1 ?side2 ?side3 ?side4 A58.out).mono ?_); (case side1 => repeat (first | exact (Kd.R_reads' HO465.out).2.2 | (with_reducible refine Kd.C_alloc ?_ _) | (with_reducible refine Kd.C_drewN ?_ _) | (with_reducible refine Kd.C_drew ?_))); (case side2 => exact (Kd.R_reads' HO465.out).2.1); (case side3 => repeat (first | exact (Kd.R_reads' HO469.out).2.2 | (with_reducible refine Kd.C_alloc ?_ _) | (with_reducible refine Kd.C_drewN ?_ _) | (with_reducible refine Kd.C_drew ?_))); (case side4 => exact (Kd.R_reads' HO469.out).2.1); rintro e w' ⟨rfl, ⟨nd, rfl⟩⟩) | (go_at_call 35; (with_reducible refine (spec_A2HasMark.calls k3 _ _ t466 t441 t473 _ ?side1 ?side2 A69.out).mono ?_); (case side1 => repeat (first | exact (Kd.R_reads' HO469.out).2.2 | (with_reducible refine Kd.C_alloc ?_ _) | (with_reducible refine Kd.C_drewN ?_ _) | (with_reducible refine Kd.C_drew ?_))); (case side2 => exact (Kd.R_reads' HO469.out).2.1); rintro e w' ⟨rfl, ⟨nd, rfl⟩⟩))
                                                  go_meet
                                                  case rel => exact ⟨_, ((t473 != (x25_3 == t444))), (by first | rfl | (simp; done) | (simp [*]; done)), H', ⟨by have := HJ10.out; have := HK2.out; have := HK3.out; first | omega | exact Nat.le_refl _⟩, ⟨by (with_reducible repeat (first | apply Kd.R_alloc | apply Kd.R_drewN | apply Kd.R_drew)); exact Kd.R_mono HO_17.out (fun _ hk => hk.2)⟩, ⟨by (with_reducible repeat (first | apply Kd.R_alloc | apply Kd.R_drewN | apply Kd.R_drew)); exact Kd.R_mono HO469.out (fun _ hk => hk.1.2)⟩, ⟨by repeat (first | (with_reducible first | exact HB.out | apply below_alloc | apply pw_below_drewN | apply below_drew1) | exact HB.out)⟩⟩
                                            · rw [if_neg c64] at H
                                              have c64b0 : decide (x25_3 < t449) = false := decide_eq_false c64
                                              clear c64
                                              by_cases c71 : x25_3 = t449
                                              · rw [if_pos c71] at H
                                                have c71b0 : (x25_3 == t449) = true := beq_iff_eq.mpr c71
                                                have c71b1 : (x25_3 != t449) = false := bne_eq_false_iff_eq.mpr c71
                                                clear c71
                                                by_cases c72 : (t466.length : Int) = t450
                                                · rw [if_pos c72] at H
                                                  have c72b0 : ((t466.length : Int) == t450) = true := beq_iff_eq.mpr c72
                                                  have c72b1 : ((t466.length : Int) != t450) = false := bne_eq_false_iff_eq.mpr c72
                                                  clear c72
                                                  replace H := Option.bind_eq_some_iff.mp H
                                                  obtain ⟨t474, A730, H⟩ := H
                                                  replace H : (laws_FnClasses.j3 k3 (wrap64 (2 + t440)) t441 t444 t449 t450 t452 t453 x24_3 x25_3 t466 (t474 != (x25_3 == t444))) = some r := H
                                                  have A73 := Aside0.mk A730
                                                  clear A730
                                                  have H' := Aside0.mk H
                                                  clear H
                                                  obtain ⟨Ao74, co74, eo74⟩ := Kd.R_slice HO465.out
                                                  subst eo74
                                                  go_wp2_with (first | (go_at_call 34; (with_reducible refine (spec_A2SameMarks.calls k3 _ _ t462 _ _ t466 true _ ?side1 ?side2 ?side3 ?side4 A58.out).mono ?_); (case side1 => repeat (first | exact (Kd.R_reads' HO465.out).2.2 | (with_reducible refine Kd.C_alloc ?_ _) | (with_reducible refine Kd.C_drewN ?_ _) | (with_reducible refine Kd.C_drew ?_))); (case side2 => exact (Kd.R_reads' HO465.out).2.1); (case side3 => repeat (first | exact (Kd.R_reads' HO469.out).2.2 | (with_reducible refine Kd.C_alloc ?_ _) | (with_reducible refine Kd.C_drewN ?_ _) | (with_reducible refine Kd.C_drew ?_))); (case side4 => exact (Kd.R_reads' HO469.out).2.1); rintro e w' ⟨rfl, ⟨nd, rfl⟩⟩) | (go_at_call 35; (with_reducible refine (spec_A2HasMark.calls k3 _ _ t466 t441 t474 _ ?side1 ?side2 A73.out).mono ?_); (case side1 => repeat (first | exact (Kd.R_reads' HO469.out).2.2 | (with_reducible refine Kd.C_alloc ?_ _) | (with_reducible refine Kd.C_drewN ?_ _) | (with_reducible refine Kd.C_drew ?_))); (case side2 => exact (Kd.R_reads' HO469.out).2.1); rintro e w' ⟨rfl, ⟨nd, rfl⟩⟩))
                                                  go_meet
                                                  case rel => exact ⟨_, ((t474 != (x25_3 == t444))), (by first | rfl | (simp; done) | (simp [*]; done)), H', ⟨by have := HJ10.out; have := HK2.out; have := HK3.out; first | omega | exact Nat.le_refl _⟩, ⟨by (with_reducible repeat (first | apply Kd.R_alloc | apply Kd.R_drewN | apply Kd.R_drew)); exact Kd.R_mono HO_17.out (fun _ hk => hk.2)⟩, ⟨by (with_reducible repeat (first | apply Kd.R_alloc | apply Kd.R_drewN | apply Kd.R_drew)); exact Kd.R_mono HO469.out (fun _ hk => hk.1.2)⟩, ⟨by repeat (first | (with_reducible first | exact HB.out | apply below_alloc | apply pw_below_drewN | apply below_drew1) | exact HB.out)⟩⟩
                                                · rw [if_neg c72] at H
                                                  have c72b0 : ((t466.length : Int) == t450) = false := beq_eq_false_iff_ne.mpr c72
                                                  have c72b1 : ((t466.length : Int) != t450) = true := bne_iff_ne.mpr c72
                                                  have H' := Aside0.mk H
                                                  clear H
                                                  obtain ⟨Ao75, co75, eo75⟩ := Kd.R_slice HO465.out
                                                  subst eo75
                                                  go_wp2_with (first | (go_at_call 34; (with_reducible refine (spec_A2SameMarks.calls k3 _ _ t462 _ _ t466 true _ ?side1 ?side2 ?side3 ?side4 A58.out).mono ?_); (case side1 => repeat (first | exact (Kd.R_reads' HO465.out).2.2 | (with_reducible refine Kd.C_alloc ?_ _) | (with_reducible refine Kd.C_drewN ?_ _) | (with_reducible refine Kd.C_drew ?_))); (case side2 => exact (Kd.R_reads' HO465.out).2.1); (case side3 => repeat (first | exact (Kd.R_reads' HO469.out).2.2 | (with_reducible refine Kd.C_alloc ?_ _) | (with_reducible refine Kd.C_drewN ?_ _) | (with_reducible refine Kd.C_drew ?_))); (case side4 => exact (Kd.R_reads' HO469.out).2.1); rintro e w' ⟨rfl, ⟨nd, rfl⟩⟩))
                                                  go_meet
                                                  case rel => exact ⟨_, (true), (by first | rfl | (simp; done) | (simp [*]; done)), H', ⟨by have := HJ10.out; have := HK2.out; have := HK3.out; first | omega | exact Nat.le_refl _⟩, ⟨by (with_reducible repeat (first | apply Kd.R_alloc | apply Kd.R_drewN | apply Kd.R_drew)); exact Kd.R_mono HO_17.out (fun _ hk => hk.2)⟩, ⟨by (with_reducible repeat (first | apply Kd.R_alloc | apply Kd.R_drewN | apply Kd.R_drew)); exact Kd.R_mono HO469.out (fun _ hk => hk.1.2)⟩, ⟨by repeat (first | (with_reducible first | exact HB.out | apply below_alloc | apply pw_below_drewN | apply below_drew1) | exact HB.out)⟩⟩
                                              · rw [if_neg c71] at H
                                                have c71b0 : (x25_3 == t449) = false := beq_eq_false_iff_ne.mpr c71
                                                have c71b1 : (x25_3 != t449) = true := bne_iff_ne.mpr c71
                                                replace H := Option.bind_eq_some_iff.mp H
                                                obtain ⟨t475, A760, H⟩ := H
                                                replace H : (laws_FnClasses.j3 k3 (wrap64 (2 + t440)) t441 t444 t449 t450 t452 t453 x24_3 x25_3 t466 (t475 != (x25_3 == t444))) = some r := H
                                                have A76 := Aside0.mk A760
                                                clear A760
                                                have H' := Aside0.mk H
                                                clear H
                                                obtain ⟨Ao77, co77, eo77⟩ := Kd.R_slice HO465.out
                                                subst eo77
                                                go_wp2_with (first | (go_at_call 34; (with_reducible refine (spec_A2SameMarks.calls k3 _ _ t462 _ _ t466 true _ ?side1 ?side2 ?side3 ?side4 A58.out).mono ?_); (case side1 => repeat (first | exact (Kd.R_reads' HO465.out).2.2 | (with_reducible refine Kd.C_alloc ?_ _) | (with_reducible refine Kd.C_drewN ?_ _) | (with_reducible refine Kd.C_drew ?_))); (case side2 => exact (Kd.R_reads' HO465.out).2.1); (case side3 => repeat (first | exact (Kd.R_reads' HO469.out).2.2 | (with_reducible refine Kd.C_alloc ?_ _) | (with_reducible refine Kd.C_drewN ?_ _) | (with_reducible refine Kd.C_drew ?_))); (case side4 => exact (Kd.R_reads' HO469.out).2.1); rintro e w' ⟨rfl, ⟨nd, rfl⟩⟩) | (go_at_call 35; (with_reducible refine (spec_A2HasMark.calls k3 _ _ t466 t441 t475 _ ?side1 ?side2 A76.out).mono ?_); (case side1 => repeat (first | exact (Kd.R_reads' HO469.out).2.2 | (with_reducible refine Kd.C_alloc ?_ _) | (with_reducible refine Kd.C_drewN ?_ _) | (with_reducible refine Kd.C_drew ?_))); (case side2 => exact (Kd.R_reads' HO469.out).2.1); rintro e w' ⟨rfl, ⟨nd, rfl⟩⟩))
                                                go_meet
                                                case rel => exact ⟨_, ((t475 != (x25_3 == t444))), (by first | rfl | (simp; done) | (simp [*]; done)), H', ⟨by have := HJ10.out; have := HK2.out; have := HK3.out; first | omega | exact Nat.le_refl _⟩, ⟨by (with_reducible repeat (first | apply Kd.R_alloc | apply Kd.R_drewN | apply Kd.R_drew)); exact Kd.R_mono HO_17.out (fun _ hk => hk.2)⟩, ⟨by (with_reducible repeat (first | apply Kd.R_alloc | apply Kd.R_drewN | apply Kd.R_drew)); exact Kd.R_mono HO469.out (fun _ hk => hk.1.2)⟩, ⟨by repeat (first | (with_reducible first | exact HB.out | apply below_alloc | apply pw_below_drewN | apply below_drew1) | exact HB.out)⟩⟩
                                        · replace c61 := Bool.eq_false_iff.mpr c61
                                          subst c61
                                          have H1 : (laws_FnClasses.j3 k3 (wrap64 (2 + t440)) t441 t444 t449 t450 t452 t453 x24_3 x25_3 t466 true) = some r := by rw [if_neg (show ¬ (false = true) by decide)] at H; exact H
                                          clear H
                                          have H := H1
                                          clear H1
                                          have H' := Aside0.mk H
                                          clear H
                                          obtain ⟨Ao78, co78, eo78⟩ := Kd.R_slice HO465.out
                                          subst eo78
                                          go_wp2_with (first | (go_at_call 34; (with_reducible refine (spec_A2SameMarks.calls k3 _ _ t462 _ _ t466 true _ ?side1 ?side2 ?side3 ?side4 A58.out).mono ?_); (case side1 => repeat (first | exact (Kd.R_reads' HO465.out).2.2 | (with_reducible refine Kd.C_alloc ?_ _) | (with_reducible refine Kd.C_drewN ?_ _) | (with_reducible refine Kd.C_drew ?_))); (case side2 => exact (Kd.R_reads' HO465.out).2.1); (case side3 => repeat (first | exact (Kd.R_reads' HO469.out).2.2 | (with_reducible refine Kd.C_alloc ?_ _) | (with_reducible refine Kd.C_drewN ?_ _) | (with_reducible refine Kd.C_drew ?_))); (case side4 => exact (Kd.R_reads' HO469.out).2.1); rintro e w' ⟨rfl, ⟨nd, rfl⟩⟩))
                                          go_meet
                                          case rel => exact ⟨_, (true), (by first | rfl | (simp; done) | (simp [*]; done)), H', ⟨by have := HJ10.out; have := HK2.out; have := HK3.out; first | omega | exact Nat.le_refl _⟩, ⟨by (with_reducible repeat (first | apply Kd.R_alloc | apply Kd.R_drewN | apply Kd.R_drew)); exact Kd.R_mono HO_17.out (fun _ hk => hk.2)⟩, ⟨by (with_reducible repeat (first | apply Kd.R_alloc | apply Kd.R_drewN | apply Kd.R_drew)); exact Kd.R_mono HO469.out (fun _ hk => hk.1.2)⟩, ⟨by repeat (first | (with_reducible first | exact HB.out | apply below_alloc | apply pw_below_drewN | apply below_drew1) | exact HB.out)⟩⟩
                                      · rw [if_neg c60] at H
                                        have c60b0 : (t471 == 0) = false := beq_eq_false_iff_ne.mpr c60
                                        have c60b1 : (t471 != 0) = true := bne_iff_ne.mpr c60
                                        have H' := Aside0.mk H
                                        clear H
                                        obtain ⟨Ao79, co79, eo79⟩ := Kd.R_slice HO465.out
                                        subst eo79
                                        go_wp2_with (first | (go_at_call 34; (with_reducible refine (spec_A2SameMarks.calls k3 _ _ t462 _ _ t466 true _ ?side1 ?side2 ?side3 ?side4 A58.out).mono ?_); (case side1 => repeat (first | exact (Kd.R_reads' HO465.out).2.2 | (with_reducible refine Kd.C_alloc ?_ _) | (with_reducible refine Kd.C_drewN ?_ _) | (with_reducible refine Kd.C_drew ?_))); (case side2 => exact (Kd.R_reads' HO465.out).2.1); (case side3 => repeat (first | exact (Kd.R_reads' HO469.out).2.2 | (with_reducible refine Kd.C_alloc ?_ _) | (with_reducible refine Kd.C_drewN ?_ _) | (with_reducible refine Kd.C_drew ?_))); (case side4 => exact (Kd.R_reads' HO469.out).2.1); rintro e w' ⟨rfl, ⟨nd, rfl⟩⟩))
                                        go_meet
                                        case rel => exact ⟨_, (true), (by first | rfl | (simp; done) | (simp [*]; done)), H', ⟨by have := HJ10.out; have := HK2.out; have := HK3.out; first | omega | exact Nat.le_refl _⟩, ⟨by (with_reducible repeat (first | apply Kd.R_alloc | apply Kd.R_drewN | apply Kd.R_drew)); exact Kd.R_mono HO_17.out (fun _ hk => hk.2)⟩, ⟨by (with_reducible repeat (first | apply Kd.R_alloc | apply Kd.R_drewN | apply Kd.R_drew)); exact Kd.R_mono HO469.out (fun _ hk => hk.1.2)⟩, ⟨by repeat (first | (with_reducible first | exact HB.out | apply below_alloc | apply pw_below_drewN | apply below_drew1) | exact HB.out)⟩⟩
                                    · replace c59 := Bool.eq_false_iff.mpr c59
                                      subst c59
                                      have H1 : (laws_FnClasses.j3 k3 (wrap64 (2 + t440)) t441 t444 t449 t450 t452 t453 x24_3 x25_3 t466 true) = some r := by rw [if_neg (show ¬ (false = true) by decide)] at H; exact H
                                      clear H
                                      have H := H1
                                      clear H1
                                      have H' := Aside0.mk H
                                      clear H
                                      obtain ⟨Ao80, co80, eo80⟩ := Kd.R_slice HO465.out
                                      subst eo80
                                      go_wp2_with (first | (go_at_call 34; (with_reducible refine (spec_A2SameMarks.calls k3 _ _ t462 _ _ t466 false _ ?side1 ?side2 ?side3 ?side4 A58.out).mono ?_); (case side1 => repeat (first | exact (Kd.R_reads' HO465.out).2.2 | (with_reducible refine Kd.C_alloc ?_ _) | (with_reducible refine Kd.C_drewN ?_ _) | (with_reducible refine Kd.C_drew ?_))); (case side2 => exact (Kd.R_reads' HO465.out).2.1); (case side3 => repeat (first | exact (Kd.R_reads' HO469.out).2.2 | (with_reducible refine Kd.C_alloc ?_ _) | (with_reducible refine Kd.C_drewN ?_ _) | (with_reducible refine Kd.C_drew ?_))); (case side4 => exact (Kd.R_reads' HO469.out).2.1); rintro e w' ⟨rfl, ⟨nd, rfl⟩⟩))
                                      go_meet
                                      case rel => exact ⟨_, (true), (by first | rfl | (simp; done) | (simp [*]; done)), H', ⟨by have := HJ10.out; have := HK2.out; have := HK3.out; first | omega | exact Nat.le_refl _⟩, ⟨by (with_reducible repeat (first | apply Kd.R_alloc | apply Kd.R_drewN | apply Kd.R_drew)); exact Kd.R_mono HO_17.out (fun _ hk => hk.2)⟩, ⟨by (with_reducible repeat (first | apply Kd.R_alloc | apply Kd.R_drewN | apply Kd.R_drew)); exact Kd.R_mono HO469.out (fun _ hk => hk.1.2)⟩, ⟨by repeat (first | (with_reducible first | exact HB.out | apply below_alloc | apply pw_below_drewN | apply below_drew1) | exact HB.out)⟩⟩
                                  · rw [if_neg c57] at H
                                    have c57b0 : (t463 == 0) = false := beq_eq_false_iff_ne.mpr c57
                                    have c57b1 : (t463 != 0) = true := bne_iff_ne.mpr c57
                                    have H' := Aside0.mk H
                                    clear H
                                    go_wp2
                                    go_meet
                                    case rel => exact ⟨_, (true), (by first | rfl | (simp; done) | (simp [*]; done)), H', ⟨by have := HJ10.out; have := HK2.out; have := HK3.out; first | omega | exact Nat.le_refl _⟩, ⟨by (with_reducible repeat (first | apply Kd.R_alloc | apply Kd.R_drewN | apply Kd.R_drew)); exact Kd.R_mono HO_17.out (fun _ hk => hk.2)⟩, ⟨by (with_reducible repeat (first | apply Kd.R_alloc | apply Kd.R_drewN | apply Kd.R_drew)); exact Kd.R_mono HO469.out (fun _ hk => hk.1.2)⟩, ⟨by repeat (first | (with_reducible first | exact HB.out | apply below_alloc | apply pw_below_drewN | apply below_drew1) | exact HB.out)⟩⟩
                                · rw [if_neg c56] at H
                                  have c56b0 : (t463 == t467) = false := beq_eq_false_iff_ne.mpr c56
                                  have c56b1 : (t463 != t467) = true := bne_iff_ne.mpr c56
                                  (first | rw [c56b0] | (simp only [i64_w, i32_w]; rw [c56b0]) | skip)
                                  have H' := Aside0.mk H
                                  clear H
                                  go_wp2
                                  go_meet
                                  case rel => exact ⟨_, (true), (by first | rfl | (simp; done) | (simp [*]; done)), H', ⟨by have := HJ10.out; have := HK2.out; have := HK3.out; first | omega | exact Nat.le_refl _⟩, ⟨by (with_reducible repeat (first | apply Kd.R_alloc | apply Kd.R_drewN | apply Kd.R_drew)); exact Kd.R_mono HO_17.out (fun _ hk => hk.2)⟩, ⟨by (with_reducible repeat (first | apply Kd.R_alloc | apply Kd.R_drewN | apply Kd.R_drew)); exact Kd.R_mono HO469.out (fun _ hk => hk.1.2)⟩, ⟨by repeat (first | (with_reducible first | exact HB.out | apply below_alloc | apply pw_below_drewN | apply below_drew1) | exact HB.out)⟩⟩
                            case rest =>
                              as_aux_lemma =>
                                clear HC51
                                try clear c1
                                try clear c2
                                try clear p2
                                try clear c3
                                try clear c4
                                try clear p4
                                try clear q4
                                try clear hx4
                                try clear c5
                                try clear c6
                                try clear p6
                                try clear c7
                                try clear c16
                                try clear c16b0
                                try clear c16b1
                                try clear c17
                                try clear c17b0
                                try clear c17b1
                                try clear c18
                                try clear c18b0
                                try clear c18b1
                                try clear c19
                                try clear c19b0
                                try clear c20
                                try clear c20b0
                                try clear c21
                                try clear c21b0
                                try clear c21b1
                                try clear c22
                                try clear c22b0
                                try clear c22b1
                                try clear c23
                                try clear c23b0
                                try clear c23b1
                                try clear c24
                                try clear c24b0
                                try clear c24b1
                                try clear c25
                                try clear c26
                                try clear c27
                                try clear c28
                                try clear c28b0
                                try clear c29
                                try clear c29b0
                                try clear c30
                                try clear c31
                                try clear c32
                                try clear c32b0
                                try clear c32b1
                                try clear c33
                                try clear c33b0
                                try clear c33b1
                                try clear c34
                                try clear c34b0
                                try clear c34b1
                                try clear c35
                                try clear c35b0
                                try clear c35b1
                                try clear p45
                                try clear q45
                                try clear hx45
                                try clear c47
                                try clear c47b0
                                try clear c56
                                try clear c56b0
                                try clear c56b1
                                try clear c57
                                try clear c57b0
                                try clear c57b1
                                try clear c59
                                try clear c60
                                try clear c60b0
                                try clear c60b1
                                try clear c61
                                try clear c62
                                try clear c62b0
                                try clear c64
                                try clear c64b0
                                try clear p64
                                try clear c65
                                try clear c65b0
                                try clear c65b1
                                try clear c67
                                try clear c67b0
                                try clear c67b1
                                try clear c71
                                try clear c71b0
                                try clear c71b1
                                try clear c72
                                try clear c72b0
                                try clear c72b1
                                try clear hx456_0
                                try clear hx459_0
                                try clear p2
                                try clear p4
                                try clear p45
                                try clear p456
                                try clear p459
                                try clear p6
                                try clear q4
                                try clear q45
                                try clear q456
                                try clear q459
                                obtain ⟨kq, x246_50, rfl, HA, HJ50, HO_17, HO_28, HB⟩ := hcut
                                cases kq with
                                | zero => exact absurd HA.out (by simp [laws_FnClasses.j3])
                                | succ kj50 =>
                                  have H := HA.out
                                  clear HA
                                  simp only [laws_FnClasses.j3] at H
                                  by_cases c81 : x246_50 = true
                                  · subst c81
                                    have H1 : (some false) = some r := by rw [if_pos rfl] at H; exact H
                                    clear H
                                    have H := H1
                                    clear H1
                                    obtain rfl := Option.some.inj H
                                    go_wp2
                                    go_ret
                                    exact ⟨by first | rfl | (simp [errW_none, errW_some] <;> rfl) | (simp [*, errW_none, errW_some] <;> rfl), by repeat (first | (with_reducible first | exact HB.out | apply below_alloc | apply pw_below_drewN | apply below_drew1) | exact HB.out)⟩
                                  · replace c81 := Bool.eq_false_iff.mpr c81
                                    subst c81
                                    have H1 : ((impl_MendStitch.f kj50 (wrap64 (2 + t440)) x25_3 t441).bind fun bt476 => ((spec_MendStitch.f kj50 (wrap64 (2 + t440)) x25_3 t441).bind fun bt478 => (if bt476.2 = bt478.2 then (laws_FnClasses.j4 kj50 (wrap64 (2 + t440)) t441 t444 t449 t450 t452 t453 (wrap64 (x24_3 + (t466.length : Int))) x25_3 bt476.2 bt478.1 (bt476.1 != bt478.1)) else (laws_FnClasses.j4 kj50 (wrap64 (2 + t440)) t441 t444 t449 t450 t452 t453 (wrap64 (x24_3 + (t466.length : Int))) x25_3 bt476.2 bt478.1 true)))) = some r := by rw [if_neg (show ¬ (false = true) by decide)] at H; exact H
                                    clear H
                                    have H := H1
                                    clear H1
                                    replace H := Option.bind_eq_some_iff.mp H
                                    obtain ⟨⟨t476, t477⟩, A820, H⟩ := H
                                    replace H : ((spec_MendStitch.f kj50 (wrap64 (2 + t440)) x25_3 t441).bind fun bt478 => (if t477 = bt478.2 then (laws_FnClasses.j4 kj50 (wrap64 (2 + t440)) t441 t444 t449 t450 t452 t453 (wrap64 (x24_3 + (t466.length : Int))) x25_3 t477 bt478.1 (t476 != bt478.1)) else (laws_FnClasses.j4 kj50 (wrap64 (2 + t440)) t441 t444 t449 t450 t452 t453 (wrap64 (x24_3 + (t466.length : Int))) x25_3 t477 bt478.1 true))) = some r := H
                                    have A82 := Aside0.mk A820
                                    clear A820
                                    replace H := Option.bind_eq_some_iff.mp H
                                    obtain ⟨⟨t478, t479⟩, A830, H⟩ := H
                                    replace H : (if t477 = t479 then (laws_FnClasses.j4 kj50 (wrap64 (2 + t440)) t441 t444 t449 t450 t452 t453 (wrap64 (x24_3 + (t466.length : Int))) x25_3 t477 t478 (t476 != t478)) else (laws_FnClasses.j4 kj50 (wrap64 (2 + t440)) t441 t444 t449 t450 t452 t453 (wrap64 (x24_3 + (t466.length : Int))) x25_3 t477 t478 true)) = some r := H
                                    have A83 := Aside0.mk A830
                                    clear A830
                                    have HC84 := Aside0.mk H
                                    clear H
                                    go_upto_region 31 with (first | ((with_reducible refine gate_callee (f := 29) rfl ?_); refine goesL_ (some 255) rfl rfl Try.func29 (by kernel_rfl) rfl #[.int .i64 (wrap64 (2 + t440)), .int .i64 x25_3, .int .u16 t441] rfl (by (try simp only [List.map_toArray, List.map_cons, List.map_nil]); first | done | rfl | (simp only [List.length_drop, List.length_take]; rfl)) ?_; (with_reducible refine (impl_MendStitch.calls kj50 (wrap64 (2 + t440)) x25_3 t441 t476 t477 _ A82.out).mono ?_); rintro e w85 ⟨rfl, hb⟩; refine ⟨_, rfl, ?_⟩; have n0_ := Aside0.mk (Kd.R_below (by (with_reducible repeat (first | apply Kd.R_alloc | apply Kd.R_drewN | apply Kd.R_drew)); exact HO_17.out) hb); have n1_ := Aside0.mk (Kd.R_below (by (with_reducible repeat (first | apply Kd.R_alloc | apply Kd.R_drewN | apply Kd.R_drew)); exact HO_28.out) hb); have n2_ := Aside0.mk (below_step (by repeat (first | (with_reducible first | exact HB.out | apply below_alloc | apply pw_below_drewN | apply below_drew1) | exact HB.out)) hb); clear HO_17; clear HO_28; clear HB; have HO_17 := n0_; have HO_28 := n1_; have HB := n2_; clear n0_ n1_ n2_; (try clear hb); (try clear hb2); (try clear hk); (try clear hi)) | ((with_reducible refine gate_callee (f := 30) rfl ?_); refine goesL_ (some 262) rfl rfl Try.func30 (by kernel_rfl) rfl #[.int .i64 (wrap64 (2 + t440)), .int .i64 x25_3, .int .u16 t441] rfl (by (try simp only [List.map_toArray, List.map_cons, List.map_nil]); first | done | rfl | (simp only [List.length_drop, List.length_take]; rfl)) ?_; (with_reducible refine (spec_MendStitch.calls kj50 (wrap64 (2 + t440)) x25_3 t441 t478 t479 _ A83.out).mono ?_); rintro e w' ⟨rfl, ⟨nd, rfl⟩⟩; refine ⟨_, rfl, ?_⟩))
                                    (try simp only [Act.put, List.setIfInBounds_toArray, List.set_cons_zero, List.set_cons_succ])
                                    go_cut [272] (fun v272 wc => ∃ (kq : Nat) (x272_83 : Bool), v272 = .bool x272_83 ∧ Aside0 (laws_FnClasses.j4 kq (wrap64 (2 + t440)) t441 t444 t449 t450 t452 t453 (wrap64 (x24_3 + (t466.length : Int))) x25_3 t477 t478 x272_83 = some r) ∧ Aside0 (kq ≤ kj50) ∧ Aside0 (Kd.R (Kd.int .u16) 43 wc w.heap.size (fun _ => True) (.slice Ao46 t452.length co46) t452) ∧ Aside0 (Below w.heap.size w wc))
                                    case first =>
                                      as_aux_lemma =>
                                        have H := HC84.out
                                        clear HC84
                                        by_cases c86 : t477 = t479
                                        · rw [if_pos c86] at H
                                          have c86b0 : (t477 == t479) = true := beq_iff_eq.mpr c86
                                          have c86b1 : (t477 != t479) = false := bne_eq_false_iff_eq.mpr c86
                                          clear c86
                                          (first | rw [c86b0] | (simp only [i64_w, i32_w]; rw [c86b0]) | skip)
                                          have H' := Aside0.mk H
                                          clear H
                                          go_wp2
                                          go_meet
                                          case rel => exact ⟨_, ((t476 != t478)), (by first | rfl | (simp; done) | (simp [*]; done)), H', ⟨by have := HJ10.out; have := HK2.out; have := HK3.out; have := HJ50.out; first | omega | exact Nat.le_refl _⟩, ⟨by (with_reducible repeat (first | apply Kd.R_alloc | apply Kd.R_drewN | apply Kd.R_drew)); exact Kd.R_mono HO_17.out (fun _ hk => trivial)⟩, ⟨by repeat (first | (with_reducible first | exact HB.out | apply below_alloc | apply pw_below_drewN | apply below_drew1) | exact HB.out)⟩⟩
                                        · rw [if_neg c86] at H
                                          have c86b0 : (t477 == t479) = false := beq_eq_false_iff_ne.mpr c86
                                          have c86b1 : (t477 != t479) = true := bne_iff_ne.mpr c86
                                          (first | rw [c86b0] | (simp only [i64_w, i32_w]; rw [c86b0]) | skip)
                                          have H' := Aside0.mk H
                                          clear H
                                          go_wp2
                                          go_meet
                                          case rel => exact ⟨_, (true), (by first | rfl | (simp; done) | (simp [*]; done)), H', ⟨by have := HJ10.out; have := HK2.out; have := HK3.out; have := HJ50.out; first | omega | exact Nat.le_refl _⟩, ⟨by (with_reducible repeat (first | apply Kd.R_alloc | apply Kd.R_drewN | apply Kd.R_drew)); exact Kd.R_mono HO_17.out (fun _ hk => trivial)⟩, ⟨by repeat (first | (with_reducible first | exact HB.out | apply below_alloc | apply pw_below_drewN | apply below_drew1) | exact HB.out)⟩⟩
                                    case rest =>
                                      as_aux_lemma =>
                                        clear HC84
                                        try clear c1
                                        try clear c2
                                        try clear p2
                                        try clear c3
                                        try clear c4
                                        try clear p4
                                        try clear q4
                                        try clear hx4
                                        try clear c5
                                        try clear c6
                                        try clear p6
                                        try clear c7
                                        try clear c8
                                        try clear c16
                                        try clear c16b0
                                        try clear c16b1
                                        try clear c17
                                        try clear c17b0
                                        try clear c17b1
                                        try clear c18
                                        try clear c18b0
                                        try clear c18b1
                                        try clear c19
                                        try clear c19b0
                                        try clear c20
                                        try clear c20b0
                                        try clear c21
                                        try clear c21b0
                                        try clear c21b1
                                        try clear c22
                                        try clear c22b0
                                        try clear c22b1
                                        try clear c23
                                        try clear c23b0
                                        try clear c23b1
                                        try clear c24
                                        try clear c24b0
                                        try clear c24b1
                                        try clear c25
                                        try clear c26
                                        try clear c27
                                        try clear c28
                                        try clear c28b0
                                        try clear c29
                                        try clear c29b0
                                        try clear c30
                                        try clear c31
                                        try clear c32
                                        try clear c32b0
                                        try clear c32b1
                                        try clear c33
                                        try clear c33b0
                                        try clear c33b1
                                        try clear c34
                                        try clear c34b0
                                        try clear c34b1
                                        try clear c35
                                        try clear c35b0
                                        try clear c35b1
                                        try clear p45
                                        try clear q45
                                        try clear hx45
                                        try clear c47
                                        try clear c47b0
                                        try clear c56
                                        try clear c56b0
                                        try clear c56b1
                                        try clear c57
                                        try clear c57b0
                                        try clear c57b1
                                        try clear c59
                                        try clear c60
                                        try clear c60b0
                                        try clear c60b1
                                        try clear c61
                                        try clear c62
                                        try clear c62b0
                                        try clear c64
                                        try clear c64b0
                                        try clear p64
                                        try clear c65
                                        try clear c65b0
                                        try clear c65b1
                                        try clear c67
                                        try clear c67b0
                                        try clear c67b1
                                        try clear c71
                                        try clear c71b0
                                        try clear c71b1
                                        try clear c72
                                        try clear c72b0
                                        try clear c72b1
                                        try clear c81
                                        try clear c86
                                        try clear c86b0
                                        try clear c86b1
                                        try clear hx456_0
                                        try clear hx459_0
                                        try clear p2
                                        try clear p4
                                        try clear p45
                                        try clear p456
                                        try clear p459
                                        try clear p6
                                        try clear p64
                                        try clear q4
                                        try clear q45
                                        try clear q456
                                        try clear q459
                                        obtain ⟨kq, x272_83, rfl, HA, HJ83, HO_17, HB⟩ := hcut
                                        cases kq with
                                        | zero => exact absurd HA.out (by simp [laws_FnClasses.j4])
                                        | succ kj83 =>
                                          have H := HA.out
                                          clear HA
                                          simp only [laws_FnClasses.j4] at H
                                          by_cases c87 : x272_83 = true
                                          · subst c87
                                            have H1 : (some false) = some r := by rw [if_pos rfl] at H; exact H
                                            clear H
                                            have H := H1
                                            clear H1
                                            obtain rfl := Option.some.inj H
                                            go_wp2
                                            go_ret
                                            exact ⟨by first | rfl | (simp [errW_none, errW_some] <;> rfl) | (simp [*, errW_none, errW_some] <;> rfl), by repeat (first | (with_reducible first | exact HB.out | apply below_alloc | apply pw_below_drewN | apply below_drew1) | exact HB.out)⟩
                                          · replace c87 := Bool.eq_false_iff.mpr c87
                                            subst c87
                                            have H1 : (if t477 = 0 then ((impl_ClassOf.f kj83 (wrap64 (2 + t440)) t478).bind fun bt480 => ((impl_ApartBy.f (wrap64 (2 + t440)) t478 t441).bind fun bt482 => (if bt480.2 = 0 then (if bt480.1 = x25_3 then (if bt482.2 = 0 then (if bt482.1 > 1 then (some false) else (if (Go.bits .andNot .u16 t441 t478) = 0 then (laws_FnClasses.l1 kj83 (wrap64 (2 + t440)) t441 t444 t449 t450 t452 t453 (wrap64 (x24_3 + (t466.length : Int))) (wrap64 (x25_3 + 1))) else (some false))) else (some false)) else (some false)) else (some false)))) else (laws_FnClasses.l1 kj83 (wrap64 (2 + t440)) t441 t444 t449 t450 t452 t453 (wrap64 (x24_3 + (t466.length : Int))) (wrap64 (x25_3 + 1)))) = some r := by rw [if_neg (show ¬ (false = true) by decide)] at H; exact H
                                            clear H
                                            have H := H1
                                            clear H1
                                            by_cases c88 : t477 = 0
                                            · rw [if_pos c88] at H
                                              have c88b0 : (t477 == 0) = true := beq_iff_eq.mpr c88
                                              have c88b1 : (t477 != 0) = false := bne_eq_false_iff_eq.mpr c88
                                              clear c88
                                              replace H := Option.bind_eq_some_iff.mp H
                                              obtain ⟨⟨t480, t481⟩, A890, H⟩ := H
                                              replace H : ((impl_ApartBy.f (wrap64 (2 + t440)) t478 t441).bind fun bt482 => (if t481 = 0 then (if t480 = x25_3 then (if bt482.2 = 0 then (if bt482.1 > 1 then (some false) else (if (Go.bits .andNot .u16 t441 t478) = 0 then (laws_FnClasses.l1 kj83 (wrap64 (2 + t440)) t441 t444 t449 t450 t452 t453 (wrap64 (x24_3 + (t466.length : Int))) (wrap64 (x25_3 + 1))) else (some false))) else (some false)) else (some false)) else (some false))) = some r := H
                                              have A89 := Aside0.mk A890
                                              clear A890
                                              replace H := Option.bind_eq_some_iff.mp H
                                              obtain ⟨⟨t482, t483⟩, A900, H⟩ := H
                                              replace H : (if t481 = 0 then (if t480 = x25_3 then (if t483 = 0 then (if t482 > 1 then (some false) else (if (Go.bits .andNot .u16 t441 t478) = 0 then (laws_FnClasses.l1 kj83 (wrap64 (2 + t440)) t441 t444 t449 t450 t452 t453 (wrap64 (x24_3 + (t466.length : Int))) (wrap64 (x25_3 + 1))) else (some false))) else (some false)) else (some false)) else (some false)) = some r := H
                                              have A90 := Aside0.mk A900
                                              clear A900
                                              by_cases c91 : t481 = 0
                                              · rw [if_pos c91] at H
                                                have c91b0 : (t481 == 0) = true := beq_iff_eq.mpr c91
                                                have c91b1 : (t481 != 0) = false := bne_eq_false_iff_eq.mpr c91
                                                clear c91
                                                by_cases c92 : t480 = x25_3
                                                · rw [if_pos c92] at H
                                                  have c92b0 : (t480 == x25_3) = true := beq_iff_eq.mpr c92
                                                  have c92b1 : (t480 != x25_3) = false := bne_eq_false_iff_eq.mpr c92
                                                  clear c92
                                                  by_cases c93 : t483 = 0
                                                  · rw [if_pos c93] at H
                                                    have c93b0 : (t483 == 0) = true := beq_iff_eq.mpr c93
                                                    have c93b1 : (t483 != 0) = false := bne_eq_false_iff_eq.mpr c93
                                                    clear c93
                                                    by_cases c94 : t482 > 1
                                                    · rw [if_pos c94] at H
                                                      have c94b0 : decide (1 < t482) = true := decide_eq_true c94
                                                      clear c94
                                                      obtain rfl := Option.some.inj H
                                                      go_wp2_with (first | ((with_reducible refine gate_callee (f := 24) rfl ?_); refine goesL_ (some 278) rfl rfl Try.func24 (by kernel_rfl) rfl #[.int .i64 (wrap64 (2 + t440)), .int .u16 t478] rfl (by (try simp only [List.map_toArray, List.map_cons, List.map_nil]); first | done | rfl | (simp only [List.length_drop, List.length_take]; rfl)) ?_; (with_reducible refine (impl_ClassOf.calls kj83 (wrap64 (2 + t440)) t478 t480 t481 _ A89.out).mono ?_); rintro e w95 ⟨rfl, hb⟩; refine ⟨_, rfl, ?_⟩; have n0_ := Aside0.mk (Kd.R_below (by (with_reducible repeat (first | apply Kd.R_alloc | apply Kd.R_drewN | apply Kd.R_drew)); exact HO_17.out) hb); have n1_ := Aside0.mk (below_step (by repeat (first | (with_reducible first | exact HB.out | apply below_alloc | apply pw_below_drewN | apply below_drew1) | exact HB.out)) hb); clear HO_17; clear HB; have HO_17 := n0_; have HB := n1_; clear n0_ n1_; (try clear hb); (try clear hb2); (try clear hk); (try clear hi)) | ((with_reducible refine gate_callee (f := 36) rfl ?_); refine goesL_ (some 285) rfl rfl Try.func36 (by kernel_rfl) rfl #[.int .i64 (wrap64 (2 + t440)), .int .u16 t478, .int .u16 t441] rfl (by (try simp only [List.map_toArray, List.map_cons, List.map_nil]); first | done | rfl | (simp only [List.length_drop, List.length_take]; rfl)) ?_; (with_reducible refine (impl_ApartBy.calls (wrap64 (2 + t440)) t478 t441 t482 t483 _ A90.out).mono ?_); rintro e w96 ⟨rfl, hb⟩; refine ⟨_, rfl, ?_⟩; have n0_ := Aside0.mk (Kd.R_below (by (with_reducible repeat (first | apply Kd.R_alloc | apply Kd.R_drewN | apply Kd.R_drew)); exact HO_17.out) hb); have n1_ := Aside0.mk (below_step (by repeat (first | (with_reducible first | exact HB.out | apply below_alloc | apply pw_below_drewN | apply below_drew1) | exact HB.out)) hb); clear HO_17; clear HB; have HO_17 := n0_; have HB := n1_; clear n0_ n1_; (try clear hb); (try clear hb2); (try clear hk); (try clear hi)))
                                                      go_ret
                                                      exact ⟨by first | rfl | (simp [errW_none, errW_some] <;> rfl) | (simp [*, errW_none, errW_some] <;> rfl), by repeat (first | (with_reducible first | exact HB.out | apply below_alloc | apply pw_below_drewN | apply below_drew1) | exact HB.out)⟩
                                                    · rw [if_neg c94] at H
                                                      have c94b0 : decide (1 < t482) = false := decide_eq_false c94
                                                      clear c94
                                                      by_cases c97 : (Go.bits .andNot .u16 t441 t478) = 0
                                                      · rw [if_pos c97] at H
                                                        have c97b0 : ((Go.bits .andNot .u16 t441 t478) == 0) = true := beq_iff_eq.mpr c97
                                                        have c97b1 : ((Go.bits .andNot .u16 t441 t478) != 0) = false := bne_eq_false_iff_eq.mpr c97
                                                        clear c97
                                                        have H' := Aside0.mk H
                                                        clear H
                                                        go_wp2_with (first | ((with_reducible refine gate_callee (f := 24) rfl ?_); refine goesL_ (some 278) rfl rfl Try.func24 (by kernel_rfl) rfl #[.int .i64 (wrap64 (2 + t440)), .int .u16 t478] rfl (by (try simp only [List.map_toArray, List.map_cons, List.map_nil]); first | done | rfl | (simp only [List.length_drop, List.length_take]; rfl)) ?_; (with_reducible refine (impl_ClassOf.calls kj83 (wrap64 (2 + t440)) t478 t480 t481 _ A89.out).mono ?_); rintro e w98 ⟨rfl, hb⟩; refine ⟨_, rfl, ?_⟩; have n0_ := Aside0.mk (Kd.R_below (by (with_reducible repeat (first | apply Kd.R_alloc | apply Kd.R_drewN | apply Kd.R_drew)); exact HO_17.out) hb); have n1_ := Aside0.mk (below_step (by repeat (first | (with_reducible first | exact HB.out | apply below_alloc | apply pw_below_drewN | apply below_drew1) | exact HB.out)) hb); clear HO_17; clear HB; have HO_17 := n0_; have HB := n1_; clear n0_ n1_; (try clear hb); (try clear hb2); (try clear hk); (try clear hi)) | ((with_reducible refine gate_callee (f := 36) rfl ?_); refine goesL_ (some 285) rfl rfl Try.func36 (by kernel_rfl) rfl #[.int .i64 (wrap64 (2 + t440)), .int .u16 t478, .int .u16 t441] rfl (by (try simp only [List.map_toArray, List.map_cons, List.map_nil]); first | done | rfl | (simp only [List.length_drop, List.length_take]; rfl)) ?_; (with_reducible refine (impl_ApartBy.calls (wrap64 (2 + t440)) t478 t441 t482 t483 _ A90.out).mono ?_); rintro e w99 ⟨rfl, hb⟩; refine ⟨_, rfl, ?_⟩; have n0_ := Aside0.mk (Kd.R_below (by (with_reducible repeat (first | apply Kd.R_alloc | apply Kd.R_drewN | apply Kd.R_drew)); exact HO_17.out) hb); have n1_ := Aside0.mk (below_step (by repeat (first | (with_reducible first | exact HB.out | apply below_alloc | apply pw_below_drewN | apply below_drew1) | exact HB.out)) hb); clear HO_17; clear HB; have HO_17 := n0_; have HB := n1_; clear n0_ n1_; (try clear hb); (try clear hb2); (try clear hk); (try clear hi)))
                                                        go_roundg kj83
                                                        case measure => have := HJ10.out; have := HK2.out; have := HK3.out; have := HJ50.out; have := HJ83.out; omega
                                                        case rel => exact ⟨((wrap64 (x24_3 + (t466.length : Int)))), (wrap64 (x25_3 + 1)), (by first | rfl | (simp; done) | (simp [*]; done)), (by first | rfl | (simp; done) | (simp [*]; done)), H', ⟨by have := HJ10.out; have := HK2.out; have := HK3.out; have := HJ50.out; have := HJ83.out; omega⟩, ⟨by (with_reducible repeat (first | apply Kd.R_alloc | apply Kd.R_drewN | apply Kd.R_drew)); exact HO_17.out⟩, ⟨by repeat (first | (with_reducible first | exact HB.out | apply below_alloc | apply pw_below_drewN | apply below_drew1) | exact HB.out)⟩⟩
                                                      · rw [if_neg c97] at H
                                                        have c97b0 : ((Go.bits .andNot .u16 t441 t478) == 0) = false := beq_eq_false_iff_ne.mpr c97
                                                        have c97b1 : ((Go.bits .andNot .u16 t441 t478) != 0) = true := bne_iff_ne.mpr c97
                                                        obtain rfl := Option.some.inj H
                                                        go_wp2_with (first | ((with_reducible refine gate_callee (f := 24) rfl ?_); refine goesL_ (some 278) rfl rfl Try.func24 (by kernel_rfl) rfl #[.int .i64 (wrap64 (2 + t440)), .int .u16 t478] rfl (by (try simp only [List.map_toArray, List.map_cons, List.map_nil]); first | done | rfl | (simp only [List.length_drop, List.length_take]; rfl)) ?_; (with_reducible refine (impl_ClassOf.calls kj83 (wrap64 (2 + t440)) t478 t480 t481 _ A89.out).mono ?_); rintro e w100 ⟨rfl, hb⟩; refine ⟨_, rfl, ?_⟩; have n0_ := Aside0.mk (Kd.R_below (by (with_reducible repeat (first | apply Kd.R_alloc | apply Kd.R_drewN | apply Kd.R_drew)); exact HO_17.out) hb); have n1_ := Aside0.mk (below_step (by repeat (first | (with_reducible first | exact HB.out | apply below_alloc | apply pw_below_drewN | apply below_drew1) | exact HB.out)) hb); clear HO_17; clear HB; have HO_17 := n0_; have HB := n1_; clear n0_ n1_; (try clear hb); (try clear hb2); (try clear hk); (try clear hi)) | ((with_reducible refine gate_callee (f := 36) rfl ?_); refine goesL_ (some 285) rfl rfl Try.func36 (by kernel_rfl) rfl #[.int .i64 (wrap64 (2 + t440)), .int .u16 t478, .int .u16 t441] rfl (by (try simp only [List.map_toArray, List.map_cons, List.map_nil]); first | done | rfl | (simp only [List.length_drop, List.length_take]; rfl)) ?_; (with_reducible refine (impl_ApartBy.calls (wrap64 (2 + t440)) t478 t441 t482 t483 _ A90.out).mono ?_); rintro e w101 ⟨rfl, hb⟩; refine ⟨_, rfl, ?_⟩; have n0_ := Aside0.mk (Kd.R_below (by (with_reducible repeat (first | apply Kd.R_alloc | apply Kd.R_drewN | apply Kd.R_drew)); exact HO_17.out) hb); have n1_ := Aside0.mk (below_step (by repeat (first | (with_reducible first | exact HB.out | apply below_alloc | apply pw_below_drewN | apply below_drew1) | exact HB.out)) hb); clear HO_17; clear HB; have HO_17 := n0_; have HB := n1_; clear n0_ n1_; (try clear hb); (try clear hb2); (try clear hk); (try clear hi)))
                                                        go_ret
                                                        exact ⟨by first | rfl | (simp [errW_none, errW_some] <;> rfl) | (simp [*, errW_none, errW_some] <;> rfl), by repeat (first | (with_reducible first | exact HB.out | apply below_alloc | apply pw_below_drewN | apply below_drew1) | exact HB.out)⟩
                                                  · rw [if_neg c93] at H
                                                    have c93b0 : (t483 == 0) = false := beq_eq_false_iff_ne.mpr c93
                                                    have c93b1 : (t483 != 0) = true := bne_iff_ne.mpr c93
                                                    obtain rfl := Option.some.inj H
                                                    go_wp2_with (first | ((with_reducible refine gate_callee (f := 24) rfl ?_); refine goesL_ (some 278) rfl rfl Try.func24 (by kernel_rfl) rfl #[.int .i64 (wrap64 (2 + t440)), .int .u16 t478] rfl (by (try simp only [List.map_toArray, List.map_cons, List.map_nil]); first | done | rfl | (simp only [List.length_drop, List.length_take]; rfl)) ?_; (with_reducible refine (impl_ClassOf.calls kj83 (wrap64 (2 + t440)) t478 t480 t481 _ A89.out).mono ?_); rintro e w102 ⟨rfl, hb⟩; refine ⟨_, rfl, ?_⟩; have n0_ := Aside0.mk (Kd.R_below (by (with_reducible repeat (first | apply Kd.R_alloc | apply Kd.R_drewN | apply Kd.R_drew)); exact HO_17.out) hb); have n1_ := Aside0.mk (below_step (by repeat (first | (with_reducible first | exact HB.out | apply below_alloc | apply pw_below_drewN | apply below_drew1) | exact HB.out)) hb); clear HO_17; clear HB; have HO_17 := n0_; have HB := n1_; clear n0_ n1_; (try clear hb); (try clear hb2); (try clear hk); (try clear hi)) | ((with_reducible refine gate_callee (f := 36) rfl ?_); refine goesL_ (some 285) rfl rfl Try.func36 (by kernel_rfl) rfl #[.int .i64 (wrap64 (2 + t440)), .int .u16 t478, .int .u16 t441] rfl (by (try simp only [List.map_toArray, List.map_cons, List.map_nil]); first | done | rfl | (simp only [List.length_drop, List.length_take]; rfl)) ?_; (with_reducible refine (impl_ApartBy.calls (wrap64 (2 + t440)) t478 t441 t482 t483 _ A90.out).mono ?_); rintro e w103 ⟨rfl, hb⟩; refine ⟨_, rfl, ?_⟩; have n0_ := Aside0.mk (Kd.R_below (by (with_reducible repeat (first | apply Kd.R_alloc | apply Kd.R_drewN | apply Kd.R_drew)); exact HO_17.out) hb); have n1_ := Aside0.mk (below_step (by repeat (first | (with_reducible first | exact HB.out | apply below_alloc | apply pw_below_drewN | apply below_drew1) | exact HB.out)) hb); clear HO_17; clear HB; have HO_17 := n0_; have HB := n1_; clear n0_ n1_; (try clear hb); (try clear hb2); (try clear hk); (try clear hi)))
                                                    go_ret
                                                    exact ⟨by first | rfl | (simp [errW_none, errW_some] <;> rfl) | (simp [*, errW_none, errW_some] <;> rfl), by repeat (first | (with_reducible first | exact HB.out | apply below_alloc | apply pw_below_drewN | apply below_drew1) | exact HB.out)⟩
                                                · rw [if_neg c92] at H
                                                  have c92b0 : (t480 == x25_3) = false := beq_eq_false_iff_ne.mpr c92
                                                  have c92b1 : (t480 != x25_3) = true := bne_iff_ne.mpr c92
                                                  obtain rfl := Option.some.inj H
                                                  go_wp2_with (first | ((with_reducible refine gate_callee (f := 24) rfl ?_); refine goesL_ (some 278) rfl rfl Try.func24 (by kernel_rfl) rfl #[.int .i64 (wrap64 (2 + t440)), .int .u16 t478] rfl (by (try simp only [List.map_toArray, List.map_cons, List.map_nil]); first | done | rfl | (simp only [List.length_drop, List.length_take]; rfl)) ?_; (with_reducible refine (impl_ClassOf.calls kj83 (wrap64 (2 + t440)) t478 t480 t481 _ A89.out).mono ?_); rintro e w104 ⟨rfl, hb⟩; refine ⟨_, rfl, ?_⟩; have n0_ := Aside0.mk (Kd.R_below (by (with_reducible repeat (first | apply Kd.R_alloc | apply Kd.R_drewN | apply Kd.R_drew)); exact HO_17.out) hb); have n1_ := Aside0.mk (below_step (by repeat (first | (with_reducible first | exact HB.out | apply below_alloc | apply pw_below_drewN | apply below_drew1) | exact HB.out)) hb); clear HO_17; clear HB; have HO_17 := n0_; have HB := n1_; clear n0_ n1_; (try clear hb); (try clear hb2); (try clear hk); (try clear hi)) | ((with_reducible refine gate_callee (f := 36) rfl ?_); refine goesL_ (some 285) rfl rfl Try.func36 (by kernel_rfl) rfl #[.int .i64 (wrap64 (2 + t440)), .int .u16 t478, .int .u16 t441] rfl (by (try simp only [List.map_toArray, List.map_cons, List.map_nil]); first | done | rfl | (simp only [List.length_drop, List.length_take]; rfl)) ?_; (with_reducible refine (impl_ApartBy.calls (wrap64 (2 + t440)) t478 t441 t482 t483 _ A90.out).mono ?_); rintro e w105 ⟨rfl, hb⟩; refine ⟨_, rfl, ?_⟩; have n0_ := Aside0.mk (Kd.R_below (by (with_reducible repeat (first | apply Kd.R_alloc | apply Kd.R_drewN | apply Kd.R_drew)); exact HO_17.out) hb); have n1_ := Aside0.mk (below_step (by repeat (first | (with_reducible first | exact HB.out | apply below_alloc | apply pw_below_drewN | apply below_drew1) | exact HB.out)) hb); clear HO_17; clear HB; have HO_17 := n0_; have HB := n1_; clear n0_ n1_; (try clear hb); (try clear hb2); (try clear hk); (try clear hi)))
                                                  go_ret
                                                  exact ⟨by first | rfl | (simp [errW_none, errW_some] <;> rfl) | (simp [*, errW_none, errW_some] <;> rfl), by repeat (first | (with_reducible first | exact HB.out | apply below_alloc | apply pw_below_drewN | apply below_drew1) | exact HB.out)⟩
                                              · rw [if_neg c91] at H
                                                have c91b0 : (t481 == 0) = false := beq_eq_false_iff_ne.mpr c91
                                                have c91b1 : (t481 != 0) = true := bne_iff_ne.mpr c91
                                                obtain rfl := Option.some.inj H
                                                go_wp2_with (first | ((with_reducible refine gate_callee (f := 24) rfl ?_); refine goesL_ (some 278) rfl rfl Try.func24 (by kernel_rfl) rfl #[.int .i64 (wrap64 (2 + t440)), .int .u16 t478] rfl (by (try simp only [List.map_toArray, List.map_cons, List.map_nil]); first | done | rfl | (simp only [List.length_drop, List.length_take]; rfl)) ?_; (with_reducible refine (impl_ClassOf.calls kj83 (wrap64 (2 + t440)) t478 t480 t481 _ A89.out).mono ?_); rintro e w106 ⟨rfl, hb⟩; refine ⟨_, rfl, ?_⟩; have n0_ := Aside0.mk (Kd.R_below (by (with_reducible repeat (first | apply Kd.R_alloc | apply Kd.R_drewN | apply Kd.R_drew)); exact HO_17.out) hb); have n1_ := Aside0.mk (below_step (by repeat (first | (with_reducible first | exact HB.out | apply below_alloc | apply pw_below_drewN | apply below_drew1) | exact HB.out)) hb); clear HO_17; clear HB; have HO_17 := n0_; have HB := n1_; clear n0_ n1_; (try clear hb); (try clear hb2); (try clear hk); (try clear hi)) | ((with_reducible refine gate_callee (f := 36) rfl ?_); refine goesL_ (some 285) rfl rfl Try.func36 (by kernel_rfl) rfl #[.int .i64 (wrap64 (2 + t440)), .int .u16 t478, .int .u16 t441] rfl (by (try simp only [List.map_toArray, List.map_cons, List.map_nil]); first | done | rfl | (simp only [List.length_drop, List.length_take]; rfl)) ?_; (with_reducible refine (impl_ApartBy.calls (wrap64 (2 + t440)) t478 t441 t482 t483 _ A90.out).mono ?_); rintro e w107 ⟨rfl, hb⟩; refine ⟨_, rfl, ?_⟩; have n0_ := Aside0.mk (Kd.R_below (by (with_reducible repeat (first | apply Kd.R_alloc | apply Kd.R_drewN | apply Kd.R_drew)); exact HO_17.out) hb); have n1_ := Aside0.mk (below_step (by repeat (first | (with_reducible first | exact HB.out | apply below_alloc | apply pw_below_drewN | apply below_drew1) | exact HB.out)) hb); clear HO_17; clear HB; have HO_17 := n0_; have HB := n1_; clear n0_ n1_; (try clear hb); (try clear hb2); (try clear hk); (try clear hi)))
                                                go_ret
                                                exact ⟨by first | rfl | (simp [errW_none, errW_some] <;> rfl) | (simp [*, errW_none, errW_some] <;> rfl), by repeat (first | (with_reducible first | exact HB.out | apply below_alloc | apply pw_below_drewN | apply below_drew1) | exact HB.out)⟩
                                            · rw [if_neg c88] at H
                                              have c88b0 : (t477 == 0) = false := beq_eq_false_iff_ne.mpr c88
                                              have c88b1 : (t477 != 0) = true := bne_iff_ne.mpr c88
                                              have H' := Aside0.mk H
                                              clear H
                                              go_wp2
                                              go_roundg kj83
                                              case measure => have := HJ10.out; have := HK2.out; have := HK3.out; have := HJ50.out; have := HJ83.out; omega
                                              case rel => exact ⟨((wrap64 (x24_3 + (t466.length : Int)))), (wrap64 (x25_3 + 1)), (by first | rfl | (simp; done) | (simp [*]; done)), (by first | rfl | (simp; done) | (simp [*]; done)), H', ⟨by have := HJ10.out; have := HK2.out; have := HK3.out; have := HJ50.out; have := HJ83.out; omega⟩, ⟨by (with_reducible repeat (first | apply Kd.R_alloc | apply Kd.R_drewN | apply Kd.R_drew)); exact HO_17.out⟩, ⟨by repeat (first | (with_reducible first | exact HB.out | apply below_alloc | apply pw_below_drewN | apply below_drew1) | exact HB.out)⟩⟩
                          · rw [if_neg c47] at H
                            have c47b0 : decide (x25_3 ≤ (wrap64 (2 + t440))) = false := decide_eq_false c47
                            clear c47
                            by_cases c108 : t453 = 0
                            · rw [if_pos c108] at H
                              have c108b0 : (t453 == 0) = true := beq_iff_eq.mpr c108
                              have c108b1 : (t453 != 0) = false := bne_eq_false_iff_eq.mpr c108
                              clear c108
                              by_cases c109 : (t452.length : Int) > 0
                              · rw [if_pos c109] at H
                                have c109b0 : decide (0 < (t452.length : Int)) = true := decide_eq_true c109
                                have c109b1 : decide (0 < t452.length) = true := decide_eq_true (by omega)
                                clear c109
                                obtain ⟨ji110, hji110⟩ : ∃ j_ : Int, (IntKind.u64.wrap ((wrap64 (2 + t440)))) = j_ := ⟨_, rfl⟩
                                replace H : (if 0 ≤ (ji110) then (some (x24_3 == (shl .i64 1 (ji110)))) else (none)) = some r := by first | (rw [hji110] at H; exact H) | (simp only [hji110] at H ⊢; exact H)
                                by_cases c111 : 0 ≤ (ji110)
                                · rw [if_pos c111] at H
                                  have c111b0 := eq_true c111
                                  have c111b1 : decide (0 ≤ (ji110)) = true := decide_eq_true c111
                                  clear c111
                                  obtain ⟨ji112, hji112⟩ : ∃ j_ : Int, (shl .i64 1 (ji110)) = j_ := ⟨_, rfl⟩
                                  replace H : (some (x24_3 == (ji112))) = some r := by first | (rw [hji112] at H; exact H) | (simp only [hji112] at H ⊢; exact H)
                                  have hji112_ : (IntKind.i64.wrap (1 * 2 ^ min (ji110).toNat 64)) = ji112 := hji112
                                  have hji112z : (ji110) ≤ 64 → (IntKind.i64.wrap (1 * 2 ^ (ji110).toNat)) = ji112 := shl_small hji112
                                  have hji112u : (IntKind.i64.wrap (2 ^ min (ji110).toNat 64)) = ji112 := by have h_ := hji112_; rw [Int.one_mul] at h_; exact h_
                                  have hji112v : (ji110) ≤ 64 → (IntKind.i64.wrap (2 ^ (ji110).toNat)) = ji112 := fun hle_ => by have h_ := hji112z hle_; rw [Int.one_mul] at h_; exact h_
                                  have hji112y : (wrap64 (1 * 2 ^ min (ji110).toNat 64)) = ji112 := (i64_w _).symm.trans hji112_
                                  have hji112x : (ji110) ≤ 64 → (wrap64 (1 * 2 ^ (ji110).toNat)) = ji112 := fun h_ => (i64_w _).symm.trans (hji112z h_)
                                  obtain rfl := Option.some.inj H
                                  go_wp2
                                  go_ret
                                  exact ⟨by first | rfl | (simp [errW_none, errW_some] <;> rfl) | (simp only [← hji110, ← hji112]; first | rfl | (simp [errW_none, errW_some] <;> rfl)) | (simp [*, errW_none, errW_some] <;> rfl), by repeat (first | (with_reducible first | exact HB.out | apply below_alloc | apply pw_below_drewN | apply below_drew1) | exact HB.out)⟩
                                · rw [if_neg c111] at H
                                  exact absurd H (by simp)
                              · rw [if_neg c109] at H
                                have c109b0 : decide (0 < (t452.length : Int)) = false := decide_eq_false c109
                                have c109b1 : decide (0 < t452.length) = false := decide_eq_false (by omega)
                                clear c109
                                obtain rfl := Option.some.inj H
                                go_wp2
                                go_ret
                                exact ⟨by first | rfl | (simp [errW_none, errW_some] <;> rfl) | (simp [*, errW_none, errW_some] <;> rfl), by repeat (first | (with_reducible first | exact HB.out | apply below_alloc | apply pw_below_drewN | apply below_drew1) | exact HB.out)⟩
                            · rw [if_neg c108] at H
                              have c108b0 : (t453 == 0) = false := beq_eq_false_iff_ne.mpr c108
                              have c108b1 : (t453 != 0) = true := bne_iff_ne.mpr c108
                              obtain rfl := Option.some.inj H
                              go_wp2
                              go_ret
                              exact ⟨by first | rfl | (simp [errW_none, errW_some] <;> rfl) | (simp [*, errW_none, errW_some] <;> rfl), by repeat (first | (with_reducible first | exact HB.out | apply below_alloc | apply pw_below_drewN | apply below_drew1) | exact HB.out)⟩
def laws_FnClasses.Pure : Prop := ∀ (l0 : List Int) (l1 : List Int), l0.length ≤ maxLen → l0.length * 1 ≤ 140737488351232 → (∀ x ∈ l0, (Lit.int .u8 x).wf = true) → l1.length ≤ maxLen → l1.length * 1 ≤ 140737488351232 → (∀ x ∈ l1, (Lit.int .u8 x).wf = true) → ∃ k, laws_FnClasses.f k l0 l1 = some true
theorem laws_FnClasses.walk (P : laws_FnClasses.Pure) (a0 : Option Addr) (len0 cap0 : Nat) (z0 : List Int) (a1 : Option Addr) (len1 cap1 : Nat) (z1 : List Int) (w : World) (w0 : (a0 = none ∧ len0 = 0 ∧ cap0 = 0 ∧ z0 = []) ∨ ∃ x, a0 = some x ∧ len0 ≤ cap0 ∧ cap0 ≤ maxLen ∧ z0.length = cap0 ∧ (∀ i, i < z0.length → w.cell? (x.add i) = some (.int .u8 (z0.getD i 0))) ∧ ∀ n ∈ z0, (Lit.int .u8 n).wf = true) (y0 : len0 * 1 ≤ 140737488351232) (w1 : (a1 = none ∧ len1 = 0 ∧ cap1 = 0 ∧ z1 = []) ∨ ∃ x, a1 = some x ∧ len1 ≤ cap1 ∧ cap1 ≤ maxLen ∧ z1.length = cap1 ∧ (∀ i, i < z1.length → w.cell? (x.add i) = some (.int .u8 (z1.getD i 0))) ∧ ∀ n ∈ z1, (Lit.int .u8 n).wf = true) (y1 : len1 * 1 ≤ 140737488351232) :
    Calls Try.prog 5 #[.slice a0 len0 cap0, .slice a1 len1 cap1] w fun e w' => e = .returned (.bool true) ∧ Below w.heap.size w w' := by
  obtain ⟨l0, rfl, hr0, hm0, hw0, hc0⟩ := ReadsInt.ofRowC w0
  obtain ⟨l1, rfl, hr1, hm1, hw1, hc1⟩ := ReadsInt.ofRowC w1
  obtain ⟨k, h⟩ := P l0 l1 hm0 y0 hw0 hm1 y1 hw1
  refine (laws_FnClasses.calls k _ _ l0 _ _ l1 true w (Kd.C_of_reads (d := (0 : Int)) (h1 := fun _ => rfl) hr0) hc0 (Kd.C_of_reads (d := (0 : Int)) (h1 := fun _ => rfl) hr1) hc1 h).mono ?_
  rintro e w' ⟨rfl, hd⟩
  exact ⟨rfl, hd⟩
end Go.Proofs.Ytpokpbhcfdaapaa.M
