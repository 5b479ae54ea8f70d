import Derived.Test.YthkccaclmodjiaazEFewestLateEBLem1
import Derived.Test.YthkccaclmodjiaazEFewestLateEEvLoop
import Derived.Test.YthkccaclmodjiaazEFewestLateEListsPiece
import Derived.Test.YthkccaclmodjiaazEFewestLateI0
import Derived.Test.YthkccaclmodjiaazEFewestLateI3
import Derived.Test.YthkccaclmodjiaazEFewestLateI33
import Derived.Test.YthkccaclmodjiaazEFewestLateI4
import Derived.Test.YthkccaclmodjiaazEFewestLateI5
namespace Go.Proofs.Ythkccaclmodjiaa.I
open Go.RowKit Go.Proofs.YthkccaclmodjiaaW.PrintWords Go.Proofs.YthkccaclmodjiaaW.PrintLast Go.Proofs.YthkccaclmodjiaaW.PrintMore
attribute [local go_sem] max2_int min2_int max_two min_two max_three min_three max_four min_four
set_option linter.unusedVariables false
set_option linter.unusedSimpArgs false
def sumMin (l : List S57) : Nat → Int
  | 0 => 0
  | i + 1 => sumMin l i + (rd_T57 l (i : Nat)).f1
def topLevel (l : List S57) : Nat → Int
  | 0 => 0
  | i + 1 => if (rd_T57 l (i : Nat)).f0 > topLevel l i then (rd_T57 l (i : Nat)).f0 else topLevel l i
def Fine (l : List S57) : Prop := ∀ p ∈ l, wrap64 p.f0 = p.f0 ∧ wrap64 p.f1 = p.f1 ∧ wrap64 p.f2 = p.f2 ∧ 1 ≤ p.f0 ∧ p.f0 ≤ 3 ∧ 1 ≤ p.f1 ∧ p.f1 ≤ 60 ∧ 0 ≤ p.f2 ∧ p.f2 ≤ 1000
attribute [local irreducible] sumMin topLevel rd_T57
def Typed (l : List S57) : Prop := ∀ p ∈ l, (-128 ≤ p.f0 ∧ p.f0 ≤ 127) ∧ (-128 ≤ p.f1 ∧ p.f1 ≤ 127) ∧ (-32768 ≤ p.f2 ∧ p.f2 ≤ 32767)
theorem fine_of (x y : Int) (l : List S57) (ht : Typed l) (h : codeIron x y l = 0) : l.length ≤ 8 ∧ Fine l := by
  obtain ⟨_, h8, hp⟩ := code_zero x y l h
  exact ⟨h8, fun p m => okPiece_bd p (ht p m).1 (ht p m).2.1 (ht p m).2.2 (hp p m)⟩
theorem typed_of (l : List S69) (h : ∀ x ∈ l, (Lit.int .i8 x.f0).wf = true ∧ (Lit.int .i8 x.f1).wf = true ∧ (Lit.int .i16 x.f2).wf = true) : Typed (l.map toP) := by
  intro p hp
  obtain ⟨x, hx, rfl⟩ := List.mem_map.mp hp
  exact ⟨i8_bd (h x hx).1, i8_bd (h x hx).2.1, i16_bd (h x hx).2.2⟩
theorem sz_f (l : List S69) (hm : l.length ≤ 4611686018427387904) : laws_szPieceS.f l 1048576 = some (if l.length ≤ 1048576 then 1048576 - (l.length : Int) else -1) := by
  unfold laws_szPieceS.f
  rw [w64 _ (by omega) (by omega)]
  by_cases c : l.length ≤ 1048576
  · rw [if_neg (by omega), if_pos c]
  · rw [if_pos (by omega), if_neg c]
end Go.Proofs.Ythkccaclmodjiaa.I
