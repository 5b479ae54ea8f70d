/- What the laws' helpers on rows of pieces come to: a copy is the row, a row equals itself. Condition: the rows are not longer than memory. -/
import Derived.Test.YthkccaclmodjiaaDoorD0
import Derived.Test.YthkccaclmodjiaaDoorD4
import Derived.Test.YthkccaclmodjiaaDoorD6
import Derived.Test.YthkccaclmodjiaaDoorD7
import Derived.Test.YthkccaclmodjiaaDoorEEvLoop
namespace Go.Proofs.YthkccaclmodjiaaDoor.D
open Go.RowKit Go.Proofs.YthkccaclmodjiaaDoorW.PrintWords Go.Proofs.YthkccaclmodjiaaDoorW.PrintLast Go.Proofs.YthkccaclmodjiaaDoorW.PrintMore
attribute [local go_sem] max2_int min2_int max_two min_two max_three min_three max_four min_four
set_option linter.unusedVariables false
set_option linter.unusedSimpArgs false
def toP (x : S37) : S35 := ⟨x.f0, x.f1, x.f2⟩
theorem rd35_lt (l : List S35) (i : Nat) (h : i < l.length) : rd_T35 l (i : Int) = l[i] := by
  show l.getD i z35 = _
  rw [List.getD_eq_getElem?_getD, List.getElem?_eq_getElem h]
  rfl
theorem rd37_lt (l : List S37) (i : Nat) (h : i < l.length) : rd_T37 l (i : Int) = l[i] := by
  show l.getD i z37 = _
  rw [List.getD_eq_getElem?_getD, List.getElem?_eq_getElem h]
  rfl
theorem eqPiece_f (x : S35) : laws_eqPiece.f x.f0 x.f1 x.f2 x.f0 x.f1 x.f2 = some true := by
  unfold laws_eqPiece.f
  simp
theorem laws_eqPieceS.same (l : List S35) (hm : l.length ≤ 4611686018427387904) : Ev (fun k => laws_eqPieceS.f k l l) true := by
  refine Ev.congr (f := fun k => laws_eqPieceS.l0 k l l 0) (fun k => by unfold laws_eqPieceS.f; rw [if_pos rfl]) ?_
  refine Ev.loop (L := fun k s => laws_eqPieceS.l0 k l l s) (fun s d => ∃ i : Nat, i + d = l.length ∧ s = (i : Int)) ?_ l.length 0 ⟨0, by omega, rfl⟩
  rintro s d ⟨i, hd, rfl⟩
  by_cases c : i < l.length
  · refine .inr ⟨((i + 1 : Nat) : Int), d - 1, by omega, ⟨i + 1, by omega, rfl⟩, 0, fun k _ => ?_⟩
    rw [laws_eqPieceS.l0]
    rw [if_pos (by omega), if_pos (by omega), if_pos (by omega), eqPiece_f, Option.bind_some, if_pos rfl, w64 _ (by omega) (by omega)]
    rfl
  · refine .inl ⟨0, fun k _ => ?_⟩
    rw [laws_eqPieceS.l0]
    rw [if_neg (by omega)]
theorem laws_toPieceS.ev (l : List S37) (hm : l.length ≤ 70368744177664) : Ev (fun k => laws_toPieceS.f k l) (l.map toP) := by
  refine Ev.congr (f := fun k => laws_toPieceS.l0 k l (List.replicate l.length z35) 0) (fun k => by unfold laws_toPieceS.f; rw [if_pos (by omega), if_pos (by omega)]; rfl) ?_
  refine Ev.loop (L := fun k s => laws_toPieceS.l0 k l s.1 s.2) (fun s d => ∃ i : Nat, i + d = l.length ∧ s = ((l.map toP).take i ++ List.replicate (l.length - i) z35, (i : Int))) ?_ l.length (List.replicate l.length z35, 0) ⟨0, by omega, by simp⟩
  rintro ⟨x, z⟩ d ⟨i, hd, e⟩
  cases e
  have lm : (l.map toP).length = l.length := by simp
  have hl : ((l.map toP).take i ++ List.replicate (l.length - i) z35).length = l.length := by rw [List.length_append, List.length_take, List.length_replicate]; omega
  by_cases c : i < l.length
  · refine .inr ⟨((l.map toP).take (i + 1) ++ List.replicate (l.length - (i + 1)) z35, ((i + 1 : Nat) : Int)), d - 1, by omega, ⟨i + 1, by omega, rfl⟩, 0, fun k _ => ?_⟩
    dsimp only
    rw [laws_toPieceS.l0]
    have e1 : laws_toPiece.f (rd_T37 l (i : Int)).f0 (rd_T37 l (i : Int)).f1 (rd_T37 l (i : Int)).f2 = some (l[i].f0, l[i].f1, l[i].f2) := by rw [rd37_lt l i c]; rfl
    rw [if_pos (by omega), if_pos (by omega), e1, Option.bind_some, if_pos (by rw [hl]; omega), w64 _ (by omega) (by omega)]
    have hs : ((l.map toP).take i ++ List.replicate (l.length - i) z35).set ((i : Int) : Int).toNat (toP l[i]) = (l.map toP).take (i + 1) ++ List.replicate (l.length - (i + 1)) z35 := by
      have ht : ((l.map toP).take i).length = i := by rw [List.length_take]; omega
      rw [Int.toNat_natCast, List.set_append_right _ _ (by omega), ht, Nat.sub_self]
      have hrep : l.length - i = (l.length - (i + 1)) + 1 := by omega
      rw [hrep, List.replicate_succ, List.set_cons_zero, List.take_succ_eq_append_getElem (by omega : i < (l.map toP).length), List.append_assoc]
      simp
    show laws_toPieceS.l0 k l (((l.map toP).take i ++ List.replicate (l.length - i) z35).set ((i : Int) : Int).toNat (toP l[i])) _ = _
    rw [hs]
    rfl
  · obtain rfl : i = l.length := by omega
    refine .inl ⟨0, fun k _ => ?_⟩
    dsimp only
    rw [laws_toPieceS.l0]
    rw [if_neg (by omega)]
    rw [Nat.sub_self, List.take_of_length_le (by omega)]
    simp

end Go.Proofs.YthkccaclmodjiaaDoor.D
