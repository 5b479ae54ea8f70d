import Derived.Test.YtggjdcijplgpdaazEAllDryAtD0
import Derived.Test.YtggjdcijplgpdaazEAllDryAtD1
import Derived.Test.YtggjdcijplgpdaazEAllDryAtD13
import Derived.Test.YtggjdcijplgpdaazEAllDryAtD14
import Derived.Test.YtggjdcijplgpdaazEAllDryAtD2
import Derived.Test.YtggjdcijplgpdaazEAllDryAtEEvLoop
namespace Go.Proofs.Ytggjdcijplgpdaa.D
open Go.RowKit Go.Proofs.YtggjdcijplgpdaaW.PrintWords Go.Proofs.YtggjdcijplgpdaaW.PrintLast Go.Proofs.YtggjdcijplgpdaaW.PrintMore
attribute [local go_sem] max2_int min2_int max_two min_two max_three min_three max_four min_four
set_option linter.unusedVariables false
set_option linter.unusedSimpArgs false
def toW (x : S131) : S128 := ⟨x.f0, x.f1⟩
theorem rd128_lt (l : List S128) (i : Nat) (h : i < l.length) : rd_T128 l (i : Int) = l[i] := by
  show l.getD i z128 = _
  rw [List.getD_eq_getElem?_getD, List.getElem?_eq_getElem h]
  rfl
theorem rd131_lt (l : List S131) (i : Nat) (h : i < l.length) : rd_T131 l (i : Int) = l[i] := by
  show l.getD i z131 = _
  rw [List.getD_eq_getElem?_getD, List.getElem?_eq_getElem h]
  rfl
theorem eqWash_f (x : S128) : laws_eqWash.f x.f0 x.f1 x.f0 x.f1 = some true := by
  unfold laws_eqWash.f
  simp
theorem laws_eqWashS.same (l : List S128) (hm : l.length ≤ 4611686018427387904) : Ev (fun k => laws_eqWashS.f k l l) true := by
  refine Ev.congr (f := fun k => laws_eqWashS.l0 k l l 0) (fun k => by unfold laws_eqWashS.f; rw [if_pos rfl]) ?_
  refine Ev.loop (L := fun k s => laws_eqWashS.l0 k l l s) (fun s d => ∃ i : Nat, i + d = l.length ∧ s = (i : Int)) ?_ l.length 0 ⟨0, by omega, rfl⟩
  rintro s d ⟨i, hd, rfl⟩
  by_cases c : i < l.length
  · refine .inr ⟨((i + 1 : Nat) : Int), d - 1, by omega, ⟨i + 1, by omega, rfl⟩, 0, fun k _ => ?_⟩
    rw [laws_eqWashS.l0]
    rw [if_pos (by omega), if_pos (by omega), if_pos (by omega), eqWash_f, Option.bind_some, if_pos rfl, w64 _ (by omega) (by omega)]
    rfl
  · refine .inl ⟨0, fun k _ => ?_⟩
    rw [laws_eqWashS.l0]
    rw [if_neg (by omega)]
theorem laws_toWashS.ev (l : List S131) (hm : l.length ≤ 70368744177664) : Ev (fun k => laws_toWashS.f k l) (l.map toW) := by
  refine Ev.congr (f := fun k => laws_toWashS.l0 k l (List.replicate l.length z128) 0) (fun k => by unfold laws_toWashS.f; rw [if_pos (by omega), if_pos (by omega)]; rfl) ?_
  refine Ev.loop (L := fun k s => laws_toWashS.l0 k l s.1 s.2) (fun s d => ∃ i : Nat, i + d = l.length ∧ s = ((l.map toW).take i ++ List.replicate (l.length - i) z128, (i : Int))) ?_ l.length (List.replicate l.length z128, 0) ⟨0, by omega, by simp⟩
  rintro ⟨x, z⟩ d ⟨i, hd, e⟩
  cases e
  have lm : (l.map toW).length = l.length := by simp
  have hl : ((l.map toW).take i ++ List.replicate (l.length - i) z128).length = l.length := by rw [List.length_append, List.length_take, List.length_replicate]; omega
  by_cases c : i < l.length
  · refine .inr ⟨((l.map toW).take (i + 1) ++ List.replicate (l.length - (i + 1)) z128, ((i + 1 : Nat) : Int)), d - 1, by omega, ⟨i + 1, by omega, rfl⟩, 0, fun k _ => ?_⟩
    dsimp only
    rw [laws_toWashS.l0]
    have e1 : laws_toWash.f (rd_T131 l (i : Int)).f0 (rd_T131 l (i : Int)).f1 = some (l[i].f0, l[i].f1) := by rw [rd131_lt l i c]; rfl
    rw [if_pos (by omega), if_pos (by omega), e1, Option.bind_some, if_pos (by rw [hl]; omega), w64 _ (by omega) (by omega)]
    have hs : ((l.map toW).take i ++ List.replicate (l.length - i) z128).set ((i : Int) : Int).toNat (toW l[i]) = (l.map toW).take (i + 1) ++ List.replicate (l.length - (i + 1)) z128 := by
      have ht : ((l.map toW).take i).length = i := by rw [List.length_take]; omega
      rw [Int.toNat_natCast, List.set_append_right _ _ (by omega), ht, Nat.sub_self]
      have hrep : l.length - i = (l.length - (i + 1)) + 1 := by omega
      rw [hrep, List.replicate_succ, List.set_cons_zero, List.take_succ_eq_append_getElem (by omega : i < (l.map toW).length), List.append_assoc]
      simp
    show laws_toWashS.l0 k l (((l.map toW).take i ++ List.replicate (l.length - i) z128).set ((i : Int) : Int).toNat (toW l[i])) _ = _
    rw [hs]
    rfl
  · obtain rfl : i = l.length := by omega
    refine .inl ⟨0, fun k _ => ?_⟩
    dsimp only
    rw [laws_toWashS.l0]
    rw [if_neg (by omega)]
    rw [Nat.sub_self, List.take_of_length_le (by omega)]
    simp
theorem sz_f (l : List S131) (hm : l.length ≤ 4611686018427387904) : laws_szWashS.f l 1048576 = some (if l.length ≤ 1048576 then 1048576 - (l.length : Int) else -1) := by
  unfold laws_szWashS.f
  rw [w64 _ (by omega) (by omega)]
  by_cases c : l.length ≤ 1048576
  · rw [if_neg (by omega), if_pos c]
  · rw [if_pos (by omega), if_neg c]
end Go.Proofs.Ytggjdcijplgpdaa.D
