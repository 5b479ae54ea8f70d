import Derived.Test.YtklnpldggclejaazELikelyLostEPredMark
import Derived.Test.YtklnpldggclejaazELikelyLostM0
import Derived.Test.YtklnpldggclejaazELikelyLostM5
import Derived.Test.YtklnpldggclejaazELikelyLostEEvLoop
import Derived.Test.YtklnpldggclejaazELikelyLostEMLem
import Derived.Test.YtklnpldggclejaazELikelyLostEMLem2
import Derived.Test.YtklnpldggclejaazELikelyLostEMarkCode
import Derived.Test.YtklnpldggclejaazELikelyLostM10
import Derived.Test.YtklnpldggclejaazELikelyLostM1
import Derived.Test.YtklnpldggclejaazELikelyLostM6
import Derived.Test.YtklnpldggclejaazELikelyLostM9
import Derived.Test.YtklnpldggclejaazELikelyLostM4
import Derived.Shelf.Abstract
namespace Go.Proofs.Ytklnpldggclejaa.M
open Go.RowKit Go.Proofs.YtklnpldggclejaaW.PrintWords Go.Proofs.YtklnpldggclejaaW.PrintLast Go.Proofs.YtklnpldggclejaaW.PrintMore
attribute [local go_sem] max2_int min2_int max_two min_two max_three min_three max_four min_four
set_option linter.unusedVariables false
set_option linter.unusedSimpArgs false
def firstNZ : List Int → Int
  | [] => 0
  | x :: r => if x = 0 then firstNZ r else x
theorem firstOf_ev (l : List Int) (hm : l.length ≤ 4611686018427387904) : Ev (fun k => impl_firstOf.f k l) (firstNZ l) := by
  refine Ev.loop (L := fun k s => impl_firstOf.l0 k l (l.length : Int) s) (fun s d => ∃ i : Nat, i + d = l.length ∧ s = (i : Int) ∧ firstNZ (l.drop i) = firstNZ l) ?_ l.length 0 ⟨0, by omega, rfl, rfl⟩
  rintro s d ⟨i, hd, rfl, hf⟩
  by_cases c : i < l.length
  · have e : l.drop i = l[i] :: l.drop (i + 1) := List.drop_eq_getElem_cons c
    by_cases q : l[i] = 0
    · refine .inr ⟨((i + 1 : Nat) : Int), d - 1, by omega, ⟨i + 1, by omega, rfl, ?_⟩, 0, fun k _ => ?_⟩
      · rw [← hf, e, firstNZ, if_pos q]
      · rw [impl_firstOf.l0]
        rw [if_pos (by omega), if_pos (by omega), if_pos (by omega), rd_of_lt l i c, if_pos q, w64 _ (by omega) (by omega)]
        rfl
    · refine .inl ⟨0, fun k _ => ?_⟩
      rw [← hf, e, firstNZ, if_neg q]
      rw [impl_firstOf.l0]
      rw [if_pos (by omega), if_pos (by omega), if_pos (by omega), rd_of_lt l i c, if_neg q]
  · refine .inl ⟨0, fun k _ => ?_⟩
    rw [← hf, List.drop_eq_nil_of_le (by omega)]
    rw [impl_firstOf.l0]
    rw [if_neg (by omega)]
    rfl
def listCode (n : Int) (l : List Int) : Int := if 1 ≤ n ∧ n ≤ 12 then (if l.any (fun m => !okMark n m) = true then 1 else if l.length > 40 then 3 else 0) else 1
theorem few_f (l : List Int) : impl_fewMarks.f l = some (if l.length ≤ 40 then 0 else 3) := by
  unfold impl_fewMarks.f
  rw [unless_d]
  by_cases c : l.length ≤ 40
  · rw [if_pos (by omega), if_pos c]; rfl
  · rw [if_neg (by omega), if_neg c]; rfl
theorem implCode_f (n : Int) (l : List Int) : impl_markCode.f n l = some (if 1 ≤ n ∧ n ≤ 12 then (if l.any (fun m => !okMark n m) = true then 1 else 0) else 1) := rfl
theorem specList_ev (n : Int) (l : List Int) (hm : l.length ≤ 4611686018427387904) : Ev (fun k => spec_l06List.f k n l) (listCode n l) := by
  by_cases c : 1 ≤ n ∧ n ≤ 12
  · refine Ev.congr (f := fun k => spec_l06List.l0 k n l 0) (fun k => by unfold spec_l06List.f; rw [many_f, decide_eq_true c]; rfl) ?_
    refine Ev.loop (L := fun k s => spec_l06List.l0 k n l s) (fun s d => ∃ i : Nat, i + d = l.length ∧ s = (i : Int) ∧ (l.drop i).any (fun m => !okMark n m) = l.any (fun m => !okMark n m)) ?_ l.length 0 ⟨0, by omega, rfl, rfl⟩
    rintro s d ⟨i, hd, rfl, hf⟩
    by_cases h : i < l.length
    · have e : l.drop i = l[i] :: l.drop (i + 1) := List.drop_eq_getElem_cons h
      cases q : okMark n l[i] with
      | true =>
        refine .inr ⟨((i + 1 : Nat) : Int), d - 1, by omega, ⟨i + 1, by omega, rfl, ?_⟩, 0, fun k _ => ?_⟩
        · rw [← hf, e, List.any_cons, q]; rfl
        · rw [spec_l06List.l0]
          rw [if_pos (by omega), if_pos (by omega), rd_of_lt l i h, ok_f, q, w64 _ (by omega) (by omega)]
          rfl
      | false =>
        refine .inl ⟨0, fun k _ => ?_⟩
        have a : l.any (fun m => !okMark n m) = true := by rw [← hf, e, List.any_cons, q]; rfl
        unfold listCode
        rw [if_pos c, if_pos a]
        rw [spec_l06List.l0]
        rw [if_pos (by omega), if_pos (by omega), rd_of_lt l i h, ok_f, q]
        rfl
    · refine .inl ⟨0, fun k _ => ?_⟩
      have a : l.any (fun m => !okMark n m) = false := by rw [← hf, List.drop_eq_nil_of_le (by omega)]; rfl
      unfold listCode
      rw [if_pos c, a, if_neg (by decide)]
      rw [spec_l06List.l0]
      rw [if_neg (by omega)]
      by_cases f : l.length > 40
      · rw [if_pos (by omega), if_pos f]
      · rw [if_neg (by omega), if_neg f]
  · refine Ev.fixed (fun k => ?_)
    unfold spec_l06List.f listCode
    rw [many_f, decide_eq_false c, if_neg c]
    rfl
end Go.Proofs.Ytklnpldggclejaa.M
