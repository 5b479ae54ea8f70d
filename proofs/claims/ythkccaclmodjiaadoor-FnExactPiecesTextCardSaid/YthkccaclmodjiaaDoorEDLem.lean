/- Codes of irons and pieces: the program's and the reference's come to the same. Condition: the list is not longer than memory. -/
import Derived.Test.YthkccaclmodjiaaDoorD0
import Derived.Test.YthkccaclmodjiaaDoorD1
import Derived.Test.YthkccaclmodjiaaDoorD4
import Derived.Test.YthkccaclmodjiaaDoorEEvLoop
import Derived.Test.YthkccaclmodjiaaDoorEListsPiece
import Derived.Test.YthkccaclmodjiaaDoorEPieceCode
namespace Go.Proofs.YthkccaclmodjiaaDoor.D
open Go.RowKit Go.Proofs.YthkccaclmodjiaaDoorW.PrintWords Go.Proofs.YthkccaclmodjiaaDoorW.PrintLast Go.Proofs.YthkccaclmodjiaaDoorW.PrintMore
attribute [local go_sem] max2_int min2_int max_two min_two max_three min_three max_four min_four
set_option linter.unusedVariables false
set_option linter.unusedSimpArgs false
theorem i8_bd {x : Int} (h : (Lit.int .i8 x).wf = true) : -128 ≤ x ∧ x ≤ 127 := by
  simp [Lit.wf, IntKind.min, IntKind.max, IntKind.bits, IntKind.signed] at h
  omega
theorem i16_bd {x : Int} (h : (Lit.int .i16 x).wf = true) : -32768 ≤ x ∧ x ≤ 32767 := by
  simp [Lit.wf, IntKind.min, IntKind.max, IntKind.bits, IntKind.signed] at h
  omega
def firstNZ : List Int → Int
  | [] => 0
  | x :: r => if x = 0 then firstNZ r else x
theorem firstOf_ev (l : List Int) (hm : l.length ≤ 4611686018427387904) : Ev (fun k => impl_firstOf.f k l) (firstNZ l) := by
  refine Ev.loop (L := fun k s => impl_firstOf.l0 k l (l.length : Int) s) (fun s d => ∃ i : Nat, i + d = l.length ∧ s = (i : Int) ∧ firstNZ (l.drop i) = firstNZ l) ?_ l.length 0 ⟨0, by omega, rfl, rfl⟩
  rintro s d ⟨i, hd, rfl, hf⟩
  by_cases c : i < l.length
  · have e : l.drop i = l[i] :: l.drop (i + 1) := List.drop_eq_getElem_cons c
    by_cases q : l[i] = 0
    · refine .inr ⟨((i + 1 : Nat) : Int), d - 1, by omega, ⟨i + 1, by omega, rfl, ?_⟩, 0, fun k _ => ?_⟩
      · rw [← hf, e, firstNZ, if_pos q]
      · rw [impl_firstOf.l0]
        rw [if_pos (by omega), if_pos (by omega), if_pos (by omega), rd_of_lt l i c, if_pos q, w64 _ (by omega) (by omega)]
        rfl
    · refine .inl ⟨0, fun k _ => ?_⟩
      rw [impl_firstOf.l0]
      rw [if_pos (by omega), if_pos (by omega), if_pos (by omega), rd_of_lt l i c, if_neg q, ← hf, e, firstNZ, if_neg q]
  · obtain rfl : i = l.length := by omega
    refine .inl ⟨0, fun k _ => ?_⟩
    rw [impl_firstOf.l0]
    rw [if_neg (by omega), ← hf, List.drop_length]
    rfl
theorem unless_b (b : Bool) (c : Int) : impl_unless.f b c = some (if b = true then 0 else c) := by
  unfold impl_unless.f
  cases b <;> rfl
def okIron (x y : Int) : Bool := (decide (0 ≤ wrap64 x) && decide (wrap64 x ≤ 60)) && (decide (0 ≤ wrap64 y) && decide (wrap64 y ≤ 60))
theorem same_in (a b c : Int) : spec_l00In.f a b c = some (decide (b ≤ a) && decide (a ≤ c)) := by
  unfold spec_l00In.f
  by_cases h : b ≤ a <;> simp [h]
theorem specIron_f (x y : Int) : spec_l07Iron.f x y = some (okIron x y) := by
  unfold spec_l07Iron.f okIron
  rw [same_in, same_in]
  generalize (decide (0 ≤ wrap64 x) && decide (wrap64 x ≤ 60)) = a
  generalize (decide (0 ≤ wrap64 y) && decide (wrap64 y ≤ 60)) = b
  cases a <;> cases b <;> rfl
theorem specPiece_f (x : S35) : spec_l07Piece.f x.f0 x.f1 x.f2 = some (okPiece x) := by
  unfold spec_l07Piece.f okPiece
  rw [same_in, same_in, same_in]
  generalize (decide (1 ≤ wrap64 x.f0) && decide (wrap64 x.f0 ≤ 3)) = a
  generalize (decide (1 ≤ wrap64 x.f1) && decide (wrap64 x.f1 ≤ 60)) = b
  generalize (decide (0 ≤ wrap64 x.f2) && decide (wrap64 x.f2 ≤ 1000)) = c
  cases a <;> cases b <;> cases c <;> rfl
/-- The code of pieces; of an iron and pieces. -/
def codeOf (l : List S35) : Int := if l.any (fun p => !okPiece p) = true then 1 else if l.length ≤ 8 then 0 else 3
def codeIron (x y : Int) (l : List S35) : Int := if okIron x y = true then codeOf l else 1
theorem pieceCode_ev (l : List S35) : Ev (fun k => impl_pieceCode.f k l) (codeOf l) := by
  have e := firstOf_ev [if (!l.any (fun p => !okPiece p)) = true then 0 else 1, if decide ((l.length : Int) ≤ 8) = true then 0 else 3] (by simp)
  have q : firstNZ [if (!l.any (fun p => !okPiece p)) = true then 0 else 1, if decide ((l.length : Int) ≤ 8) = true then 0 else 3] = codeOf l := by
    unfold codeOf
    cases h : l.any (fun p => !okPiece p) with
    | true => rfl
    | false =>
      by_cases c : l.length ≤ 8
      · rw [if_pos c, decide_eq_true (by omega)]; rfl
      · rw [if_neg c, decide_eq_false (by omega)]; rfl
  rw [q] at e
  refine Ev.congr (f := fun k => (impl_firstOf.f k [if (!l.any (fun p => !okPiece p)) = true then 0 else 1, if decide ((l.length : Int) ≤ 8) = true then 0 else 3]).bind fun t => some t) (fun k => ?_) (Ev.bind e (Ev.const rfl))
  unfold impl_pieceCode.f
  rw [Option.bind_some, unless_b, unless_b]
  rfl
theorem asked_ev (x y : Int) (l : List S35) (hm : l.length ≤ 4611686018427387904) : Ev (fun k => spec_l07Asked.f k x y l) (codeIron x y l) := by
  unfold codeIron
  refine Ev.congr (f := fun k => if okIron x y = true then spec_l07Asked.l0 k l 0 else some 1) (fun k => by unfold spec_l07Asked.f; rw [specIron_f]; rfl) ?_
  by_cases ok : okIron x y = true
  · rw [if_pos ok]
    refine Ev.ite_t ok ?_
    refine Ev.loop (L := fun k s => spec_l07Asked.l0 k l s) (fun s d => ∃ i : Nat, i + d = l.length ∧ s = (i : Int) ∧ (l.drop i).any (fun p => !okPiece p) = l.any (fun p => !okPiece p)) ?_ l.length 0 ⟨0, by omega, rfl, rfl⟩
    rintro s d ⟨i, hd, rfl, hf⟩
    by_cases c : i < l.length
    · have e : l.drop i = l[i] :: l.drop (i + 1) := List.drop_eq_getElem_cons c
      rw [e, List.any_cons] at hf
      cases q : okPiece l[i] with
      | true =>
        refine .inr ⟨((i + 1 : Nat) : Int), d - 1, by omega, ⟨i + 1, by omega, rfl, ?_⟩, 0, fun k _ => ?_⟩
        · rw [← hf, q]; rfl
        · rw [spec_l07Asked.l0]
          rw [if_pos (by omega), if_pos (by omega), rd35_lt l i c, specPiece_f, q, Option.bind_some, if_pos rfl, w64 _ (by omega) (by omega)]
          rfl
      | false =>
        refine .inl ⟨0, fun k _ => ?_⟩
        rw [spec_l07Asked.l0]
        rw [if_pos (by omega), if_pos (by omega), rd35_lt l i c, specPiece_f, q, Option.bind_some, if_neg (by decide)]
        unfold codeOf
        rw [← hf, q]
        rfl
    · obtain rfl : i = l.length := by omega
      refine .inl ⟨0, fun k _ => ?_⟩
      rw [spec_l07Asked.l0]
      rw [if_neg (by omega)]
      unfold codeOf
      rw [← hf, List.drop_length]
      by_cases c8 : l.length ≤ 8
      · rw [if_neg (by omega), if_neg (by simp), if_pos c8]
      · rw [if_pos (by omega), if_neg (by simp), if_neg c8]
  · rw [if_neg ok]
    exact Ev.ite_f ok (Ev.const rfl)
theorem code_zero (x y : Int) (l : List S35) (h : codeIron x y l = 0) : okIron x y = true ∧ l.length ≤ 8 ∧ ∀ p ∈ l, okPiece p = true := by
  unfold codeIron codeOf at h
  by_cases o : okIron x y = true
  · rw [if_pos o] at h
    by_cases a : l.any (fun p => !okPiece p) = true
    · rw [if_pos a] at h; omega
    · rw [if_neg a] at h
      by_cases c : l.length ≤ 8
      · refine ⟨o, c, fun p hp => ?_⟩
        have := a
        rw [List.any_eq_true] at this
        cases q : okPiece p with
        | true => rfl
        | false => exact absurd ⟨p, hp, by rw [q]; rfl⟩ this
      · rw [if_neg c] at h; omega
  · rw [if_neg o] at h; omega

end Go.Proofs.YthkccaclmodjiaaDoor.D
