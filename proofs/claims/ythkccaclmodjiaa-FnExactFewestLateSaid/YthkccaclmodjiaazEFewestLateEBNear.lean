import Derived.Test.YthkccaclmodjiaazEFewestLateEEvLoop
import Derived.Test.YthkccaclmodjiaazEFewestLateI0
import Derived.Test.YthkccaclmodjiaazEFewestLateI1
import Derived.Test.YthkccaclmodjiaazEFewestLateI2
import Derived.Test.YthkccaclmodjiaazEFewestLateI7
import Derived.Test.YthkccaclmodjiaazEFewestLateI9
namespace Go.Proofs.Ythkccaclmodjiaa.I
open Go.RowKit Go.Proofs.YthkccaclmodjiaaW.PrintWords Go.Proofs.YthkccaclmodjiaaW.PrintLast Go.Proofs.YthkccaclmodjiaaW.PrintMore
attribute [local go_sem] max2_int min2_int max_two min_two max_three min_three max_four min_four
set_option linter.unusedVariables false
set_option linter.unusedSimpArgs false
def mk1 (x : List S57) (i a : Int) : List S57 := x.set (i : Int).toNat (⟨IntKind.i8.wrap a, (rd_T57 x i).f1, (rd_T57 x i).f2⟩ : S57)
def mk2 (x : List S57) (i a : Int) : List S57 := (mk1 x i a).set (i : Int).toNat (⟨(rd_T57 (mk1 x i a) i).f0, IntKind.i8.wrap (wrap64 (a + 1)), (rd_T57 (mk1 x i a) i).f2⟩ : S57)
def mk3 (x : List S57) (i a : Int) : List S57 := (mk2 x i a).set (i : Int).toNat (⟨(rd_T57 (mk2 x i a) i).f0, (rd_T57 (mk2 x i a) i).f1, IntKind.i16.wrap (wrap64 (wrap64 (a + 1) + 1))⟩ : S57)
theorem mk3_len (x : List S57) (i a : Int) : (mk3 x i a).length = x.length := by
  unfold mk3 mk2 mk1
  simp only [List.length_set]
theorem markPiece_ev (l : List S57) (hm : l.length ≤ 1048576) : ∃ m, Ev (fun k => laws_markPieceS.f k l 1) (1 + 3 * (l.length : Int), m) := by
  have key : ∀ (d i : Nat) (x : List S57), x.length = l.length → i + d = l.length → ∃ m, Ev (fun k => laws_markPieceS.l0 k x (1 + 3 * (i : Int)) (i : Int)) (1 + 3 * (l.length : Int), m) := by
    intro d
    induction d with
    | zero =>
      intro i x hx hd
      obtain rfl : i = l.length := by omega
      refine ⟨x, Ev.step (f := fun _ => some (1 + 3 * (l.length : Int), x)) (fun k => ?_) (Ev.const rfl)⟩
      rw [laws_markPieceS.l0]
      rw [if_neg (by omega)]
    | succ d ih =>
      intro i x hx hd
      have c1 : (i : Int) < (x.length : Int) := by omega
      have c2 : (0 : Int) ≤ (i : Int) := by omega
      have w1 : wrap64 ((i : Int) + 1) = ((i + 1 : Nat) : Int) := by rw [w64 _ (by omega) (by omega)]; rfl
      have w2 : wrap64 (1 + 3 * (i : Int) + 1) = 1 + 3 * (i : Int) + 1 := w64 _ (by omega) (by omega)
      have w3 : wrap64 (1 + 3 * (i : Int) + 1 + 1) = 1 + 3 * (i : Int) + 1 + 1 := w64 _ (by omega) (by omega)
      have w4 : wrap64 (1 + 3 * (i : Int) + 1 + 1 + 1) = 1 + 3 * ((i + 1 : Nat) : Int) := by rw [w64 _ (by omega) (by omega)]; omega
      have hs : ∀ k, laws_markPieceS.l0 (k + 1) x (1 + 3 * (i : Int)) (i : Int) = laws_markPieceS.l0 k (mk3 x (i : Int) (1 + 3 * (i : Int))) (1 + 3 * ((i + 1 : Nat) : Int)) ((i + 1 : Nat) : Int) := by
        intro k
        rw [laws_markPieceS.l0]
        rw [if_pos c1, if_pos c2, Option.bind_some, Option.bind_some]
        show laws_markPieceS.l0 k (mk3 x (i : Int) (1 + 3 * (i : Int))) (wrap64 (wrap64 (wrap64 (1 + 3 * (i : Int) + 1) + 1) + 1)) (wrap64 ((i : Int) + 1)) = _
        rw [w2, w3, w4, w1]
      obtain ⟨m, hm⟩ := ih (i + 1) (mk3 x (i : Int) (1 + 3 * (i : Int))) (by rw [mk3_len]; exact hx) (by omega)
      exact ⟨m, Ev.step hs hm⟩
  exact key l.length 0 l rfl (by omega)
theorem has_ev (l : List Int) (x : Int) (hm : l.length ≤ 4611686018427387904) : Ev (fun k => spec_l00Has.f k l x) (l.contains x) := by
  refine Ev.loop (L := fun k s => spec_l00Has.l0 k l x s) (fun s d => ∃ i : Nat, i + d = l.length ∧ s = (i : Int) ∧ (l.drop i).contains x = l.contains x) ?_ l.length 0 ⟨0, by omega, rfl, rfl⟩
  rintro s d ⟨i, hd, rfl, hf⟩
  by_cases c : i < l.length
  · have e : l.drop i = l[i] :: l.drop (i + 1) := List.drop_eq_getElem_cons c
    rw [e, List.contains_cons] at hf
    by_cases q : l[i] = x
    · refine .inl ⟨0, fun k _ => ?_⟩
      rw [spec_l00Has.l0]
      rw [if_pos (by omega), if_pos (by omega), rd_of_lt l i c, if_pos q, ← hf, q]
      simp
    · refine .inr ⟨((i + 1 : Nat) : Int), d - 1, by omega, ⟨i + 1, by omega, rfl, ?_⟩, 0, fun k _ => ?_⟩
      · rw [← hf]
        have : (x == l[i]) = false := beq_eq_false_iff_ne.mpr fun h => q h.symm
        rw [this]
        rfl
      · rw [spec_l00Has.l0]
        rw [if_pos (by omega), if_pos (by omega), rd_of_lt l i c, if_neg q, w64 _ (by omega) (by omega)]
        rfl
  · obtain rfl : i = l.length := by omega
    refine .inl ⟨0, fun k _ => ?_⟩
    rw [spec_l00Has.l0]
    rw [if_neg (by omega), ← hf, List.drop_length]
    rfl
theorem contains_ev (l : List Int) (x : Int) (hm : l.length ≤ 4611686018427387904) : Ev (fun k => slices_Contains_int64_int64.f k l x) (l.contains x) := by
  have ix : ∃ r : Int, decide (r ≥ 0) = l.contains x ∧ Ev (fun k => slices_Index_int64_int64.f k l x) r := by
    have key : ∀ (d i : Nat), i + d = l.length → ∃ r : Int, decide (r ≥ 0) = (l.drop i).contains x ∧ Ev (fun k => slices_Index_int64_int64.l0 k l x (l.length : Int) (i : Int)) r := by
      intro d
      induction d with
      | zero =>
        intro i hd
        obtain rfl : i = l.length := by omega
        refine ⟨-1, by rw [List.drop_length]; rfl, Ev.step (f := fun _ => some (-1)) (fun k => ?_) (Ev.const rfl)⟩
        rw [slices_Index_int64_int64.l0]
        rw [if_neg (by omega)]
      | succ d ih =>
        intro i hd
        have c : i < l.length := by omega
        have c1 : (i : Int) < (l.length : Int) := by omega
        have c2 : (0 : Int) ≤ (i : Int) := by omega
        have e : l.drop i = l[i] :: l.drop (i + 1) := List.drop_eq_getElem_cons c
        have w1 : wrap64 ((i : Int) + 1) = ((i + 1 : Nat) : Int) := by rw [w64 _ (by omega) (by omega)]; rfl
        rw [e, List.contains_cons]
        by_cases q : x = l[i]
        · refine ⟨(i : Int), ?_, Ev.step (f := fun _ => some (i : Int)) (fun k => ?_) (Ev.const rfl)⟩
          · rw [decide_eq_true (by omega), q]; simp
          · rw [slices_Index_int64_int64.l0]
            rw [if_pos c1, if_pos c2, if_pos c1, rd_of_lt l i c, if_pos q]
        · obtain ⟨r, h1, h2⟩ := ih (i + 1) (by omega)
          refine ⟨r, ?_, Ev.step (f := fun k => slices_Index_int64_int64.l0 k l x (l.length : Int) ((i + 1 : Nat) : Int)) (fun k => ?_) h2⟩
          · rw [h1, beq_eq_false_iff_ne.mpr q]; rfl
          · rw [slices_Index_int64_int64.l0]
            rw [if_pos c1, if_pos c2, if_pos c1, rd_of_lt l i c, if_neg q, w1]
    obtain ⟨r, h1, h2⟩ := key l.length 0 (by omega)
    exact ⟨r, h1, h2⟩
  obtain ⟨r, h1, h2⟩ := ix
  refine Ev.bind h2 (Ev.const ?_)
  rw [h1]
def chg (x y a b : Int) : Int := if b ≥ a then x * (b - a) else y * (a - b)
theorem mul_bd (a x : Int) (ha : 0 ≤ a ∧ a ≤ 60) (hx : 0 ≤ x ∧ x ≤ 3) : 0 ≤ a * x ∧ a * x ≤ 180 := by
  obtain rfl | rfl | rfl | rfl : x = 0 ∨ x = 1 ∨ x = 2 ∨ x = 3 := by omega
  all_goals omega
theorem chg_bd (x y a b : Int) (hx : 0 ≤ x ∧ x ≤ 60) (hy : 0 ≤ y ∧ y ≤ 60) (ha : 0 ≤ a ∧ a ≤ 3) (hb : 0 ≤ b ∧ b ≤ 3) : 0 ≤ chg x y a b ∧ chg x y a b ≤ 180 := by
  unfold chg
  split
  · exact mul_bd x _ hx (by omega)
  · exact mul_bd y _ hy (by omega)
theorem specChange_f (x y a b : Int) (hx : wrap64 x = x ∧ 0 ≤ x ∧ x ≤ 60) (hy : wrap64 y = y ∧ 0 ≤ y ∧ y ≤ 60) (ha : 0 ≤ a ∧ a ≤ 3) (hb : 0 ≤ b ∧ b ≤ 3) : spec_l07Change.f x y a b = some (chg x y a b) := by
  unfold spec_l07Change.f chg
  by_cases c : b ≥ a
  · have m := mul_bd x (b - a) hx.2 (by omega)
    rw [if_pos c, if_pos c, hx.1, w64 (b - a) (by omega) (by omega), w64 _ (by omega) (by omega)]
  · have m := mul_bd y (a - b) hy.2 (by omega)
    rw [if_neg c, if_neg c, hy.1, w64 (a - b) (by omega) (by omega), w64 _ (by omega) (by omega)]
theorem implChange_f (x y a b : Int) (hx : wrap64 x = x ∧ 0 ≤ x ∧ x ≤ 60) (hy : wrap64 y = y ∧ 0 ≤ y ∧ y ≤ 60) (ha : 0 ≤ a ∧ a ≤ 3) (hb : 0 ≤ b ∧ b ≤ 3) : impl_Iron_change.f x y a b = some (chg x y a b) := by
  unfold impl_Iron_change.f chg
  by_cases c : b > a
  · have m := mul_bd x (b - a) hx.2 (by omega)
    rw [if_pos c, if_pos (by omega), hx.1, w64 (b - a) (by omega) (by omega), w64 _ (by omega) (by omega)]
  · have m := mul_bd y (a - b) hy.2 (by omega)
    rw [if_neg c, hy.1, w64 (a - b) (by omega) (by omega), w64 _ (by omega) (by omega)]
    by_cases c2 : b ≥ a
    · rw [if_pos c2, show a - b = 0 by omega, show b - a = 0 by omega, Int.mul_zero, Int.mul_zero]
    · rw [if_neg c2]
end Go.Proofs.Ythkccaclmodjiaa.I
