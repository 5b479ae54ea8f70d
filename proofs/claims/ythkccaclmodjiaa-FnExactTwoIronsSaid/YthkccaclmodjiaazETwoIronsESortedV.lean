import Derived.Test.YthkccaclmodjiaazETwoIronsEListsPiece
import Derived.Test.YthkccaclmodjiaazETwoIronsI0
import Derived.Test.YthkccaclmodjiaazETwoIronsI1
import Derived.Test.YthkccaclmodjiaazETwoIronsI2
import Derived.Test.YthkccaclmodjiaazETwoIronsI7
import Derived.Test.YthkccaclmodjiaazETwoIronsI9
import Derived.Test.YthkccaclmodjiaazETwoIronsEBLem1
import Derived.Test.YthkccaclmodjiaazETwoIronsI3
import Derived.Test.YthkccaclmodjiaazETwoIronsI5
import Derived.Test.YthkccaclmodjiaaProg
import Derived.RangeFuncBox
import Derived.RangeFuncLeaves
import Derived.Shelf.Abstract
import Derived.Shelf.AbstractIn
import Derived.Maps.AppendAt
import Derived.WalkKit
import Derived.OwnWalkIn
import Derived.TacticsInMore
import Derived.LoopNIn
import Derived.LoopIn
import Derived.Sort.OwnSorted
import Derived.Lib.SlKeysI
import Derived.Shelf.SortM.Plain
import Derived.Shelf.SortM.SortNone
section
namespace Go.Proofs.Ythkccaclmodjiaa.I
open Go.RowKit Go.Proofs.YthkccaclmodjiaaW.PrintWords Go.Proofs.YthkccaclmodjiaaW.PrintLast Go.Proofs.YthkccaclmodjiaaW.PrintMore
attribute [local go_sem] max2_int min2_int max_two min_two max_three min_three max_four min_four
set_option linter.unusedVariables false
set_option linter.unusedSimpArgs false
def mk1 (x : List S57) (i a : Int) : List S57 := x.set (i : Int).toNat (⟨IntKind.i8.wrap a, (rd_T57 x i).f1, (rd_T57 x i).f2⟩ : S57)
def mk2 (x : List S57) (i a : Int) : List S57 := (mk1 x i a).set (i : Int).toNat (⟨(rd_T57 (mk1 x i a) i).f0, IntKind.i8.wrap (wrap64 (a + 1)), (rd_T57 (mk1 x i a) i).f2⟩ : S57)
def mk3 (x : List S57) (i a : Int) : List S57 := (mk2 x i a).set (i : Int).toNat (⟨(rd_T57 (mk2 x i a) i).f0, (rd_T57 (mk2 x i a) i).f1, IntKind.i16.wrap (wrap64 (wrap64 (a + 1) + 1))⟩ : S57)
theorem mk3_len (x : List S57) (i a : Int) : (mk3 x i a).length = x.length := by
  unfold mk3 mk2 mk1
  simp only [List.length_set]
theorem markPiece_ev (l : List S57) (hm : l.length ≤ 1048576) : ∃ m, Ev (fun k => laws_markPieceS.f k l 1) (1 + 3 * (l.length : Int), m) := by
  have key : ∀ (d i : Nat) (x : List S57), x.length = l.length → i + d = l.length → ∃ m, Ev (fun k => laws_markPieceS.l0 k x (1 + 3 * (i : Int)) (i : Int)) (1 + 3 * (l.length : Int), m) := by
    intro d
    induction d with
    | zero =>
      intro i x hx hd
      obtain rfl : i = l.length := by omega
      refine ⟨x, Ev.step (f := fun _ => some (1 + 3 * (l.length : Int), x)) (fun k => ?_) (Ev.const rfl)⟩
      rw [laws_markPieceS.l0]
      rw [if_neg (by omega)]
    | succ d ih =>
      intro i x hx hd
      have c1 : (i : Int) < (x.length : Int) := by omega
      have c2 : (0 : Int) ≤ (i : Int) := by omega
      have w1 : wrap64 ((i : Int) + 1) = ((i + 1 : Nat) : Int) := by rw [w64 _ (by omega) (by omega)]; rfl
      have w2 : wrap64 (1 + 3 * (i : Int) + 1) = 1 + 3 * (i : Int) + 1 := w64 _ (by omega) (by omega)
      have w3 : wrap64 (1 + 3 * (i : Int) + 1 + 1) = 1 + 3 * (i : Int) + 1 + 1 := w64 _ (by omega) (by omega)
      have w4 : wrap64 (1 + 3 * (i : Int) + 1 + 1 + 1) = 1 + 3 * ((i + 1 : Nat) : Int) := by rw [w64 _ (by omega) (by omega)]; omega
      have hs : ∀ k, laws_markPieceS.l0 (k + 1) x (1 + 3 * (i : Int)) (i : Int) = laws_markPieceS.l0 k (mk3 x (i : Int) (1 + 3 * (i : Int))) (1 + 3 * ((i + 1 : Nat) : Int)) ((i + 1 : Nat) : Int) := by
        intro k
        rw [laws_markPieceS.l0]
        rw [if_pos c1, if_pos c2, Option.bind_some, Option.bind_some]
        show laws_markPieceS.l0 k (mk3 x (i : Int) (1 + 3 * (i : Int))) (wrap64 (wrap64 (wrap64 (1 + 3 * (i : Int) + 1) + 1) + 1)) (wrap64 ((i : Int) + 1)) = _
        rw [w2, w3, w4, w1]
      obtain ⟨m, hm⟩ := ih (i + 1) (mk3 x (i : Int) (1 + 3 * (i : Int))) (by rw [mk3_len]; exact hx) (by omega)
      exact ⟨m, Ev.step hs hm⟩
  exact key l.length 0 l rfl (by omega)
theorem has_ev (l : List Int) (x : Int) (hm : l.length ≤ 4611686018427387904) : Ev (fun k => spec_l00Has.f k l x) (l.contains x) := by
  refine Ev.loop (L := fun k s => spec_l00Has.l0 k l x s) (fun s d => ∃ i : Nat, i + d = l.length ∧ s = (i : Int) ∧ (l.drop i).contains x = l.contains x) ?_ l.length 0 ⟨0, by omega, rfl, rfl⟩
  rintro s d ⟨i, hd, rfl, hf⟩
  by_cases c : i < l.length
  · have e : l.drop i = l[i] :: l.drop (i + 1) := List.drop_eq_getElem_cons c
    rw [e, List.contains_cons] at hf
    by_cases q : l[i] = x
    · refine .inl ⟨0, fun k _ => ?_⟩
      rw [spec_l00Has.l0]
      rw [if_pos (by omega), if_pos (by omega), rd_of_lt l i c, if_pos q, ← hf, q]
      simp
    · refine .inr ⟨((i + 1 : Nat) : Int), d - 1, by omega, ⟨i + 1, by omega, rfl, ?_⟩, 0, fun k _ => ?_⟩
      · rw [← hf]
        have : (x == l[i]) = false := beq_eq_false_iff_ne.mpr fun h => q h.symm
        rw [this]
        rfl
      · rw [spec_l00Has.l0]
        rw [if_pos (by omega), if_pos (by omega), rd_of_lt l i c, if_neg q, w64 _ (by omega) (by omega)]
        rfl
  · obtain rfl : i = l.length := by omega
    refine .inl ⟨0, fun k _ => ?_⟩
    rw [spec_l00Has.l0]
    rw [if_neg (by omega), ← hf, List.drop_length]
    rfl
theorem contains_ev (l : List Int) (x : Int) (hm : l.length ≤ 4611686018427387904) : Ev (fun k => slices_Contains_int64_int64.f k l x) (l.contains x) := by
  have ix : ∃ r : Int, decide (r ≥ 0) = l.contains x ∧ Ev (fun k => slices_Index_int64_int64.f k l x) r := by
    have key : ∀ (d i : Nat), i + d = l.length → ∃ r : Int, decide (r ≥ 0) = (l.drop i).contains x ∧ Ev (fun k => slices_Index_int64_int64.l0 k l x (l.length : Int) (i : Int)) r := by
      intro d
      induction d with
      | zero =>
        intro i hd
        obtain rfl : i = l.length := by omega
        refine ⟨-1, by rw [List.drop_length]; rfl, Ev.step (f := fun _ => some (-1)) (fun k => ?_) (Ev.const rfl)⟩
        rw [slices_Index_int64_int64.l0]
        rw [if_neg (by omega)]
      | succ d ih =>
        intro i hd
        have c : i < l.length := by omega
        have c1 : (i : Int) < (l.length : Int) := by omega
        have c2 : (0 : Int) ≤ (i : Int) := by omega
        have e : l.drop i = l[i] :: l.drop (i + 1) := List.drop_eq_getElem_cons c
        have w1 : wrap64 ((i : Int) + 1) = ((i + 1 : Nat) : Int) := by rw [w64 _ (by omega) (by omega)]; rfl
        rw [e, List.contains_cons]
        by_cases q : x = l[i]
        · refine ⟨(i : Int), ?_, Ev.step (f := fun _ => some (i : Int)) (fun k => ?_) (Ev.const rfl)⟩
          · rw [decide_eq_true (by omega), q]; simp
          · rw [slices_Index_int64_int64.l0]
            rw [if_pos c1, if_pos c2, if_pos c1, rd_of_lt l i c, if_pos q]
        · obtain ⟨r, h1, h2⟩ := ih (i + 1) (by omega)
          refine ⟨r, ?_, Ev.step (f := fun k => slices_Index_int64_int64.l0 k l x (l.length : Int) ((i + 1 : Nat) : Int)) (fun k => ?_) h2⟩
          · rw [h1, beq_eq_false_iff_ne.mpr q]; rfl
          · rw [slices_Index_int64_int64.l0]
            rw [if_pos c1, if_pos c2, if_pos c1, rd_of_lt l i c, if_neg q, w1]
    obtain ⟨r, h1, h2⟩ := key l.length 0 (by omega)
    exact ⟨r, h1, h2⟩
  obtain ⟨r, h1, h2⟩ := ix
  refine Ev.bind h2 (Ev.const ?_)
  rw [h1]
def chg (x y a b : Int) : Int := if b ≥ a then x * (b - a) else y * (a - b)
theorem mul_bd (a x : Int) (ha : 0 ≤ a ∧ a ≤ 60) (hx : 0 ≤ x ∧ x ≤ 3) : 0 ≤ a * x ∧ a * x ≤ 180 := by
  obtain rfl | rfl | rfl | rfl : x = 0 ∨ x = 1 ∨ x = 2 ∨ x = 3 := by omega
  all_goals omega
theorem chg_bd (x y a b : Int) (hx : 0 ≤ x ∧ x ≤ 60) (hy : 0 ≤ y ∧ y ≤ 60) (ha : 0 ≤ a ∧ a ≤ 3) (hb : 0 ≤ b ∧ b ≤ 3) : 0 ≤ chg x y a b ∧ chg x y a b ≤ 180 := by
  unfold chg
  split
  · exact mul_bd x _ hx (by omega)
  · exact mul_bd y _ hy (by omega)
theorem specChange_f (x y a b : Int) (hx : wrap64 x = x ∧ 0 ≤ x ∧ x ≤ 60) (hy : wrap64 y = y ∧ 0 ≤ y ∧ y ≤ 60) (ha : 0 ≤ a ∧ a ≤ 3) (hb : 0 ≤ b ∧ b ≤ 3) : spec_l07Change.f x y a b = some (chg x y a b) := by
  unfold spec_l07Change.f chg
  by_cases c : b ≥ a
  · have m := mul_bd x (b - a) hx.2 (by omega)
    rw [if_pos c, if_pos c, hx.1, w64 (b - a) (by omega) (by omega), w64 _ (by omega) (by omega)]
  · have m := mul_bd y (a - b) hy.2 (by omega)
    rw [if_neg c, if_neg c, hy.1, w64 (a - b) (by omega) (by omega), w64 _ (by omega) (by omega)]
theorem implChange_f (x y a b : Int) (hx : wrap64 x = x ∧ 0 ≤ x ∧ x ≤ 60) (hy : wrap64 y = y ∧ 0 ≤ y ∧ y ≤ 60) (ha : 0 ≤ a ∧ a ≤ 3) (hb : 0 ≤ b ∧ b ≤ 3) : impl_Iron_change.f x y a b = some (chg x y a b) := by
  unfold impl_Iron_change.f chg
  by_cases c : b > a
  · have m := mul_bd x (b - a) hx.2 (by omega)
    rw [if_pos c, if_pos (by omega), hx.1, w64 (b - a) (by omega) (by omega), w64 _ (by omega) (by omega)]
  · have m := mul_bd y (a - b) hy.2 (by omega)
    rw [if_neg c, hy.1, w64 (a - b) (by omega) (by omega), w64 _ (by omega) (by omega)]
    by_cases c2 : b ≥ a
    · rw [if_pos c2, show a - b = 0 by omega, show b - a = 0 by omega, Int.mul_zero, Int.mul_zero]
    · rw [if_neg c2]
end Go.Proofs.Ythkccaclmodjiaa.I
end
section
namespace Go.Proofs.Ythkccaclmodjiaa.I
open Go.RowKit Go.Proofs.YthkccaclmodjiaaW.PrintWords Go.Proofs.YthkccaclmodjiaaW.PrintLast Go.Proofs.YthkccaclmodjiaaW.PrintMore
attribute [local go_sem] max2_int min2_int max_two min_two max_three min_three max_four min_four
set_option linter.unusedVariables false
set_option linter.unusedSimpArgs false
def sumMin (l : List S57) : Nat → Int
  | 0 => 0
  | i + 1 => sumMin l i + (rd_T57 l (i : Nat)).f1
def topLevel (l : List S57) : Nat → Int
  | 0 => 0
  | i + 1 => if (rd_T57 l (i : Nat)).f0 > topLevel l i then (rd_T57 l (i : Nat)).f0 else topLevel l i
def Fine (l : List S57) : Prop := ∀ p ∈ l, wrap64 p.f0 = p.f0 ∧ wrap64 p.f1 = p.f1 ∧ wrap64 p.f2 = p.f2 ∧ 1 ≤ p.f0 ∧ p.f0 ≤ 3 ∧ 1 ≤ p.f1 ∧ p.f1 ≤ 60 ∧ 0 ≤ p.f2 ∧ p.f2 ≤ 1000
theorem sumMin_bd (l : List S57) (h : Fine l) : ∀ i, i ≤ l.length → 0 ≤ sumMin l i ∧ sumMin l i ≤ 60 * i
  | 0, _ => ⟨Int.le_refl _, Int.le_refl _⟩
  | i + 1, hi => by
    have ih := sumMin_bd l h i (by omega)
    have f := h l[i] (List.getElem_mem _)
    rw [sumMin, rd57_lt l i (by omega)]
    omega
attribute [local irreducible] sumMin topLevel rd_T57
theorem minutes_ev (l : List S57) (h : Fine l) (h8 : l.length ≤ 8) : Ev (fun k => impl_minutes.f k l) (sumMin l l.length) := by
  refine Ev.loop (L := fun k s => impl_minutes.l0 k s.1 l (l.length : Int) s.2) (fun s d => ∃ i : Nat, i + d = l.length ∧ s = (sumMin l i, (i : Int))) ?_ l.length (0, 0) ⟨0, by omega, by rw [sumMin]; rfl⟩
  rintro ⟨a, z⟩ d ⟨i, hd, e⟩
  cases e
  by_cases c : i < l.length
  · have f := h l[i] (List.getElem_mem _)
    have s := sumMin_bd l h i (by omega)
    refine .inr ⟨(sumMin l (i + 1), ((i + 1 : Nat) : Int)), d - 1, by omega, ⟨i + 1, by omega, rfl⟩, 0, fun k _ => ?_⟩
    dsimp only
    rw [impl_minutes.l0]
    rw [if_pos (by omega), if_pos (by omega), if_pos (by omega), rd57_lt l i c, f.2.1, w64 _ (by omega) (by omega), w64 _ (by omega) (by omega), sumMin, rd57_lt l i c]
    rfl
  · obtain rfl : i = l.length := by omega
    refine .inl ⟨0, fun k _ => ?_⟩
    dsimp only
    rw [impl_minutes.l0]
    rw [if_neg (by omega)]
def Typed (l : List S57) : Prop := ∀ p ∈ l, (-128 ≤ p.f0 ∧ p.f0 ≤ 127) ∧ (-128 ≤ p.f1 ∧ p.f1 ≤ 127) ∧ (-32768 ≤ p.f2 ∧ p.f2 ≤ 32767)
theorem fine_of (x y : Int) (l : List S57) (ht : Typed l) (h : codeIron x y l = 0) : l.length ≤ 8 ∧ Fine l := by
  obtain ⟨_, h8, hp⟩ := code_zero x y l h
  exact ⟨h8, fun p m => okPiece_bd p (ht p m).1 (ht p m).2.1 (ht p m).2.2 (hp p m)⟩
theorem typed_of (l : List S69) (h : ∀ x ∈ l, (Lit.int .i8 x.f0).wf = true ∧ (Lit.int .i8 x.f1).wf = true ∧ (Lit.int .i16 x.f2).wf = true) : Typed (l.map toP) := by
  intro p hp
  obtain ⟨x, hx, rfl⟩ := List.mem_map.mp hp
  exact ⟨i8_bd (h x hx).1, i8_bd (h x hx).2.1, i16_bd (h x hx).2.2⟩
theorem sz_f (l : List S69) (hm : l.length ≤ 4611686018427387904) : laws_szPieceS.f l 1048576 = some (if l.length ≤ 1048576 then 1048576 - (l.length : Int) else -1) := by
  unfold laws_szPieceS.f
  rw [w64 _ (by omega) (by omega)]
  by_cases c : l.length ≤ 1048576
  · rw [if_neg (by omega), if_pos c]
  · rw [if_pos (by omega), if_neg c]
end Go.Proofs.Ythkccaclmodjiaa.I
end
section
namespace Go.Proofs.Ythkccaclmodjiaa.I
open Go.RowKit Go.Proofs.YthkccaclmodjiaaW.PrintWords Go.Proofs.YthkccaclmodjiaaW.PrintLast Go.Proofs.YthkccaclmodjiaaW.PrintMore
attribute [local go_sem] max2_int min2_int max_two min_two max_three min_three max_four min_four
set_option linter.unusedVariables false
set_option linter.unusedSimpArgs false
theorem nodup_len : ∀ (l m : List Int), l.Nodup → (∀ x ∈ l, x ∈ m) → l.length ≤ m.length
  | [], _, _, _ => Nat.zero_le _
  | a :: r, m, h, s => by
    have ha := s a (by simp)
    obtain ⟨h0, h2⟩ := List.nodup_cons.mp h
    have h1 := nodup_len r (m.erase a) h2 (fun x hx => (List.mem_erase_of_ne (show x ≠ a from fun e => h0 (e ▸ hx))).mpr (s x (by simp [hx])))
    rw [List.length_erase_of_mem ha] at h1
    have := List.length_pos_of_mem ha
    simp only [List.length_cons]
    omega
def iota (n : Nat) : List Int := (List.range n).map Int.ofNat
theorem iota_len (n : Nat) : (iota n).length = n := by simp [iota]
theorem iota_mem (n : Nat) (x : Int) : x ∈ iota n ↔ 0 ≤ x ∧ x < n := by
  simp only [iota, List.mem_map, List.mem_range]
  constructor
  · rintro ⟨a, h, rfl⟩
    exact ⟨Int.natCast_nonneg a, by simpa using h⟩
  · rintro ⟨h1, h2⟩
    exact ⟨x.toNat, by omega, by show ((x.toNat : Nat) : Int) = x; omega⟩
theorem iota_inc (n : Nat) : (iota n).Pairwise (fun a b => a < b) := by
  rw [iota, List.pairwise_map]
  refine List.pairwise_lt_range.imp ?_
  intro a b h
  exact Int.ofNat_lt.mpr h
theorem iota_nodup (n : Nat) : (iota n).Nodup := (iota_inc n).imp (fun h => by omega)
theorem perm_iota (l : List Int) (h : l.Nodup) (hr : ∀ x ∈ l, 0 ≤ x ∧ x < l.length) : l.Perm (iota l.length) := by
  refine (List.perm_ext_iff_of_nodup h (iota_nodup _)).mpr fun a => ?_
  constructor
  · intro ha
    exact (iota_mem _ _).mpr (hr a ha)
  · intro ha
    refine Classical.byContradiction fun hn => ?_
    have h1 := nodup_len l ((iota l.length).erase a) h (fun x hx => (List.mem_erase_of_ne (show x ≠ a from fun e => hn (e ▸ hx))).mpr ((iota_mem _ _).mpr (hr x hx)))
    rw [List.length_erase_of_mem ha, iota_len] at h1
    have := (iota_mem _ _).mp ha
    omega
end Go.Proofs.Ythkccaclmodjiaa.I
end
section
namespace Go.Proofs.Ythkccaclmodjiaa.I
open Go.RowKit Go.Proofs.YthkccaclmodjiaaW.PrintWords Go.Proofs.YthkccaclmodjiaaW.PrintLast Go.Proofs.YthkccaclmodjiaaW.PrintMore
attribute [local go_sem] max2_int min2_int max_two min_two max_three min_three max_four min_four
set_option linter.unusedVariables false
set_option linter.unusedSimpArgs false
open Go.Sort Go.Shelf Go.Maps
attribute [local go_sem] Oper.semAt_some
theorem intKd_reps (l : List Int) : Reps (fun (x : Int) (cs : List Value) => cs = [Value.int .i64 x]) 1 l (l.map (Value.int .i64)) := by
  refine ⟨by simp, fun j p hj => ?_⟩
  obtain ⟨h, rfl⟩ := List.getElem?_eq_some_iff.mp hj
  have h' : j < (l.map (Value.int .i64)).length := by simpa using h
  show List.take 1 (List.drop (j * 1) _) = _
  rw [Nat.mul_one, List.drop_eq_getElem_cons h', List.take_succ_cons, List.take_zero, List.getElem_map]
end Go.Proofs.Ythkccaclmodjiaa.I
end
