import Derived.Test.YthkccaclmodjiaazETimeBoundEBLem1
import Derived.Test.YthkccaclmodjiaazETimeBoundEEvLoop
import Derived.Test.YthkccaclmodjiaazETimeBoundEListsPiece
import Derived.Test.YthkccaclmodjiaazETimeBoundI0
import Derived.Test.YthkccaclmodjiaazETimeBoundI3
import Derived.Test.YthkccaclmodjiaazETimeBoundI33
import Derived.Test.YthkccaclmodjiaazETimeBoundI4
import Derived.Test.YthkccaclmodjiaazETimeBoundI5
namespace Go.Proofs.Ythkccaclmodjiaa.I
open Go.RowKit Go.Proofs.YthkccaclmodjiaaW.PrintWords Go.Proofs.YthkccaclmodjiaaW.PrintLast Go.Proofs.YthkccaclmodjiaaW.PrintMore
attribute [local go_sem] max2_int min2_int max_two min_two max_three min_three max_four min_four
set_option linter.unusedVariables false
set_option linter.unusedSimpArgs false
def sumMin (l : List S57) : Nat → Int
  | 0 => 0
  | i + 1 => sumMin l i + (rd_T57 l (i : Nat)).f1
def topLevel (l : List S57) : Nat → Int
  | 0 => 0
  | i + 1 => if (rd_T57 l (i : Nat)).f0 > topLevel l i then (rd_T57 l (i : Nat)).f0 else topLevel l i
def Fine (l : List S57) : Prop := ∀ p ∈ l, wrap64 p.f0 = p.f0 ∧ wrap64 p.f1 = p.f1 ∧ wrap64 p.f2 = p.f2 ∧ 1 ≤ p.f0 ∧ p.f0 ≤ 3 ∧ 1 ≤ p.f1 ∧ p.f1 ≤ 60 ∧ 0 ≤ p.f2 ∧ p.f2 ≤ 1000
theorem sumMin_bd (l : List S57) (h : Fine l) : ∀ i, i ≤ l.length → 0 ≤ sumMin l i ∧ sumMin l i ≤ 60 * i
  | 0, _ => ⟨Int.le_refl _, Int.le_refl _⟩
  | i + 1, hi => by
    have ih := sumMin_bd l h i (by omega)
    have f := h l[i] (List.getElem_mem _)
    rw [sumMin, rd57_lt l i (by omega)]
    omega
theorem topLevel_bd (l : List S57) (h : Fine l) : ∀ i, i ≤ l.length → 0 ≤ topLevel l i ∧ topLevel l i ≤ 3
  | 0, _ => ⟨Int.le_refl _, by show (0 : Int) ≤ 3; omega⟩
  | i + 1, hi => by
    have ih := topLevel_bd l h i (by omega)
    have f := h l[i] (List.getElem_mem _)
    rw [topLevel, rd57_lt l i (by omega)]
    split <;> omega
attribute [local irreducible] sumMin topLevel rd_T57
theorem up_bd (a x : Int) (ha : 0 ≤ a ∧ a ≤ 60) (hx : 0 ≤ x ∧ x ≤ 3) : 0 ≤ a * x ∧ a * x ≤ 180 := by
  obtain rfl | rfl | rfl | rfl : x = 0 ∨ x = 1 ∨ x = 2 ∨ x = 3 := by omega
  all_goals omega
theorem specTime_ev (l : List S57) (h : Fine l) (h8 : l.length ≤ 8) (x y : Int) (hx : wrap64 x = x ∧ 0 ≤ x ∧ x ≤ 60) (d : Nat) : ∀ i : Nat, i + d = l.length →
    Ev (fun k => spec_TimeBound.l0 k l (sumMin l i) (topLevel l i) (i : Int) x y) (sumMin l l.length + x * topLevel l l.length, 0) := by
  induction d with
  | zero =>
    intro i hd
    obtain rfl : i = l.length := by omega
    have s := sumMin_bd l h l.length (by omega)
    have t := topLevel_bd l h l.length (by omega)
    have u := up_bd x _ hx.2 t
    refine Ev.step (f := fun _ => some (sumMin l l.length + x * topLevel l l.length, 0)) (fun k => ?_) (Ev.const rfl)
    rw [spec_TimeBound.l0]
    rw [if_neg (by omega), hx.1, w64 (x * topLevel l l.length) (by omega) (by omega), w64 _ (by omega) (by omega)]
  | succ d ih =>
    intro i hd
    have c : i < l.length := by omega
    have f := h l[i] (List.getElem_mem _)
    have s := sumMin_bd l h i (by omega)
    have n := ih (i + 1) (by omega)
    have w2 : wrap64 (sumMin l i + l[i].f1) = sumMin l i + l[i].f1 := by
      have b1 := f.2.2.2.2.2.1
      have b2 := f.2.2.2.2.2.2.1
      clear f n ih
      generalize l[i].f1 = z at *
      generalize sumMin l i = y at *
      exact w64 _ (by omega) (by omega)
    rw [sumMin, topLevel, rd57_lt l i c] at n
    generalize hT : (if l[i].f0 > topLevel l i then l[i].f0 else topLevel l i) = T at n
    refine Ev.step (f := fun k => spec_TimeBound.l0 k l (sumMin l i + l[i].f1) T ((i + 1 : Nat) : Int) x y) (fun k => ?_) n
    have c1 : (i : Int) < (l.length : Int) := by omega
    have c2 : (0 : Int) ≤ (i : Int) := by omega
    have w1 : wrap64 ((i : Int) + 1) = ((i + 1 : Nat) : Int) := by rw [w64 _ (by omega) (by omega)]; rfl
    rw [spec_TimeBound.l0]
    rw [if_pos c1, if_pos c2, rd57_lt l i c, f.1, f.2.1, w1, w2]
    have m : spec_l00Max.f (topLevel l i) l[i].f0 = some T := by
      rw [← hT]
      unfold spec_l00Max.f
      generalize topLevel l i = a
      generalize l[i].f0 = b
      by_cases q : a > b
      · rw [if_pos q, if_neg (by omega)]
      · rw [if_neg q]
        by_cases q2 : b > a
        · rw [if_pos q2]
        · rw [if_neg q2, show b = a by omega]
    rw [m, Option.bind_some]
theorem minutes_ev (l : List S57) (h : Fine l) (h8 : l.length ≤ 8) : Ev (fun k => impl_minutes.f k l) (sumMin l l.length) := by
  refine Ev.loop (L := fun k s => impl_minutes.l0 k s.1 l (l.length : Int) s.2) (fun s d => ∃ i : Nat, i + d = l.length ∧ s = (sumMin l i, (i : Int))) ?_ l.length (0, 0) ⟨0, by omega, by rw [sumMin]; rfl⟩
  rintro ⟨a, z⟩ d ⟨i, hd, e⟩
  cases e
  by_cases c : i < l.length
  · have f := h l[i] (List.getElem_mem _)
    have s := sumMin_bd l h i (by omega)
    refine .inr ⟨(sumMin l (i + 1), ((i + 1 : Nat) : Int)), d - 1, by omega, ⟨i + 1, by omega, rfl⟩, 0, fun k _ => ?_⟩
    dsimp only
    rw [impl_minutes.l0]
    rw [if_pos (by omega), if_pos (by omega), if_pos (by omega), rd57_lt l i c, f.2.1, w64 _ (by omega) (by omega), w64 _ (by omega) (by omega), sumMin, rd57_lt l i c]
    rfl
  · obtain rfl : i = l.length := by omega
    refine .inl ⟨0, fun k _ => ?_⟩
    dsimp only
    rw [impl_minutes.l0]
    rw [if_neg (by omega)]
theorem implTime_ev (l : List S57) (h : Fine l) (h8 : l.length ≤ 8) (x y : Int) (hx : wrap64 x = x ∧ 0 ≤ x ∧ x ≤ 60) (d : Nat) : ∀ i : Nat, i + d = l.length →
    Ev (fun k => impl_TimeBound.l0 k l (topLevel l i) l (l.length : Int) (i : Int) x y) (sumMin l l.length + x * topLevel l l.length, 0) := by
  induction d with
  | zero =>
    intro i hd
    obtain rfl : i = l.length := by omega
    have s := sumMin_bd l h l.length (by omega)
    have t := topLevel_bd l h l.length (by omega)
    have u := up_bd x _ hx.2 t
    refine Ev.step (f := fun k => (impl_minutes.f k l).bind fun t174 => (some (wrap64 (t174 + (wrap64 ((wrap64 x) * topLevel l l.length))), 0))) (fun k => ?_) (Ev.bind (minutes_ev l h h8) (Ev.const ?_))
    · rw [impl_TimeBound.l0]
      rw [if_neg (by omega)]
    · rw [hx.1, w64 (x * topLevel l l.length) (by omega) (by omega), w64 _ (by omega) (by omega)]
  | succ d ih =>
    intro i hd
    have c : i < l.length := by omega
    have f := h l[i] (List.getElem_mem _)
    have n := ih (i + 1) (by omega)
    rw [topLevel, rd57_lt l i c] at n
    generalize hT : (if l[i].f0 > topLevel l i then l[i].f0 else topLevel l i) = T at n
    refine Ev.step (f := fun k => impl_TimeBound.l0 k l T l (l.length : Int) ((i + 1 : Nat) : Int) x y) (fun k => ?_) n
    have c1 : (i : Int) < (l.length : Int) := by omega
    have c2 : (0 : Int) ≤ (i : Int) := by omega
    have w1 : wrap64 ((i : Int) + 1) = ((i + 1 : Nat) : Int) := by rw [w64 _ (by omega) (by omega)]; rfl
    rw [impl_TimeBound.l0]
    have m : mx (topLevel l i) l[i].f0 = T := hT
    rw [if_pos c1, if_pos c2, if_pos c1, rd57_lt l i c, f.1, w1, m]
def timeBound (x y : Int) (l : List S57) : Int × Int := if codeIron x y l = 0 then (sumMin l l.length + x * topLevel l l.length, 0) else (0, codeIron x y l)
def Typed (l : List S57) : Prop := ∀ p ∈ l, (-128 ≤ p.f0 ∧ p.f0 ≤ 127) ∧ (-128 ≤ p.f1 ∧ p.f1 ≤ 127) ∧ (-32768 ≤ p.f2 ∧ p.f2 ≤ 32767)
theorem fine_of (x y : Int) (l : List S57) (ht : Typed l) (h : codeIron x y l = 0) : l.length ≤ 8 ∧ Fine l := by
  obtain ⟨_, h8, hp⟩ := code_zero x y l h
  exact ⟨h8, fun p m => okPiece_bd p (ht p m).1 (ht p m).2.1 (ht p m).2.2 (hp p m)⟩
theorem TimeBound_both (x y : Int) (l : List S57) (hm : l.length ≤ 4611686018427387904) (ht : Typed l) (hx : -128 ≤ x ∧ x ≤ 127) (hy : -128 ≤ y ∧ y ≤ 127) :
    Ev (fun k => spec_TimeBound.f k x y l) (timeBound x y l) ∧ Ev (fun k => impl_TimeBound.f k x y l) (timeBound x y l) := by
  have a := asked_ev x y l hm
  have b := ironCode_ev x y l
  unfold timeBound
  by_cases c : codeIron x y l = 0
  · obtain ⟨h8, hf⟩ := fine_of x y l ht c
    have o := okIron_bd x y hx hy (code_zero x y l c).1
    rw [if_pos c]
    rw [c] at a b
    have r1 := specTime_ev l hf h8 x y ⟨o.1, o.2.2.1, o.2.2.2.1⟩ l.length 0 (by omega)
    have r2 := implTime_ev l hf h8 x y ⟨o.1, o.2.2.1, o.2.2.2.1⟩ l.length 0 (by omega)
    rw [sumMin, topLevel] at r1
    rw [topLevel] at r2
    exact ⟨Ev.bind a (Ev.ite_t rfl r1), Ev.bind b (Ev.ite_t rfl r2)⟩
  · rw [if_neg c]
    exact ⟨Ev.bind a (Ev.ite_f c (Ev.const rfl)), Ev.bind b (Ev.ite_f c (Ev.const rfl))⟩
theorem typed_of (l : List S69) (h : ∀ x ∈ l, (Lit.int .i8 x.f0).wf = true ∧ (Lit.int .i8 x.f1).wf = true ∧ (Lit.int .i16 x.f2).wf = true) : Typed (l.map toP) := by
  intro p hp
  obtain ⟨x, hx, rfl⟩ := List.mem_map.mp hp
  exact ⟨i8_bd (h x hx).1, i8_bd (h x hx).2.1, i16_bd (h x hx).2.2⟩
theorem sz_f (l : List S69) (hm : l.length ≤ 4611686018427387904) : laws_szPieceS.f l 1048576 = some (if l.length ≤ 1048576 then 1048576 - (l.length : Int) else -1) := by
  unfold laws_szPieceS.f
  rw [w64 _ (by omega) (by omega)]
  by_cases c : l.length ≤ 1048576
  · rw [if_neg (by omega), if_pos c]
  · rw [if_pos (by omega), if_neg c]
end Go.Proofs.Ythkccaclmodjiaa.I
