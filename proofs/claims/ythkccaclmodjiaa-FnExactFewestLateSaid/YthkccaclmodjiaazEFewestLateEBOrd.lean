import Derived.Test.YthkccaclmodjiaazEFewestLateEBLem1
import Derived.Test.YthkccaclmodjiaazEFewestLateEBNear
import Derived.Test.YthkccaclmodjiaazEFewestLateEBTime
import Derived.Test.YthkccaclmodjiaazEFewestLateEEvLoop
import Derived.Test.YthkccaclmodjiaazEFewestLateEIota
import Derived.Test.YthkccaclmodjiaazEFewestLateEIsOrder
import Derived.Test.YthkccaclmodjiaazEFewestLateEListsPiece
import Derived.Test.YthkccaclmodjiaazEFewestLateI0
import Derived.Test.YthkccaclmodjiaazEFewestLateI1
import Derived.Test.YthkccaclmodjiaazEFewestLateI4
import Derived.Test.YthkccaclmodjiaazEFewestLateI7
import Derived.Test.YthkccaclmodjiaazEFewestLateI15
import Derived.Test.YthkccaclmodjiaazEFewestLateI17
import Derived.Test.YthkccaclmodjiaazEFewestLateI5
import Derived.Test.YthkccaclmodjiaazEFewestLateI33
namespace Go.Proofs.Ythkccaclmodjiaa.I
open Go.RowKit Go.Proofs.YthkccaclmodjiaaW.PrintWords Go.Proofs.YthkccaclmodjiaaW.PrintLast Go.Proofs.YthkccaclmodjiaaW.PrintMore
attribute [local go_sem] max2_int min2_int max_two min_two max_three min_three max_four min_four
set_option linter.unusedVariables false
set_option linter.unusedSimpArgs false
def timesOf (x y : Int) (l : List S57) : Int → Int → List Int → List Int
  | _, _, [] => []
  | lv, now, o :: r => (now + (chg x y lv (rd_T57 l o).f0 + (rd_T57 l o).f1)) :: timesOf x y l (rd_T57 l o).f0 (now + (chg x y lv (rd_T57 l o).f0 + (rd_T57 l o).f1)) r
theorem timesOf_len (x y : Int) (l : List S57) : ∀ (r : List Int) (lv now : Int), (timesOf x y l lv now r).length = r.length
  | [], _, _ => rfl
  | _ :: r, _, _ => by rw [timesOf, List.length_cons, timesOf_len, List.length_cons]
theorem piece_at (l : List S57) (h : Fine l) (o : Int) (h0 : 0 ≤ o) (h1 : o < l.length) : wrap64 (rd_T57 l o).f0 = (rd_T57 l o).f0 ∧ wrap64 (rd_T57 l o).f1 = (rd_T57 l o).f1 ∧ wrap64 (rd_T57 l o).f2 = (rd_T57 l o).f2 ∧ 1 ≤ (rd_T57 l o).f0 ∧ (rd_T57 l o).f0 ≤ 3 ∧ 1 ≤ (rd_T57 l o).f1 ∧ (rd_T57 l o).f1 ≤ 60 ∧ 0 ≤ (rd_T57 l o).f2 ∧ (rd_T57 l o).f2 ≤ 1000 := by
  obtain ⟨i, rfl⟩ : ∃ i : Nat, o = (i : Int) := ⟨o.toNat, by omega⟩
  have c : i < l.length := by omega
  rw [rd57_lt l i c]
  exact h l[i] (List.getElem_mem _)
theorem step_bd (now C p1 : Int) (i : Nat) (h8 : i < 8) (hn : 0 ≤ now ∧ now ≤ 240 * (i : Int)) (hC : 0 ≤ C ∧ C ≤ 180) (hp : 1 ≤ p1 ∧ p1 ≤ 60) :
    wrap64 (C + p1) = C + p1 ∧ wrap64 (now + (C + p1)) = now + (C + p1) ∧ 0 ≤ now + (C + p1) ∧ now + (C + p1) ≤ 240 * ((i + 1 : Nat) : Int) :=
  ⟨w64 _ (by omega) (by omega), w64 _ (by omega) (by omega), by omega, by omega⟩
theorem lv_bd {p0 : Int} (h1 : 1 ≤ p0) (h3 : p0 ≤ 3) : 0 ≤ p0 ∧ p0 ≤ 3 := ⟨by omega, h3⟩
theorem finish_key (x y : Int) (hx : wrap64 x = x ∧ 0 ≤ x ∧ x ≤ 60) (hy : wrap64 y = y ∧ 0 ≤ y ∧ y ≤ 60) (l : List S57) (h : Fine l) (o : List Int) (h8 : o.length ≤ 8) (hr : ∀ z ∈ o, 0 ≤ z ∧ z < l.length) :
    ∀ (r : List Int) (i : Nat) (out : List Int) (lv now : Int), o.drop i = r → i + r.length = o.length → out.length = i → 0 ≤ lv ∧ lv ≤ 3 → 0 ≤ now ∧ now ≤ 240 * i →
      Ev (fun k => impl_Iron_finish.l0 k l out now lv o (o.length : Int) (i : Int) x y) (out ++ timesOf x y l lv now r) ∧ Ev (fun k => spec_l07Times.l0 k l o out lv now (i : Int) x y) (out ++ timesOf x y l lv now r) := by
  intro r
  induction r with
  | nil =>
    intro i out lv now hd hi _ _ _
    rw [List.length_nil] at hi
    rw [timesOf, List.append_nil]
    constructor
    · refine Ev.step (f := fun _ => some out) (fun k => ?_) (Ev.const rfl)
      rw [impl_Iron_finish.l0]
      rw [if_neg (by omega)]
    · refine Ev.step (f := fun _ => some out) (fun k => ?_) (Ev.const rfl)
      rw [spec_l07Times.l0]
      rw [if_neg (by omega)]
  | cons z r ih =>
    intro i out lv now hd hi hout hlv hnow
    rw [List.length_cons] at hi
    have c : i < o.length := by omega
    have c1 : (i : Int) < (o.length : Int) := by omega
    have c2 : (0 : Int) ≤ (i : Int) := by omega
    have c3 : out.length < 17592186044416 := by omega
    have ci8 : i < 8 := by omega
    have ci9 : i + 1 + r.length = o.length := by omega
    have w1 : wrap64 ((i : Int) + 1) = ((i + 1 : Nat) : Int) := by rw [w64 _ (by omega) (by omega)]; rfl
    have e := List.drop_eq_getElem_cons c
    rw [hd] at e
    injection e with e1 e2
    have hz := hr z (by rw [e1]; exact List.getElem_mem _)
    have rz : rd o (i : Int) = z := by rw [rd_of_lt o i c, ← e1]
    have f := piece_at l h z hz.1 hz.2
    rw [timesOf]
    rcases hP : rd_T57 l z with ⟨p0, p1, p2⟩
    rw [hP] at f
    dsimp only at f ⊢
    have cb := chg_bd x y lv p0 hx.2 hy.2 hlv (lv_bd f.2.2.2.1 f.2.2.2.2.1)
    have s1 := specChange_f x y lv p0 hx hy hlv (lv_bd f.2.2.2.1 f.2.2.2.2.1)
    have s2 := implChange_f x y lv p0 hx hy hlv (lv_bd f.2.2.2.1 f.2.2.2.2.1)
    generalize chg x y lv p0 = C at cb s1 s2 ⊢
    have b1 := f.2.2.2.2.2.1
    have b2 := f.2.2.2.2.2.2.1
    have b3 := f.2.2.2.1
    have b4 := f.2.2.2.2.1
    have v1 := f.1
    have v2 := f.2.1
    clear f
    obtain ⟨w2, w3, m1⟩ := step_bd now C p1 i ci8 hnow cb ⟨b1, b2⟩
    obtain ⟨n1, n2⟩ := ih (i + 1) (out ++ [now + (C + p1)]) p0 (now + (C + p1)) e2.symm ci9 (by rw [List.length_append, hout]; rfl) (lv_bd b3 b4) m1
    rw [List.append_assoc] at n1 n2
    constructor
    · refine Ev.step (f := fun k => impl_Iron_finish.l0 k l (out ++ [now + (C + p1)]) (now + (C + p1)) p0 o (o.length : Int) ((i + 1 : Nat) : Int) x y) (fun k => ?_) n1
      rw [impl_Iron_finish.l0]
      rw [if_pos c1, if_pos c2, if_pos c1, rz, if_pos hz.1, if_pos hz.2, hP]
      dsimp only
      rw [v1, s2, Option.bind_some, if_pos c3, v2, w2, w3, w1]
    · refine Ev.step (f := fun k => spec_l07Times.l0 k l o (out ++ [now + (C + p1)]) p0 (now + (C + p1)) ((i + 1 : Nat) : Int) x y) (fun k => ?_) n2
      rw [spec_l07Times.l0]
      rw [if_pos c1, if_pos c2, rz, if_pos hz.1, if_pos hz.2, hP]
      dsimp only
      rw [v1, s1, Option.bind_some, if_pos c3, v2, w2, w3, w1]
def lastOf (t : List Int) : Int := if (t.length : Int) = 0 then 0 else rd t ((t.length : Int) - 1)
def sumOf (t : List Int) : Nat → Int
  | 0 => 0
  | i + 1 => wrap64 (sumOf t i + rd t (i : Int))
end Go.Proofs.Ythkccaclmodjiaa.I
