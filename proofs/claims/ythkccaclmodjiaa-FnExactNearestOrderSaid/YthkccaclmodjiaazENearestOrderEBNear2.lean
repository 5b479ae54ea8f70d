import Derived.Test.YthkccaclmodjiaazENearestOrderEBLem1
import Derived.Test.YthkccaclmodjiaazENearestOrderEBNear
import Derived.Test.YthkccaclmodjiaazENearestOrderEBTime
import Derived.Test.YthkccaclmodjiaazENearestOrderEEvLoop
import Derived.Test.YthkccaclmodjiaazENearestOrderEListsPiece
import Derived.Test.YthkccaclmodjiaazENearestOrderI0
import Derived.Test.YthkccaclmodjiaazENearestOrderI35
import Derived.Test.YthkccaclmodjiaazENearestOrderI7
import Derived.Test.YthkccaclmodjiaazENearestOrderI8
import Derived.Test.YthkccaclmodjiaazENearestOrderI9
namespace Go.Proofs.Ythkccaclmodjiaa.I
open Go.RowKit Go.Proofs.YthkccaclmodjiaaW.PrintWords Go.Proofs.YthkccaclmodjiaaW.PrintLast Go.Proofs.YthkccaclmodjiaaW.PrintMore
attribute [local go_sem] max2_int min2_int max_two min_two max_three min_three max_four min_four
set_option linter.unusedVariables false
set_option linter.unusedSimpArgs false
attribute [local irreducible] near chg rd_T57
theorem specNear_ev (l : List S57) (h : Fine l) (h8 : l.length ≤ 8) (x y level : Int) (hx : wrap64 x = x ∧ 0 ≤ x ∧ x ≤ 60) (hy : wrap64 y = y ∧ 0 ≤ y ∧ y ≤ 60) (hl : 0 ≤ level ∧ level ≤ 3) (out : List Int) (ho : out.length ≤ 8) (R : List Int × Int)
    (next : Ev (fun k => spec_NearestOrder.l1 k l out level (near x y level l out l.length).1 (near x y level l out l.length).2 (l.length : Int) x y) R) (d : Nat) : ∀ i : Nat, i + d = l.length → Ev (fun k => spec_NearestOrder.l1 k l out level (near x y level l out i).1 (near x y level l out i).2 (i : Int) x y) R := by
  induction d with
  | zero =>
    intro i hd
    obtain rfl : i = l.length := by omega
    exact next
  | succ d ih =>
    intro i hd
    have c : i < l.length := by omega
    have c1 : (i : Int) < (l.length : Int) := by omega
    have c2 : (0 : Int) ≤ (i : Int) := by omega
    have w1 : wrap64 ((i : Int) + 1) = ((i + 1 : Nat) : Int) := by rw [w64 _ (by omega) (by omega)]; rfl
    have er := rd57_lt l i c
    have n := ih (i + 1) (by omega)
    rw [near_succ, er] at n
    have hh := has_ev out (i : Int) (by omega)
    have f := h l[i] (List.getElem_mem _)
    generalize near x y level l out i = s at *
    generalize l[i] = p at *
    obtain ⟨f0, f1, f2, b0, b1, b2, b3, b4, b5⟩ := f
    have cb := chg_bd x y level p.f0 hx.2 hy.2 hl ⟨by omega, by omega⟩
    have ce := specChange_f x y level p.f0 hx hy hl ⟨by omega, by omega⟩
    have w2 : wrap64 (chg x y level p.f0 + p.f1) = chg x y level p.f0 + p.f1 := w64 _ (by omega) (by omega)
    obtain ⟨t, hT⟩ : ∃ t, t = chg x y level p.f0 + p.f1 := ⟨_, rfl⟩
    rw [← hT] at w2 n
    refine Ev.step (f := fun k => (spec_l00Has.f k out (i : Int)).bind fun t213 => (if t213 = true then (spec_NearestOrder.l1 k l out level s.1 s.2 ((i + 1 : Nat) : Int) x y) else (if s.1 < 0 then (spec_NearestOrder.l1 k l out level (i : Int) t ((i + 1 : Nat) : Int) x y) else (if t < s.2 then (spec_NearestOrder.l1 k l out level (i : Int) t ((i + 1 : Nat) : Int) x y) else (spec_NearestOrder.l1 k l out level s.1 s.2 ((i + 1 : Nat) : Int) x y))))) (fun k => by rw [spec_NearestOrder.l1]; rw [if_pos c1, if_pos c2, er, f0, f1, ce, Option.bind_some, ← hT, w2, w1]) (Ev.bind hh ?_)
    by_cases q : out.contains (i : Int) = true
    · rw [if_pos q] at n
      exact Ev.ite_t q n
    · rw [if_neg q] at n
      refine Ev.ite_f q ?_
      by_cases z : s.1 < 0
      · rw [if_pos z] at n
        exact Ev.ite_t z n
      · rw [if_neg z] at n
        refine Ev.ite_f z ?_
        by_cases z2 : t < s.2
        · rw [if_pos z2] at n
          exact Ev.ite_t z2 n
        · rw [if_neg z2] at n
          exact Ev.ite_f z2 n
theorem implNear_ev (l : List S57) (h : Fine l) (h8 : l.length ≤ 8) (x y level : Int) (hx : wrap64 x = x ∧ 0 ≤ x ∧ x ≤ 60) (hy : wrap64 y = y ∧ 0 ≤ y ∧ y ≤ 60) (hl : 0 ≤ level ∧ level ≤ 3) (out : List Int) (ho : out.length ≤ 8) (R : List Int × Int) (q : Nat)
    (next : Ev (fun k => impl_NearestOrder.l1 k l out level (near x y level l out l.length).1 (near x y level l out l.length).2 (l.length : Int) (q : Int) l (l.length : Int) (l.length : Int) x y) R) (d : Nat) : ∀ i : Nat, i + d = l.length → Ev (fun k => impl_NearestOrder.l1 k l out level (near x y level l out i).1 (near x y level l out i).2 (l.length : Int) (q : Int) l (l.length : Int) (i : Int) x y) R := by
  induction d with
  | zero =>
    intro i hd
    obtain rfl : i = l.length := by omega
    exact next
  | succ d ih =>
    intro i hd
    have c : i < l.length := by omega
    have c1 : (i : Int) < (l.length : Int) := by omega
    have c2 : (0 : Int) ≤ (i : Int) := by omega
    have w1 : wrap64 ((i : Int) + 1) = ((i + 1 : Nat) : Int) := by rw [w64 _ (by omega) (by omega)]; rfl
    have er := rd57_lt l i c
    have n := ih (i + 1) (by omega)
    rw [near_succ, er] at n
    have hh := contains_ev out (i : Int) (by omega)
    have f := h l[i] (List.getElem_mem _)
    generalize near x y level l out i = s at *
    generalize l[i] = p at *
    obtain ⟨f0, f1, f2, b0, b1, b2, b3, b4, b5⟩ := f
    have cb := chg_bd x y level p.f0 hx.2 hy.2 hl ⟨by omega, by omega⟩
    have ce := implChange_f x y level p.f0 hx hy hl ⟨by omega, by omega⟩
    have w2 : wrap64 (chg x y level p.f0 + p.f1) = chg x y level p.f0 + p.f1 := w64 _ (by omega) (by omega)
    obtain ⟨t, hT⟩ : ∃ t, t = chg x y level p.f0 + p.f1 := ⟨_, rfl⟩
    rw [← hT] at w2 n
    refine Ev.step (f := fun k => (slices_Contains_int64_int64.f k out (i : Int)).bind fun t213 => (if t213 = true then (impl_NearestOrder.l1 k l out level s.1 s.2 (l.length : Int) (q : Int) l (l.length : Int) ((i + 1 : Nat) : Int) x y) else (if s.1 < 0 then (impl_NearestOrder.l1 k l out level (i : Int) t (l.length : Int) (q : Int) l (l.length : Int) ((i + 1 : Nat) : Int) x y) else (if t < s.2 then (impl_NearestOrder.l1 k l out level (i : Int) t (l.length : Int) (q : Int) l (l.length : Int) ((i + 1 : Nat) : Int) x y) else (impl_NearestOrder.l1 k l out level s.1 s.2 (l.length : Int) (q : Int) l (l.length : Int) ((i + 1 : Nat) : Int) x y))))) (fun k => by rw [impl_NearestOrder.l1]; rw [if_pos c1, if_pos c2, if_pos c1, er, f0, f1, ce, Option.bind_some, ← hT, w2, w1]) (Ev.bind hh ?_)
    by_cases q : out.contains (i : Int) = true
    · rw [if_pos q] at n
      exact Ev.ite_t q n
    · rw [if_neg q] at n
      refine Ev.ite_f q ?_
      by_cases z : s.1 < 0
      · rw [if_pos z] at n
        exact Ev.ite_t z n
      · rw [if_neg z] at n
        refine Ev.ite_f z ?_
        by_cases z2 : t < s.2
        · rw [if_pos z2] at n
          exact Ev.ite_t z2 n
        · rw [if_neg z2] at n
          exact Ev.ite_f z2 n
theorem near_both (l : List S57) (h : Fine l) (h8 : l.length ≤ 8) (x y : Int) (hx : wrap64 x = x ∧ 0 ≤ x ∧ x ≤ 60) (hy : wrap64 y = y ∧ 0 ≤ y ∧ y ≤ 60) (d : Nat) : ∀ (out : List Int) (level : Int), out.length + d = l.length → 0 ≤ level ∧ level ≤ 3 →
    ∃ r : List Int, r.length = l.length ∧ Ev (fun k => spec_NearestOrder.l0 k l out level x y) (r, 0) ∧ Ev (fun k => impl_NearestOrder.l0 k l out level (l.length : Int) (out.length : Int) x y) (r, 0) := by
  induction d with
  | zero =>
    intro out level hd hl
    refine ⟨out, by omega, Ev.step (f := fun _ => some (out, 0)) (fun k => ?_) (Ev.const rfl), Ev.step (f := fun _ => some (out, 0)) (fun k => ?_) (Ev.const rfl)⟩
    · rw [spec_NearestOrder.l0]
      rw [if_neg (by omega)]
    · rw [impl_NearestOrder.l0]
      rw [if_neg (by omega)]
  | succ d ih =>
    intro out level hd hl
    have c1 : (out.length : Int) < (l.length : Int) := by omega
    have hit : 0 ≤ (near x y level l out l.length).1 := by
      apply near_hit
      apply Classical.byContradiction
      intro no
      have := pigeon l.length out (fun k hk => by
        cases q : out.contains (k : Int) with
        | true => exact List.contains_iff_mem.mp q
        | false => exact absurd ⟨k, hk, q⟩ no)
      omega
    have bd := near_bd x y level l out l.length
    have s0 : near x y level l out 0 = (-1, 0) := by rw [near]
    obtain ⟨b, hb⟩ := Int.eq_ofNat_of_zero_le hit
    have hbl : b < l.length := by omega
    have f := h l[b] (List.getElem_mem _)
    have er := rd57_lt l b hbl
    obtain ⟨r, hr, r1, r2⟩ := ih (out ++ [(b : Int)]) l[b].f0 (by rw [List.length_append]; simp; omega) (by omega)
    have e1 := specNear_ev l h h8 x y level hx hy hl out (by omega) (r, 0) (by
      refine Ev.step (f := fun k => spec_NearestOrder.l0 k l (out ++ [(b : Int)]) l[b].f0 x y) (fun k => ?_) r1
      have c2 : ¬ (l.length : Int) < (l.length : Int) := by omega
      have c3 : out.length < 17592186044416 := by omega
      have c4 : (0 : Int) ≤ (b : Int) := by omega
      have c5 : (b : Int) < (l.length : Int) := by omega
      rw [spec_NearestOrder.l1]
      rw [if_neg c2, if_pos c3, hb, if_pos c4, if_pos c5, er, f.1]) l.length 0 (by omega)
    have e2 := implNear_ev l h h8 x y level hx hy hl out (by omega) (r, 0) out.length (by
      refine Ev.step (f := fun k => impl_NearestOrder.l0 k l (out ++ [(b : Int)]) l[b].f0 (l.length : Int) ((out ++ [(b : Int)]).length : Int) x y) (fun k => ?_) r2
      have c2 : ¬ (l.length : Int) < (l.length : Int) := by omega
      have c3 : out.length < 17592186044416 := by omega
      have c4 : (0 : Int) ≤ (b : Int) := by omega
      have c5 : (b : Int) < (l.length : Int) := by omega
      have w1 : wrap64 ((out.length : Int) + 1) = ((out ++ [(b : Int)]).length : Int) := by rw [w64 _ (by omega) (by omega), List.length_append]; simp
      rw [impl_NearestOrder.l1]
      rw [if_neg c2, if_pos c3, hb, if_pos c4, if_pos c5, er, f.1, w1]) l.length 0 (by omega)
    rw [s0] at e1 e2
    refine ⟨r, hr, Ev.step (f := fun k => spec_NearestOrder.l1 k l out level (-1) 0 0 x y) (fun k => ?_) e1, Ev.step (f := fun k => impl_NearestOrder.l1 k l out level (-1) 0 (l.length : Int) (out.length : Int) l (l.length : Int) 0 x y) (fun k => ?_) e2⟩
    · rw [spec_NearestOrder.l0]
      rw [if_pos c1]
    · rw [impl_NearestOrder.l0]
      rw [if_pos c1]
theorem NearestOrder_both (x y : Int) (l : List S57) (hm : l.length ≤ 4611686018427387904) (ht : Typed l) (hx : -128 ≤ x ∧ x ≤ 127) (hy : -128 ≤ y ∧ y ≤ 127) :
    ∃ R : List Int × Int, R.1.length ≤ 8 ∧ Ev (fun k => spec_NearestOrder.f k x y l) R ∧ Ev (fun k => impl_NearestOrder.f k x y l) R := by
  have a := asked_ev x y l hm
  have b := ironCode_ev x y l
  by_cases c : codeIron x y l = 0
  · obtain ⟨h8, hf⟩ := fine_of x y l ht c
    have o := okIron_bd x y hx hy (code_zero x y l c).1
    obtain ⟨r, hr, r1, r2⟩ := near_both l hf h8 x y ⟨o.1, o.2.2.1, o.2.2.2.1⟩ ⟨o.2.1, o.2.2.2.2⟩ l.length [] 0 (by simp) (by omega)
    rw [c] at a b
    exact ⟨(r, 0), by show r.length ≤ 8; omega, Ev.bind (a := ([] : List Int)) (Ev.const rfl) (Ev.bind a (Ev.ite_t rfl r1)), Ev.bind b (Ev.ite_t rfl r2)⟩
  · exact ⟨([], codeIron x y l), by simp, Ev.bind (a := ([] : List Int)) (Ev.const rfl) (Ev.bind a (Ev.ite_f c (Ev.const rfl))), Ev.bind b (Ev.ite_f c (Ev.const rfl))⟩
end Go.Proofs.Ythkccaclmodjiaa.I
