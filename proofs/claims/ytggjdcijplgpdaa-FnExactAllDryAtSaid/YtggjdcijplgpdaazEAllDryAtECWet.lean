import Derived.Test.YtggjdcijplgpdaazEAllDryAtD0
import Derived.Test.YtggjdcijplgpdaazEAllDryAtD1
import Derived.Test.YtggjdcijplgpdaazEAllDryAtD13
import Derived.Test.YtggjdcijplgpdaazEAllDryAtEDay1
import Derived.Test.YtggjdcijplgpdaazEAllDryAtEDay2
import Derived.Test.YtggjdcijplgpdaazEAllDryAtEEvLoop
namespace Go.Proofs.Ytggjdcijplgpdaa.D
open Go.RowKit Go.Proofs.YtggjdcijplgpdaaW.PrintWords Go.Proofs.YtggjdcijplgpdaaW.PrintLast Go.Proofs.YtggjdcijplgpdaaW.PrintMore
attribute [local go_sem] max2_int min2_int max_two min_two max_three min_three max_four min_four
set_option linter.unusedVariables false
set_option linter.unusedSimpArgs false
def GoodH (t : S74) : Prop := (wrap64 t.f0 = t.f0 ∧ wrap64 t.f1 = t.f1 ∧ wrap64 t.f2 = t.f2) ∧ (0 ≤ t.f0 ∧ t.f0 ≤ 9) ∧ (0 ≤ t.f1 ∧ t.f1 ≤ 9) ∧ (0 ≤ t.f2 ∧ t.f2 ≤ 9)
def GoodD (D : List S74) : Prop := D.length = 24 ∧ ∀ t ∈ D, GoodH t
def GoodW (x : S128) : Prop := (wrap64 x.f0 = x.f0 ∧ wrap64 x.f1 = x.f1) ∧ (0 ≤ x.f0 ∧ x.f0 ≤ 1000) ∧ (1 ≤ x.f1 ∧ x.f1 ≤ 9)
def dryBy (t : S74) (shade : Bool) : Int := if shade = true then 2 * t.f1 + 2 else 2 * t.f1 + 2 + 3 * t.f0
def wetH (wet thick : Int) (t : S74) (shade : Bool) : Int := if t.f2 > 0 then (if wet + 5 * t.f2 < 1000 then wet + 5 * t.f2 else 1000) else (if 0 > wet - Int.tdiv (dryBy t shade) thick then 0 else wet - Int.tdiv (dryBy t shade) thick)
theorem div_bd (a b : Int) (ha : 0 ≤ a) (hb : 1 ≤ b) : 0 ≤ Int.tdiv a b ∧ Int.tdiv a b ≤ a := by
  rw [Int.tdiv_eq_ediv_of_nonneg ha]
  exact ⟨Int.ediv_nonneg ha (by omega), Int.ediv_le_self b ha⟩
theorem dryBy_bd {t : S74} (h : GoodH t) (shade : Bool) : 0 ≤ dryBy t shade ∧ dryBy t shade ≤ 47 := by
  obtain ⟨_, h0, h1, h2⟩ := h
  unfold dryBy
  cases shade
  · rw [if_neg (by decide)]; omega
  · rw [if_pos rfl]; omega
theorem wetH_bd {t : S74} (h : GoodH t) (shade : Bool) (wet thick : Int) (hw : 0 ≤ wet ∧ wet ≤ 1000) (ht : 1 ≤ thick) : 0 ≤ wetH wet thick t shade ∧ wetH wet thick t shade ≤ 1000 := by
  have d := dryBy_bd h shade
  have q := div_bd (dryBy t shade) thick d.1 ht
  obtain ⟨_, h0, h1, h2⟩ := h
  unfold wetH
  by_cases c : t.f2 > 0
  · rw [if_pos c]
    split <;> omega
  · rw [if_neg c]
    generalize Int.tdiv (dryBy t shade) thick = u at q
    split <;> omega
theorem specMin (a b : Int) : spec_l00Min.f a b = some (if a < b then a else b) := by
  unfold spec_l00Min.f
  split <;> rfl
theorem specMax (a b : Int) : spec_l00Max.f a b = some (if a > b then a else b) := by
  unfold spec_l00Max.f
  split <;> rfl
theorem dryBy_w {t : S74} (h : GoodH t) (shade : Bool) : (shade = true → wrap64 (wrap64 (2 * wrap64 t.f1) + 2) = dryBy t shade) ∧ (shade = false → wrap64 (wrap64 (wrap64 (2 * wrap64 t.f1) + 2) + wrap64 (3 * wrap64 t.f0)) = dryBy t shade) := by
  obtain ⟨⟨e0, e1, e2⟩, h0, h1, h2⟩ := h
  rw [e0, e1]
  have a : wrap64 (2 * t.f1) = 2 * t.f1 := w64 _ (by omega) (by omega)
  have b : wrap64 (2 * t.f1 + 2) = 2 * t.f1 + 2 := w64 _ (by omega) (by omega)
  have c : wrap64 (3 * t.f0) = 3 * t.f0 := w64 _ (by omega) (by omega)
  rw [a, b, c]
  constructor
  · rintro rfl
    unfold dryBy
    rw [if_pos rfl]
  · rintro rfl
    unfold dryBy
    rw [if_neg (by decide), w64 _ (by omega) (by omega)]
theorem specHour {t : S74} (h : GoodH t) (shade : Bool) (wet thick : Int) (hw : 0 ≤ wet ∧ wet ≤ 1000) (ht : 1 ≤ thick) : spec_l03Hour.f wet thick t.f0 t.f1 t.f2 shade = some (wetH wet thick t shade) := by
  have d := dryBy_bd h shade
  have q := div_bd (dryBy t shade) thick d.1 ht
  have e := dryBy_w h shade
  obtain ⟨⟨e0, e1, e2⟩, h0, h1, h2⟩ := h
  have nz : ¬ thick = 0 := by omega
  unfold spec_l03Hour.f wetH
  by_cases c : t.f2 > 0
  · have a : wrap64 (5 * t.f2) = 5 * t.f2 := w64 _ (by omega) (by omega)
    rw [if_pos c, if_pos c, e2, a, w64 _ (by omega) (by omega), specMin, Option.bind_some]
  · rw [if_neg c, if_neg c]
    have wq : wrap64 (Int.tdiv (dryBy t shade) thick) = Int.tdiv (dryBy t shade) thick := w64 _ (by omega) (by omega)
    have ww : wrap64 (wet - Int.tdiv (dryBy t shade) thick) = wet - Int.tdiv (dryBy t shade) thick := w64 _ (by omega) (by omega)
    cases shade with
    | true => rw [if_pos rfl, if_neg nz, e.1 rfl, wq, ww, specMax, Option.bind_some]
    | false => rw [if_neg (by decide), if_neg nz, e.2 rfl, wq, ww, specMax, Option.bind_some]
theorem implHour {t : S74} (h : GoodH t) (shade : Bool) (wet thick : Int) (hw : 0 ≤ wet ∧ wet ≤ 1000) (ht : 1 ≤ thick) : impl_Weather_hour.f t.f0 t.f1 t.f2 wet thick shade = some (wetH wet thick t shade) := by
  have d := dryBy_bd h shade
  have q := div_bd (dryBy t shade) thick d.1 ht
  have e := dryBy_w h shade
  obtain ⟨⟨e0, e1, e2⟩, h0, h1, h2⟩ := h
  have nz : ¬ thick = 0 := by omega
  unfold impl_Weather_hour.f wetH
  by_cases c : t.f2 > 0
  · have a : wrap64 (5 * t.f2) = 5 * t.f2 := w64 _ (by omega) (by omega)
    rw [if_pos c, if_pos c, e2, a, w64 _ (by omega) (by omega)]
    congr 1
    unfold mn
    (repeat' split) <;> omega
  · rw [if_neg c, if_neg c]
    have wq : wrap64 (Int.tdiv (dryBy t shade) thick) = Int.tdiv (dryBy t shade) thick := w64 _ (by omega) (by omega)
    have ww : wrap64 (wet - Int.tdiv (dryBy t shade) thick) = wet - Int.tdiv (dryBy t shade) thick := w64 _ (by omega) (by omega)
    have m : ∀ z : Int, mx z 0 = if 0 > z then 0 else z := by
      intro z
      unfold mx
      (repeat' split) <;> omega
    cases shade with
    | true => rw [if_pos rfl, if_neg nz, e.1 rfl, wq, ww, m]
    | false => rw [if_neg (by decide), if_neg nz, e.2 rfl, wq, ww, m]
def wetN (D : List S74) (thick : Int) (shade : Bool) (f : Nat) (w : Int) : Nat → Int
  | 0 => w
  | n + 1 => wetH (wetN D thick shade f w n) thick (rd_T74 D ((f + n : Nat) : Int)) shade
theorem day_at {D : List S74} (h : GoodD D) (i : Nat) (hi : i < 24) : GoodH (rd_T74 D (i : Int)) := by
  have hl := h.1
  have e : rd_T74 D (i : Int) = D[i] := by
    show D.getD (i : Int).toNat z74 = _
    rw [Int.toNat_natCast, List.getD_eq_getElem?_getD, List.getElem?_eq_getElem (by omega)]
    rfl
  rw [e]
  exact h.2 _ (List.getElem_mem _)
theorem wetN_bd {D : List S74} (h : GoodD D) (thick : Int) (ht : 1 ≤ thick) (shade : Bool) (f : Nat) (w : Int) (hw : 0 ≤ w ∧ w ≤ 1000) : ∀ n, f + n ≤ 24 → 0 ≤ wetN D thick shade f w n ∧ wetN D thick shade f w n ≤ 1000
  | 0, _ => hw
  | n + 1, hn => wetH_bd (day_at h (f + n) (by omega)) shade _ thick (wetN_bd h thick ht shade f w hw n (by omega)) ht
theorem behind_ev {D : List S74} (h : GoodD D) {x : S128} (hx : GoodW x) (shade : Bool) (f : Nat) (u : Nat) (hft : f ≤ u) (ht : u ≤ 24) : Ev (fun k => spec_l03Behind.f k D x.f0 x.f1 (f : Int) (u : Int) shade) (wetN D x.f1 shade f x.f0 (u - f)) := by
  obtain ⟨⟨e0, e1⟩, h0, h1⟩ := hx
  have hl := h.1
  have key : ∀ d n : Nat, f + n + d = u → Ev (fun k => spec_l03Behind.l0 k D (u : Int) shade (wetN D x.f1 shade f x.f0 n) ((f + n : Nat) : Int) x.f0 x.f1) (wetN D x.f1 shade f x.f0 (u - f)) := by
    intro d
    induction d with
    | zero =>
      intro n hn
      obtain rfl : n = u - f := by omega
      exact Ev.step (fun k => by rw [spec_l03Behind.l0]) (Ev.ite_f (by omega) (Ev.const rfl))
    | succ d ih =>
      intro n hn
      have g := specHour (day_at h (f + n) (by omega)) shade _ x.f1 (wetN_bd h x.f1 h1.1 shade f x.f0 h0 n (by omega)) h1.1
      have wn : wrap64 (((f + n : Nat) : Int) + 1) = ((f + (n + 1) : Nat) : Int) := by rw [w64 _ (by omega) (by omega)]; omega
      refine Ev.step (fun k => by rw [spec_l03Behind.l0]) ?_
      rw [e1, wn]
      exact Ev.ite_t (by omega) (Ev.ite_t (by omega) (Ev.ite_t (by omega) (Ev.bind (Ev.const g) (ih (n + 1) (by omega)))))
  have := key (u - f) 0 (by omega)
  unfold spec_l03Behind.f
  rw [e0]
  exact this
def courseL (D : List S74) (thick : Int) (shade : Bool) (f : Nat) (w : Int) (n : Nat) : List Int := (List.range (n + 1)).map (wetN D thick shade f w)
theorem courseL_len (D : List S74) (thick : Int) (shade : Bool) (f : Nat) (w : Int) (n : Nat) : (courseL D thick shade f w n).length = n + 1 := by unfold courseL; simp
theorem courseL_at (D : List S74) (thick : Int) (shade : Bool) (f : Nat) (w : Int) (n i : Nat) (hi : i ≤ n) : rd (courseL D thick shade f w n) (i : Int) = wetN D thick shade f w i := by
  rw [rd_of_lt _ i (by rw [courseL_len]; omega)]
  unfold courseL
  rw [List.getElem_map, List.getElem_range]
theorem courseL_snoc (D : List S74) (thick : Int) (shade : Bool) (f : Nat) (w : Int) (n : Nat) : courseL D thick shade f w n ++ [wetN D thick shade f w (n + 1)] = courseL D thick shade f w (n + 1) := by
  unfold courseL
  rw [List.range_succ (n := n + 1), List.map_append]
  rfl
theorem course_ev {D : List S74} (h : GoodD D) {x : S128} (hx : GoodW x) (shade : Bool) (f : Nat) (hf : f ≤ 24) : Ev (fun k => impl_Day_course.f k D x.f0 x.f1 (f : Int) shade) (courseL D x.f1 shade f x.f0 (24 - f)) := by
  obtain ⟨⟨e0, e1⟩, h0, h1⟩ := hx
  have hl := h.1
  have key : ∀ d n : Nat, f + n + d = 24 → Ev (fun k => impl_Day_course.l0 k shade D (courseL D x.f1 shade f x.f0 n) ((f + n : Nat) : Int) x.f0 x.f1) (courseL D x.f1 shade f x.f0 (24 - f)) := by
    intro d
    induction d with
    | zero =>
      intro n hn
      obtain rfl : n = 24 - f := by omega
      exact Ev.step (fun k => by rw [impl_Day_course.l0]) (Ev.ite_f (by omega) (Ev.const rfl))
    | succ d ih =>
      intro n hn
      have g := implHour (day_at h (f + n) (by omega)) shade _ x.f1 (wetN_bd h x.f1 h1.1 shade f x.f0 h0 n (by omega)) h1.1
      have wn : wrap64 (((f + n : Nat) : Int) + 1) = ((f + (n + 1) : Nat) : Int) := by rw [w64 _ (by omega) (by omega)]; omega
      have cl := courseL_len D x.f1 shade f x.f0 n
      have wl : wrap64 (((courseL D x.f1 shade f x.f0 n).length : Int) - 1) = (n : Int) := by rw [cl, w64 _ (by omega) (by omega)]; omega
      refine Ev.step (fun k => by rw [impl_Day_course.l0]) ?_
      rw [e1, wn, wl, courseL_at _ _ _ _ _ _ n (Nat.le_refl _)]
      have nx := ih (n + 1) (by omega)
      rw [← courseL_snoc] at nx
      exact Ev.ite_t (by omega) (Ev.ite_t (by omega) (Ev.ite_t (by omega) (Ev.ite_t (by omega) (Ev.ite_t (by omega) (Ev.bind (Ev.const g) (Ev.ite_t (by omega) nx))))))
  have := key (24 - f) 0 (by omega)
  unfold impl_Day_course.f
  rw [e0]
  exact this
end Go.Proofs.Ytggjdcijplgpdaa.D
