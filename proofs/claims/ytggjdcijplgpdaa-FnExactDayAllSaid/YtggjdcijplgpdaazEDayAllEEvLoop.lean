import Derived.Test.YtggjdcijplgpdaazEDayAllEMem
import Derived.Test.YtggjdcijplgpdaazEDayAllEIdx8
import Derived.Shelf.Abstract
section
namespace Go.Proofs.Ytggjdcijplgpdaa.H
open Go.RowKit Go.Proofs.YtggjdcijplgpdaaW.PrintWords Go.Proofs.YtggjdcijplgpdaaW.PrintLast Go.Proofs.YtggjdcijplgpdaaW.PrintMore
attribute [local go_sem] max2_int min2_int max_two min_two max_three min_three max_four min_four
set_option linter.unusedVariables false
set_option linter.unusedSimpArgs false
def stepA (s : S55) (i : Nat) : S55 := (s.put (16 + i) (s.at_ (16 + i) + s.at_ (8 + i))).put (8 + i) 0
def afterA (s : S55) : Nat → S55
  | 0 => s
  | i + 1 => stepA (afterA s i) i
def takeStep (i : Nat) (p : S55 × Int) : S55 × Int :=
  let n := mn (p.1.at_ i) p.2
  let s1 := p.1.put i (p.1.at_ i - n)
  (if i = 0 then s1.put 24 (s1.at_ 24 + n) else s1.put (7 + i) (s1.at_ (7 + i) + n), p.2 - n)
def takes : Nat → S55 × Int → S55 × Int
  | 0, p => p
  | i + 1, p => takes i (takeStep i p)
def useOf (s : S55) (need : Int) : S55 × Int := takes 8 (afterA s 8, need)
def sumL : List Int → Int
  | [] => 0
  | x :: l => x + sumL l
theorem sumL_set : ∀ (l : List Int) (j : Nat) (v : Int), j < l.length → sumL (l.set j v) = sumL l - l.getD j 0 + v
  | [], j, v, h => absurd h (by simp)
  | x :: l, 0, v, _ => by
    show v + sumL l = x + sumL l - x + v
    omega
  | x :: l, j + 1, v, h => by
    have ih := sumL_set l j v (by simpa using h)
    show x + sumL (l.set j v) = x + sumL l - l.getD j 0 + v
    rw [ih]
    omega
theorem sumL_nonneg : ∀ (l : List Int), (∀ x ∈ l, 0 ≤ x) → 0 ≤ sumL l
  | [], _ => Int.le_refl _
  | x :: l, h => by
    have := h x List.mem_cons_self
    have := sumL_nonneg l (fun y hy => h y (List.mem_cons_of_mem _ hy))
    show 0 ≤ x + sumL l
    omega
theorem sumL_ge : ∀ (l : List Int) (j : Nat), (∀ x ∈ l, 0 ≤ x) → l.getD j 0 ≤ sumL l
  | [], j, _ => by
    show ([] : List Int).getD j 0 ≤ 0
    simp
  | x :: l, 0, h => by
    have := sumL_nonneg l (fun y hy => h y (List.mem_cons_of_mem _ hy))
    show x ≤ x + sumL l
    omega
  | x :: l, j + 1, h => by
    have := sumL_ge l j (fun y hy => h y (List.mem_cons_of_mem _ hy))
    have := h x List.mem_cons_self
    show l.getD j 0 ≤ x + sumL l
    omega
theorem sumL_two : ∀ (l : List Int) (i j : Nat), i ≠ j → (∀ x ∈ l, 0 ≤ x) → l.getD i 0 + l.getD j 0 ≤ sumL l := by
  intro l i j hne h
  by_cases hi : i < l.length
  · have e := sumL_set l i 0 hi
    have g := sumL_ge (l.set i 0) j (fun x hx => by
      rcases List.mem_or_eq_of_mem_set hx with hx | rfl
      · exact h x hx
      · exact Int.le_refl _)
    have gj : (l.set i 0).getD j 0 = l.getD j 0 := by
      rw [List.getD_eq_getElem?_getD, List.getElem?_set_ne hne, List.getD_eq_getElem?_getD]
    rw [gj] at g
    omega
  · have z : l.getD i 0 = 0 := by
      rw [List.getD_eq_getElem?_getD, List.getElem?_eq_none (by omega)]
      rfl
    rw [z]
    have := sumL_ge l j h
    omega
structure FitSt (s : S55) : Prop where
  pos : ∀ x ∈ s.l, 0 ≤ x
  sum : sumL s.l ≤ 500
theorem at_pos {s : S55} (h : FitSt s) (j : Nat) : 0 ≤ s.at_ j := by
  unfold S55.at_
  by_cases c : j < s.l.length
  · rw [List.getD_eq_getElem?_getD, List.getElem?_eq_getElem c]
    exact h.pos _ (List.getElem_mem c)
  · rw [List.getD_eq_getElem?_getD, List.getElem?_eq_none (by omega)]
    exact Int.le_refl _
theorem at_le {s : S55} (h : FitSt s) (j : Nat) : s.at_ j ≤ 500 := Int.le_trans (sumL_ge s.l j h.pos) h.sum
theorem at_two {s : S55} (h : FitSt s) (i j : Nat) (hne : i ≠ j) : s.at_ i + s.at_ j ≤ 500 := Int.le_trans (sumL_two s.l i j hne h.pos) h.sum
theorem fit_move {s : S55} (h : FitSt s) (i j : Nat) (hi : i < 25) (hj : j < 25) (hne : i ≠ j) (n : Int) (h0 : 0 ≤ n) (h1 : n ≤ s.at_ i) : FitSt ((s.put i (s.at_ i - n)).put j ((s.put i (s.at_ i - n)).at_ j + n)) := by
  have hp := at_pos h j
  have e : (s.put i (s.at_ i - n)).at_ j = s.at_ j := by rw [S55.put_at _ _ _ _ hi, if_neg (Ne.symm hne)]
  rw [e]
  refine ⟨fun x hx => ?_, ?_⟩
  · rw [S55.put_l, S55.put_l] at hx
    rcases List.mem_or_eq_of_mem_set hx with hx | rfl
    · rcases List.mem_or_eq_of_mem_set hx with hx | rfl
      · exact h.pos x hx
      · omega
    · omega
  · rw [S55.put_l, S55.put_l, sumL_set _ _ _ (by rw [List.length_set]; exact hj), sumL_set _ _ _ hi]
    have g : (s.l.set i (s.at_ i - n)).getD j 0 = s.at_ j := by
      rw [List.getD_eq_getElem?_getD, List.getElem?_set_ne hne]
      rfl
    rw [g]
    have := h.sum
    show sumL s.l - s.at_ i + (s.at_ i - n) - s.at_ j + (s.at_ j + n) ≤ 500
    omega
theorem put_comm {s : S55} (i j : Nat) (hi : i < 25) (hj : j < 25) (hne : i ≠ j) (u v : Int) : (s.put i u).put j v = (s.put j v).put i u := by
  apply S55.ext_l
  rw [S55.put_l, S55.put_l, S55.put_l, S55.put_l, List.set_comm _ _ hne]
theorem fit_A {s : S55} (h : FitSt s) (i : Nat) (hi : i < 8) : FitSt (stepA s i) := by
  have := fit_move h (8 + i) (16 + i) (by omega) (by omega) (by omega) (s.at_ (8 + i)) (at_pos h _) (Int.le_refl _)
  rw [show s.at_ (8 + i) - s.at_ (8 + i) = 0 by omega, show (s.put (8 + i) 0).at_ (16 + i) = s.at_ (16 + i) by rw [S55.put_at _ _ _ _ (by omega), if_neg (by omega)], put_comm _ _ (by omega) (by omega) (by omega)] at this
  exact this
theorem fit_after {s : S55} (h : FitSt s) : ∀ i, i ≤ 8 → FitSt (afterA s i)
  | 0, _ => h
  | i + 1, hi => fit_A (fit_after h i (by omega)) i (by omega)
theorem mn_bd {a b : Int} (ha : 0 ≤ a) (hb : 0 ≤ b) : 0 ≤ mn a b ∧ mn a b ≤ a ∧ mn a b ≤ b := by
  unfold mn
  split <;> omega
theorem fit_take {s : S55} {need : Int} (h : FitSt s) (hn : 0 ≤ need ∧ need ≤ 500) (i : Nat) (hi : i < 8) : FitSt (takeStep i (s, need)).1 ∧ 0 ≤ (takeStep i (s, need)).2 ∧ (takeStep i (s, need)).2 ≤ 500 := by
  obtain ⟨b1, b2, b3⟩ := mn_bd (at_pos h i) hn.1
  refine ⟨?_, by show 0 ≤ need - mn (s.at_ i) need; omega, by show need - mn (s.at_ i) need ≤ 500; omega⟩
  show FitSt (if i = 0 then _ else _)
  by_cases c : i = 0
  · rw [if_pos c]
    exact fit_move h i 24 (by omega) (by omega) (by omega) _ b1 b2
  · rw [if_neg c]
    exact fit_move h i (7 + i) (by omega) (by omega) (by omega) _ b1 b2
theorem fit_takes : ∀ (i : Nat) (s : S55) (need : Int), i ≤ 8 → FitSt s → 0 ≤ need ∧ need ≤ 500 → FitSt (takes i (s, need)).1 ∧ 0 ≤ (takes i (s, need)).2 ∧ (takes i (s, need)).2 ≤ 500
  | 0, s, need, _, h, hn => ⟨h, hn⟩
  | i + 1, s, need, hi, h, hn => by
    obtain ⟨h1, h2⟩ := fit_take h hn i (by omega)
    exact fit_takes i _ _ (by omega) h1 h2
theorem fit_use {s : S55} {need : Int} (h : FitSt s) (hn : 0 ≤ need ∧ need ≤ 500) : FitSt (useOf s need).1 ∧ 0 ≤ (useOf s need).2 ∧ (useOf s need).2 ≤ 500 := fit_takes 8 _ _ (Nat.le_refl _) (fit_after h 8 (Nat.le_refl _)) hn
theorem after_at {s : S55} : ∀ (i : Nat), i ≤ 8 → ∀ q, i ≤ q → q < 8 → (afterA s i).at_ (8 + q) = s.at_ (8 + q) ∧ (afterA s i).at_ (16 + q) = s.at_ (16 + q)
  | 0, _, q, _, _ => ⟨rfl, rfl⟩
  | i + 1, hi, q, hq, h8 => by
    obtain ⟨h1, h2⟩ := after_at i (by omega) q (by omega) h8
    show ((stepA (afterA s i) i).at_ (8 + q) = _) ∧ ((stepA (afterA s i) i).at_ (16 + q) = _)
    unfold stepA
    rw [S55.put_at _ _ _ _ (by omega), S55.put_at _ _ _ _ (by omega), S55.put_at _ _ _ _ (by omega), S55.put_at _ _ _ _ (by omega), if_neg (by omega), if_neg (by omega), if_neg (by omega), if_neg (by omega)]
    exact ⟨h1, h2⟩
end Go.Proofs.Ytggjdcijplgpdaa.H
end
section
namespace Go.Proofs.Ytggjdcijplgpdaa.H
open Go.RowKit Go.Proofs.YtggjdcijplgpdaaW.PrintWords Go.Proofs.YtggjdcijplgpdaaW.PrintLast Go.Proofs.YtggjdcijplgpdaaW.PrintMore
attribute [local go_sem] max2_int min2_int max_two min_two max_three min_three max_four min_four
set_option linter.unusedVariables false
set_option linter.unusedSimpArgs false
def washStep (i : Nat) (p : S55 × Int) : S55 × Int :=
  ((p.1.put (16 + i) (p.1.at_ (16 + i) - mn (p.1.at_ (16 + i)) p.2)).put i ((p.1.put (16 + i) (p.1.at_ (16 + i) - mn (p.1.at_ (16 + i)) p.2)).at_ i + mn (p.1.at_ (16 + i)) p.2), p.2 - mn (p.1.at_ (16 + i)) p.2)
def washes : Nat → S55 × Int → S55 × Int
  | 0, p => p
  | i + 1, p => washes i (washStep i p)
def washTo (l : List S55) (n : Int) : Nat → List S55 × Int
  | 0 => (l, n)
  | k + 1 => ((washTo l n k).1.set k (washes 8 ((washTo l n k).1.getD k z55, (washTo l n k).2)).1, (washes 8 ((washTo l n k).1.getD k z55, (washTo l n k).2)).2)
def washH (l : List S55) (n : Int) : List S55 := (washTo l n l.length).1
def FitL (l : List S55) : Prop := ∀ s ∈ l, FitSt s
theorem FitL.at_ {l : List S55} (h : FitL l) {k : Nat} (hk : k < l.length) : FitSt (l.getD k z55) := by
  rw [List.getD_eq_getElem?_getD, List.getElem?_eq_getElem hk]
  exact h _ (List.getElem_mem hk)
theorem FitL.set {l : List S55} (h : FitL l) (k : Nat) {s : S55} (hs : FitSt s) : FitL (l.set k s) := fun x hx => by
  rcases List.mem_or_eq_of_mem_set hx with hx | rfl
  · exact h x hx
  · exact hs
theorem fit_wash {s : S55} {n : Int} (h : FitSt s) (hn : 0 ≤ n ∧ n ≤ 1000) (i : Nat) (hi : i < 8) : FitSt (washStep i (s, n)).1 ∧ 0 ≤ (washStep i (s, n)).2 ∧ (washStep i (s, n)).2 ≤ 1000 := by
  have b := mn_bd (at_pos h (16 + i)) hn.1
  refine ⟨fit_move h (16 + i) i (by omega) (by omega) (by omega) _ b.1 b.2.1, ?_, ?_⟩
  · show 0 ≤ n - mn (s.at_ (16 + i)) n
    omega
  · show n - mn (s.at_ (16 + i)) n ≤ 1000
    omega
theorem fit_washes : ∀ (i : Nat) (s : S55) (n : Int), i ≤ 8 → FitSt s → 0 ≤ n ∧ n ≤ 1000 → FitSt (washes i (s, n)).1 ∧ 0 ≤ (washes i (s, n)).2 ∧ (washes i (s, n)).2 ≤ 1000
  | 0, _, _, _, h, hn => ⟨h, hn⟩
  | i + 1, s, n, hi, h, hn => by
    have := fit_wash h hn i (by omega)
    exact fit_washes i _ _ (by omega) this.1 this.2
theorem washTo_ok {l : List S55} {n : Int} (h : FitL l) (hn : 0 ≤ n ∧ n ≤ 1000) : ∀ k, k ≤ l.length → FitL (washTo l n k).1 ∧ (0 ≤ (washTo l n k).2 ∧ (washTo l n k).2 ≤ 1000) ∧ (washTo l n k).1.length = l.length
  | 0, _ => ⟨h, hn, rfl⟩
  | k + 1, hk => by
    obtain ⟨h1, h2, h3⟩ := washTo_ok h hn k (by omega)
    have := fit_washes 8 _ _ (Nat.le_refl _) (h1.at_ (k := k) (by omega)) h2
    exact ⟨h1.set k this.1, this.2, by rw [washTo, List.length_set, h3]⟩
theorem washH_ok {l : List S55} {n : Int} (h : FitL l) (hn : 0 ≤ n ∧ n ≤ 1000) : FitL (washH l n) ∧ (washH l n).length = l.length := by
  obtain ⟨h1, _, h3⟩ := washTo_ok h hn l.length (Nat.le_refl _)
  exact ⟨h1, h3⟩
end Go.Proofs.Ytggjdcijplgpdaa.H
end
section
namespace Go.Proofs.Ytggjdcijplgpdaa.H
open Go.RowKit Go.Proofs.YtggjdcijplgpdaaW.PrintWords Go.Proofs.YtggjdcijplgpdaaW.PrintLast Go.Proofs.YtggjdcijplgpdaaW.PrintMore
attribute [local go_sem] max2_int min2_int max_two min_two max_three min_three max_four min_four
set_option linter.unusedVariables false
set_option linter.unusedSimpArgs false
def useTo (l : List S55) (needs : List Int) : Nat → List S55 × List Int
  | 0 => (l, [])
  | k + 1 => ((useTo l needs k).1.set k (useOf ((useTo l needs k).1.getD k z55) (needs.getD k 0)).1, (useTo l needs k).2 ++ [(useOf ((useTo l needs k).1.getD k z55) (needs.getD k 0)).2])
def NeedL (needs : List Int) : Prop := ∀ x ∈ needs, 0 ≤ x ∧ x ≤ 500
theorem NeedL.at_ {needs : List Int} (h : NeedL needs) {k : Nat} (hk : k < needs.length) : 0 ≤ needs.getD k 0 ∧ needs.getD k 0 ≤ 500 := by
  rw [List.getD_eq_getElem?_getD, List.getElem?_eq_getElem hk]
  exact h _ (List.getElem_mem hk)
theorem useTo_ok {l : List S55} {needs : List Int} (h : FitL l) (hn : NeedL needs) (hl : needs.length = l.length) : ∀ k, k ≤ l.length → FitL (useTo l needs k).1 ∧ (useTo l needs k).1.length = l.length ∧ (useTo l needs k).2.length = k
  | 0, _ => ⟨h, rfl, rfl⟩
  | k + 1, hk => by
    obtain ⟨h1, h2, h3⟩ := useTo_ok h hn hl k (by omega)
    have := fit_use (h1.at_ (k := k) (by omega)) (hn.at_ (k := k) (by omega))
    exact ⟨h1.set k this.1, by rw [useTo, List.length_set, h2], by rw [useTo, List.length_append, h3]; rfl⟩
def dayOf (l : List S55) (a1 a2 a3 : Int) (needs : List Int) : List S55 × List Int :=
  (if (a3 + 1) % a2 = 0 then washH (useTo l needs l.length).1 a1 else (useTo l needs l.length).1, (useTo l needs l.length).2)
theorem dayOf_ok {l : List S55} {a1 a2 a3 : Int} {needs : List Int} (h : FitL l) (ha : 0 ≤ a1 ∧ a1 ≤ 1000) (hn : NeedL needs) (hl : needs.length = l.length) : FitL (dayOf l a1 a2 a3 needs).1 ∧ (dayOf l a1 a2 a3 needs).1.length = l.length := by
  obtain ⟨h1, h2, _⟩ := useTo_ok h hn hl l.length (Nat.le_refl _)
  unfold dayOf
  by_cases c : (a3 + 1) % a2 = 0
  · rw [if_pos c]
    have := washH_ok h1 ha
    exact ⟨this.1, this.2.trans h2⟩
  · rw [if_neg c]
    exact ⟨h1, h2⟩
end Go.Proofs.Ytggjdcijplgpdaa.H
end
section
namespace Go.Proofs.Ytggjdcijplgpdaa.H
open Go.RowKit Go.Proofs.YtggjdcijplgpdaaW.PrintWords Go.Proofs.YtggjdcijplgpdaaW.PrintLast Go.Proofs.YtggjdcijplgpdaaW.PrintMore
attribute [local go_sem] max2_int min2_int max_two min_two max_three min_three max_four min_four
set_option linter.unusedVariables false
set_option linter.unusedSimpArgs false
theorem Ev.loop {S R : Type} {L : Nat → S → Option R} {r : R} (Inv : S → Nat → Prop)
    (h : ∀ s d, Inv s d → (∃ K, ∀ k, K ≤ k → L (k + 1) s = some r) ∨ ∃ s' d', d' < d ∧ Inv s' d' ∧ ∃ K, ∀ k, K ≤ k → L (k + 1) s = L k s') :
    ∀ d s, Inv s d → Ev (fun k => L k s) r := by
  intro d
  induction d using Nat.strongRecOn with
  | ind d ih =>
    intro s hs
    rcases h s d hs with ⟨K, hK⟩ | ⟨s', d', hd, hs', K, hK⟩
    · refine ⟨K + 1, fun k hk => ?_⟩
      obtain ⟨j, rfl⟩ : ∃ j, k = j + 1 := ⟨k - 1, by omega⟩
      exact hK j (by omega)
    · obtain ⟨K', hK'⟩ := ih d' hd s' hs'
      refine ⟨max K K' + 1, fun k hk => ?_⟩
      obtain ⟨j, rfl⟩ : ∃ j, k = j + 1 := ⟨k - 1, by omega⟩
      have h1 := hK j (by omega)
      have h2 := hK' j (by omega)
      exact h1.trans h2
theorem Ev.const {α : Type} {g : Option α} {r : α} (h : g = some r) : Ev (fun _ => g) r := ⟨0, fun _ _ => h⟩
theorem Ev.fixed {α : Type} {g : Nat → Option α} {r : α} (h : ∀ k, g k = some r) : Ev g r := ⟨0, fun k _ => h k⟩
theorem Ev.get {α : Type} {g : Nat → Option α} {r : α} (h : Ev g r) : ∃ k, g k = some r := Ev.rounds h
theorem Ev.ite_t {α : Type} {c : Prop} [Decidable c] {g f : Nat → Option α} {r : α} (hc : c) (h : Ev g r) : Ev (fun k => if c then g k else f k) r := by
  obtain ⟨K, hK⟩ := h
  exact ⟨K, fun k hk => (if_pos hc).trans (hK k hk)⟩
theorem Ev.ite_f {α : Type} {c : Prop} [Decidable c] {g f : Nat → Option α} {r : α} (hc : ¬ c) (h : Ev f r) : Ev (fun k => if c then g k else f k) r := by
  obtain ⟨K, hK⟩ := h
  exact ⟨K, fun k hk => (if_neg hc).trans (hK k hk)⟩
theorem Ev.all {α : Type} {g : Nat → Option α} {r : α} (h : Ev g r) : ∃ K, ∀ k, K ≤ k → g k = some r := h
theorem w64 (x : Int) (h : -9223372036854775808 ≤ x) (h' : x ≤ 9223372036854775807) : wrap64 x = x := IntWalk.wrap64_in x ⟨h, h'⟩
theorem rd_of_lt (l : List Int) (i : Nat) (h : i < l.length) : rd l (i : Int) = l[i] := by
  show l.getD i 0 = l[i]
  rw [List.getD_eq_getElem?_getD, List.getElem?_eq_getElem h]
  rfl
end Go.Proofs.Ytggjdcijplgpdaa.H
end
