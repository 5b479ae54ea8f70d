import Derived.Test.YtggjdcijplgpdaazFStocksECloneSt
import Derived.Shelf.Abstract
section
namespace Go.Proofs.Ytggjdcijplgpdaa.H
open Go.RowKit Go.Proofs.YtggjdcijplgpdaaW.PrintWords Go.Proofs.YtggjdcijplgpdaaW.PrintLast Go.Proofs.YtggjdcijplgpdaaW.PrintMore
attribute [local go_sem] max2_int min2_int max_two min_two max_three min_three max_four min_four
set_option linter.unusedVariables false
set_option linter.unusedSimpArgs false
def S55.l (s : S55) : List Int := [s.f0.f0, s.f0.f1, s.f0.f2, s.f0.f3, s.f0.f4, s.f0.f5, s.f0.f6, s.f0.f7, s.f1.f0, s.f1.f1, s.f1.f2, s.f1.f3, s.f1.f4, s.f1.f5, s.f1.f6, s.f1.f7, s.f2.f0, s.f2.f1, s.f2.f2, s.f2.f3, s.f2.f4, s.f2.f5, s.f2.f6, s.f2.f7, s.f3]
def S55.of (L : List Int) : S55 := ⟨⟨L.getD 0 0, L.getD 1 0, L.getD 2 0, L.getD 3 0, L.getD 4 0, L.getD 5 0, L.getD 6 0, L.getD 7 0⟩, ⟨L.getD 8 0, L.getD 9 0, L.getD 10 0, L.getD 11 0, L.getD 12 0, L.getD 13 0, L.getD 14 0, L.getD 15 0⟩, ⟨L.getD 16 0, L.getD 17 0, L.getD 18 0, L.getD 19 0, L.getD 20 0, L.getD 21 0, L.getD 22 0, L.getD 23 0⟩, L.getD 24 0⟩
theorem S55.len (s : S55) : s.l.length = 25 := rfl
theorem S55.l_of : ∀ (L : List Int), L.length = 25 → (S55.of L).l = L
 | [a0, a1, a2, a3, a4, a5, a6, a7, a8, a9, a10, a11, a12, a13, a14, a15, a16, a17, a18, a19, a20, a21, a22, a23, a24], _ => rfl
theorem S55.of_l (s : S55) : S55.of s.l = s := rfl
theorem S55.ext_l {s t : S55} (h : s.l = t.l) : s = t := by rw [← S55.of_l s, ← S55.of_l t, h]
def S55.at_ (s : S55) (j : Nat) : Int := s.l.getD j 0
def S55.put (s : S55) (j : Nat) (v : Int) : S55 := S55.of (s.l.set j v)
theorem S55.put_l (s : S55) (j : Nat) (v : Int) : (s.put j v).l = s.l.set j v := S55.l_of _ (by rw [List.length_set]; rfl)
theorem S55.put_at (s : S55) (j : Nat) (v : Int) (q : Nat) (h : j < 25) : (s.put j v).at_ q = if q = j then v else s.at_ q := by
 unfold S55.at_
 rw [S55.put_l, List.getD_eq_getElem?_getD, List.getElem?_set, List.getD_eq_getElem?_getD]
 by_cases e : j = q
 · subst e
   rw [if_pos rfl, if_pos rfl, if_pos (show j < s.l.length from h)]
   rfl
 · rw [if_neg e, if_neg (fun h => e h.symm)]
def encSt (j : Nat) (v : Int) : Value := .int (if j < 24 then .i16 else .i32) v
def stC (s : S55) : List Value := [.int .i16 s.f0.f0, .int .i16 s.f0.f1, .int .i16 s.f0.f2, .int .i16 s.f0.f3, .int .i16 s.f0.f4, .int .i16 s.f0.f5, .int .i16 s.f0.f6, .int .i16 s.f0.f7, .int .i16 s.f1.f0, .int .i16 s.f1.f1, .int .i16 s.f1.f2, .int .i16 s.f1.f3, .int .i16 s.f1.f4, .int .i16 s.f1.f5, .int .i16 s.f1.f6, .int .i16 s.f1.f7, .int .i16 s.f2.f0, .int .i16 s.f2.f1, .int .i16 s.f2.f2, .int .i16 s.f2.f3, .int .i16 s.f2.f4, .int .i16 s.f2.f5, .int .i16 s.f2.f6, .int .i16 s.f2.f7, .int .i32 s.f3]
theorem stC_get (s : S55) : ∀ j, j < 25 → (stC s)[j]? = some (encSt j (s.at_ j))
 | 0, _ => rfl
 | 1, _ => rfl
 | 2, _ => rfl
 | 3, _ => rfl
 | 4, _ => rfl
 | 5, _ => rfl
 | 6, _ => rfl
 | 7, _ => rfl
 | 8, _ => rfl
 | 9, _ => rfl
 | 10, _ => rfl
 | 11, _ => rfl
 | 12, _ => rfl
 | 13, _ => rfl
 | 14, _ => rfl
 | 15, _ => rfl
 | 16, _ => rfl
 | 17, _ => rfl
 | 18, _ => rfl
 | 19, _ => rfl
 | 20, _ => rfl
 | 21, _ => rfl
 | 22, _ => rfl
 | 23, _ => rfl
 | 24, _ => rfl
 | j + 25, h => absurd h (by omega)
theorem k55_cells {w : World} {x : S55} {cs : List Value} (h : k55.K w x cs) : cs = stC x := k55_open h
theorem addr_plus (g o j : Nat) : (⟨g, o, none⟩ : Addr).add j = ⟨g, o + j, none⟩ := by unfold Addr.add; split <;> simp_all
structure InSt (W0 : World) (g o t : Nat) (cs0 : Array Value) (s : S55) (W : World) : Prop where
 blk : ∃ cs, W.heap[g]? = some (.cells cs t (0, 0)) ∧ cs.size = cs0.size ∧ (∀ q, q < o ∨ o + 25 ≤ q → cs[q]? = cs0[q]?) ∧ ∀ j, j < 25 → cs[o + j]? = some (encSt j (s.at_ j))
 gr : W0.grownBy W (some g)
section
variable {W0 W : World} {g o t : Nat} {cs0 : Array Value} {s : S55}
theorem InSt.cell (h : InSt W0 g o t cs0 s W) (j : Nat) (hj : j < 25) : W.cell? ⟨g, o + j, none⟩ = some (encSt j (s.at_ j)) := by
 obtain ⟨cs, hb, _, _, hc⟩ := h.blk
 exact (blk_cell hb _).trans (hc j hj)
theorem InSt.free (h : InSt W0 g o t cs0 s W) (i : Nat) : W.frozen? ⟨g, i, none⟩ = false := by
 obtain ⟨cs, hb, _⟩ := h.blk
 exact blk_frozen hb _
theorem InSt.lt (h : InSt W0 g o t cs0 s W) : g < W.heap.size := by
 obtain ⟨cs, hb, _⟩ := h.blk
 exact blk_lt hb
theorem InSt.drew (h : InSt W0 g o t cs0 s W) : InSt W0 g o t cs0 s W.drew := ⟨h.blk, ⟨h.gr.os, h.gr.tape, h.gr.output, h.gr.size, h.gr.block⟩⟩
theorem InSt.drawn (h : InSt W0 g o t cs0 s W) {W' : World} (hd : Drawn0 W W') : InSt W0 g o t cs0 s W' := by
 obtain ⟨n, rfl⟩ := hd.out
 exact ⟨h.blk, ⟨h.gr.os, h.gr.tape, h.gr.output, h.gr.size, h.gr.block⟩⟩
theorem InSt.put (h : InSt W0 g o t cs0 s W) (j : Nat) (hj : j < 25) (v : Int) : InSt W0 g o t cs0 (s.put j v) (W.setCell ⟨g, o + j, none⟩ (encSt j v)) := by
 obtain ⟨cs, hb, hs, ho, hc⟩ := h.blk
 have hin : o + j < cs.size := (Array.getElem?_eq_some_iff.mp (hc j hj)).1
 refine ⟨⟨_, blk_set hb (o + j) (encSt j v), by rw [Array.size_setIfInBounds]; exact hs, fun q hq => ?_, fun q hq => ?_⟩, ⟨?_, ?_, ?_, ?_, ?_⟩⟩
 · rw [Array.getElem?_setIfInBounds_ne (by omega)]
   exact ho q hq
 · rw [S55.put_at s j v q hj]
   by_cases e : q = j
   · subst e
     rw [if_pos rfl, Array.getElem?_setIfInBounds_self_of_lt hin]
   · rw [if_neg e, Array.getElem?_setIfInBounds_ne (by omega)]
     exact hc q hq
 · exact h.gr.os
 · exact h.gr.tape
 · exact h.gr.output
 · exact Nat.le_trans h.gr.size (by simp)
 · intro i hi hne
   exact (Below.heap_setCell W ⟨g, o + j, none⟩ _ i (fun e => hne (by rw [e]))).trans (h.gr.block i hi hne)
theorem InSt.refl {cs : Array Value} (hb : W.heap[g]? = some (.cells cs t (0, 0))) (hc : ∀ j, j < 25 → cs[o + j]? = some (encSt j (s.at_ j))) : InSt W g o t cs s W :=
 ⟨⟨cs, hb, rfl, fun _ _ => rfl, hc⟩, ⟨rfl, rfl, rfl, Nat.le_refl _, fun _ _ _ => rfl⟩⟩
end
end Go.Proofs.Ytggjdcijplgpdaa.H
end
section
namespace Go.Proofs.Ytggjdcijplgpdaa.H
open Go.RowKit Go.Proofs.YtggjdcijplgpdaaW.PrintWords Go.Proofs.YtggjdcijplgpdaaW.PrintLast Go.Proofs.YtggjdcijplgpdaaW.PrintMore
attribute [local go_sem] max2_int min2_int max_two min_two max_three min_three max_four min_four
set_option linter.unusedVariables false
set_option linter.unusedSimpArgs false
def stepA (s : S55) (i : Nat) : S55 := (s.put (16 + i) (s.at_ (16 + i) + s.at_ (8 + i))).put (8 + i) 0
def afterA (s : S55) : Nat → S55
 | 0 => s
 | i + 1 => stepA (afterA s i) i
def takeStep (i : Nat) (p : S55 × Int) : S55 × Int :=
 let n := mn (p.1.at_ i) p.2
 let s1 := p.1.put i (p.1.at_ i - n)
 (if i = 0 then s1.put 24 (s1.at_ 24 + n) else s1.put (7 + i) (s1.at_ (7 + i) + n), p.2 - n)
def takes : Nat → S55 × Int → S55 × Int
 | 0, p => p
 | i + 1, p => takes i (takeStep i p)
def useOf (s : S55) (need : Int) : S55 × Int := takes 8 (afterA s 8, need)
def sumL : List Int → Int
 | [] => 0
 | x :: l => x + sumL l
theorem sumL_set : ∀ (l : List Int) (j : Nat) (v : Int), j < l.length → sumL (l.set j v) = sumL l - l.getD j 0 + v
 | [], j, v, h => absurd h (by simp)
 | x :: l, 0, v, _ => by
  show v + sumL l = x + sumL l - x + v
  omega
 | x :: l, j + 1, v, h => by
  have ih := sumL_set l j v (by simpa using h)
  show x + sumL (l.set j v) = x + sumL l - l.getD j 0 + v
  rw [ih]
  omega
theorem sumL_nonneg : ∀ (l : List Int), (∀ x ∈ l, 0 ≤ x) → 0 ≤ sumL l
 | [], _ => Int.le_refl _
 | x :: l, h => by
  have := h x List.mem_cons_self
  have := sumL_nonneg l (fun y hy => h y (List.mem_cons_of_mem _ hy))
  show 0 ≤ x + sumL l
  omega
theorem sumL_ge : ∀ (l : List Int) (j : Nat), (∀ x ∈ l, 0 ≤ x) → l.getD j 0 ≤ sumL l
 | [], j, _ => by
  show ([] : List Int).getD j 0 ≤ 0
  simp
 | x :: l, 0, h => by
  have := sumL_nonneg l (fun y hy => h y (List.mem_cons_of_mem _ hy))
  show x ≤ x + sumL l
  omega
 | x :: l, j + 1, h => by
  have := sumL_ge l j (fun y hy => h y (List.mem_cons_of_mem _ hy))
  have := h x List.mem_cons_self
  show l.getD j 0 ≤ x + sumL l
  omega
theorem sumL_two : ∀ (l : List Int) (i j : Nat), i ≠ j → (∀ x ∈ l, 0 ≤ x) → l.getD i 0 + l.getD j 0 ≤ sumL l := by
 intro l i j hne h
 by_cases hi : i < l.length
 · have e := sumL_set l i 0 hi
   have g := sumL_ge (l.set i 0) j (fun x hx => by
    rcases List.mem_or_eq_of_mem_set hx with hx | rfl
    · exact h x hx
    · exact Int.le_refl _)
   have gj : (l.set i 0).getD j 0 = l.getD j 0 := by
    rw [List.getD_eq_getElem?_getD, List.getElem?_set_ne hne, List.getD_eq_getElem?_getD]
   rw [gj] at g
   omega
 · have z : l.getD i 0 = 0 := by
    rw [List.getD_eq_getElem?_getD, List.getElem?_eq_none (by omega)]
    rfl
   rw [z]
   have := sumL_ge l j h
   omega
structure FitSt (s : S55) : Prop where
 pos : ∀ x ∈ s.l, 0 ≤ x
 sum : sumL s.l ≤ 500
theorem at_pos {s : S55} (h : FitSt s) (j : Nat) : 0 ≤ s.at_ j := by
 unfold S55.at_
 by_cases c : j < s.l.length
 · rw [List.getD_eq_getElem?_getD, List.getElem?_eq_getElem c]
   exact h.pos _ (List.getElem_mem c)
 · rw [List.getD_eq_getElem?_getD, List.getElem?_eq_none (by omega)]
   exact Int.le_refl _
theorem at_le {s : S55} (h : FitSt s) (j : Nat) : s.at_ j ≤ 500 := Int.le_trans (sumL_ge s.l j h.pos) h.sum
theorem at_two {s : S55} (h : FitSt s) (i j : Nat) (hne : i ≠ j) : s.at_ i + s.at_ j ≤ 500 := Int.le_trans (sumL_two s.l i j hne h.pos) h.sum
theorem fit_move {s : S55} (h : FitSt s) (i j : Nat) (hi : i < 25) (hj : j < 25) (hne : i ≠ j) (n : Int) (h0 : 0 ≤ n) (h1 : n ≤ s.at_ i) : FitSt ((s.put i (s.at_ i - n)).put j ((s.put i (s.at_ i - n)).at_ j + n)) := by
 have hp := at_pos h j
 have e : (s.put i (s.at_ i - n)).at_ j = s.at_ j := by rw [S55.put_at _ _ _ _ hi, if_neg (Ne.symm hne)]
 rw [e]
 refine ⟨fun x hx => ?_, ?_⟩
 · rw [S55.put_l, S55.put_l] at hx
   rcases List.mem_or_eq_of_mem_set hx with hx | rfl
   · rcases List.mem_or_eq_of_mem_set hx with hx | rfl
     · exact h.pos x hx
     · omega
   · omega
 · rw [S55.put_l, S55.put_l, sumL_set _ _ _ (by rw [List.length_set]; exact hj), sumL_set _ _ _ hi]
   have g : (s.l.set i (s.at_ i - n)).getD j 0 = s.at_ j := by
    rw [List.getD_eq_getElem?_getD, List.getElem?_set_ne hne]
    rfl
   rw [g]
   have := h.sum
   show sumL s.l - s.at_ i + (s.at_ i - n) - s.at_ j + (s.at_ j + n) ≤ 500
   omega
theorem put_comm {s : S55} (i j : Nat) (hi : i < 25) (hj : j < 25) (hne : i ≠ j) (u v : Int) : (s.put i u).put j v = (s.put j v).put i u := by
 apply S55.ext_l
 rw [S55.put_l, S55.put_l, S55.put_l, S55.put_l, List.set_comm _ _ hne]
theorem fit_A {s : S55} (h : FitSt s) (i : Nat) (hi : i < 8) : FitSt (stepA s i) := by
 have := fit_move h (8 + i) (16 + i) (by omega) (by omega) (by omega) (s.at_ (8 + i)) (at_pos h _) (Int.le_refl _)
 rw [show s.at_ (8 + i) - s.at_ (8 + i) = 0 by omega, show (s.put (8 + i) 0).at_ (16 + i) = s.at_ (16 + i) by rw [S55.put_at _ _ _ _ (by omega), if_neg (by omega)], put_comm _ _ (by omega) (by omega) (by omega)] at this
 exact this
theorem fit_after {s : S55} (h : FitSt s) : ∀ i, i ≤ 8 → FitSt (afterA s i)
 | 0, _ => h
 | i + 1, hi => fit_A (fit_after h i (by omega)) i (by omega)
theorem mn_bd {a b : Int} (ha : 0 ≤ a) (hb : 0 ≤ b) : 0 ≤ mn a b ∧ mn a b ≤ a ∧ mn a b ≤ b := by
 unfold mn
 split <;> omega
theorem fit_take {s : S55} {need : Int} (h : FitSt s) (hn : 0 ≤ need ∧ need ≤ 500) (i : Nat) (hi : i < 8) : FitSt (takeStep i (s, need)).1 ∧ 0 ≤ (takeStep i (s, need)).2 ∧ (takeStep i (s, need)).2 ≤ 500 := by
 obtain ⟨b1, b2, b3⟩ := mn_bd (at_pos h i) hn.1
 refine ⟨?_, by show 0 ≤ need - mn (s.at_ i) need; omega, by show need - mn (s.at_ i) need ≤ 500; omega⟩
 show FitSt (if i = 0 then _ else _)
 by_cases c : i = 0
 · rw [if_pos c]
   exact fit_move h i 24 (by omega) (by omega) (by omega) _ b1 b2
 · rw [if_neg c]
   exact fit_move h i (7 + i) (by omega) (by omega) (by omega) _ b1 b2
theorem fit_takes : ∀ (i : Nat) (s : S55) (need : Int), i ≤ 8 → FitSt s → 0 ≤ need ∧ need ≤ 500 → FitSt (takes i (s, need)).1 ∧ 0 ≤ (takes i (s, need)).2 ∧ (takes i (s, need)).2 ≤ 500
 | 0, s, need, _, h, hn => ⟨h, hn⟩
 | i + 1, s, need, hi, h, hn => by
  obtain ⟨h1, h2⟩ := fit_take h hn i (by omega)
  exact fit_takes i _ _ (by omega) h1 h2
theorem fit_use {s : S55} {need : Int} (h : FitSt s) (hn : 0 ≤ need ∧ need ≤ 500) : FitSt (useOf s need).1 ∧ 0 ≤ (useOf s need).2 ∧ (useOf s need).2 ≤ 500 := fit_takes 8 _ _ (Nat.le_refl _) (fit_after h 8 (Nat.le_refl _)) hn
theorem after_at {s : S55} : ∀ (i : Nat), i ≤ 8 → ∀ q, i ≤ q → q < 8 → (afterA s i).at_ (8 + q) = s.at_ (8 + q) ∧ (afterA s i).at_ (16 + q) = s.at_ (16 + q)
 | 0, _, q, _, _ => ⟨rfl, rfl⟩
 | i + 1, hi, q, hq, h8 => by
  obtain ⟨h1, h2⟩ := after_at i (by omega) q (by omega) h8
  show ((stepA (afterA s i) i).at_ (8 + q) = _) ∧ ((stepA (afterA s i) i).at_ (16 + q) = _)
  unfold stepA
  rw [S55.put_at _ _ _ _ (by omega), S55.put_at _ _ _ _ (by omega), S55.put_at _ _ _ _ (by omega), S55.put_at _ _ _ _ (by omega), if_neg (by omega), if_neg (by omega), if_neg (by omega), if_neg (by omega)]
  exact ⟨h1, h2⟩
end Go.Proofs.Ytggjdcijplgpdaa.H
end
section
namespace Go.Proofs.Ytggjdcijplgpdaa.H
open Go.RowKit Go.Proofs.YtggjdcijplgpdaaW.PrintWords Go.Proofs.YtggjdcijplgpdaaW.PrintLast Go.Proofs.YtggjdcijplgpdaaW.PrintMore
attribute [local go_sem] max2_int min2_int max_two min_two max_three min_three max_four min_four
set_option linter.unusedVariables false
set_option linter.unusedSimpArgs false
def washStep (i : Nat) (p : S55 × Int) : S55 × Int :=
 ((p.1.put (16 + i) (p.1.at_ (16 + i) - mn (p.1.at_ (16 + i)) p.2)).put i ((p.1.put (16 + i) (p.1.at_ (16 + i) - mn (p.1.at_ (16 + i)) p.2)).at_ i + mn (p.1.at_ (16 + i)) p.2), p.2 - mn (p.1.at_ (16 + i)) p.2)
def washes : Nat → S55 × Int → S55 × Int
 | 0, p => p
 | i + 1, p => washes i (washStep i p)
def washTo (l : List S55) (n : Int) : Nat → List S55 × Int
 | 0 => (l, n)
 | k + 1 => ((washTo l n k).1.set k (washes 8 ((washTo l n k).1.getD k z55, (washTo l n k).2)).1, (washes 8 ((washTo l n k).1.getD k z55, (washTo l n k).2)).2)
def washH (l : List S55) (n : Int) : List S55 := (washTo l n l.length).1
def FitL (l : List S55) : Prop := ∀ s ∈ l, FitSt s
theorem FitL.at_ {l : List S55} (h : FitL l) {k : Nat} (hk : k < l.length) : FitSt (l.getD k z55) := by
 rw [List.getD_eq_getElem?_getD, List.getElem?_eq_getElem hk]
 exact h _ (List.getElem_mem hk)
theorem FitL.set {l : List S55} (h : FitL l) (k : Nat) {s : S55} (hs : FitSt s) : FitL (l.set k s) := fun x hx => by
 rcases List.mem_or_eq_of_mem_set hx with hx | rfl
 · exact h x hx
 · exact hs
theorem fit_wash {s : S55} {n : Int} (h : FitSt s) (hn : 0 ≤ n ∧ n ≤ 1000) (i : Nat) (hi : i < 8) : FitSt (washStep i (s, n)).1 ∧ 0 ≤ (washStep i (s, n)).2 ∧ (washStep i (s, n)).2 ≤ 1000 := by
 have b := mn_bd (at_pos h (16 + i)) hn.1
 refine ⟨fit_move h (16 + i) i (by omega) (by omega) (by omega) _ b.1 b.2.1, ?_, ?_⟩
 · show 0 ≤ n - mn (s.at_ (16 + i)) n
   omega
 · show n - mn (s.at_ (16 + i)) n ≤ 1000
   omega
theorem fit_washes : ∀ (i : Nat) (s : S55) (n : Int), i ≤ 8 → FitSt s → 0 ≤ n ∧ n ≤ 1000 → FitSt (washes i (s, n)).1 ∧ 0 ≤ (washes i (s, n)).2 ∧ (washes i (s, n)).2 ≤ 1000
 | 0, _, _, _, h, hn => ⟨h, hn⟩
 | i + 1, s, n, hi, h, hn => by
  have := fit_wash h hn i (by omega)
  exact fit_washes i _ _ (by omega) this.1 this.2
theorem washTo_ok {l : List S55} {n : Int} (h : FitL l) (hn : 0 ≤ n ∧ n ≤ 1000) : ∀ k, k ≤ l.length → FitL (washTo l n k).1 ∧ (0 ≤ (washTo l n k).2 ∧ (washTo l n k).2 ≤ 1000) ∧ (washTo l n k).1.length = l.length
 | 0, _ => ⟨h, hn, rfl⟩
 | k + 1, hk => by
  obtain ⟨h1, h2, h3⟩ := washTo_ok h hn k (by omega)
  have := fit_washes 8 _ _ (Nat.le_refl _) (h1.at_ (k := k) (by omega)) h2
  exact ⟨h1.set k this.1, this.2, by rw [washTo, List.length_set, h3]⟩
theorem washH_ok {l : List S55} {n : Int} (h : FitL l) (hn : 0 ≤ n ∧ n ≤ 1000) : FitL (washH l n) ∧ (washH l n).length = l.length := by
 obtain ⟨h1, _, h3⟩ := washTo_ok h hn l.length (Nat.le_refl _)
 exact ⟨h1, h3⟩
end Go.Proofs.Ytggjdcijplgpdaa.H
end
section
namespace Go.Proofs.Ytggjdcijplgpdaa.H
open Go.RowKit Go.Proofs.YtggjdcijplgpdaaW.PrintWords Go.Proofs.YtggjdcijplgpdaaW.PrintLast Go.Proofs.YtggjdcijplgpdaaW.PrintMore
attribute [local go_sem] max2_int min2_int max_two min_two max_three min_three max_four min_four
set_option linter.unusedVariables false
set_option linter.unusedSimpArgs false
def useTo (l : List S55) (needs : List Int) : Nat → List S55 × List Int
 | 0 => (l, [])
 | k + 1 => ((useTo l needs k).1.set k (useOf ((useTo l needs k).1.getD k z55) (needs.getD k 0)).1, (useTo l needs k).2 ++ [(useOf ((useTo l needs k).1.getD k z55) (needs.getD k 0)).2])
def NeedL (needs : List Int) : Prop := ∀ x ∈ needs, 0 ≤ x ∧ x ≤ 500
theorem NeedL.at_ {needs : List Int} (h : NeedL needs) {k : Nat} (hk : k < needs.length) : 0 ≤ needs.getD k 0 ∧ needs.getD k 0 ≤ 500 := by
 rw [List.getD_eq_getElem?_getD, List.getElem?_eq_getElem hk]
 exact h _ (List.getElem_mem hk)
theorem useTo_ok {l : List S55} {needs : List Int} (h : FitL l) (hn : NeedL needs) (hl : needs.length = l.length) : ∀ k, k ≤ l.length → FitL (useTo l needs k).1 ∧ (useTo l needs k).1.length = l.length ∧ (useTo l needs k).2.length = k
 | 0, _ => ⟨h, rfl, rfl⟩
 | k + 1, hk => by
  obtain ⟨h1, h2, h3⟩ := useTo_ok h hn hl k (by omega)
  have := fit_use (h1.at_ (k := k) (by omega)) (hn.at_ (k := k) (by omega))
  exact ⟨h1.set k this.1, by rw [useTo, List.length_set, h2], by rw [useTo, List.length_append, h3]; rfl⟩
def dayOf (l : List S55) (a1 a2 a3 : Int) (needs : List Int) : List S55 × List Int :=
 (if (a3 + 1) % a2 = 0 then washH (useTo l needs l.length).1 a1 else (useTo l needs l.length).1, (useTo l needs l.length).2)
theorem dayOf_ok {l : List S55} {a1 a2 a3 : Int} {needs : List Int} (h : FitL l) (ha : 0 ≤ a1 ∧ a1 ≤ 1000) (hn : NeedL needs) (hl : needs.length = l.length) : FitL (dayOf l a1 a2 a3 needs).1 ∧ (dayOf l a1 a2 a3 needs).1.length = l.length := by
 obtain ⟨h1, h2, _⟩ := useTo_ok h hn hl l.length (Nat.le_refl _)
 unfold dayOf
 by_cases c : (a3 + 1) % a2 = 0
 · rw [if_pos c]
   have := washH_ok h1 ha
   exact ⟨this.1, this.2.trans h2⟩
 · rw [if_neg c]
   exact ⟨h1, h2⟩
end Go.Proofs.Ytggjdcijplgpdaa.H
end
