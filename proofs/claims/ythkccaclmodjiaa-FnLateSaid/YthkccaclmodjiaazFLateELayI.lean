import Derived.Test.YthkccaclmodjiaazFLateEBLem1
import Derived.Test.YthkccaclmodjiaazFLateEBTime
import Derived.Test.YthkccaclmodjiaazFLateEBOrd
import Derived.Test.YthkccaclmodjiaazFLateELayS
import Derived.Test.YthkccaclmodjiaazFLateEIsOrder
import Derived.Test.YthkccaclmodjiaazFLateI0
import Derived.Test.YthkccaclmodjiaazFLateI29
import Derived.Test.YthkccaclmodjiaazFLateI4
import Derived.Test.YthkccaclmodjiaazFLateI44
import Derived.Test.YthkccaclmodjiaaProg
import Derived.Shelf.SlSortCmp.Insertion1
section
namespace Go.Proofs.Ythkccaclmodjiaa.I
open Go.RowKit Go.Proofs.YthkccaclmodjiaaW.PrintWords Go.Proofs.YthkccaclmodjiaaW.PrintLast Go.Proofs.YthkccaclmodjiaaW.PrintMore
attribute [local go_sem] max2_int min2_int max_two min_two max_three min_three max_four min_four
set_option linter.unusedVariables false
set_option linter.unusedSimpArgs false
theorem timesOf_bd (x y : Int) (hx : 0 ≤ x ∧ x ≤ 60) (hy : 0 ≤ y ∧ y ≤ 60) (l : List S57) (h : Fine l) :
 ∀ (r : List Int) (lv now : Int), (∀ z ∈ r, 0 ≤ z ∧ z < l.length) → 0 ≤ lv ∧ lv ≤ 3 → 0 ≤ now → ∀ z ∈ timesOf x y l lv now r, 0 ≤ z ∧ z ≤ now + 240 * (r.length : Int)
 | [], _, _, _, _, _, z, hz => by rw [timesOf] at hz; cases hz
 | o :: r, lv, now, hr, hlv, hnow, z, hz => by
  have ho := hr o (by simp)
  have f := piece_at l h o ho.1 ho.2
  rw [timesOf] at hz
  rcases hP : rd_T57 l o with ⟨p0, p1, p2⟩
  rw [hP] at f hz
  dsimp only at f hz
  have cb := chg_bd x y lv p0 hx hy hlv (lv_bd f.2.2.2.1 f.2.2.2.2.1)
  have ih := timesOf_bd x y hx hy l h r p0 (now + (chg x y lv p0 + p1)) (fun z hz => hr z (by simp [hz])) (lv_bd f.2.2.2.1 f.2.2.2.2.1)
  have b1 := f.2.2.2.2.2.1
  have b2 := f.2.2.2.2.2.2.1
  generalize chg x y lv p0 = C at cb hz ih
  clear f hP
  rw [List.length_cons]
  rcases List.mem_cons.mp hz with e | hz
  · omega
  · have := ih (by omega) z hz
    omega
theorem rd_bd {t : List Int} {b : Int} (h : ∀ z ∈ t, 0 ≤ z ∧ z ≤ b) (i : Nat) (hi : i < t.length) : 0 ≤ rd t (i : Int) ∧ rd t (i : Int) ≤ b := by
 rw [rd_of_lt t i hi]
 exact h _ (List.getElem_mem _)
def lateList (l : List S57) (o t : List Int) : Nat → List Int
 | 0 => []
 | i + 1 => if rd t (i : Int) > (rd_T57 l (rd o (i : Int))).f2 then lateList l o t i ++ [rd o (i : Int)] else lateList l o t i
def lateSum (l : List S57) (o t : List Int) : Nat → Int
 | 0 => 0
 | i + 1 => if rd t (i : Int) > (rd_T57 l (rd o (i : Int))).f2 then lateSum l o t i + (rd t (i : Int) - (rd_T57 l (rd o (i : Int))).f2) else lateSum l o t i
theorem lateList_len (l : List S57) (o t : List Int) : ∀ i, (lateList l o t i).length ≤ i
 | 0 => Nat.le_refl _
 | i + 1 => by
  have ih := lateList_len l o t i
  rw [lateList]
  split
  · rw [List.length_append, List.length_singleton]; omega
  · omega
structure Lates (l : List S57) (o t : List Int) : Prop where
 fine : Fine l
 len : o.length = l.length
 len8 : o.length ≤ 8
 lent : t.length = o.length
 range : ∀ z ∈ o, 0 ≤ z ∧ z < l.length
 nodup : o.Nodup
 bd : ∀ z ∈ t, 0 ≤ z ∧ z ≤ 1920
theorem Lates.at_ {l : List S57} {o t : List Int} (H : Lates l o t) (i : Nat) (hi : i < o.length) :
 (0 ≤ rd o (i : Int) ∧ rd o (i : Int) < l.length) ∧ (0 ≤ rd t (i : Int) ∧ rd t (i : Int) ≤ 1920) ∧ wrap64 (rd_T57 l (rd o (i : Int))).f2 = (rd_T57 l (rd o (i : Int))).f2 ∧ 0 ≤ (rd_T57 l (rd o (i : Int))).f2 ∧ (rd_T57 l (rd o (i : Int))).f2 ≤ 1000 := by
 have h1 : 0 ≤ rd o (i : Int) ∧ rd o (i : Int) < l.length := by
  rw [rd_of_lt o i hi]
  exact H.range _ (List.getElem_mem _)
 have f := piece_at l H.fine (rd o (i : Int)) h1.1 h1.2
 exact ⟨h1, rd_bd H.bd i (by have := H.lent; omega), f.2.2.1, f.2.2.2.2.2.2.2.1, f.2.2.2.2.2.2.2.2⟩
theorem lateSum_bd {l : List S57} {o t : List Int} (H : Lates l o t) : ∀ i, i ≤ o.length → 0 ≤ lateSum l o t i ∧ lateSum l o t i ≤ 1920 * (i : Int)
 | 0, _ => ⟨Int.le_refl _, Int.le_refl _⟩
 | i + 1, hi => by
  have ih := lateSum_bd H i (by omega)
  obtain ⟨_, b, _, d1, d2⟩ := H.at_ i (by omega)
  rw [lateSum]
  generalize (rd_T57 l (rd o (i : Int))).f2 = d at d1 d2 ⊢
  generalize rd t (i : Int) = z at b ⊢
  generalize lateSum l o t i = s at ih ⊢
  split <;> omega
theorem late_add (s z d : Int) (i : Nat) (h8 : i < 8) (hs : 0 ≤ s ∧ s ≤ 1920 * (i : Int)) (hz : 0 ≤ z ∧ z ≤ 1920) (hd : 0 ≤ d ∧ d ≤ 1000) :
 wrap64 (wrap64 (s + z) - d) = s + (z - d) ∧ wrap64 (z - d) = z - d ∧ wrap64 (s + (z - d)) = s + (z - d) ∧ wrap64 (s + 0) = s ∧ wrap64 ((i : Int) + 1) = ((i + 1 : Nat) : Int) := by
 have a : wrap64 (s + z) = s + z := w64 _ (by omega) (by omega)
 refine ⟨?_, w64 _ (by omega) (by omega), w64 _ (by omega) (by omega), w64 _ (by omega) (by omega) |>.trans (by omega), w64 _ (by omega) (by omega)⟩
 rw [a, w64 _ (by omega) (by omega)]
 omega
theorem implLate_ev {l : List S57} {o t : List Int} (H : Lates l o t) : Ev (fun k => impl_Iron_late.l0 k l o [] 0 t (t.length : Int) 0) (srt (lateList l o t o.length), lateSum l o t o.length) := by
 have key : ∀ (d i : Nat), i + d = o.length → Ev (fun k => impl_Iron_late.l0 k l o (lateList l o t i) (lateSum l o t i) t (t.length : Int) (i : Int)) (srt (lateList l o t o.length), lateSum l o t o.length) := by
  intro d
  induction d with
  | zero =>
   intro i hd
   obtain rfl : i = o.length := by omega
   have hl := H.lent
   have h8 := H.len8
   have ll := lateList_len l o t o.length
   have e : sortedList (lateList l o t o.length) = some (srt (lateList l o t o.length)) := by unfold sortedList; rw [if_pos (by omega)]
   refine Ev.step (f := fun _ => (sortedList (lateList l o t o.length)).bind fun t582 => (some (t582, lateSum l o t o.length))) (fun k => ?_) (Ev.bind (Ev.const e) (Ev.const rfl))
   rw [impl_Iron_late.l0]
   rw [if_neg (by omega)]
   rfl
  | succ d ih =>
   intro i hd
   have hl := H.lent
   have h8 := H.len8
   have n := ih (i + 1) (by omega)
   have c1 : (i : Int) < (t.length : Int) := by omega
   have c2 : (0 : Int) ≤ (i : Int) := by omega
   have c3 : (i : Int) < (o.length : Int) := by omega
   have ll := lateList_len l o t i
   have c4 : (lateList l o t i).length < 17592186044416 := by omega
   have sb := lateSum_bd H i (by omega)
   obtain ⟨a1, a2, a3, a4⟩ := H.at_ i (by omega)
   obtain ⟨w1, w2, w3, w4, w5⟩ := late_add _ _ _ i (by omega) sb a2 a4
   rw [lateList, lateSum] at n
   by_cases q : rd t (i : Int) > (rd_T57 l (rd o (i : Int))).f2
   · rw [if_pos q, if_pos q] at n
     refine Ev.step (f := fun k => impl_Iron_late.l0 k l o (lateList l o t i ++ [rd o (i : Int)]) (lateSum l o t i + (rd t (i : Int) - (rd_T57 l (rd o (i : Int))).f2)) t (t.length : Int) ((i + 1 : Nat) : Int)) (fun k => ?_) n
     rw [impl_Iron_late.l0]
     rw [if_pos c1, if_pos c2, if_pos c1, if_pos c3, if_pos a1.1, if_pos a1.2, a3, if_pos q, if_pos c4, w1, w5]
   · rw [if_neg q, if_neg q] at n
     refine Ev.step (f := fun k => impl_Iron_late.l0 k l o (lateList l o t i) (lateSum l o t i) t (t.length : Int) ((i + 1 : Nat) : Int)) (fun k => ?_) n
     rw [impl_Iron_late.l0]
     rw [if_pos c1, if_pos c2, if_pos c1, if_pos c3, if_pos a1.1, if_pos a1.2, a3, if_neg q, w5]
 have := key o.length 0 (by omega)
 rw [lateList, lateSum] at this
 exact this
theorem max0 (z : Int) : spec_l00Max.f 0 z = some (if z > 0 then z else 0) := by
 unfold spec_l00Max.f
 by_cases q : z > 0
 · rw [if_pos q]
   by_cases q2 : 0 > z
   · omega
   · rw [if_neg q2]
 · rw [if_neg q]
   by_cases q2 : 0 > z
   · rw [if_pos q2]
   · rw [if_neg q2, show z = 0 by omega]
def lateOne (l : List S57) (o t : List Int) (k : Int) : Nat → List Int
 | 0 => []
 | i + 1 => if rd o (i : Int) = k ∧ rd t (i : Int) > (rd_T57 l k).f2 then lateOne l o t k i ++ [k] else lateOne l o t k i
def lateUp (l : List S57) (o t : List Int) : Nat → List Int
 | 0 => []
 | m + 1 => lateUp l o t m ++ lateOne l o t (m : Int) o.length
theorem rd_inj {o : List Int} (h : o.Nodup) {i j : Nat} (hi : i < o.length) (hj : j < i) : rd o (j : Int) ≠ rd o (i : Int) := by
 rw [rd_of_lt o i hi, rd_of_lt o j (by omega)]
 exact (List.pairwise_iff_getElem.mp h) j i (by omega) hi hj
theorem lateOne_form {l : List S57} {o t : List Int} (h : o.Nodup) (k : Int) : ∀ i, i ≤ o.length → (lateOne l o t k i = [] ∧ ∀ j, j < i → ¬ (rd o (j : Int) = k ∧ rd t (j : Int) > (rd_T57 l k).f2)) ∨ (lateOne l o t k i = [k] ∧ ∃ j, j < i ∧ rd o (j : Int) = k ∧ rd t (j : Int) > (rd_T57 l k).f2)
 | 0, _ => .inl ⟨rfl, fun j hj => absurd hj (Nat.not_lt_zero _)⟩
 | i + 1, hi => by
  rw [lateOne]
  rcases lateOne_form (l := l) (t := t) h k i (by omega) with ⟨e, hn⟩ | ⟨e, j, hj, h1, h2⟩
  · by_cases q : rd o (i : Int) = k ∧ rd t (i : Int) > (rd_T57 l k).f2
    · rw [if_pos q, e]
      exact .inr ⟨rfl, i, by omega, q.1, q.2⟩
    · rw [if_neg q, e]
      refine .inl ⟨rfl, fun j hj => ?_⟩
      by_cases ej : j = i
      · subst ej; exact q
      · exact hn j (by omega)
  · have q : ¬ (rd o (i : Int) = k ∧ rd t (i : Int) > (rd_T57 l k).f2) := fun q => rd_inj h (by omega) hj (h1.trans q.1.symm)
    rw [if_neg q, e]
    exact .inr ⟨rfl, j, by omega, h1, h2⟩
theorem lateUp_mem {l : List S57} {o t : List Int} (h : o.Nodup) (x : Int) : ∀ m, x ∈ lateUp l o t m ↔ (0 ≤ x ∧ x < m ∧ ∃ j, j < o.length ∧ rd o (j : Int) = x ∧ rd t (j : Int) > (rd_T57 l x).f2)
 | 0 => by
  rw [lateUp]
  constructor
  · intro h; cases h
  · rintro ⟨a, b, _⟩
    exact absurd b (by omega)
 | m + 1 => by
  rw [lateUp, List.mem_append, lateUp_mem h x m]
  constructor
  · rintro (⟨a, b, c⟩ | hx)
    · exact ⟨a, by omega, c⟩
    · rcases lateOne_form (l := l) (t := t) h (m : Int) o.length (Nat.le_refl _) with ⟨e, _⟩ | ⟨e, j, hj, h1, h2⟩
      · rw [e] at hx; cases hx
      · rw [e] at hx
        obtain rfl : x = (m : Int) := by simpa using hx
        exact ⟨by omega, by omega, j, hj, h1, h2⟩
  · rintro ⟨a, b, j, hj, h1, h2⟩
    by_cases e : x = (m : Int)
    · subst e
      right
      rcases lateOne_form (l := l) (t := t) h (m : Int) o.length (Nat.le_refl _) with ⟨_, hn⟩ | ⟨e, _⟩
      · exact absurd ⟨h1, h2⟩ (hn j hj)
      · rw [e]; simp
    · exact .inl ⟨a, by omega, j, hj, h1, h2⟩
theorem lateUp_inc {l : List S57} {o t : List Int} (h : o.Nodup) : ∀ m, (lateUp l o t m).Pairwise (fun a b => a < b)
 | 0 => List.Pairwise.nil
 | m + 1 => by
  rw [lateUp, List.pairwise_append]
  refine ⟨lateUp_inc h m, ?_, ?_⟩
  · rcases lateOne_form (l := l) (t := t) h (m : Int) o.length (Nat.le_refl _) with ⟨e, _⟩ | ⟨e, _⟩ <;> rw [e] <;> simp
  · intro a ha b hb
    have h1 := ((lateUp_mem h a m).mp ha).2.1
    rcases lateOne_form (l := l) (t := t) h (m : Int) o.length (Nat.le_refl _) with ⟨e, _⟩ | ⟨e, _⟩
    · rw [e] at hb; cases hb
    · rw [e] at hb
      obtain rfl : b = (m : Int) := by simpa using hb
      exact h1
theorem lateList_mem {l : List S57} {o t : List Int} (x : Int) : ∀ i, x ∈ lateList l o t i ↔ ∃ j, j < i ∧ rd o (j : Int) = x ∧ rd t (j : Int) > (rd_T57 l (rd o (j : Int))).f2
 | 0 => by
  rw [lateList]
  constructor
  · intro h; cases h
  · rintro ⟨j, hj, _⟩
    exact absurd hj (Nat.not_lt_zero _)
 | i + 1 => by
  have ih := lateList_mem (l := l) (o := o) (t := t) x i
  rw [lateList]
  by_cases q : rd t (i : Int) > (rd_T57 l (rd o (i : Int))).f2
  · rw [if_pos q, List.mem_append, ih]
    constructor
    · rintro (⟨j, hj, h⟩ | hx)
      · exact ⟨j, by omega, h⟩
      · exact ⟨i, by omega, by simpa using Eq.symm (List.mem_singleton.mp hx), q⟩
    · rintro ⟨j, hj, h1, h2⟩
      by_cases e : j = i
      · subst e
        exact .inr (by rw [h1]; simp)
      · exact .inl ⟨j, by omega, h1, h2⟩
  · rw [if_neg q, ih]
    constructor
    · rintro ⟨j, hj, h⟩
      exact ⟨j, by omega, h⟩
    · rintro ⟨j, hj, h1, h2⟩
      by_cases e : j = i
      · subst e
        exact absurd h2 q
      · exact ⟨j, by omega, h1, h2⟩
theorem lateList_nodup {l : List S57} {o t : List Int} (h : o.Nodup) : ∀ i, i ≤ o.length → (lateList l o t i).Nodup
 | 0, _ => List.Pairwise.nil
 | i + 1, hi => by
  have ih := lateList_nodup (l := l) (t := t) h i (by omega)
  rw [lateList]
  split
  · refine List.pairwise_append.mpr ⟨ih, by simp, fun a ha b hb => ?_⟩
    obtain ⟨j, hj, h1, _⟩ := (lateList_mem a i).mp ha
    obtain rfl := List.mem_singleton.mp hb
    rw [← h1]
    exact rd_inj h (by omega) hj
  · exact ih
theorem late_same {l : List S57} {o t : List Int} (H : Lates l o t) : srt (lateList l o t o.length) = lateUp l o t l.length := by
 refine srt_of_perm _ _ ?_ ((lateUp_inc H.nodup _).imp (fun h => by omega))
 refine (List.perm_ext_iff_of_nodup (lateList_nodup H.nodup _ (Nat.le_refl _)) ((lateUp_inc H.nodup _).imp (fun h => by omega))).mpr fun x => ?_
 rw [lateList_mem, lateUp_mem H.nodup]
 constructor
 · rintro ⟨j, hj, h1, h2⟩
   obtain ⟨a1, _⟩ := H.at_ j hj
   rw [h1] at a1 h2
   exact ⟨a1.1, a1.2, j, hj, h1, h2⟩
 · rintro ⟨_, _, j, hj, h1, h2⟩
   exact ⟨j, hj, h1, by rw [h1]; exact h2⟩
theorem lateUp_len {l : List S57} {o t : List Int} (h : o.Nodup) : ∀ m, (lateUp l o t m).length ≤ m
 | 0 => Nat.le_refl _
 | m + 1 => by
  have ih := lateUp_len (l := l) (t := t) h m
  rw [lateUp, List.length_append]
  rcases lateOne_form (l := l) (t := t) h (m : Int) o.length (Nat.le_refl _) with ⟨e, _⟩ | ⟨e, _⟩ <;> rw [e] <;> simp <;> omega
theorem succ64 (i : Nat) (h : i ≤ 1000000) : wrap64 ((i : Int) + 1) = ((i + 1 : Nat) : Int) := by
 rw [w64 _ (by omega) (by omega)]
 rfl
theorem lateBoth_len {l : List S57} {o t : List Int} (h : o.Nodup) (m i : Nat) (hi : i ≤ o.length) : (lateUp l o t m ++ lateOne l o t (m : Int) i).length ≤ m + 1 := by
 have lu := lateUp_len (l := l) (t := t) h m
 rw [List.length_append]
 rcases lateOne_form (l := l) (t := t) h (m : Int) i hi with ⟨e, _⟩ | ⟨e, _⟩
 · rw [e, List.length_nil]; omega
 · rw [e, List.length_singleton]; omega
theorem specLateIn_ev {l : List S57} {o t : List Int} (H : Lates l o t) (m : Nat) (hm : m < l.length) (hn : Ev (fun k => spec_LateIn.l0 k l o (lateUp l o t (m + 1)) t ((m + 1 : Nat) : Int)) (lateUp l o t l.length, 0)) :
 ∀ (d i : Nat), i + d = o.length → Ev (fun k => spec_LateIn.l1 k l o (lateUp l o t m ++ lateOne l o t (m : Int) i) t (m : Int) (i : Int)) (lateUp l o t l.length, 0) := by
 intro d
 have hl := H.lent
 have h8 := H.len8
 have hlen := H.len
 have wm := succ64 m (by omega)
 have m0 : (0 : Int) ≤ (m : Int) := by omega
 have m1 : (m : Int) < (l.length : Int) := by omega
 have wd : wrap64 (rd_T57 l (m : Int)).f2 = (rd_T57 l (m : Int)).f2 := (piece_at l H.fine (m : Int) m0 m1).2.2.1
 have WD := Aside0.mk wd
 clear wd
 induction d with
 | zero =>
  intro i hd
  obtain rfl : i = o.length := by omega
  refine Ev.step (f := fun k => spec_LateIn.l0 k l o (lateUp l o t (m + 1)) t ((m + 1 : Nat) : Int)) (fun k => ?_) hn
  rw [spec_LateIn.l1]
  rw [if_neg (Int.lt_irrefl _), wm, lateUp]
 | succ d ih =>
  intro i hd
  have c1 : (i : Int) < (t.length : Int) := by omega
  have c2 : (0 : Int) ≤ (i : Int) := by omega
  have c3 : (i : Int) < (o.length : Int) := by omega
  have w5 := succ64 i (by omega)
  have ln0 := lateBoth_len (l := l) (t := t) H.nodup m i (by omega)
  have ln : (lateUp l o t m ++ lateOne l o t (m : Int) i).length < 17592186044416 := by omega
  have n := ih (i + 1) (by omega)
  have wd := WD.out
  rw [lateOne] at n
  by_cases q : rd o (i : Int) = (m : Int)
  · by_cases q2 : rd t (i : Int) > (rd_T57 l (m : Int)).f2
    · rw [if_pos ⟨q, q2⟩, ← List.append_assoc] at n
      refine Ev.step (f := fun k => spec_LateIn.l1 k l o (lateUp l o t m ++ lateOne l o t (m : Int) i ++ [(m : Int)]) t (m : Int) ((i + 1 : Nat) : Int)) (fun k => ?_) n
      rw [spec_LateIn.l1]
      rw [if_pos c3, if_pos c2, if_pos q, if_pos c1, if_pos m0, if_pos m1, wd, if_pos q2, if_pos ln, w5]
    · rw [if_neg (fun h => q2 h.2)] at n
      refine Ev.step (f := fun k => spec_LateIn.l1 k l o (lateUp l o t m ++ lateOne l o t (m : Int) i) t (m : Int) ((i + 1 : Nat) : Int)) (fun k => ?_) n
      rw [spec_LateIn.l1]
      rw [if_pos c3, if_pos c2, if_pos q, if_pos c1, if_pos m0, if_pos m1, wd, if_neg q2, w5]
  · rw [if_neg (fun h => q h.1)] at n
    refine Ev.step (f := fun k => spec_LateIn.l1 k l o (lateUp l o t m ++ lateOne l o t (m : Int) i) t (m : Int) ((i + 1 : Nat) : Int)) (fun k => ?_) n
    rw [spec_LateIn.l1]
    rw [if_pos c3, if_pos c2, if_neg q, w5]
theorem specLate_ev {l : List S57} {o t : List Int} (H : Lates l o t) : Ev (fun k => spec_LateIn.l0 k l o [] t 0) (lateUp l o t l.length, 0) := by
 have outer : ∀ (d m : Nat), m + d = l.length → Ev (fun k => spec_LateIn.l0 k l o (lateUp l o t m) t (m : Int)) (lateUp l o t l.length, 0) := by
  intro d
  induction d with
  | zero =>
   intro m hd
   obtain rfl : m = l.length := by omega
   refine Ev.step (f := fun _ => some (lateUp l o t l.length, 0)) (fun k => ?_) (Ev.const rfl)
   rw [spec_LateIn.l0]
   rw [if_neg (Int.lt_irrefl _)]
  | succ d ih =>
   intro m hd
   have c : (m : Int) < (l.length : Int) := by omega
   have n := specLateIn_ev H m (by omega) (ih (m + 1) (by omega)) o.length 0 (by omega)
   rw [lateOne, List.append_nil] at n
   refine Ev.step (f := fun k => spec_LateIn.l1 k l o (lateUp l o t m) t (m : Int) 0) (fun k => ?_) n
   rw [spec_LateIn.l0]
   rw [if_pos c]
 have := outer l.length 0 (by omega)
 rw [lateUp] at this
 exact this
theorem lates_of (x y : Int) (l : List S57) (o : List Int) (ht : Typed l) (hx : -128 ≤ x ∧ x ≤ 127) (hy : -128 ≤ y ∧ y ≤ 127) (h : codeOrd x y l o = 0) : Lates l o (timesOf x y l 0 0 o) := by
 obtain ⟨c, hlen, hn, hr⟩ := codeOrd_zero x y l o h
 obtain ⟨h8, hf⟩ := fine_of x y l ht c
 have ob := okIron_bd x y hx hy (code_zero x y l c).1
 refine ⟨hf, hlen, by omega, timesOf_len _ _ _ _ _ _, hr, hn, fun z hz => ?_⟩
 have := timesOf_bd x y ⟨ob.2.2.1, ob.2.2.2.1⟩ ⟨ob.2.2.2.2.1, ob.2.2.2.2.2⟩ l hf o 0 0 hr ⟨by omega, by omega⟩ (by omega) z hz
 omega
def latenessOf (x y : Int) (l : List S57) (o : List Int) : Int × Int := if codeOrd x y l o = 0 then (lateSum l o (timesOf x y l 0 0 o) o.length, 0) else (0, codeOrd x y l o)
def lateIn (x y : Int) (l : List S57) (o : List Int) : List Int × Int := if codeOrd x y l o = 0 then (lateUp l o (timesOf x y l 0 0 o) l.length, 0) else ([], codeOrd x y l o)
theorem LateIn_both (x y : Int) (l : List S57) (o : List Int) (hm : l.length ≤ 4611686018427387904) (ho : o.length ≤ 1048576) (ht : Typed l) (hx : -128 ≤ x ∧ x ≤ 127) (hy : -128 ≤ y ∧ y ≤ 127) :
 Ev (fun k => spec_LateIn.f k x y l o) (lateIn x y l o) ∧ Ev (fun k => impl_LateIn.f k x y l o) (lateIn x y l o) := by
 have a := ordered_ev x y l o hm ho
 have b := orderCode_ev x y l o ho
 unfold lateIn
 by_cases c : codeOrd x y l o = 0
 · obtain ⟨h8, h1, h2⟩ := times_both x y l o ht hx hy c
   have H := lates_of x y l o ht hx hy c
   have L := implLate_ev H
   have S := specLate_ev H
   rw [late_same H] at L
   rw [if_pos c]
   rw [c] at a b
   exact ⟨Ev.bind (Ev.const rfl) (Ev.bind a (Ev.ite_t rfl (Ev.bind h2 S))), Ev.bind b (Ev.ite_t rfl (Ev.bind (Ev.bind h1 L) (Ev.const rfl)))⟩
 · rw [if_neg c]
   exact ⟨Ev.bind (Ev.const rfl) (Ev.bind a (Ev.ite_f c (Ev.const rfl))), Ev.bind b (Ev.ite_f c (Ev.const rfl))⟩
end Go.Proofs.Ythkccaclmodjiaa.I
end
section
namespace Go.Proofs
open Go.Shelf
def Try.insA_ren : Go.Shelf.Ren := ⟨fun | 20 => 131 | n => n, fun | 24 => 2 | 22 => 37 | 3 => 3 | 25 => 97 | 4 => 4 | 0 => 0 | n => n, fun | n => n⟩
theorem Try.insA : Go.Proofs.SlLaysF.n20 Try.prog Try.insA_ren := {
 mixed := by kernel_rfl
 f20 := ⟨Try.f131.name, by decide, Try.func131.trans (congrArg some (by kernel_rfl))⟩
 t0 := Try.underlying0
 a0 := Try.isAgg0
 z0 := Try.sizeOf0
 v0 := Try.zeroValue0
 t3 := Try.underlying3
 a3 := Try.isAgg3
 z3 := Try.sizeOf3
 v3 := Try.zeroValue3
 t4 := Try.underlying4
 a4 := Try.isAgg4
 z4 := Try.sizeOf4
 v4 := Try.zeroValue4
 t22 := Try.underlying37
 a22 := Try.isAgg37
 z22 := Try.sizeOf37
 v22 := Try.zeroValue37
 a24 := Try.isAgg2
 z24 := Try.sizeOf2
 t25 := Try.underlying97
 a25 := Try.isAgg97
 z25 := Try.sizeOf97
 v25 := Try.zeroValue97 }
end Go.Proofs
end
