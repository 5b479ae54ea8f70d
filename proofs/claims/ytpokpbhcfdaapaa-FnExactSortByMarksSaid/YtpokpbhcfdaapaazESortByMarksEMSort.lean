import Derived.Test.YtpokpbhcfdaapaazESortByMarksEConcat
import Derived.Test.YtpokpbhcfdaapaazESortByMarksEEvLoop
import Derived.Test.YtpokpbhcfdaapaazESortByMarksEMLem2
import Derived.Test.YtpokpbhcfdaapaazESortByMarksEMLem3
import Derived.Test.YtpokpbhcfdaapaazESortByMarksEMLem4a
import Derived.Test.YtpokpbhcfdaapaazESortByMarksEMLem7a
import Derived.Test.YtpokpbhcfdaapaazESortByMarksEMarkCode
import Derived.Test.YtpokpbhcfdaapaazESortByMarksEPredMark
import Derived.Test.YtpokpbhcfdaapaazESortByMarksESortM
import Derived.Test.YtpokpbhcfdaapaazESortByMarksM0
import Derived.Test.YtpokpbhcfdaapaazESortByMarksM11
import Derived.Test.YtpokpbhcfdaapaazESortByMarksM12
import Derived.Test.YtpokpbhcfdaapaazESortByMarksM8
import Derived.Test.YtpokpbhcfdaapaazESortByMarksM9
namespace Go.Proofs.Ytpokpbhcfdaapaa.M
open Go.RowKit Go.Proofs.YtpokpbhcfdaapaaW.PrintWords Go.Proofs.YtpokpbhcfdaapaaW.PrintLast Go.Proofs.YtpokpbhcfdaapaaW.PrintMore
attribute [local go_sem] max2_int min2_int max_two min_two max_three min_three max_four min_four
set_option linter.unusedVariables false
set_option linter.unusedSimpArgs false
theorem readAt_lt (l : List Int) (a : Int) : readAt l a < (l.length : Int) := by
  unfold readAt idxP
  cases h : l.findIdx? (fun x => (seenOf x 12).contains a) with
  | none => dsimp only; omega
  | some i =>
    have := (List.findIdx?_eq_some_iff_getElem.mp h).1
    dsimp only
    omega
def sortTo (l s : List Int) : Nat → List (List Int) × List Int
  | 0 => (List.replicate l.length [], [])
  | i + 1 => if readAt l (rd s (i : Int)) < 0 then ((sortTo l s i).1, (sortTo l s i).2 ++ [(i : Int)])
    else ((sortTo l s i).1.set (readAt l (rd s (i : Int))).toNat (rowOf (sortTo l s i).1 (readAt l (rd s (i : Int))) ++ [(i : Int)]), (sortTo l s i).2)
theorem sortTo_len (l s : List Int) : ∀ i, (sortTo l s i).1.length = l.length
  | 0 => by simp [sortTo]
  | i + 1 => by
    have := sortTo_len l s i
    rw [sortTo]
    split
    · exact this
    · rw [List.length_set]; exact this
theorem flatten_set (xs : List (List Int)) (y : Int) : ∀ k : Nat, (xs.set k (xs.getD k [] ++ [y])).flatten.length ≤ xs.flatten.length + 1 := by
  induction xs with
  | nil => intro k; simp
  | cons x r ih =>
    intro k
    cases k with
    | zero =>
      simp only [List.set_cons_zero, List.flatten_cons, List.length_append, List.getD_cons_zero, List.length_singleton]
      omega
    | succ k =>
      have := ih k
      simp only [List.set_cons_succ, List.flatten_cons, List.length_append, List.getD_cons_succ]
      omega
theorem sortTo_flat (l s : List Int) : ∀ i, (sortTo l s i).1.flatten.length ≤ i ∧ (sortTo l s i).2.length ≤ i
  | 0 => by
    rw [sortTo]
    refine ⟨?_, Nat.le_refl _⟩
    rw [List.flatten_replicate_nil]
    exact Nat.le_refl _
  | i + 1 => by
    have h := sortTo_flat l s i
    rw [sortTo]
    split
    · refine ⟨by have := h.1; dsimp only; omega, ?_⟩
      rw [List.length_append]
      have := h.2
      simp
      omega
    · refine ⟨?_, by have := h.2; dsimp only; omega⟩
      have := flatten_set (sortTo l s i).1 (i : Int) (readAt l (rd s (i : Int))).toNat
      unfold rowOf
      have := h.1
      dsimp only
      omega
theorem row_short (xs : List (List Int)) (k : Nat) : (xs.getD k []).length ≤ xs.flatten.length := by
  induction xs generalizing k with
  | nil => simp
  | cons x r ih =>
    cases k with
    | zero => simp only [List.getD_cons_zero, List.flatten_cons, List.length_append]; omega
    | succ k =>
      have := ih k
      simp only [List.getD_cons_succ, List.flatten_cons, List.length_append]
      omega
theorem rowOf_short (xs : List (List Int)) (t : Int) : (rowOf xs t).length ≤ xs.flatten.length := row_short xs t.toNat
theorem specSortLoop_ev (l s : List Int) (hl : Small l) (hm : l.length ≤ 1048576) (hs : s.length ≤ 1048576) : ∀ d i : Nat, i + d = s.length → Ev (fun k => spec_SortByMarks.l0 k l s (sortTo l s i).1 (sortTo l s i).2 (i : Int)) ((sortTo l s s.length).1, (sortTo l s s.length).2, 0)
  | 0, i, hi => by
    obtain rfl : i = s.length := by omega
    refine Ev.step (fun k => by rw [spec_SortByMarks.l0]) (Ev.ite_f (by omega) ?_)
    exact Ev.const rfl
  | d + 1, i, hi => by
    have ih := specSortLoop_ev l s hl hm hs d (i + 1) (by omega)
    have f := sortTo_flat l s i
    have hn := sortTo_len l s i
    have hlt := readAt_lt l (rd s (i : Int))
    have hw : wrap64 ((i : Int) + 1) = ((i + 1 : Nat) : Int) := by rw [w64 _ (by omega) (by omega)]; rfl
    refine Ev.step (fun k => by rw [spec_SortByMarks.l0]) (Ev.ite_t (by omega) (Ev.ite_t (by omega) (Ev.bind (specRead_ev l (rd s (i : Int)) hl (by omega)) ?_)))
    rw [sortTo] at ih
    by_cases c : readAt l (rd s (i : Int)) < 0
    · rw [if_pos c] at ih
      refine Ev.ite_t c (Ev.ite_t (by have := f.2; omega) ?_)
      rw [hw]
      exact ih
    · rw [if_neg c] at ih
      refine Ev.ite_f c (Ev.ite_t (by omega) (Ev.ite_t (by omega) (Ev.ite_t (by have := rowOf_short (sortTo l s i).1 (readAt l (rd s (i : Int))); have := f.1; show (rowOf _ _).length < _; omega) ?_)))
      rw [hw]
      exact ih
theorem implSortLoop_ev (l s : List Int) (hl : ∀ x ∈ l, 0 ≤ x ∧ x < 65536) (hm : l.length ≤ 1048576) (hs : s.length ≤ 1048576) : ∀ d i : Nat, i + d = s.length → Ev (fun k => impl_SortByMarks.l0 k l (sortTo l s i).1 (sortTo l s i).2 s (s.length : Int) (i : Int)) ((sortTo l s s.length).1, (sortTo l s s.length).2, 0)
  | 0, i, hi => by
    obtain rfl : i = s.length := by omega
    refine Ev.step (fun k => by rw [impl_SortByMarks.l0]) (Ev.ite_f (by omega) ?_)
    exact Ev.const rfl
  | d + 1, i, hi => by
    have ih := implSortLoop_ev l s hl hm hs d (i + 1) (by omega)
    have f := sortTo_flat l s i
    have hn := sortTo_len l s i
    have hlt := readAt_lt l (rd s (i : Int))
    have hw : wrap64 ((i : Int) + 1) = ((i + 1 : Nat) : Int) := by rw [w64 _ (by omega) (by omega)]; rfl
    refine Ev.step (fun k => by rw [impl_SortByMarks.l0]) (Ev.ite_t (by omega) (Ev.ite_t (by omega) (Ev.ite_t (by omega) (Ev.bind (implRead_ev l (rd s (i : Int)) hl) ?_))))
    rw [sortTo] at ih
    by_cases c : readAt l (rd s (i : Int)) < 0
    · rw [if_pos c] at ih
      refine Ev.ite_f (by omega) (Ev.ite_t (by have := f.2; omega) ?_)
      rw [hw]
      exact ih
    · rw [if_neg c] at ih
      refine Ev.ite_t (by omega) (Ev.ite_t (by omega) (Ev.ite_t (by omega) (Ev.ite_t (by have := rowOf_short (sortTo l s i).1 (readAt l (rd s (i : Int))); have := f.1; omega) ?_)))
      rw [hw]
      exact ih
def codeTwo (n : Int) (l s : List Int) : Int := if listCode n s = 1 ∨ listCode n l = 0 then listCode n s else listCode n l
theorem codeTwo_zero (n : Int) (l s : List Int) (h : codeTwo n l s = 0) : listCode n l = 0 ∧ listCode n s = 0 := by
  unfold codeTwo at h
  by_cases c : listCode n s = 1 ∨ listCode n l = 0
  · rw [if_pos c] at h
    rcases c with c | c
    · omega
    · exact ⟨c, h⟩
  · rw [if_neg c] at h
    exact absurd (Or.inr h) c
theorem lim (l : List Int) : ∃ x : Int, (x = 0 ∨ x = 3) ∧ (if l.length ≤ 40 then (0 : Int) else 3) = x ∧ (if l.length > 40 then (3 : Int) else 0) = x := by
  by_cases h : l.length ≤ 40
  · exact ⟨0, .inl rfl, if_pos h, if_neg (by omega)⟩
  · exact ⟨3, .inr rfl, if_neg h, if_pos (by omega)⟩
theorem implTwo_ev (n : Int) (l s : List Int) : Ev (fun k => (impl_markCode.f n (l ++ s)).bind fun a => (impl_fewMarks.f l).bind fun b => (impl_fewMarks.f s).bind fun c => impl_firstOf.f k [a, b, c]) (codeTwo n l s) := by
  have e (a b c : Int) := firstOf_ev [a, b, c] (by simp)
  rw [implCode_f, few_f, few_f]
  refine Ev.congr (f := fun k => impl_firstOf.f k [if 1 ≤ n ∧ n ≤ 12 then (if (l ++ s).any (fun m => !okMark n m) = true then 1 else 0) else 1, if l.length ≤ 40 then 0 else 3, if s.length ≤ 40 then 0 else 3]) (fun k => rfl) ?_
  have q : firstNZ [if 1 ≤ n ∧ n ≤ 12 then (if (l ++ s).any (fun m => !okMark n m) = true then (1 : Int) else 0) else 1, if l.length ≤ 40 then 0 else 3, if s.length ≤ 40 then 0 else 3] = codeTwo n l s := by
    unfold codeTwo listCode
    rw [List.any_append]
    by_cases c : 1 ≤ n ∧ n ≤ 12
    · simp only [if_pos c]
      obtain ⟨x, hx, x1, x2⟩ := lim l
      obtain ⟨y, hy, y1, y2⟩ := lim s
      rw [x1, y1, x2, y2]
      cases d : l.any (fun m => !okMark n m) <;> cases g : s.any (fun m => !okMark n m) <;> rcases hx with rfl | rfl <;> rcases hy with rfl | rfl <;> simp [firstNZ]
    · simp [c, firstNZ]
  have := e (if 1 ≤ n ∧ n ≤ 12 then (if (l ++ s).any (fun m => !okMark n m) = true then 1 else 0) else 1) (if l.length ≤ 40 then 0 else 3) (if s.length ≤ 40 then 0 else 3)
  rw [q] at this
  exact this
theorem implSort_eq (n : Int) (l s : List Int) (hl : l.length ≤ 1048576) (hs : s.length ≤ 1048576) (k : Nat) : impl_SortByMarks.f k n l s = ((impl_markCode.f n (l ++ s)).bind fun a => (impl_fewMarks.f l).bind fun b => (impl_fewMarks.f s).bind fun c => impl_firstOf.f k [a, b, c]).bind fun t => if t = 0 then ((impl_apartCode.f k l).bind fun t2 => impl_SortByMarks.j0 k l s t2) else impl_SortByMarks.j0 k l s t := by
  unfold impl_SortByMarks.f
  have hc : slices_Concat_impl_Mark_impl_Mark.f [l, s] = some (l ++ s) := by
    unfold slices_Concat_impl_Mark_impl_Mark.f
    rw [if_pos ⟨by simp, by simp; omega⟩]
    simp
  rw [hc, Option.bind_some, implCode_f, few_f, few_f]
  rfl
theorem implJ0_ev (l s : List Int) (hl : ∀ x ∈ l, 0 ≤ x ∧ x < 65536) (hm : l.length ≤ 1048576) (hs : s.length ≤ 1048576) (c : Int) : Ev (fun k => impl_SortByMarks.j0 k l s c) (if c = 0 then ((sortTo l s s.length).1, (sortTo l s s.length).2, 0) else ([], [], c)) := by
  by_cases h : c = 0
  · rw [if_pos h]
    refine Ev.step (fun k => by rw [impl_SortByMarks.j0]) (Ev.ite_t h (Ev.ite_t (by omega) (Ev.ite_t (by omega) ?_)))
    rw [Int.toNat_natCast]
    exact implSortLoop_ev l s hl hm hs s.length 0 (by omega)
  · rw [if_neg h]
    refine Ev.step (fun k => by rw [impl_SortByMarks.j0]) (Ev.ite_f h ?_)
    exact Ev.const rfl
theorem specJ2_ev (l s : List Int) (hl : Small l) (hm : l.length ≤ 1048576) (hs : s.length ≤ 1048576) (c : Int) : c = 0 → Ev (fun k => spec_SortByMarks.j2 k l s c) ((sortTo l s s.length).1, (sortTo l s s.length).2, 0) := by
  intro h
  refine Ev.step (fun k => by rw [spec_SortByMarks.j2]) (Ev.ite_t h (Ev.ite_t (by omega) (Ev.ite_t (by omega) ?_)))
  rw [Int.toNat_natCast]
  exact specSortLoop_ev l s hl hm hs s.length 0 (by omega)
theorem specJ2_no (l s : List Int) (c : Int) (h : ¬ c = 0) : Ev (fun k => spec_SortByMarks.j2 k l s c) ([], [], c) := by
  refine Ev.step (fun k => by rw [spec_SortByMarks.j2]) (Ev.ite_f h ?_)
  exact Ev.const rfl
theorem SortByMarks_both (n : Int) (l s : List Int) (hm : l.length ≤ 1048576) (hs : s.length ≤ 1048576) (hv : ∀ m ∈ l, 0 ≤ m ∧ m < 65536) :
    ∃ LL L c, Ev (fun k => spec_SortByMarks.f k n l s) (LL, L, c) ∧ Ev (fun k => impl_SortByMarks.f k n l s) (LL, L, c) ∧ LL.length ≤ 40 ∧ LL.flatten.length ≤ 40 ∧ L.length ≤ 40 := by
  have h1 := specList_ev n l (by omega)
  have h2 := specList_ev n s (by omega)
  have hi := implTwo_ev n l s
  have key : ∀ (R : List (List Int) × List Int × Int), Ev (fun k => spec_SortByMarks.j1 k n l s (codeTwo n l s)) R → Ev (fun k => spec_SortByMarks.f k n l s) R := by
    intro R hR
    refine Ev.bind h1 (Ev.bind h2 ?_)
    unfold codeTwo at hR
    by_cases c : listCode n s = 1
    · rw [if_pos (Or.inl c)] at hR
      exact Ev.ite_t c (Ev.step (fun k => by rw [spec_SortByMarks.j0]) (Ev.ite_t rfl hR))
    · refine Ev.ite_f c ?_
      by_cases d : listCode n l = 0
      · rw [if_pos (Or.inr d)] at hR
        exact Ev.step (fun k => by rw [spec_SortByMarks.j0]) (Ev.ite_t (beq_iff_eq.mpr d) hR)
      · rw [if_neg (fun h => h.elim c d)] at hR
        exact Ev.step (fun k => by rw [spec_SortByMarks.j0]) (Ev.ite_f (by rw [beq_eq_false_iff_ne.mpr d]; decide) hR)
  by_cases c : codeTwo n l s = 0
  · obtain ⟨c1, c2⟩ := codeTwo_zero n l s c
    obtain ⟨v1, v2⟩ := valid_bd n l hv c1
    have z1 := listCode_ok n l c1
    have z2 := listCode_ok n s c2
    obtain ⟨t, ht, hts, hti⟩ := told_both n l (by omega) hv c1
    rw [c] at hi key
    by_cases t0 : t = 0
    · subst t0
      refine ⟨(sortTo l s s.length).1, (sortTo l s s.length).2, 0, key _ ?_, ?_, ?_, ?_, ?_⟩
      · exact Ev.step (fun k => by rw [spec_SortByMarks.j1]) (Ev.ite_t rfl (Ev.bind hts (specJ2_ev l s v2 hm hs 0 rfl)))
      · refine Ev.congr (implSort_eq n l s hm hs) (Ev.bind hi (Ev.ite_t rfl (Ev.bind hti ?_)))
        have := implJ0_ev l s hv hm hs 0
        rw [if_pos rfl] at this
        exact this
      · rw [sortTo_len]; exact z1.2.2.1
      · have := (sortTo_flat l s s.length).1; have := z2.2.2.1; omega
      · have := (sortTo_flat l s s.length).2; have := z2.2.2.1; omega
    · refine ⟨[], [], t, key _ ?_, ?_, by decide, by decide, by decide⟩
      · exact Ev.step (fun k => by rw [spec_SortByMarks.j1]) (Ev.ite_t rfl (Ev.bind hts (specJ2_no l s t t0)))
      · refine Ev.congr (implSort_eq n l s hm hs) (Ev.bind hi (Ev.ite_t rfl (Ev.bind hti ?_)))
        have := implJ0_ev l s hv hm hs t
        rw [if_neg t0] at this
        exact this
  · refine ⟨[], [], codeTwo n l s, key _ ?_, ?_, by decide, by decide, by decide⟩
    · exact Ev.step (fun k => by rw [spec_SortByMarks.j1]) (Ev.ite_f c (specJ2_no l s _ c))
    · refine Ev.congr (implSort_eq n l s hm hs) (Ev.bind hi (Ev.ite_f c ?_))
      have := implJ0_ev l s hv hm hs (codeTwo n l s)
      rw [if_neg c] at this
      exact this
end Go.Proofs.Ytpokpbhcfdaapaa.M
