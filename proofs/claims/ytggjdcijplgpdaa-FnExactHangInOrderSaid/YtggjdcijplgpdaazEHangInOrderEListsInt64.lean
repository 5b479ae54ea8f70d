import Derived.Test.YtggjdcijplgpdaazEHangInOrderD0
import Derived.Test.YtggjdcijplgpdaazEHangInOrderD14
import Derived.Test.YtggjdcijplgpdaazEHangInOrderD16
import Derived.Test.YtggjdcijplgpdaazEHangInOrderD2
import Derived.Test.YtggjdcijplgpdaazEHangInOrderEEvLoop
namespace Go.Proofs.Ytggjdcijplgpdaa.D
open Go.RowKit Go.Proofs.YtggjdcijplgpdaaW.PrintWords Go.Proofs.YtggjdcijplgpdaaW.PrintLast Go.Proofs.YtggjdcijplgpdaaW.PrintMore
attribute [local go_sem] max2_int min2_int max_two min_two max_three min_three max_four min_four
set_option linter.unusedVariables false
set_option linter.unusedSimpArgs false
theorem laws_eqInt64S.same (l : List Int) (hm : l.length ≤ 4611686018427387904) : Ev (fun k => laws_eqInt64S.f k l l) true := by
  refine Ev.congr (f := fun k => laws_eqInt64S.l0 k l l 0) (fun k => by unfold laws_eqInt64S.f; rw [if_pos rfl]) ?_
  refine Ev.loop (L := fun k s => laws_eqInt64S.l0 k l l s) (fun s d => ∃ i : Nat, i + d = l.length ∧ s = (i : Int)) ?_ l.length 0 ⟨0, by omega, rfl⟩
  rintro s d ⟨i, hd, rfl⟩
  by_cases c : i < l.length
  · refine .inr ⟨((i + 1 : Nat) : Int), d - 1, by omega, ⟨i + 1, by omega, rfl⟩, 0, fun k _ => ?_⟩
    rw [laws_eqInt64S.l0]
    rw [if_pos (by omega), if_pos (by omega), if_pos (by omega), if_pos rfl, w64 _ (by omega) (by omega)]
    rfl
  · refine .inl ⟨0, fun k _ => ?_⟩
    rw [laws_eqInt64S.l0]
    rw [if_neg (by omega)]
def marksInt64 (a : Int) : Nat → List Int
  | 0 => []
  | n + 1 => marksInt64 a n ++ [a + (n : Int)]
theorem marksInt64_len (a : Int) : ∀ n, (marksInt64 a n).length = n
  | 0 => rfl
  | n + 1 => by simp [marksInt64, marksInt64_len a n]
theorem marksInt64_at (a : Int) : ∀ (n i : Nat), i < n → (marksInt64 a n)[i]? = some (a + (i : Int))
  | 0, i, h => by omega
  | n + 1, i, h => by
    unfold marksInt64
    by_cases c : i < n
    · rw [List.getElem?_append_left (by rw [marksInt64_len]; exact c)]
      exact marksInt64_at a n i c
    · obtain rfl : i = n := by omega
      rw [List.getElem?_append_right (by rw [marksInt64_len]; omega), marksInt64_len]
      simp
theorem laws_markInt64S.ev (l : List Int) (a : Int) (h0 : 0 ≤ a) (h1 : a ≤ 4611686018427387904) (hm : l.length ≤ 2305843009213693952) : Ev (fun k => laws_markInt64S.f k l a) (a + (l.length : Int), marksInt64 a l.length) := by
  refine Ev.loop (L := fun k s => laws_markInt64S.l0 k s.1 s.2.1 s.2.2) (fun s d => ∃ i : Nat, i + d = l.length ∧ s = (marksInt64 a i ++ l.drop i, a + (i : Int), (i : Int))) ?_ l.length (l, a, 0) ⟨0, by omega, by simp [marksInt64]⟩
  rintro ⟨x, y, z⟩ d ⟨i, hd, e⟩
  cases e
  have hl : (marksInt64 a i ++ l.drop i).length = l.length := by rw [List.length_append, marksInt64_len, List.length_drop]; omega
  by_cases c : i < l.length
  · refine .inr ⟨(marksInt64 a (i + 1) ++ l.drop (i + 1), a + ((i + 1 : Nat) : Int), ((i + 1 : Nat) : Int)), d - 1, by omega, ⟨i + 1, by omega, rfl⟩, 0, fun k _ => ?_⟩
    dsimp only
    rw [laws_markInt64S.l0]
    rw [if_pos (by rw [hl]; omega), if_pos (by omega), w64 _ (by omega) (by omega), w64 _ (by omega) (by omega)]
    have hs : (marksInt64 a i ++ l.drop i).set ((i : Int) : Int).toNat (a + (i : Int)) = marksInt64 a (i + 1) ++ l.drop (i + 1) := by
      rw [Int.toNat_natCast, List.set_append_right _ _ (by rw [marksInt64_len]; omega), marksInt64_len, Nat.sub_self, List.drop_eq_getElem_cons c, List.set_cons_zero]
      simp only [marksInt64, List.append_assoc, List.cons_append, List.nil_append]
    rw [hs]
    have e1 : a + (i : Int) + 1 = a + ((i + 1 : Nat) : Int) := by omega
    rw [e1]
    rfl
  · obtain rfl : i = l.length := by omega
    refine .inl ⟨0, fun k _ => ?_⟩
    dsimp only
    rw [laws_markInt64S.l0]
    rw [if_neg (by rw [hl]; omega)]
    simp
theorem laws_heldInt64S.ev (a : Int) (n : Nat) (h0 : 0 ≤ a) (h1 : a ≤ 4611686018427387904) (hm : n ≤ 2305843009213693952) : Ev (fun k => laws_heldInt64S.f k (marksInt64 a n) a) (a + (n : Int)) := by
  refine Ev.loop (L := fun k s => laws_heldInt64S.l0 k (marksInt64 a n) s.1 s.2) (fun s d => ∃ i : Nat, i + d = n ∧ s = (a + (i : Int), (i : Int))) ?_ n (a, 0) ⟨0, by omega, by simp⟩
  rintro ⟨y, z⟩ d ⟨i, hd, e⟩
  cases e
  have hl := marksInt64_len a n
  by_cases c : i < n
  · refine .inr ⟨(a + ((i + 1 : Nat) : Int), ((i + 1 : Nat) : Int)), d - 1, by omega, ⟨i + 1, by omega, rfl⟩, 0, fun k _ => ?_⟩
    dsimp only
    rw [laws_heldInt64S.l0]
    have hr : rd (marksInt64 a n) (i : Int) = a + (i : Int) := by
      show (marksInt64 a n).getD i 0 = _
      rw [List.getD_eq_getElem?_getD, marksInt64_at a n i c]
      rfl
    rw [if_pos (by rw [hl]; omega), if_pos (by omega), if_pos hr, w64 _ (by omega) (by omega), w64 _ (by omega) (by omega)]
    have e1 : a + (i : Int) + 1 = a + ((i + 1 : Nat) : Int) := by omega
    rw [e1]
    rfl
  · obtain rfl : i = n := by omega
    refine .inl ⟨0, fun k _ => ?_⟩
    dsimp only
    rw [laws_heldInt64S.l0]
    rw [if_neg (by rw [hl]; omega)]
theorem laws_toInt64S.ev (l : List Int) (hm : l.length ≤ 35184372088832) : Ev (fun k => laws_toInt64S.f k l) l := by
  refine Ev.congr (f := fun k => laws_toInt64S.l0 k l (List.replicate l.length 0) 0) (fun k => by unfold laws_toInt64S.f; rw [if_pos (by omega), if_pos (by omega)]; rfl) ?_
  refine Ev.loop (L := fun k s => laws_toInt64S.l0 k l s.1 s.2) (fun s d => ∃ i : Nat, i + d = l.length ∧ s = (l.take i ++ List.replicate (l.length - i) 0, (i : Int))) ?_ l.length (List.replicate l.length 0, 0) ⟨0, by omega, by simp⟩
  rintro ⟨x, z⟩ d ⟨i, hd, e⟩
  cases e
  have hl : (l.take i ++ List.replicate (l.length - i) (0 : Int)).length = l.length := by rw [List.length_append, List.length_take, List.length_replicate]; omega
  by_cases c : i < l.length
  · refine .inr ⟨(l.take (i + 1) ++ List.replicate (l.length - (i + 1)) 0, ((i + 1 : Nat) : Int)), d - 1, by omega, ⟨i + 1, by omega, rfl⟩, 0, fun k _ => ?_⟩
    dsimp only
    rw [laws_toInt64S.l0]
    rw [if_pos (by omega), if_pos (by omega), if_pos (by rw [hl]; omega), w64 _ (by omega) (by omega), rd_of_lt l i c]
    have hs : (l.take i ++ List.replicate (l.length - i) (0 : Int)).set ((i : Int) : Int).toNat l[i] = l.take (i + 1) ++ List.replicate (l.length - (i + 1)) 0 := by
      have ht : (l.take i).length = i := by rw [List.length_take]; omega
      rw [Int.toNat_natCast, List.set_append_right _ _ (by omega), ht, Nat.sub_self]
      have hrep : l.length - i = (l.length - (i + 1)) + 1 := by omega
      rw [hrep, List.replicate_succ, List.set_cons_zero, List.take_succ_eq_append_getElem c, List.append_assoc]
      rfl
    rw [hs]
    rfl
  · obtain rfl : i = l.length := by omega
    refine .inl ⟨0, fun k _ => ?_⟩
    dsimp only
    rw [laws_toInt64S.l0]
    rw [if_neg (by omega)]
    simp
end Go.Proofs.Ytggjdcijplgpdaa.D
