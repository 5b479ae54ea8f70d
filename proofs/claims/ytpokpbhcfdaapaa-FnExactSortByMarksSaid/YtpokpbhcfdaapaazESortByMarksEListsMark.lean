import Derived.Test.YtpokpbhcfdaapaazESortByMarksEEvLoop
import Derived.Test.YtpokpbhcfdaapaazESortByMarksM0
import Derived.Test.YtpokpbhcfdaapaazESortByMarksM13
import Derived.Test.YtpokpbhcfdaapaazESortByMarksM9
namespace Go.Proofs.Ytpokpbhcfdaapaa.M
open Go.RowKit Go.Proofs.YtpokpbhcfdaapaaW.PrintWords Go.Proofs.YtpokpbhcfdaapaaW.PrintLast Go.Proofs.YtpokpbhcfdaapaaW.PrintMore
attribute [local go_sem] max2_int min2_int max_two min_two max_three min_three max_four min_four
set_option linter.unusedVariables false
set_option linter.unusedSimpArgs false
theorem laws_eqMarkS.same (l : List Int) (hm : l.length ≤ 4611686018427387904) : Ev (fun k => laws_eqMarkS.f k l l) true := by
  refine Ev.congr (f := fun k => laws_eqMarkS.l0 k l l 0) (fun k => by unfold laws_eqMarkS.f; rw [if_pos rfl]) ?_
  refine Ev.loop (L := fun k s => laws_eqMarkS.l0 k l l s) (fun s d => ∃ i : Nat, i + d = l.length ∧ s = (i : Int)) ?_ l.length 0 ⟨0, by omega, rfl⟩
  rintro s d ⟨i, hd, rfl⟩
  by_cases c : i < l.length
  · refine .inr ⟨((i + 1 : Nat) : Int), d - 1, by omega, ⟨i + 1, by omega, rfl⟩, 0, fun k _ => ?_⟩
    rw [laws_eqMarkS.l0]
    rw [if_pos (by omega), if_pos (by omega), if_pos (by omega), if_pos rfl, w64 _ (by omega) (by omega)]
    rfl
  · refine .inl ⟨0, fun k _ => ?_⟩
    rw [laws_eqMarkS.l0]
    rw [if_neg (by omega)]
def marksMark (a : Int) : Nat → List Int
  | 0 => []
  | n + 1 => marksMark a n ++ [IntKind.u16.wrap (a + (n : Int))]
theorem marksMark_len (a : Int) : ∀ n, (marksMark a n).length = n
  | 0 => rfl
  | n + 1 => by simp [marksMark, marksMark_len a n]
theorem laws_markMarkS.ev (l : List Int) (a : Int) (h0 : 0 ≤ a) (h1 : a ≤ 4611686018427387904) (hm : l.length ≤ 2305843009213693952) : Ev (fun k => laws_markMarkS.f k l a) (a + (l.length : Int), marksMark a l.length) := by
  refine Ev.loop (L := fun k s => laws_markMarkS.l0 k s.1 s.2.1 s.2.2) (fun s d => ∃ i : Nat, i + d = l.length ∧ s = (marksMark a i ++ l.drop i, a + (i : Int), (i : Int))) ?_ l.length (l, a, 0) ⟨0, by omega, by simp [marksMark]⟩
  rintro ⟨x, y, z⟩ d ⟨i, hd, e⟩
  cases e
  have hl : (marksMark a i ++ l.drop i).length = l.length := by rw [List.length_append, marksMark_len, List.length_drop]; omega
  by_cases c : i < l.length
  · refine .inr ⟨(marksMark a (i + 1) ++ l.drop (i + 1), a + ((i + 1 : Nat) : Int), ((i + 1 : Nat) : Int)), d - 1, by omega, ⟨i + 1, by omega, rfl⟩, 0, fun k _ => ?_⟩
    dsimp only
    rw [laws_markMarkS.l0]
    rw [if_pos (by rw [hl]; omega), if_pos (by omega), w64 _ (by omega) (by omega), w64 _ (by omega) (by omega)]
    have hs : (marksMark a i ++ l.drop i).set ((i : Int) : Int).toNat (IntKind.u16.wrap (a + (i : Int))) = marksMark a (i + 1) ++ l.drop (i + 1) := by
      rw [Int.toNat_natCast, List.set_append_right _ _ (by rw [marksMark_len]; omega), marksMark_len, Nat.sub_self, List.drop_eq_getElem_cons c, List.set_cons_zero]
      simp only [marksMark, List.append_assoc, List.cons_append, List.nil_append]
    rw [hs]
    have e1 : a + (i : Int) + 1 = a + ((i + 1 : Nat) : Int) := by omega
    rw [e1]
    rfl
  · obtain rfl : i = l.length := by omega
    refine .inl ⟨0, fun k _ => ?_⟩
    dsimp only
    rw [laws_markMarkS.l0]
    rw [if_neg (by rw [hl]; omega)]
    simp
theorem laws_toMarkS.ev (l : List Int) (hm : l.length ≤ 140737488355328) : Ev (fun k => laws_toMarkS.f k l) l := by
  refine Ev.congr (f := fun k => laws_toMarkS.l0 k l (List.replicate l.length 0) 0) (fun k => by unfold laws_toMarkS.f; rw [if_pos (by omega), if_pos (by omega)]; rfl) ?_
  refine Ev.loop (L := fun k s => laws_toMarkS.l0 k l s.1 s.2) (fun s d => ∃ i : Nat, i + d = l.length ∧ s = (l.take i ++ List.replicate (l.length - i) 0, (i : Int))) ?_ l.length (List.replicate l.length 0, 0) ⟨0, by omega, by simp⟩
  rintro ⟨x, z⟩ d ⟨i, hd, e⟩
  cases e
  have hl : (l.take i ++ List.replicate (l.length - i) (0 : Int)).length = l.length := by rw [List.length_append, List.length_take, List.length_replicate]; omega
  by_cases c : i < l.length
  · refine .inr ⟨(l.take (i + 1) ++ List.replicate (l.length - (i + 1)) 0, ((i + 1 : Nat) : Int)), d - 1, by omega, ⟨i + 1, by omega, rfl⟩, 0, fun k _ => ?_⟩
    dsimp only
    rw [laws_toMarkS.l0]
    rw [if_pos (by omega), if_pos (by omega), if_pos (by rw [hl]; omega), w64 _ (by omega) (by omega), rd_of_lt l i c]
    have hs : (l.take i ++ List.replicate (l.length - i) (0 : Int)).set ((i : Int) : Int).toNat l[i] = l.take (i + 1) ++ List.replicate (l.length - (i + 1)) 0 := by
      have ht : (l.take i).length = i := by rw [List.length_take]; omega
      rw [Int.toNat_natCast, List.set_append_right _ _ (by omega), ht, Nat.sub_self]
      have hrep : l.length - i = (l.length - (i + 1)) + 1 := by omega
      rw [hrep, List.replicate_succ, List.set_cons_zero, List.take_succ_eq_append_getElem c, List.append_assoc]
      rfl
    rw [hs]
    rfl
  · obtain rfl : i = l.length := by omega
    refine .inl ⟨0, fun k _ => ?_⟩
    dsimp only
    rw [laws_toMarkS.l0]
    rw [if_neg (by omega)]
    simp
end Go.Proofs.Ytpokpbhcfdaapaa.M
