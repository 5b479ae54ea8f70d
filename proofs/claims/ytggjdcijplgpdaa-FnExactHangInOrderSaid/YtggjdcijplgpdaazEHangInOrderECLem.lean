import Derived.Test.YtggjdcijplgpdaazEHangInOrderD0
import Derived.Test.YtggjdcijplgpdaazEHangInOrderD1
import Derived.Test.YtggjdcijplgpdaazEHangInOrderD15
import Derived.Test.YtggjdcijplgpdaazEHangInOrderD3
import Derived.Test.YtggjdcijplgpdaazEHangInOrderEEvLoop
import Derived.Test.YtggjdcijplgpdaazEHangInOrderEIota
import Derived.Test.YtggjdcijplgpdaazEHangInOrderEIsOrder
namespace Go.Proofs.Ytggjdcijplgpdaa.D
open Go.RowKit Go.Proofs.YtggjdcijplgpdaaW.PrintWords Go.Proofs.YtggjdcijplgpdaaW.PrintLast Go.Proofs.YtggjdcijplgpdaaW.PrintMore
attribute [local go_sem] max2_int min2_int max_two min_two max_three min_three max_four min_four
set_option linter.unusedVariables false
set_option linter.unusedSimpArgs false
theorem i8_bd {x : Int} (h : (Lit.int .i8 x).wf = true) : -128 ≤ x ∧ x ≤ 127 := by
  simp [Lit.wf, IntKind.min, IntKind.max, IntKind.bits, IntKind.signed] at h
  omega
theorem i16_bd {x : Int} (h : (Lit.int .i16 x).wf = true) : -32768 ≤ x ∧ x ≤ 32767 := by
  simp [Lit.wf, IntKind.min, IntKind.max, IntKind.bits, IntKind.signed] at h
  omega
def firstNZ : List Int → Int
  | [] => 0
  | x :: r => if x = 0 then firstNZ r else x
theorem firstOf_ev (l : List Int) (hm : l.length ≤ 4611686018427387904) : Ev (fun k => impl_firstOf.f k l) (firstNZ l) := by
  refine Ev.loop (L := fun k s => impl_firstOf.l0 k l (l.length : Int) s) (fun s d => ∃ i : Nat, i + d = l.length ∧ s = (i : Int) ∧ firstNZ (l.drop i) = firstNZ l) ?_ l.length 0 ⟨0, by omega, rfl, rfl⟩
  rintro s d ⟨i, hd, rfl, hf⟩
  by_cases c : i < l.length
  · have e : l.drop i = l[i] :: l.drop (i + 1) := List.drop_eq_getElem_cons c
    by_cases q : l[i] = 0
    · refine .inr ⟨((i + 1 : Nat) : Int), d - 1, by omega, ⟨i + 1, by omega, rfl, ?_⟩, 0, fun k _ => ?_⟩
      · rw [← hf, e, firstNZ, if_pos q]
      · rw [impl_firstOf.l0]
        rw [if_pos (by omega), if_pos (by omega), if_pos (by omega), rd_of_lt l i c, if_pos q, w64 _ (by omega) (by omega)]
        rfl
    · refine .inl ⟨0, fun k _ => ?_⟩
      rw [impl_firstOf.l0]
      rw [if_pos (by omega), if_pos (by omega), if_pos (by omega), rd_of_lt l i c, if_neg q, ← hf, e, firstNZ, if_neg q]
  · obtain rfl : i = l.length := by omega
    refine .inl ⟨0, fun k _ => ?_⟩
    rw [impl_firstOf.l0]
    rw [if_neg (by omega), ← hf, List.drop_length]
    rfl
theorem unless_b (b : Bool) (c : Int) : impl_unless.f b c = some (if b = true then 0 else c) := by
  unfold impl_unless.f
  cases b <;> rfl
theorem same_in (a b c : Int) : spec_l00In.f a b c = some (decide (b ≤ a) && decide (a ≤ c)) := by
  unfold spec_l00In.f
  by_cases h : b ≤ a <;> simp [h]
theorem has_ev (l : List Int) (x : Int) (hm : l.length ≤ 4611686018427387904) : Ev (fun k => spec_l00Has.f k l x) (l.contains x) := by
  refine Ev.loop (L := fun k s => spec_l00Has.l0 k l x s) (fun s d => ∃ i : Nat, i + d = l.length ∧ s = (i : Int) ∧ (l.drop i).contains x = l.contains x) ?_ l.length 0 ⟨0, by omega, rfl, rfl⟩
  rintro s d ⟨i, hd, rfl, hf⟩
  by_cases c : i < l.length
  · have e : l.drop i = l[i] :: l.drop (i + 1) := List.drop_eq_getElem_cons c
    rw [e, List.contains_cons] at hf
    by_cases q : l[i] = x
    · refine .inl ⟨0, fun k _ => ?_⟩
      rw [spec_l00Has.l0]
      rw [if_pos (by omega), if_pos (by omega), rd_of_lt l i c, if_pos q, ← hf, q]
      simp
    · refine .inr ⟨((i + 1 : Nat) : Int), d - 1, by omega, ⟨i + 1, by omega, rfl, ?_⟩, 0, fun k _ => ?_⟩
      · rw [← hf]
        have : (x == l[i]) = false := beq_eq_false_iff_ne.mpr fun h => q h.symm
        rw [this]
        rfl
      · rw [spec_l00Has.l0]
        rw [if_pos (by omega), if_pos (by omega), rd_of_lt l i c, if_neg q, w64 _ (by omega) (by omega)]
        rfl
  · obtain rfl : i = l.length := by omega
    refine .inl ⟨0, fun k _ => ?_⟩
    rw [spec_l00Has.l0]
    rw [if_neg (by omega), ← hf, List.drop_length]
    rfl
theorem isOrder_ev (l : List Int) (n : Nat) (hm : l.length ≤ 1048576) : Ev (fun k => impl_isOrder.f k l (n : Int)) (isOrd l n) := by
  have hs : sortedList l = some (srt l) := by unfold sortedList; rw [if_pos hm]
  refine Ev.bind (Ev.const hs) ?_
  have sl := srt_len l
  have bl : (srt l).length ≤ 1048576 := by omega
  have bad : ∀ i : Nat, (h : i < (srt l).length) → (srt l)[i] ≠ (i : Int) → isOrd l n = false := by
    intro i h q
    unfold isOrd
    rw [Bool.and_eq_false_iff]
    right
    refine decide_eq_false fun e => q ?_
    have e2 : (srt l)[i] = (iota l.length)[i]'(by rw [iota_len]; omega) := by congr 1
    rw [e2, iota_get]
  refine Ev.loop (L := fun k s => impl_isOrder.l0 k l (n : Int) (srt l) ((srt l).length : Int) s) (fun s d => ∃ i : Nat, i + d = (srt l).length ∧ s = (i : Int) ∧ ∀ j : Nat, (h : j < (srt l).length) → j < i → (srt l)[j] = (j : Int)) ?_ (srt l).length 0 ⟨0, by omega, rfl, fun j _ h => absurd h (Nat.not_lt_zero _)⟩
  rintro s d ⟨i, hd, rfl, hf⟩
  by_cases c : i < (srt l).length
  · have c1 : (i : Int) < ((srt l).length : Int) := by omega
    have c2 : (0 : Int) ≤ (i : Int) := by omega
    by_cases q : (srt l)[i] = (i : Int)
    · refine .inr ⟨((i + 1 : Nat) : Int), d - 1, by omega, ⟨i + 1, by omega, rfl, ?_⟩, 0, fun k _ => ?_⟩
      · intro j h hj
        by_cases e : j = i
        · subst e
          exact q
        · exact hf j h (by omega)
      · rw [impl_isOrder.l0]
        rw [if_pos c1, if_pos c2, if_pos c1, rd_of_lt _ i c, if_pos q, w64 _ (by omega) (by omega)]
        rfl
    · refine .inl ⟨0, fun k _ => ?_⟩
      rw [impl_isOrder.l0]
      rw [if_pos c1, if_pos c2, if_pos c1, rd_of_lt _ i c, if_neg q, bad i c q]
  · obtain rfl : i = (srt l).length := by omega
    refine .inl ⟨0, fun k _ => ?_⟩
    rw [impl_isOrder.l0]
    rw [if_neg (by omega)]
    have e : srt l = iota l.length := by
      refine List.ext_getElem (by rw [iota_len, sl]) fun j h1 h2 => ?_
      rw [iota_get]
      exact hf j h1 h1
    unfold isOrd
    rw [decide_eq_true e, Bool.and_true]
    congr 1
    by_cases q : l.length = n
    · rw [decide_eq_true q, q]
      simp
    · rw [decide_eq_false q]
      exact beq_eq_false_iff_ne.mpr (by omega)
theorem isOrd_false {l : List Int} {n : Nat} (h : ¬ (l.length = n ∧ l.Nodup ∧ ∀ x ∈ l, 0 ≤ x ∧ x < n)) : isOrd l n = false := by
  cases q : isOrd l n with
  | false => rfl
  | true => exact absurd ((isOrd_iff l n).mp q) h
theorem order_ev (l : List Int) (n : Nat) (hm : l.length ≤ 1048576) : Ev (fun k => spec_l03Order.f k l (n : Int)) (isOrd l n) := by
  by_cases hn : l.length = n
  · refine Ev.ite_t (by omega) ?_
    refine Ev.loop (L := fun k s => spec_l03Order.l0 k l (n : Int) s) (fun s d => ∃ i : Nat, i + d = n ∧ s = (i : Int) ∧ ∀ j : Nat, (h : j < l.length) → j < i → (0 ≤ l[j] ∧ l[j] < n) ∧ l[j] ∉ l.take j) ?_ n 0 ⟨0, by omega, rfl, fun j _ h => absurd h (Nat.not_lt_zero _)⟩
    rintro s d ⟨i, hd, rfl, hf⟩
    by_cases c : i < l.length
    · have c0 : (i : Int) < (n : Int) := by omega
      have c1 : (i : Int) < (l.length : Int) := by omega
      have c2 : (0 : Int) ≤ (i : Int) := by omega
      have c3 : (i : Int) ≤ (l.length : Int) := by omega
      have wn : wrap64 ((n : Int) - 1) = (n : Int) - 1 := w64 _ (by omega) (by omega)
      have ti : ((i : Int) : Int).toNat = i := Int.toNat_natCast i
      have hin := same_in l[i] 0 ((n : Int) - 1)
      by_cases q : 0 ≤ l[i] ∧ l[i] ≤ (n : Int) - 1
      · rw [decide_eq_true q.1, decide_eq_true q.2] at hin
        obtain ⟨K, hK⟩ := (has_ev (l.take i) l[i] (by rw [List.length_take]; omega))
        by_cases p : l[i] ∈ l.take i
        · have pc : (l.take i).contains l[i] = true := List.contains_iff_mem.mpr p
          rw [pc] at hK
          replace hK : ∀ k, K ≤ k → spec_l00Has.f k (l.take i) l[i] = some true := hK
          have bad : isOrd l n = false := isOrd_false (by
            rintro ⟨_, nd, _⟩
            obtain ⟨j, hj, e⟩ := List.mem_take_iff_getElem.mp p
            have hj1 : j < i := by omega
            have := (List.pairwise_iff_getElem.mp nd) j i (by omega) c hj1
            exact this e)
          refine .inl ⟨K, fun k hk => ?_⟩
          rw [spec_l03Order.l0]
          rw [if_pos c0, if_pos c2, if_pos c1, rd_of_lt _ i c, wn, hin, Option.bind_some, if_pos (by rfl), if_pos c3, ti, hK k hk, Option.bind_some, if_pos rfl, bad]
        · have pc : (l.take i).contains l[i] = false := by
            cases h : (l.take i).contains l[i] with
            | false => rfl
            | true => exact absurd (List.contains_iff_mem.mp h) p
          rw [pc] at hK
          replace hK : ∀ k, K ≤ k → spec_l00Has.f k (l.take i) l[i] = some false := hK
          refine .inr ⟨((i + 1 : Nat) : Int), d - 1, by omega, ⟨i + 1, by omega, rfl, ?_⟩, K, fun k hk => ?_⟩
          · intro j h hj
            by_cases e : j = i
            · subst e
              exact ⟨⟨q.1, by omega⟩, p⟩
            · exact hf j h (by omega)
          · rw [spec_l03Order.l0]
            rw [if_pos c0, if_pos c2, if_pos c1, rd_of_lt _ i c, wn, hin, Option.bind_some, if_pos (by rfl), if_pos c3, ti, hK k hk, Option.bind_some, if_neg (by decide), w64 _ (by omega) (by omega)]
            rfl
      · have bad : isOrd l n = false := isOrd_false (by
          rintro ⟨_, _, rg⟩
          have := rg l[i] (List.getElem_mem c)
          exact q ⟨this.1, by omega⟩)
        have hfls : (decide (0 ≤ l[i]) && decide (l[i] ≤ (n : Int) - 1)) = false := by
          by_cases q1 : 0 ≤ l[i]
          · rw [decide_eq_false (fun h => q ⟨q1, h⟩), Bool.and_false]
          · rw [decide_eq_false q1, Bool.false_and]
        rw [hfls] at hin
        refine .inl ⟨0, fun k _ => ?_⟩
        rw [spec_l03Order.l0]
        rw [if_pos c0, if_pos c2, if_pos c1, rd_of_lt _ i c, wn, hin, Option.bind_some, if_neg (by decide), bad]
    · obtain rfl : i = n := by omega
      refine .inl ⟨0, fun k _ => ?_⟩
      rw [spec_l03Order.l0]
      rw [if_neg (by omega)]
      have good : isOrd l i = true := by
        refine (isOrd_iff l i).mpr ⟨hn, ?_, ?_⟩
        · refine List.pairwise_iff_getElem.mpr fun a b ha hb hab e => ?_
          refine (hf b hb (by omega)).2 ?_
          exact List.mem_take_iff_getElem.mpr ⟨a, by omega, e⟩
        · intro x hx
          obtain ⟨j, hj, rfl⟩ := List.getElem_of_mem hx
          exact (hf j hj (by omega)).1
      rw [good]
  · rw [isOrd_false (fun h => hn h.1)]
    exact Ev.ite_f (by omega) (Ev.const rfl)
end Go.Proofs.Ytggjdcijplgpdaa.D
