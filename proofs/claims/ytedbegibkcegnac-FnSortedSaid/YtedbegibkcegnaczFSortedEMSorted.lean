import Derived.Test.YtedbegibkcegnaczFSortedEMLem2
import Derived.Test.YtedbegibkcegnaczFSortedEMLem7i
import Derived.Test.YtedbegibkcegnaczFSortedEMSort
import Derived.Test.YtedbegibkcegnaczFSortedEMLem9
import Derived.Test.YtedbegibkcegnaczFSortedERead
import Derived.Test.YtedbegibkcegnaczFSortedESortM
import Derived.Test.YtedbegibkcegnaczFSortedM0
import Derived.Test.YtedbegibkcegnaczFSortedM10
import Derived.Test.YtedbegibkcegnaczFSortedEAreWithin
namespace Go.Proofs.Ytedbegibkcegnac.M
open Go.RowKit Go.Proofs.YtedbegibkcegnacW.PrintWords Go.Proofs.YtedbegibkcegnacW.PrintLast Go.Proofs.YtedbegibkcegnacW.PrintMore
attribute [local go_sem] max2_int min2_int max_two min_two max_three min_three max_four min_four
set_option linter.unusedVariables false
set_option linter.unusedSimpArgs false
theorem flatten_set_eq (y : Int) : ∀ (xs : List (List Int)) (k : Nat), k < xs.length → (xs.set k (xs.getD k [] ++ [y])).flatten.length = xs.flatten.length + 1
  | [], k, h => absurd h (by simp)
  | x :: r, 0, _ => by
    simp only [List.set_cons_zero, List.flatten_cons, List.length_append, List.getD_cons_zero, List.length_singleton]
    omega
  | x :: r, k + 1, h => by
    have := flatten_set_eq y r k (by simpa using h)
    simp only [List.set_cons_succ, List.flatten_cons, List.length_append, List.getD_cons_succ]
    omega
theorem getD_set (xs : List (List Int)) (v : List Int) (q k : Nat) (hq : q < xs.length) : (xs.set q v).getD k [] = if q = k then v else xs.getD k [] := by
  rw [List.getD_eq_getElem?_getD, List.getD_eq_getElem?_getD, List.getElem?_set]
  by_cases e : q = k
  · rw [if_pos e, if_pos e, if_pos hq]
    rfl
  · rw [if_neg e, if_neg e]
structure SortedSo (G s : List Int) (i : Nat) : Prop where
  row : ∀ k : Nat, k < G.length → ((sortTo G s i).1.getD k []).Pairwise (fun a b => a < b) ∧ ∀ x ∈ (sortTo G s i).1.getD k [], (0 ≤ x ∧ x < (i : Int)) ∧ readAt G (rd s x) = (k : Int)
  rest : ∀ x ∈ (sortTo G s i).2, (0 ≤ x ∧ x < (i : Int)) ∧ readAt G (rd s x) < 0
  sum : (sortTo G s i).1.flatten.length + (sortTo G s i).2.length = i
theorem sortedSo (G s : List Int) : ∀ i : Nat, SortedSo G s i
  | 0 => by
    refine ⟨fun k hk => ?_, (fun x hx => by cases hx), ?_⟩
    · have e : (sortTo G s 0).1.getD k [] = [] := by
        rw [sortTo, List.getD_eq_getElem?_getD]
        dsimp only
        rw [List.getElem?_replicate]
        split <;> rfl
      rw [e]
      exact ⟨List.Pairwise.nil, fun x hx => by cases hx⟩
    · rw [sortTo]
      simp
  | i + 1 => by
    have ih := sortedSo G s i
    have hlt := readAt_lt G (rd s (i : Int))
    have hlen := sortTo_len G s i
    by_cases c : readAt G (rd s (i : Int)) < 0
    · have e : sortTo G s (i + 1) = ((sortTo G s i).1, (sortTo G s i).2 ++ [(i : Int)]) := by rw [sortTo, if_pos c]
      refine ⟨fun k hk => ?_, fun x hx => ?_, ?_⟩
      · rw [e]
        obtain ⟨a, b⟩ := ih.row k hk
        exact ⟨a, fun x hx => ⟨⟨(b x hx).1.1, by have := (b x hx).1.2; omega⟩, (b x hx).2⟩⟩
      · rw [e] at hx
        rcases List.mem_append.mp hx with hx | hx
        · have := ih.rest x hx
          exact ⟨⟨this.1.1, by omega⟩, this.2⟩
        · rw [List.mem_singleton] at hx
          subst hx
          exact ⟨⟨by omega, by omega⟩, c⟩
      · rw [e]
        have := ih.sum
        dsimp only
        rw [List.length_append, List.length_singleton]
        omega
    · obtain ⟨q, hq⟩ := Int.eq_ofNat_of_zero_le (show 0 ≤ readAt G (rd s (i : Int)) by omega)
      have hql : q < (sortTo G s i).1.length := by omega
      have e : sortTo G s (i + 1) = ((sortTo G s i).1.set q ((sortTo G s i).1.getD q [] ++ [(i : Int)]), (sortTo G s i).2) := by
        rw [sortTo, if_neg c, hq]
        rfl
      refine ⟨fun k hk => ?_, fun x hx => ?_, ?_⟩
      · rw [e]
        dsimp only
        rw [getD_set _ _ q k hql]
        obtain ⟨a, b⟩ := ih.row k hk
        by_cases z : q = k
        · subst z
          rw [if_pos rfl]
          refine ⟨List.pairwise_append.mpr ⟨a, by simp, fun x hx y hy => ?_⟩, fun x hx => ?_⟩
          · rw [List.mem_singleton] at hy
            have := (b x hx).1.2
            omega
          · rcases List.mem_append.mp hx with hx | hx
            · exact ⟨⟨(b x hx).1.1, by have := (b x hx).1.2; omega⟩, (b x hx).2⟩
            · rw [List.mem_singleton] at hx
              subst hx
              exact ⟨⟨by omega, by omega⟩, hq⟩
        · rw [if_neg z]
          exact ⟨a, fun x hx => ⟨⟨(b x hx).1.1, by have := (b x hx).1.2; omega⟩, (b x hx).2⟩⟩
      · rw [e] at hx
        have := ih.rest x hx
        exact ⟨⟨this.1.1, by omega⟩, this.2⟩
      · rw [e]
        have h1 := ih.sum
        have h2 := flatten_set_eq (i : Int) (sortTo G s i).1 q hql
        dsimp only at h2 ⊢
        omega
def lenTo (ls : List (List Int)) (k : Nat) : Nat := (ls.take k).flatten.length
theorem lenTo_succ (ls : List (List Int)) (k : Nat) (h : k < ls.length) : lenTo ls (k + 1) = lenTo ls k + (ls.getD k []).length := by
  unfold lenTo
  rw [List.take_succ_eq_append_getElem h, List.flatten_append, List.length_append, List.getD_eq_getElem?_getD, List.getElem?_eq_getElem h]
  simp
theorem lenTo_all (ls : List (List Int)) : lenTo ls ls.length = ls.flatten.length := by
  unfold lenTo
  rw [List.take_length]
theorem lenTo_le (ls : List (List Int)) : ∀ d k : Nat, k + d = ls.length → lenTo ls k ≤ ls.flatten.length
  | 0, k, h => by obtain rfl : k = ls.length := by omega
                  rw [lenTo_all]; exact Nat.le_refl _
  | d + 1, k, h => by
    have := lenTo_le ls d (k + 1) (by omega)
    have := lenTo_succ ls k (by omega)
    omega
theorem sortGood_ev (n : Int) (l s : List Int) (hm : l.length ≤ 1048576) (hs : s.length ≤ 1048576) (hv : ∀ m ∈ l, 0 ≤ m ∧ m < 65536) (c1 : listCode n l = 0) (c2 : listCode n s = 0) (hA : Apart l) :
    Ev (fun k => spec_SortByMarks.f k n l s) ((sortTo l s s.length).1, (sortTo l s s.length).2, 0) ∧ Ev (fun k => impl_SortByMarks.f k n l s) ((sortTo l s s.length).1, (sortTo l s s.length).2, 0) := by
  have h1 := specList_ev n l (by omega)
  have h2 := specList_ev n s (by omega)
  have hi := implTwo_ev n l s
  have c : codeTwo n l s = 0 := by
    unfold codeTwo
    rw [if_pos (Or.inr c1), c2]
  obtain ⟨v1, v2⟩ := valid_bd n l hv c1
  obtain ⟨t, ht, hts, hti⟩ := told_both n l (by omega) hv c1
  obtain rfl : t = 0 := by
    rcases ht with ⟨h, _⟩ | ⟨_, a, b, h⟩
    · exact h
    · exact (not_meeting hA h).elim
  rw [c] at hi
  rw [c1] at h1
  rw [c2] at h2
  refine ⟨?_, ?_⟩
  · refine Ev.bind h1 (Ev.bind h2 (Ev.ite_f (by decide) (Ev.step (fun k => by rw [spec_SortByMarks.j0]) (Ev.ite_t (beq_self_eq_true (0 : Int)) (Ev.step (fun k => by rw [spec_SortByMarks.j1]) (Ev.ite_t rfl (Ev.bind hts (specJ2_ev l s v2 hm hs 0 rfl))))))))
  · refine Ev.congr (implSort_eq n l s hm hs) (Ev.bind hi (Ev.ite_t rfl (Ev.bind hti ?_)))
    have := implJ0_ev l s hv hm hs 0
    rw [if_pos rfl] at this
    exact this
theorem readAny_ev (n : Int) (G : List Int) (s : Int) (hm : G.length ≤ 1048576) (hv : ∀ m ∈ G, 0 ≤ m ∧ m < 65536) (hc : listCode n G = 0) (hs : okMark n s = true) (hA : Apart G) : Ev (fun k => impl_ReadStitches.f k n G s) (if readAt G s < 0 then (0, 6) else (readAt G s, 0)) := by
  obtain ⟨R, hR, hE⟩ := implReadS_ev n G s hm hv
  have hc' : codeSeen n G s = 0 := by
    unfold codeSeen
    rw [if_pos hs, hc]
  rcases hR with ⟨h, _⟩ | ⟨_, ⟨⟨a, b, h⟩, _⟩ | ⟨_, ⟨h, rfl⟩ | ⟨h, rfl⟩⟩⟩
  · exact absurd hc' h
  · exact (not_meeting hA h).elim
  · rw [if_pos h]; exact hE
  · rw [if_neg (by omega)]; exact hE
def fits (G : List Int) (m : Int) (k : Nat) : Prop := Go.bits .andNot .u16 m (rd G (k : Int)) = 0
structure LikelySo (G : List Int) (m : Int) (i : Nat) : Prop where
  least : ((likely G m i).1 = -1 ∧ ∀ k, k < i → ¬ fits G m k) ∨ ((0 ≤ (likely G m i).1 ∧ (likely G m i).1 ≤ 16) ∧ ∀ k, k < i → fits G m k → (likely G m i).1 ≤ lostOf (rd G (k : Int)) m)
  mem : ∀ k : Nat, (k : Int) ∈ (likely G m i).2 ↔ k < i ∧ fits G m k ∧ lostOf (rd G (k : Int)) m = (likely G m i).1
theorem lost_bd (G : List Int) (m : Int) (hG : ∀ x ∈ G, 0 ≤ x ∧ x < 65536) (h0 : 0 ≤ m) (k : Nat) (hk : k < G.length) (hf : fits G m k) : 0 ≤ lostOf (rd G (k : Int)) m ∧ lostOf (rd G (k : Int)) m ≤ 16 := by
  unfold fits at hf
  rw [rd_of_lt G k hk] at hf ⊢
  have hx := hG _ (List.getElem_mem hk)
  obtain ⟨a, ha⟩ := Int.eq_ofNat_of_zero_le hx.1
  obtain ⟨b, rfl⟩ := Int.eq_ofNat_of_zero_le h0
  rw [ha] at hf ⊢
  have h1 := lost_nonneg a b hf
  have h2 := sumBits_bd (a : Int) 16
  have h3 := sumBits_bd (b : Int) 16
  refine ⟨h1, ?_⟩
  unfold lostOf
  omega
theorem likelySo (G : List Int) (m : Int) (hG : ∀ x ∈ G, 0 ≤ x ∧ x < 65536) (h0 : 0 ≤ m) : ∀ i : Nat, i ≤ G.length → LikelySo G m i
  | 0, _ => ⟨.inl ⟨rfl, fun k hk => by omega⟩, fun k => ⟨fun h => (by cases h), fun h => by omega⟩⟩
  | i + 1, hi => by
    have ih := likelySo G m hG h0 i (by omega)
    obtain ⟨hl, hm⟩ := ih
    have e : likely G m (i + 1) = if Go.bits .andNot .u16 m (rd G (i : Nat)) = 0 then (if (likely G m i).1 < 0 ∨ lostOf (rd G (i : Nat)) m < (likely G m i).1 then (lostOf (rd G (i : Nat)) m, [(i : Int)]) else if lostOf (rd G (i : Nat)) m = (likely G m i).1 then ((likely G m i).1, (likely G m i).2 ++ [(i : Int)]) else likely G m i) else likely G m i := rfl
    generalize likely G m i = p at hl hm e
    by_cases f : fits G m i
    · have lb := lost_bd G m hG h0 i (by omega) f
      rw [if_pos (show Go.bits .andNot .u16 m (rd G (i : Nat)) = 0 from f)] at e
      by_cases c : p.1 < 0 ∨ lostOf (rd G (i : Nat)) m < p.1
      · rw [if_pos c] at e
        refine ⟨.inr ⟨by rw [e]; exact lb, fun k hk hf => ?_⟩, fun k => ?_⟩
        · rw [e]
          dsimp only
          by_cases z : k = i
          · subst z; exact Int.le_refl _
          · rcases hl with ⟨h1, h2⟩ | ⟨h1, h2⟩
            · exact absurd hf (h2 k (by omega))
            · have := h2 k (by omega) hf
              omega
        · rw [e]
          dsimp only
          rw [List.mem_singleton]
          constructor
          · intro h
            obtain rfl : k = i := by omega
            exact ⟨by omega, f, rfl⟩
          · rintro ⟨h1, h2, h3⟩
            by_cases z : k = i
            · rw [z]
            · exfalso
              rcases hl with ⟨q1, q2⟩ | ⟨q1, q2⟩
              · exact q2 k (by omega) h2
              · have := q2 k (by omega) h2
                omega
      · rw [if_neg c] at e
        have hp : 0 ≤ p.1 ∧ p.1 ≤ lostOf (rd G (i : Nat)) m := ⟨by omega, by omega⟩
        rcases hl with ⟨q1, q2⟩ | ⟨q1, q2⟩
        · omega
        by_cases d : lostOf (rd G (i : Nat)) m = p.1
        · rw [if_pos d] at e
          refine ⟨.inr ⟨by rw [e]; exact q1, fun k hk hf => ?_⟩, fun k => ?_⟩
          · rw [e]
            dsimp only
            by_cases z : k = i
            · subst z; exact hp.2
            · exact q2 k (by omega) hf
          · rw [e]
            dsimp only
            rw [List.mem_append, List.mem_singleton, hm k]
            constructor
            · rintro (h | h)
              · exact ⟨by omega, h.2.1, h.2.2⟩
              · obtain rfl : k = i := by omega
                exact ⟨by omega, f, d⟩
            · rintro ⟨h1, h2, h3⟩
              by_cases z : k = i
              · exact .inr (by rw [z])
              · exact .inl ⟨by omega, h2, h3⟩
        · rw [if_neg d] at e
          refine ⟨.inr ⟨by rw [e]; exact q1, fun k hk hf => ?_⟩, fun k => ?_⟩
          · rw [e]
            by_cases z : k = i
            · subst z; exact hp.2
            · exact q2 k (by omega) hf
          · rw [e, hm k]
            constructor
            · rintro ⟨h1, h2, h3⟩
              exact ⟨by omega, h2, h3⟩
            · rintro ⟨h1, h2, h3⟩
              by_cases z : k = i
              · subst z; exact absurd h3 d
              · exact ⟨by omega, h2, h3⟩
    · rw [if_neg (show ¬ Go.bits .andNot .u16 m (rd G (i : Nat)) = 0 from f)] at e
      refine ⟨?_, fun k => ?_⟩
      · rw [e]
        rcases hl with ⟨q1, q2⟩ | ⟨q1, q2⟩
        · refine .inl ⟨q1, fun k hk hf => ?_⟩
          by_cases z : k = i
          · subst z; exact f hf
          · exact q2 k (by omega) hf
        · refine .inr ⟨q1, fun k hk hf => ?_⟩
          by_cases z : k = i
          · subst z; exact absurd hf f
          · exact q2 k (by omega) hf
      · rw [e, hm k]
        constructor
        · rintro ⟨h1, h2, h3⟩
          exact ⟨by omega, h2, h3⟩
        · rintro ⟨h1, h2, h3⟩
          by_cases z : k = i
          · subst z; exact absurd h2 f
          · exact ⟨by omega, h2, h3⟩
def chkPair : Bool := (List.range 128).all fun a => (List.range 128).all fun b => decide (2 ≤ sumBits (Go.bits .xor .u16 (a : Int) (b : Int)) 7) || meets (b : Int) (a : Int)
theorem chkPair_all : chkPair = true := by decide +kernel
theorem sumBits_mono (x : Int) : ∀ d n : Nat, sumBits x n ≤ sumBits x (n + d)
  | 0, n => Int.le_refl _
  | d + 1, n => by
    have h1 := sumBits_mono x d n
    have h2 := bitAt_01 x (n + d)
    have e : sumBits x (n + (d + 1)) = sumBits x (n + d) + bitAt x (n + d) := rfl
    omega
theorem apart_two (a b : Int) (ha : 0 ≤ a ∧ a < 128) (hb : 0 ≤ b ∧ b < 128) (h : meets b a = false) : 2 ≤ sumBits (Go.bits .xor .u16 a b) 16 := by
  obtain ⟨x, rfl⟩ := Int.eq_ofNat_of_zero_le ha.1
  obtain ⟨y, rfl⟩ := Int.eq_ofNat_of_zero_le hb.1
  have h1 := List.all_eq_true.mp (List.all_eq_true.mp chkPair_all x (List.mem_range.mpr (by omega))) y (List.mem_range.mpr (by omega))
  rw [h, Bool.or_false] at h1
  have := of_decide_eq_true h1
  have : sumBits (Go.bits .xor .u16 (x : Int) (y : Int)) 7 ≤ sumBits (Go.bits .xor .u16 (x : Int) (y : Int)) 16 := sumBits_mono (Go.bits .xor .u16 (x : Int) (y : Int)) 9 7
  omega
theorem leastRow_two (G : List Int) (hb : ∀ x ∈ G, 0 ≤ x ∧ x < 128) (hA : Apart G) (hs : ∀ a b : Nat, b < a → a < G.length → 2 ≤ sumBits (Go.bits .xor .u16 (rd G (a : Int)) (rd G (b : Int))) 16) (i : Nat) (hi : i < G.length) (c : Int) (hc : c = -1 ∨ 2 ≤ c) : ∀ j, j ≤ i → (leastRow G i c j = -1 ∨ 2 ≤ leastRow G i c j) ∧ (0 < j → 2 ≤ leastRow G i c j)
  | 0, _ => ⟨hc, fun h => by omega⟩
  | j + 1, hj => by
    have ih := leastRow_two G hb hA hs i hi c hc j (by omega)
    have h2 := hs i j (by omega) hi
    have e : leastRow G i c (j + 1) = updL (leastRow G i c j) (sumBits (Go.bits .xor .u16 (rd G (i : Nat)) (rd G (j : Nat))) 16) := rfl
    rw [e]
    unfold updL
    have : ∀ p t : Int, (p = -1 ∨ 2 ≤ p) → 2 ≤ t → 2 ≤ (if p < 0 then t else if t < p then t else p) := by
      intro p t h1 h2
      (repeat' split) <;> omega
    have g := this _ _ ih.1 h2
    exact ⟨.inr g, fun _ => g⟩
theorem leastTo_two (G : List Int) (hb : ∀ x ∈ G, 0 ≤ x ∧ x < 128) (hA : Apart G) (hs : ∀ a b : Nat, b < a → a < G.length → 2 ≤ sumBits (Go.bits .xor .u16 (rd G (a : Int)) (rd G (b : Int))) 16) : ∀ i, i ≤ G.length → (leastTo G i = -1 ∨ 2 ≤ leastTo G i) ∧ (1 < i → 2 ≤ leastTo G i)
  | 0, _ => ⟨.inl rfl, fun h => by omega⟩
  | i + 1, hi => by
    have ih := leastTo_two G hb hA hs i (by omega)
    have g := leastRow_two G hb hA hs i (by omega) (leastTo G i) ih.1 i (Nat.le_refl _)
    have e : leastTo G (i + 1) = leastRow G i (leastTo G i) i := rfl
    rw [e]
    exact ⟨g.1, fun h => g.2 (by omega)⟩
theorem far_two (G : List Int) (hb : ∀ x ∈ G, 0 ≤ x ∧ x < 128) (hA : Apart G) (a b : Nat) (hab : b < a) (ha : a < G.length) : 2 ≤ sumBits (Go.bits .xor .u16 (rd G (a : Int)) (rd G (b : Int))) 16 := by
  have hm := hA b a hab ha
  rw [rd_of_lt G a ha, rd_of_lt G b (by omega)]
  exact apart_two _ _ (hb _ (List.getElem_mem _)) (hb _ (List.getElem_mem _)) hm
end Go.Proofs.Ytedbegibkcegnac.M
