import Derived.Test.YtcmcdjnjlimeeaazFMarksEEvLoop
import Derived.Test.YtcmcdjnjlimeeaazFMarksEMDraw
import Derived.Test.YtcmcdjnjlimeeaazFMarksEMFine2a
import Derived.Test.YtcmcdjnjlimeeaazFMarksEMLem
import Derived.Test.YtcmcdjnjlimeeaazFMarksEMLem2
import Derived.Test.YtcmcdjnjlimeeaazFMarksEMLem3
import Derived.Test.YtcmcdjnjlimeeaazFMarksEMLem4a
import Derived.Test.YtcmcdjnjlimeeaazFMarksEMLem5a
import Derived.Test.YtcmcdjnjlimeeaazFMarksEMLem6
import Derived.Test.YtcmcdjnjlimeeaazFMarksEMLem7i
import Derived.Test.YtcmcdjnjlimeeaazFMarksEMLemA
import Derived.Test.YtcmcdjnjlimeeaazFMarksEMarkCode
import Derived.Test.YtcmcdjnjlimeeaazFMarksEPredMark
import Derived.Test.YtcmcdjnjlimeeaazFMarksM0
import Derived.Test.YtcmcdjnjlimeeaazFMarksM1
import Derived.Test.YtcmcdjnjlimeeaazFMarksM2
import Derived.Test.YtcmcdjnjlimeeaazFMarksM3
namespace Go.Proofs.Ytcmcdjnjlimeeaa.M
open Go.RowKit Go.Proofs.YtcmcdjnjlimeeaaW.PrintWords Go.Proofs.YtcmcdjnjlimeeaaW.PrintLast Go.Proofs.YtcmcdjnjlimeeaaW.PrintMore
attribute [local go_sem] max2_int min2_int max_two min_two max_three min_three max_four min_four
set_option linter.unusedVariables false
set_option linter.unusedSimpArgs false
theorem seenSelf (m : Int) : ∀ n, m ∈ seenOf m n
  | 0 => List.mem_singleton.mpr rfl
  | n + 1 => by
    have := seenSelf m n
    unfold seenOf
    split
    · exact List.mem_append_left _ this
    · exact this
theorem meets_self (m : Int) : meets m m = true := by
  unfold meets
  exact List.any_eq_true.mpr ⟨m, seenSelf m 12, List.contains_iff_mem.mpr (seenSelf m 12)⟩
theorem meets_of {a b s : Int} (h1 : s ∈ seenOf a 12) (h2 : s ∈ seenOf b 12) : meets a b = true :=
  List.any_eq_true.mpr ⟨s, h1, List.contains_iff_mem.mpr h2⟩
structure Taken (n : Nat) (most : Int) (q : Nat) (G : List Int) : Prop where
  down : G.Pairwise (fun a b => b < a)
  bd : ∀ x ∈ G, (q : Int) ≤ x ∧ x < 2 ^ n
  apart : G.Pairwise (fun a b => meets a b = false)
  short : (G.length : Int) ≤ most
  full : (G.length : Int) < most → ∀ x : Nat, q ≤ x → (x : Int) < 2 ^ n → G.any (fun y => meets y (x : Int)) = true
theorem greedy_taken (n : Nat) (most : Int) : ∀ (q : Nat) (out : List Int), (q : Int) ≤ 2 ^ n → Taken n most q out → Taken n most 0 (greedy most q out)
  | 0, out, _, h => h
  | q + 1, out, hq, h => by
    unfold greedy
    have hbd : ∀ x ∈ out, ((q : Nat) : Int) ≤ x ∧ x < 2 ^ n := fun x hx => ⟨by have := (h.bd x hx).1; omega, (h.bd x hx).2⟩
    split
    · next hl =>
      cases ha : out.any (fun x => meets x (q : Int)) with
      | true =>
        rw [if_pos rfl]
        refine greedy_taken n most q out (by omega) ⟨h.down, hbd, h.apart, h.short, fun hlt x h1 h2 => ?_⟩
        by_cases e : x = q
        · subst e; exact ha
        · exact h.full hlt x (by omega) h2
      | false =>
        rw [if_neg (by decide)]
        refine greedy_taken n most q _ (by omega) ⟨?_, ?_, ?_, ?_, fun _ x h1 h2 => ?_⟩
        · refine List.pairwise_append.mpr ⟨h.down, by simp, fun a ha b hb => ?_⟩
          rw [List.mem_singleton] at hb
          have := (h.bd a ha).1
          omega
        · intro x hx
          rcases List.mem_append.mp hx with hx | hx
          · exact hbd x hx
          · rw [List.mem_singleton] at hx
            subst hx
            exact ⟨Int.le_refl _, by omega⟩
        · refine List.pairwise_append.mpr ⟨h.apart, by simp, fun a hm b hb => ?_⟩
          rw [List.mem_singleton] at hb
          subst hb
          cases hk : meets a (q : Int) with
          | false => rfl
          | true => rw [List.any_eq_true.mpr ⟨a, hm, hk⟩] at ha; cases ha
        · rw [List.length_append, List.length_singleton]; omega
        · rw [List.any_append]
          by_cases e : x = q
          · subst e
            simp [meets_self]
          · rw [h.full hl x (by omega) h2, Bool.true_or]
    · next hl =>
      exact ⟨h.down, fun x hx => ⟨by have := (h.bd x hx).1; omega, (h.bd x hx).2⟩, h.apart, h.short, fun hlt => absurd hlt hl⟩
theorem greedy_all (n : Nat) (most : Int) (hm : 0 ≤ most) : Taken n most 0 (greedy most (2 ^ n) []) := by
  refine greedy_taken n most (2 ^ n) [] (by have := pow_nat n; omega) ⟨List.Pairwise.nil, (fun x hx => by cases hx), List.Pairwise.nil, hm, fun _ x h1 h2 => ?_⟩
  have := pow_nat n
  omega
theorem apart_of {G : List Int} (h : G.Pairwise (fun a b => meets a b = false)) : Apart G :=
  fun a b hab hb => List.pairwise_iff_getElem.mp h a b (by omega) hb hab
theorem apart_to {G : List Int} (h : Apart G) : G.Pairwise (fun a b => meets a b = false) :=
  List.pairwise_iff_getElem.mpr fun a b _ hb hab => h a b hab hb
theorem not_meeting {G : List Int} (h : Apart G) {a b : Nat} (k : Meeting G a b) : False := by
  obtain ⟨hab, hb, hm⟩ := k
  rw [h a b hab hb] at hm
  cases hm
def chkFew : Bool := (List.range 128).all fun m => decide (sumBits (m : Int) 16 + 1 = ((seenOf (m : Int) 12).length : Int)) && (List.range (seenOf (m : Int) 12).length).all fun i => (decide (sumBits (Go.bits .xor .u16 (m : Int) ((seenOf (m : Int) 12).getD i 0)) 16 ≤ 1) && decide ((sumBits (Go.bits .xor .u16 (m : Int) ((seenOf (m : Int) 12).getD i 0)) 16 == 0) = ((i : Int) == 0)) && decide (Go.bits .andNot .u16 ((seenOf (m : Int) 12).getD i 0) (m : Int) = 0) && decide (0 ≤ (seenOf (m : Int) 12).getD i 0) && decide ((seenOf (m : Int) 12).getD i 0 ≤ (m : Int)))
theorem chkFew_all : chkFew = true := by decide +kernel
theorem few_count (m : Nat) (h : m < 128) : sumBits (m : Int) 16 + 1 = ((seenOf (m : Int) 12).length : Int) := by
  have h1 := List.all_eq_true.mp chkFew_all m (List.mem_range.mpr h)
  rw [Bool.and_eq_true] at h1
  exact of_decide_eq_true h1.1
theorem few_seen (m : Nat) (h : m < 128) (i : Nat) (hi : i < (seenOf (m : Int) 12).length) : sumBits (Go.bits .xor .u16 (m : Int) (rd (seenOf (m : Int) 12) (i : Int))) 16 ≤ 1 ∧ (sumBits (Go.bits .xor .u16 (m : Int) (rd (seenOf (m : Int) 12) (i : Int))) 16 == 0) = ((i : Int) == 0) ∧ Go.bits .andNot .u16 (rd (seenOf (m : Int) 12) (i : Int)) (m : Int) = 0 ∧ 0 ≤ rd (seenOf (m : Int) 12) (i : Int) ∧ rd (seenOf (m : Int) 12) (i : Int) ≤ (m : Int) := by
  have h1 := List.all_eq_true.mp chkFew_all m (List.mem_range.mpr h)
  rw [Bool.and_eq_true] at h1
  have h2 := List.all_eq_true.mp h1.2 i (List.mem_range.mpr hi)
  simp only [Bool.and_eq_true, decide_eq_true_eq] at h2
  obtain ⟨⟨⟨⟨a, b⟩, c⟩, d⟩, e⟩ := h2
  have er : rd (seenOf (m : Int) 12) (i : Int) = (seenOf (m : Int) 12).getD i 0 := by
    show (seenOf (m : Int) 12).getD (i : Int).toNat 0 = _
    rw [Int.toNat_natCast]
  rw [er]
  exact ⟨a, b, c, d, e⟩
theorem few_mem (m : Nat) (h : m < 128) (s : Int) (hs : s ∈ seenOf (m : Int) 12) : 0 ≤ s ∧ s ≤ (m : Int) := by
  obtain ⟨i, hi, rfl⟩ := List.getElem_of_mem hs
  have := few_seen m h i hi
  rw [rd_of_lt _ i hi] at this
  exact this.2.2.2
theorem okFew (n : Nat) (hn : 1 ≤ n ∧ n ≤ 12) (x : Int) (h0 : 0 ≤ x) (h : x < 2 ^ n) : okMark (n : Int) x = true := by
  rw [okMark_iff _ _ h0]
  exact ⟨by omega, by omega, by rw [Int.toNat_natCast]; exact h⟩
theorem listOk (n : Nat) (hn : 1 ≤ n ∧ n ≤ 12) (l : List Int) (hl : l.length ≤ 40) (h : ∀ x ∈ l, 0 ≤ x ∧ x < 2 ^ n) : listCode (n : Int) l = 0 := by
  unfold listCode
  rw [if_pos (by omega), if_neg, if_neg (by omega)]
  intro ha
  obtain ⟨x, hx, hk⟩ := List.any_eq_true.mp ha
  rw [okFew n hn x (h x hx).1 (h x hx).2] at hk
  exact absurd hk (by decide)
theorem text_size (m n : Nat) : (strOfNums (markNums m n)).size = n := by
  have h := congrArg List.length (text_list m n)
  rw [ByteArray.toList_eq, Array.length_toList, List.length_map, markNums_len] at h
  exact h
theorem text_bt (m n i : Nat) (hi : i < n) : bt (strOfNums (markNums m n)) (i : Nat) = if m.testBit i = true then 43 else 46 := by
  have hs := text_size m n
  have h := list_at (strOfNums (markNums m n)) i (by omega)
  rw [text_list, List.getElem?_map, List.getElem?_eq_getElem (by rw [markNums_len]; exact hi), markNums_at _ _ _ hi] at h
  simp only [Option.map_some, Option.some.injEq] at h
  rw [bt_nat _ i (by omega), ← h]
  cases m.testBit i <;> rfl
theorem told_text (m n : Nat) (hm : m < 2 ^ n) : markTold (strOfNums (markNums m n)) n = m := by
  refine Nat.eq_of_testBit_eq fun i => ?_
  by_cases hi : i < n
  · rw [markTold_bit _ n i hi, text_bt m n i hi]
    cases h : m.testBit i
    · rfl
    · rfl
  · have h1 := markTold_lt (strOfNums (markNums m n)) n
    have h2 : 2 ^ n ≤ 2 ^ i := Nat.pow_le_pow_right (by decide) (by omega)
    rw [Nat.testBit_lt_two_pow (by omega), Nat.testBit_lt_two_pow (by omega)]
theorem textOf_ev (m n : Nat) (hm : m < 2 ^ n) (hn : 1 ≤ n ∧ n ≤ 12) : Ev (fun k => impl_MarkText.f k (n : Int) (m : Int)) (strOfNums (markNums m n)) := by
  have hp := pow_nat_le n hn.2
  have hpn := pow_nat n
  refine Ev.congr (fun k => ?_) (text_ev m n (by omega) hn.2 n 0 (by omega))
  unfold impl_MarkText.f
  rw [valid_f, okFew n hn (m : Int) (by omega) (by omega)]
  rfl
theorem readText_ev (m n : Nat) (hm : m < 2 ^ n) (hn : 1 ≤ n ∧ n ≤ 12) : Ev (fun k => impl_ReadMark.f k (strOfNums (markNums m n))) ((m : Int), (n : Int), 0) := by
  have hs := text_size m n
  have ht := told_text m n hm
  have tx := textOf_ev m n hm hn
  generalize hS : strOfNums (markNums m n) = S at hs ht tx
  have e1 : ∀ k, impl_ReadMark.f k S = impl_ReadMark.l0 k S ((markTold S 0 : Nat) : Int) (n : Int) (n : Int) ((0 : Nat) : Int) := by
    intro k
    unfold impl_ReadMark.f
    rw [hs, show mn (n : Int) 12 = (n : Int) by unfold mn; rw [if_neg (by omega)]]
    rfl
  refine Ev.congr e1 (implRM_ev S n hs n (Nat.le_refl _) hn.2 _ ?_ n 0 (by omega))
  rw [ht]
  exact Ev.ite_f (by omega) (Ev.bind tx (Ev.ite_t rfl (Ev.const rfl)))
theorem readAt_of (G : List Int) (hA : Apart G) (i : Nat) (hi : i < G.length) (s : Int) (hs : s ∈ seenOf G[i] 12) : readAt G s = (i : Int) := by
  unfold readAt
  refine idxP_hit _ G i hi (by rw [rd_of_lt G i hi]; exact List.contains_iff_mem.mpr hs) fun j hj => ?_
  rw [rd_of_lt G j (by omega)]
  cases hc : (seenOf (G[j]'(by omega)) 12).contains s with
  | false => rfl
  | true =>
    have := hA j i hj hi
    rw [meets_of (List.contains_iff_mem.mp hc) hs] at this
    cases this
theorem pick_small (l : List Int) (i : Nat) (hi : i ≤ 100000) (x : Int) : ∃ t y, spec_l00Src_pick.f l (i : Int) x 6 = some (t, ((i + 1 : Nat) : Int), y) ∧ t ≤ 5 := by
  obtain ⟨r, y, h⟩ := next_f l i hi x
  refine ⟨Int.tmod r 6, y, ?_, ?_⟩
  · unfold spec_l00Src_pick.f
    rw [if_neg (by decide), h, Option.bind_some, if_neg (by decide), if_neg (by decide)]
  · have := Int.tmod_lt_of_pos r (show (0 : Int) < 6 by decide)
    omega
theorem pick_great (l : List Int) (i : Nat) (hi : i ≤ 90000) (x : Int) : ∃ t y, spec_l00Src_pick.f l (i : Int) x 65536 = some (t, ((i + 2 : Nat) : Int), y) := by
  obtain ⟨r1, y1, h1⟩ := next_f l i (by omega) x
  obtain ⟨r2, y2, h2⟩ := next_f l (i + 1) (by omega) y1
  refine ⟨Int.tmod (wrap64 ((wrap64 (r1 * 256)) + r2)) 65536, y2, ?_⟩
  unfold spec_l00Src_pick.f
  rw [if_neg (by decide), h1, Option.bind_some, if_pos (by decide), h2, Option.bind_some, if_neg (by decide)]
theorem a2marks_ev (l : List Int) (n : Nat) (hn : n ≤ 12) : ∃ R, Ev (fun k => spec_A2Marks.f k l (n : Int)) R ∧ R.length ≤ 5 ∧ ∀ x ∈ R, 0 ≤ x ∧ x < 2 ^ n := by
  obtain ⟨t, y, hp, ht⟩ := pick_small l 0 (by omega) 0
  have hs : IntKind.u16.wrap (shl .u16 1 (n : Int) - 1) = (2 : Int) ^ n - 1 := by
    have : ∀ q : Fin 13, IntKind.u16.wrap (shl .u16 1 ((q.val : Nat) : Int) - 1) = (2 : Int) ^ q.val - 1 := by decide +kernel
    exact this ⟨n, by omega⟩
  have L : ∀ (d : Nat) (t : Int) (i : Nat) (y : Int) (out : List Int), t ≤ (d : Int) → d ≤ 5 → i + 2 * d ≤ 1000 → out.length + d ≤ 5 → (∀ x ∈ out, 0 ≤ x ∧ x < 2 ^ n) → ∃ R, Ev (fun k => spec_A2Marks.l0 k (n : Int) out t l (i : Int) y) R ∧ R.length ≤ 5 ∧ ∀ x ∈ R, 0 ≤ x ∧ x < 2 ^ n := by
    intro d
    induction d with
    | zero =>
      intro t i y out ht _ _ ho hx
      exact ⟨out, Ev.step (f := fun _ => some out) (fun k => by rw [spec_A2Marks.l0, if_neg (by omega)]) (Ev.const rfl), by omega, hx⟩
    | succ d ih =>
      intro t i y out ht hd hi ho hx
      by_cases c : t > 0
      · obtain ⟨v, z, hv⟩ := pick_great l i (by omega) y
        have hA := and_low _ (wrap_u16_bd v) n hn
        obtain ⟨R, hR, h1, h2⟩ := ih (t - 1) (i + 2) z (out ++ [Go.bits .and .u16 (IntKind.u16.wrap v) ((2 : Int) ^ n - 1)]) (by omega) (by omega) (by omega) (by rw [List.length_append, List.length_singleton]; omega) (fun x hm => by
          rcases List.mem_append.mp hm with hm | hm
          · exact hx x hm
          · rw [List.mem_singleton] at hm
            subst hm
            exact hA)
        refine ⟨R, Ev.step (f := fun k => spec_A2Marks.l0 k (n : Int) (out ++ [Go.bits .and .u16 (IntKind.u16.wrap v) ((2 : Int) ^ n - 1)]) (t - 1) l ((i + 2 : Nat) : Int) z) (fun k => ?_) hR, h1, h2⟩
        rw [spec_A2Marks.l0, if_pos c, hv, Option.bind_some, u64_nat n (by omega), if_pos (by omega), if_pos (by omega), hs, w64 (t - 1) (by omega) (by omega)]
      · exact ⟨out, Ev.step (f := fun _ => some out) (fun k => by rw [spec_A2Marks.l0, if_neg c]) (Ev.const rfl), by omega, hx⟩
  obtain ⟨R, hR, h1, h2⟩ := L 5 t 1 y [] ht (by omega) (by omega) (by simp) (fun x hx => by cases hx)
  refine ⟨R, Ev.congr (fun k => ?_) hR, h1, h2⟩
  unfold spec_A2Marks.f spec_l00From.f
  rw [Option.bind_some, show spec_l00Src_pick.f l 0 0 6 = _ from hp, Option.bind_some]
end Go.Proofs.Ytcmcdjnjlimeeaa.M
