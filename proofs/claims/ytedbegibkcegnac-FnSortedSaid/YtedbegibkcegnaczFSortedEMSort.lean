import Derived.Test.YtedbegibkcegnaczFSortedEMLem2
import Derived.Test.YtedbegibkcegnaczFSortedEMLem7i
import Derived.Test.YtedbegibkcegnaczFSortedERead
import Derived.Test.YtedbegibkcegnaczFSortedEPredMark
import Derived.Test.YtedbegibkcegnaczFSortedM0
import Derived.Test.YtedbegibkcegnaczFSortedM2
import Derived.Test.YtedbegibkcegnaczFSortedM3
import Derived.Test.YtedbegibkcegnaczFSortedEAreWithin
import Derived.Test.YtedbegibkcegnaczFSortedEConcat
import Derived.Test.YtedbegibkcegnaczFSortedM1
import Derived.Test.YtedbegibkcegnaczFSortedM13
import Derived.Test.YtedbegibkcegnaczFSortedM14
import Derived.Test.YtedbegibkcegnaczFSortedECloneMark
import Derived.Test.YtedbegibkcegnaczFSortedM9
import Derived.Test.YtedbegibkcegnaczFSortedESortM
import Derived.Test.YtedbegibkcegnaczFSortedM10
section
namespace Go.Proofs.Ytedbegibkcegnac.M
open Go.RowKit Go.Proofs.YtedbegibkcegnacW.PrintWords Go.Proofs.YtedbegibkcegnacW.PrintLast Go.Proofs.YtedbegibkcegnacW.PrintMore
attribute [local go_sem] max2_int min2_int max_two min_two max_three min_three max_four min_four
set_option linter.unusedVariables false
set_option linter.unusedSimpArgs false
theorem seenSelf (m : Int) : ∀ n, m ∈ seenOf m n
  | 0 => List.mem_singleton.mpr rfl
  | n + 1 => by
    have := seenSelf m n
    unfold seenOf
    split
    · exact List.mem_append_left _ this
    · exact this
theorem meets_self (m : Int) : meets m m = true := by
  unfold meets
  exact List.any_eq_true.mpr ⟨m, seenSelf m 12, List.contains_iff_mem.mpr (seenSelf m 12)⟩
structure Taken (n : Nat) (most : Int) (q : Nat) (G : List Int) : Prop where
  down : G.Pairwise (fun a b => b < a)
  bd : ∀ x ∈ G, (q : Int) ≤ x ∧ x < 2 ^ n
  apart : G.Pairwise (fun a b => meets a b = false)
  short : (G.length : Int) ≤ most
  full : (G.length : Int) < most → ∀ x : Nat, q ≤ x → (x : Int) < 2 ^ n → G.any (fun y => meets y (x : Int)) = true
theorem greedy_taken (n : Nat) (most : Int) : ∀ (q : Nat) (out : List Int), (q : Int) ≤ 2 ^ n → Taken n most q out → Taken n most 0 (greedy most q out)
  | 0, out, _, h => h
  | q + 1, out, hq, h => by
    unfold greedy
    have hbd : ∀ x ∈ out, ((q : Nat) : Int) ≤ x ∧ x < 2 ^ n := fun x hx => ⟨by have := (h.bd x hx).1; omega, (h.bd x hx).2⟩
    split
    · next hl =>
      cases ha : out.any (fun x => meets x (q : Int)) with
      | true =>
        rw [if_pos rfl]
        refine greedy_taken n most q out (by omega) ⟨h.down, hbd, h.apart, h.short, fun hlt x h1 h2 => ?_⟩
        by_cases e : x = q
        · subst e; exact ha
        · exact h.full hlt x (by omega) h2
      | false =>
        rw [if_neg (by decide)]
        refine greedy_taken n most q _ (by omega) ⟨?_, ?_, ?_, ?_, fun _ x h1 h2 => ?_⟩
        · refine List.pairwise_append.mpr ⟨h.down, by simp, fun a ha b hb => ?_⟩
          rw [List.mem_singleton] at hb
          have := (h.bd a ha).1
          omega
        · intro x hx
          rcases List.mem_append.mp hx with hx | hx
          · exact hbd x hx
          · rw [List.mem_singleton] at hx
            subst hx
            exact ⟨Int.le_refl _, by omega⟩
        · refine List.pairwise_append.mpr ⟨h.apart, by simp, fun a hm b hb => ?_⟩
          rw [List.mem_singleton] at hb
          subst hb
          cases hk : meets a (q : Int) with
          | false => rfl
          | true => rw [List.any_eq_true.mpr ⟨a, hm, hk⟩] at ha; cases ha
        · rw [List.length_append, List.length_singleton]; omega
        · rw [List.any_append]
          by_cases e : x = q
          · subst e
            simp [meets_self]
          · rw [h.full hl x (by omega) h2, Bool.true_or]
    · next hl =>
      exact ⟨h.down, fun x hx => ⟨by have := (h.bd x hx).1; omega, (h.bd x hx).2⟩, h.apart, h.short, fun hlt => absurd hlt hl⟩
theorem greedy_all (n : Nat) (most : Int) (hm : 0 ≤ most) : Taken n most 0 (greedy most (2 ^ n) []) := by
  refine greedy_taken n most (2 ^ n) [] (by have := pow_nat n; omega) ⟨List.Pairwise.nil, (fun x hx => by cases hx), List.Pairwise.nil, hm, fun _ x h1 h2 => ?_⟩
  have := pow_nat n
  omega
theorem apart_of {G : List Int} (h : G.Pairwise (fun a b => meets a b = false)) : Apart G :=
  fun a b hab hb => List.pairwise_iff_getElem.mp h a b (by omega) hb hab
theorem not_meeting {G : List Int} (h : Apart G) {a b : Nat} (k : Meeting G a b) : False := by
  obtain ⟨hab, hb, hm⟩ := k
  rw [h a b hab hb] at hm
  cases hm
theorem okFew (n : Nat) (hn : 1 ≤ n ∧ n ≤ 12) (x : Int) (h0 : 0 ≤ x) (h : x < 2 ^ n) : okMark (n : Int) x = true := by
  rw [okMark_iff _ _ h0]
  exact ⟨by omega, by omega, by rw [Int.toNat_natCast]; exact h⟩
theorem listOk (n : Nat) (hn : 1 ≤ n ∧ n ≤ 12) (l : List Int) (hl : l.length ≤ 40) (h : ∀ x ∈ l, 0 ≤ x ∧ x < 2 ^ n) : listCode (n : Int) l = 0 := by
  unfold listCode
  rw [if_pos (by omega), if_neg, if_neg (by omega)]
  intro ha
  obtain ⟨x, hx, hk⟩ := List.any_eq_true.mp ha
  rw [okFew n hn x (h x hx).1 (h x hx).2] at hk
  exact absurd hk (by decide)
theorem pick_small (l : List Int) (i : Nat) (hi : i ≤ 100000) (x : Int) : ∃ t y, spec_l00Src_pick.f l (i : Int) x 6 = some (t, ((i + 1 : Nat) : Int), y) ∧ t ≤ 5 := by
  obtain ⟨r, y, h⟩ := next_f l i hi x
  refine ⟨Int.tmod r 6, y, ?_, ?_⟩
  · unfold spec_l00Src_pick.f
    rw [if_neg (by decide), h, Option.bind_some, if_neg (by decide), if_neg (by decide)]
  · have := Int.tmod_lt_of_pos r (show (0 : Int) < 6 by decide)
    omega
theorem pick_great (l : List Int) (i : Nat) (hi : i ≤ 90000) (x : Int) : ∃ t y, spec_l00Src_pick.f l (i : Int) x 65536 = some (t, ((i + 2 : Nat) : Int), y) := by
  obtain ⟨r1, y1, h1⟩ := next_f l i (by omega) x
  obtain ⟨r2, y2, h2⟩ := next_f l (i + 1) (by omega) y1
  refine ⟨Int.tmod (wrap64 ((wrap64 (r1 * 256)) + r2)) 65536, y2, ?_⟩
  unfold spec_l00Src_pick.f
  rw [if_neg (by decide), h1, Option.bind_some, if_pos (by decide), h2, Option.bind_some, if_neg (by decide)]
theorem a2marks_ev (l : List Int) (n : Nat) (hn : n ≤ 12) : ∃ R, Ev (fun k => spec_A2Marks.f k l (n : Int)) R ∧ R.length ≤ 5 ∧ ∀ x ∈ R, 0 ≤ x ∧ x < 2 ^ n := by
  obtain ⟨t, y, hp, ht⟩ := pick_small l 0 (by omega) 0
  have hs : IntKind.u16.wrap (shl .u16 1 (n : Int) - 1) = (2 : Int) ^ n - 1 := by
    have : ∀ q : Fin 13, IntKind.u16.wrap (shl .u16 1 ((q.val : Nat) : Int) - 1) = (2 : Int) ^ q.val - 1 := by decide +kernel
    exact this ⟨n, by omega⟩
  have L : ∀ (d : Nat) (t : Int) (i : Nat) (y : Int) (out : List Int), t ≤ (d : Int) → d ≤ 5 → i + 2 * d ≤ 1000 → out.length + d ≤ 5 → (∀ x ∈ out, 0 ≤ x ∧ x < 2 ^ n) → ∃ R, Ev (fun k => spec_A2Marks.l0 k (n : Int) out t l (i : Int) y) R ∧ R.length ≤ 5 ∧ ∀ x ∈ R, 0 ≤ x ∧ x < 2 ^ n := by
    intro d
    induction d with
    | zero =>
      intro t i y out ht _ _ ho hx
      exact ⟨out, Ev.step (f := fun _ => some out) (fun k => by rw [spec_A2Marks.l0, if_neg (by omega)]) (Ev.const rfl), by omega, hx⟩
    | succ d ih =>
      intro t i y out ht hd hi ho hx
      by_cases c : t > 0
      · obtain ⟨v, z, hv⟩ := pick_great l i (by omega) y
        have hA := and_low _ (wrap_u16_bd v) n hn
        obtain ⟨R, hR, h1, h2⟩ := ih (t - 1) (i + 2) z (out ++ [Go.bits .and .u16 (IntKind.u16.wrap v) ((2 : Int) ^ n - 1)]) (by omega) (by omega) (by omega) (by rw [List.length_append, List.length_singleton]; omega) (fun x hm => by
          rcases List.mem_append.mp hm with hm | hm
          · exact hx x hm
          · rw [List.mem_singleton] at hm
            subst hm
            exact hA)
        refine ⟨R, Ev.step (f := fun k => spec_A2Marks.l0 k (n : Int) (out ++ [Go.bits .and .u16 (IntKind.u16.wrap v) ((2 : Int) ^ n - 1)]) (t - 1) l ((i + 2 : Nat) : Int) z) (fun k => ?_) hR, h1, h2⟩
        rw [spec_A2Marks.l0, if_pos c, hv, Option.bind_some, u64_nat n (by omega), if_pos (by omega), if_pos (by omega), hs, w64 (t - 1) (by omega) (by omega)]
      · exact ⟨out, Ev.step (f := fun _ => some out) (fun k => by rw [spec_A2Marks.l0, if_neg c]) (Ev.const rfl), by omega, hx⟩
  obtain ⟨R, hR, h1, h2⟩ := L 5 t 1 y [] ht (by omega) (by omega) (by simp) (fun x hx => by cases hx)
  refine ⟨R, Ev.congr (fun k => ?_) hR, h1, h2⟩
  unfold spec_A2Marks.f spec_l00From.f
  rw [Option.bind_some, show spec_l00Src_pick.f l 0 0 6 = _ from hp, Option.bind_some]
end Go.Proofs.Ytedbegibkcegnac.M
end
section
namespace Go.Proofs.Ytedbegibkcegnac.M
open Go.RowKit Go.Proofs.YtedbegibkcegnacW.PrintWords Go.Proofs.YtedbegibkcegnacW.PrintLast Go.Proofs.YtedbegibkcegnacW.PrintMore
attribute [local go_sem] max2_int min2_int max_two min_two max_three min_three max_four min_four
set_option linter.unusedVariables false
set_option linter.unusedSimpArgs false
def lackOne (a b : Int) : Int := if a - b > 0 then a - b else 0
def missTo (l0 l1 : List Int) : Nat → List Int
  | 0 => []
  | i + 1 => missTo l0 l1 i ++ [lackOne (rd l0 (i : Int)) (rd l1 (i : Int))]
theorem missTo_len (l0 l1 : List Int) : ∀ i, (missTo l0 l1 i).length = i
  | 0 => rfl
  | i + 1 => by rw [missTo, List.length_append, missTo_len l0 l1 i]; rfl
def missOkAt (l0 l1 : List Int) (i : Nat) : Prop := (0 ≤ rd l0 (i : Int) ∧ rd l0 (i : Int) ≤ 1000) ∧ (0 ≤ rd l1 (i : Int) ∧ rd l1 (i : Int) ≤ 1000)
instance (l0 l1 : List Int) (i : Nat) : Decidable (missOkAt l0 l1 i) := by unfold missOkAt; infer_instance
def missed (l0 l1 : List Int) : Nat → Nat → List Int × Int
  | 0, i => (missTo l0 l1 i, 0)
  | d + 1, i => if missOkAt l0 l1 i then missed l0 l1 d (i + 1) else ([], 2)
theorem missed_all (l0 l1 : List Int) : ∀ d i, (∀ j, i ≤ j → j < i + d → missOkAt l0 l1 j) → missed l0 l1 d i = (missTo l0 l1 (i + d), 0)
  | 0, i, _ => rfl
  | d + 1, i, h => by
    rw [missed, if_pos (h i (by omega) (by omega)), missed_all l0 l1 d (i + 1) (fun j h1 h2 => h j (by omega) (by omega)), show i + 1 + d = i + (d + 1) by omega]
theorem missed_not (l0 l1 : List Int) : ∀ d i, (∃ j, i ≤ j ∧ j < i + d ∧ ¬ missOkAt l0 l1 j) → missed l0 l1 d i = ([], 2)
  | 0, i, ⟨j, h1, h2, _⟩ => by omega
  | d + 1, i, ⟨j, h1, h2, h3⟩ => by
    rw [missed]
    by_cases c : missOkAt l0 l1 i
    · rw [if_pos c]
      refine missed_not l0 l1 d (i + 1) ⟨j, ?_, by omega, h3⟩
      by_cases e : j = i
      · subst e; exact absurd c h3
      · omega
    · rw [if_neg c]
theorem in_f1000 (a : Int) : spec_l00In.f a 0 1000 = some (decide (0 ≤ a ∧ a ≤ 1000)) := by
  unfold spec_l00In.f
  by_cases h1 : a ≥ 0
  · rw [if_pos h1]
    congr 1
    by_cases h2 : a ≤ 1000
    · rw [decide_eq_true h2, decide_eq_true ⟨h1, h2⟩]
    · rw [decide_eq_false h2, decide_eq_false (fun h => h2 h.2)]
  · rw [if_neg h1, decide_eq_false (fun h => h1 h.1)]
theorem missMax_f (a b : Int) (ha : 0 ≤ a ∧ a ≤ 1000) (hb : 0 ≤ b ∧ b ≤ 1000) : spec_l00Max.f 0 (wrap64 (a - b)) = some (lackOne a b) := by
  rw [w64 _ (by omega) (by omega)]
  unfold spec_l00Max.f lackOne
  by_cases c : 0 > a - b
  · rw [if_pos c, if_neg (by omega)]
  · rw [if_neg c]
    by_cases d : a - b > 0
    · rw [if_pos d]
    · rw [if_neg d]; congr 1; omega
theorem missMx_f (a b : Int) (ha : 0 ≤ a ∧ a ≤ 1000) (hb : 0 ≤ b ∧ b ≤ 1000) : mx (wrap64 (a - b)) 0 = lackOne a b := by
  rw [w64 _ (by omega) (by omega)]
  unfold mx lackOne
  (repeat' split) <;> omega
theorem missSpecLoop_ev (l0 l1 : List Int) (h : l0.length = l1.length) (h40 : l0.length ≤ 40) : ∀ d i : Nat, i + d = l0.length → Ev (fun k => spec_MissingBy.l0 k l0 l1 (missTo l0 l1 i) (i : Int)) (missed l0 l1 d i)
  | 0, i, hi => by
    refine Ev.step (fun k => by rw [spec_MissingBy.l0]) (Ev.ite_f (by omega) ?_)
    exact Ev.const rfl
  | d + 1, i, hi => by
    refine Ev.step (fun k => by rw [spec_MissingBy.l0]) (Ev.ite_t (by omega) (Ev.ite_t (by omega) (Ev.bind (Ev.const (in_f1000 _)) ?_)))
    rw [missed]
    by_cases c0 : 0 ≤ rd l0 (i : Int) ∧ rd l0 (i : Int) ≤ 1000
    · refine Ev.ite_t (decide_eq_true c0) (Ev.ite_t (by omega) (Ev.bind (Ev.const (in_f1000 _)) ?_))
      by_cases c1 : 0 ≤ rd l1 (i : Int) ∧ rd l1 (i : Int) ≤ 1000
      · refine Ev.ite_t (decide_eq_true c1) (Ev.bind (Ev.const (missMax_f _ _ c0 c1)) (Ev.ite_t (by rw [missTo_len]; omega) ?_))
        rw [if_pos (show missOkAt l0 l1 i from ⟨c0, c1⟩), show wrap64 ((i : Int) + 1) = ((i + 1 : Nat) : Int) by rw [w64 _ (by omega) (by omega)]; rfl]
        exact missSpecLoop_ev l0 l1 h h40 d (i + 1) (by omega)
      · rw [if_neg (fun q : missOkAt l0 l1 i => c1 q.2)]
        exact Ev.ite_f (by rw [decide_eq_false c1]; decide) (Ev.const rfl)
    · rw [if_neg (fun q : missOkAt l0 l1 i => c0 q.1)]
      exact Ev.ite_f (by rw [decide_eq_false c0]; decide) (Ev.const rfl)
theorem missImplLoop_ev (l0 l1 : List Int) (h : l0.length = l1.length) (h40 : l0.length ≤ 40) (hok : ∀ j, j < l0.length → missOkAt l0 l1 j) : ∀ d i : Nat, i + d = l0.length → Ev (fun k => impl_MissingBy.l0 k l1 (missTo l0 l1 i) l0 (l0.length : Int) (i : Int)) (missTo l0 l1 l0.length, 0)
  | 0, i, hi => by
    obtain rfl : i = l0.length := by omega
    refine Ev.step (fun k => by rw [impl_MissingBy.l0]) (Ev.ite_f (by omega) ?_)
    exact Ev.const rfl
  | d + 1, i, hi => by
    have o := hok i (by omega)
    refine Ev.step (fun k => by rw [impl_MissingBy.l0]) (Ev.ite_t (by omega) (Ev.ite_t (by omega) (Ev.ite_t (by omega) (Ev.ite_t (by omega) (Ev.ite_t (by rw [missTo_len]; omega) ?_)))))
    rw [missMx_f _ _ o.1 o.2, show wrap64 ((i : Int) + 1) = ((i + 1 : Nat) : Int) by rw [w64 _ (by omega) (by omega)]; rfl]
    exact missImplLoop_ev l0 l1 h h40 hok d (i + 1) (by omega)
def missing (l0 l1 : List Int) : List Int × Int := if l0.length = l1.length ∧ l0.length ≤ 40 then missed l0 l1 l0.length 0 else ([], 2)
theorem missSpec_ev (l0 l1 : List Int) : Ev (fun k => spec_MissingBy.f k l0 l1) (missing l0 l1) := by
  unfold missing
  by_cases c : l0.length = l1.length
  · refine Ev.ite_t (by omega) ?_
    by_cases c2 : l0.length ≤ 40
    · rw [if_pos ⟨c, c2⟩, decide_eq_false (by omega)]
      refine Ev.step (fun k => by rw [spec_MissingBy.j0]) (Ev.ite_f (by decide) ?_)
      exact missSpecLoop_ev l0 l1 c c2 l0.length 0 (by omega)
    · rw [if_neg (fun h => c2 h.2), decide_eq_true (by omega)]
      exact Ev.step (fun k => by rw [spec_MissingBy.j0]) (Ev.ite_t rfl (Ev.const rfl))
  · rw [if_neg (fun h => c h.1)]
    refine Ev.ite_f (by omega) ?_
    exact Ev.step (fun k => by rw [spec_MissingBy.j0]) (Ev.ite_t rfl (Ev.const rfl))
theorem missOkAll (l0 l1 : List Int) (h : l0.length = l1.length) (q : ((l0 ++ l1).any fun n => !inB 0 1000 n) = false) (j : Nat) (hj : j < l0.length) : missOkAt l0 l1 j := by
  have hq := List.any_eq_false.mp q
  have one : ∀ (l : List Int) (hl : ∀ x ∈ l, x ∈ l0 ++ l1) (hjl : j < l.length), 0 ≤ rd l (j : Int) ∧ rd l (j : Int) ≤ 1000 := by
    intro l hl hjl
    have h1 := hq (rd l (j : Int)) (hl _ (by rw [rd_of_lt l j hjl]; exact List.getElem_mem _))
    unfold inB at h1
    simpa using h1
  exact ⟨one l0 (fun x hx => List.mem_append_left _ hx) hj, one l1 (fun x hx => List.mem_append_right _ hx) (by omega)⟩
theorem missOkNot (l0 l1 : List Int) (h : l0.length = l1.length) (q : ((l0 ++ l1).any fun n => !inB 0 1000 n) = true) : ∃ j, j < l0.length ∧ ¬ missOkAt l0 l1 j := by
  obtain ⟨x, hx, hb⟩ := List.any_eq_true.mp q
  have hb' : ¬ (0 ≤ x ∧ x ≤ 1000) := by
    unfold inB at hb
    simp at hb
    omega
  rcases List.mem_append.mp hx with hx | hx
  · obtain ⟨j, hj, rfl⟩ := List.getElem_of_mem hx
    exact ⟨j, hj, fun o => hb' (by have := o.1; rwa [rd_of_lt l0 j hj] at this)⟩
  · obtain ⟨j, hj, rfl⟩ := List.getElem_of_mem hx
    exact ⟨j, by omega, fun o => hb' (by have := o.2; rwa [rd_of_lt l1 j hj] at this)⟩
theorem missImpl_ev (l0 l1 : List Int) : Ev (fun k => impl_MissingBy.f k l0 l1) (missing l0 l1) := by
  unfold missing
  by_cases c : l0.length = l1.length
  · refine Ev.ite_t (by omega) ?_
    by_cases c2 : l0.length ≤ 40
    · rw [if_pos ⟨c, c2⟩]
      refine Ev.ite_f (by omega) ?_
      have hcc : slices_Concat_int64_int64.f [l0, l1] = some (l0 ++ l1) := by
        unfold slices_Concat_int64_int64.f
        rw [if_pos ⟨by simp, by simp; omega⟩]
        simp
      refine Ev.bind (Ev.const hcc) (Ev.bind (a := !((l0 ++ l1).any fun n => !inB 0 1000 n)) (Ev.const rfl) ?_)
      rw [Bool.not_not]
      cases q : (l0 ++ l1).any fun n => !inB 0 1000 n with
      | false =>
        have hok := missOkAll l0 l1 c q
        rw [missed_all l0 l1 l0.length 0 (fun j _ hj => hok j (by omega)), Nat.zero_add]
        refine Ev.step (fun k => by rw [impl_MissingBy.j0]) (Ev.ite_f (by decide) ?_)
        exact missImplLoop_ev l0 l1 c c2 hok l0.length 0 (by omega)
      | true =>
        obtain ⟨j, hj, hn⟩ := missOkNot l0 l1 c q
        rw [missed_not l0 l1 l0.length 0 ⟨j, Nat.zero_le _, by omega, hn⟩]
        exact Ev.step (fun k => by rw [impl_MissingBy.j0]) (Ev.ite_t rfl (Ev.const rfl))
    · rw [if_neg (fun h => c2 h.2)]
      refine Ev.ite_t (by omega) ?_
      exact Ev.step (fun k => by rw [impl_MissingBy.j0]) (Ev.ite_t rfl (Ev.const rfl))
  · rw [if_neg (fun h => c h.1)]
    refine Ev.ite_f (by omega) ?_
    exact Ev.step (fun k => by rw [impl_MissingBy.j0]) (Ev.ite_t rfl (Ev.const rfl))
end Go.Proofs.Ytedbegibkcegnac.M
end
section
namespace Go.Proofs.Ytedbegibkcegnac.M
open Go.RowKit Go.Proofs.YtedbegibkcegnacW.PrintWords Go.Proofs.YtedbegibkcegnacW.PrintLast Go.Proofs.YtedbegibkcegnacW.PrintMore
attribute [local go_sem] max2_int min2_int max_two min_two max_three min_three max_four min_four
set_option linter.unusedVariables false
set_option linter.unusedSimpArgs false
theorem specRead_ev (l : List Int) (a : Int) (hl : Small l) (hm : l.length ≤ 4611686018427387904) : Ev (fun k => spec_l06Read.f k l a) (readAt l a) := by
  refine Ev.loop (L := fun k s => spec_l06Read.l0 k l a s) (fun s d => ∃ i : Nat, i + d = l.length ∧ s = (i : Int) ∧ ∀ j, j < i → (seenOf (rd l (j : Nat)) 12).contains a = false) ?_ l.length 0 ⟨0, by omega, rfl, fun j h => by omega⟩
  rintro s d ⟨i, hd, rfl, hf⟩
  by_cases c : i < l.length
  · have hx := hl l[i] (List.getElem_mem c)
    obtain ⟨K, hK⟩ := specSeen_ev l[i] hx.1
    have sl := seen_len l[i] 16
    obtain ⟨K', hK'⟩ := has_ev (seenOf l[i] 16) a (by omega)
    have e16 := seen_12 l[i] hx.1 hx.2
    cases q : (seenOf l[i] 12).contains a with
    | true =>
      refine .inl ⟨max K K', fun k hk => ?_⟩
      have g := hK k (by omega)
      have g' := hK' k (by omega)
      dsimp only at g g'
      rw [e16] at g g'
      rw [q] at g'
      rw [spec_l06Read.l0]
      rw [if_pos (by omega), if_pos (by omega), rd_of_lt l i c, g, Option.bind_some, g', Option.bind_some, if_pos rfl]
      rw [readAt, idxP_hit _ l i c (by rw [rd_of_lt l i c]; exact q) hf]
    | false =>
      refine .inr ⟨((i + 1 : Nat) : Int), d - 1, by omega, ⟨i + 1, by omega, rfl, fun j hj => ?_⟩, max K K', fun k hk => ?_⟩
      · by_cases z : j = i
        · subst z; rw [rd_of_lt l j c]; exact q
        · exact hf j (by omega)
      · have g := hK k (by omega)
        have g' := hK' k (by omega)
        dsimp only at g g'
        rw [e16] at g g'
        rw [q] at g'
        rw [spec_l06Read.l0]
        rw [if_pos (by omega), if_pos (by omega), rd_of_lt l i c, g, Option.bind_some, g', Option.bind_some, if_neg (by decide), w64 _ (by omega) (by omega)]
        rfl
  · refine .inl ⟨0, fun k _ => ?_⟩
    rw [spec_l06Read.l0]
    rw [if_neg (by omega)]
    rw [readAt, idxP_miss _ l (fun j hj => hf j (by omega))]
theorem told_both (n : Int) (l : List Int) (hm : l.length ≤ 4611686018427387904) (hv : ∀ m ∈ l, 0 ≤ m ∧ m < 65536) (hc : listCode n l = 0) :
    ∃ c, ((c = 0 ∧ Apart l) ∨ (c = 4 ∧ ∃ a b : Nat, Meeting l a b)) ∧ Ev (fun k => spec_l06Told.f k n l) c ∧ Ev (fun k => impl_apartCode.f k l) c := by
  obtain ⟨v1, v2⟩ := valid_bd n l hv hc
  obtain ⟨r, q, hF, hr, hq⟩ := search_both l v1 v2
  have hs := specList_ev n l hm
  rw [hc] at hs
  rcases found_split l r q hF with ⟨rfl, rfl, e⟩ | ⟨a, b, rfl, rfl, e⟩
  · refine ⟨0, .inl ⟨rfl, e⟩, ?_, ?_⟩
    · exact Ev.bind hs (Ev.ite_t rfl (Ev.bind hr (Ev.ite_f (by decide) (Ev.const rfl))))
    · exact Ev.bind hq (Ev.const rfl)
  · refine ⟨4, .inr ⟨rfl, a, b, e⟩, ?_, ?_⟩
    · exact Ev.bind hs (Ev.ite_t rfl (Ev.bind hr (Ev.ite_t (by dsimp only; omega) (Ev.const rfl))))
    · exact Ev.bind hq (Ev.const rfl)
end Go.Proofs.Ytedbegibkcegnac.M
end
section
namespace Go.Proofs.Ytedbegibkcegnac.M
open Go.RowKit Go.Proofs.YtedbegibkcegnacW.PrintWords Go.Proofs.YtedbegibkcegnacW.PrintLast Go.Proofs.YtedbegibkcegnacW.PrintMore
attribute [local go_sem] max2_int min2_int max_two min_two max_three min_three max_four min_four
set_option linter.unusedVariables false
set_option linter.unusedSimpArgs false
theorem readAt_lt (l : List Int) (a : Int) : readAt l a < (l.length : Int) := by
  unfold readAt idxP
  cases h : l.findIdx? (fun x => (seenOf x 12).contains a) with
  | none => dsimp only; omega
  | some i =>
    have := (List.findIdx?_eq_some_iff_getElem.mp h).1
    dsimp only
    omega
def sortTo (l s : List Int) : Nat → List (List Int) × List Int
  | 0 => (List.replicate l.length [], [])
  | i + 1 => if readAt l (rd s (i : Int)) < 0 then ((sortTo l s i).1, (sortTo l s i).2 ++ [(i : Int)])
    else ((sortTo l s i).1.set (readAt l (rd s (i : Int))).toNat (rowOf (sortTo l s i).1 (readAt l (rd s (i : Int))) ++ [(i : Int)]), (sortTo l s i).2)
theorem sortTo_len (l s : List Int) : ∀ i, (sortTo l s i).1.length = l.length
  | 0 => by simp [sortTo]
  | i + 1 => by
    have := sortTo_len l s i
    rw [sortTo]
    split
    · exact this
    · rw [List.length_set]; exact this
theorem flatten_set (xs : List (List Int)) (y : Int) : ∀ k : Nat, (xs.set k (xs.getD k [] ++ [y])).flatten.length ≤ xs.flatten.length + 1 := by
  induction xs with
  | nil => intro k; simp
  | cons x r ih =>
    intro k
    cases k with
    | zero =>
      simp only [List.set_cons_zero, List.flatten_cons, List.length_append, List.getD_cons_zero, List.length_singleton]
      omega
    | succ k =>
      have := ih k
      simp only [List.set_cons_succ, List.flatten_cons, List.length_append, List.getD_cons_succ]
      omega
theorem sortTo_flat (l s : List Int) : ∀ i, (sortTo l s i).1.flatten.length ≤ i ∧ (sortTo l s i).2.length ≤ i
  | 0 => by
    rw [sortTo]
    refine ⟨?_, Nat.le_refl _⟩
    rw [List.flatten_replicate_nil]
    exact Nat.le_refl _
  | i + 1 => by
    have h := sortTo_flat l s i
    rw [sortTo]
    split
    · refine ⟨by have := h.1; dsimp only; omega, ?_⟩
      rw [List.length_append]
      have := h.2
      simp
      omega
    · refine ⟨?_, by have := h.2; dsimp only; omega⟩
      have := flatten_set (sortTo l s i).1 (i : Int) (readAt l (rd s (i : Int))).toNat
      unfold rowOf
      have := h.1
      dsimp only
      omega
theorem row_short (xs : List (List Int)) (k : Nat) : (xs.getD k []).length ≤ xs.flatten.length := by
  induction xs generalizing k with
  | nil => simp
  | cons x r ih =>
    cases k with
    | zero => simp only [List.getD_cons_zero, List.flatten_cons, List.length_append]; omega
    | succ k =>
      have := ih k
      simp only [List.getD_cons_succ, List.flatten_cons, List.length_append]
      omega
theorem rowOf_short (xs : List (List Int)) (t : Int) : (rowOf xs t).length ≤ xs.flatten.length := row_short xs t.toNat
theorem specSortLoop_ev (l s : List Int) (hl : Small l) (hm : l.length ≤ 1048576) (hs : s.length ≤ 1048576) : ∀ d i : Nat, i + d = s.length → Ev (fun k => spec_SortByMarks.l0 k l s (sortTo l s i).1 (sortTo l s i).2 (i : Int)) ((sortTo l s s.length).1, (sortTo l s s.length).2, 0)
  | 0, i, hi => by
    obtain rfl : i = s.length := by omega
    refine Ev.step (fun k => by rw [spec_SortByMarks.l0]) (Ev.ite_f (by omega) ?_)
    exact Ev.const rfl
  | d + 1, i, hi => by
    have ih := specSortLoop_ev l s hl hm hs d (i + 1) (by omega)
    have f := sortTo_flat l s i
    have hn := sortTo_len l s i
    have hlt := readAt_lt l (rd s (i : Int))
    have hw : wrap64 ((i : Int) + 1) = ((i + 1 : Nat) : Int) := by rw [w64 _ (by omega) (by omega)]; rfl
    refine Ev.step (fun k => by rw [spec_SortByMarks.l0]) (Ev.ite_t (by omega) (Ev.ite_t (by omega) (Ev.bind (specRead_ev l (rd s (i : Int)) hl (by omega)) ?_)))
    rw [sortTo] at ih
    by_cases c : readAt l (rd s (i : Int)) < 0
    · rw [if_pos c] at ih
      refine Ev.ite_t c (Ev.ite_t (by have := f.2; omega) ?_)
      rw [hw]
      exact ih
    · rw [if_neg c] at ih
      refine Ev.ite_f c (Ev.ite_t (by omega) (Ev.ite_t (by omega) (Ev.ite_t (by have := rowOf_short (sortTo l s i).1 (readAt l (rd s (i : Int))); have := f.1; show (rowOf _ _).length < _; omega) ?_)))
      rw [hw]
      exact ih
theorem implSortLoop_ev (l s : List Int) (hl : ∀ x ∈ l, 0 ≤ x ∧ x < 65536) (hm : l.length ≤ 1048576) (hs : s.length ≤ 1048576) : ∀ d i : Nat, i + d = s.length → Ev (fun k => impl_SortByMarks.l0 k l (sortTo l s i).1 (sortTo l s i).2 s (s.length : Int) (i : Int)) ((sortTo l s s.length).1, (sortTo l s s.length).2, 0)
  | 0, i, hi => by
    obtain rfl : i = s.length := by omega
    refine Ev.step (fun k => by rw [impl_SortByMarks.l0]) (Ev.ite_f (by omega) ?_)
    exact Ev.const rfl
  | d + 1, i, hi => by
    have ih := implSortLoop_ev l s hl hm hs d (i + 1) (by omega)
    have f := sortTo_flat l s i
    have hn := sortTo_len l s i
    have hlt := readAt_lt l (rd s (i : Int))
    have hw : wrap64 ((i : Int) + 1) = ((i + 1 : Nat) : Int) := by rw [w64 _ (by omega) (by omega)]; rfl
    refine Ev.step (fun k => by rw [impl_SortByMarks.l0]) (Ev.ite_t (by omega) (Ev.ite_t (by omega) (Ev.ite_t (by omega) (Ev.bind (implRead_ev l (rd s (i : Int)) hl) ?_))))
    rw [sortTo] at ih
    by_cases c : readAt l (rd s (i : Int)) < 0
    · rw [if_pos c] at ih
      refine Ev.ite_f (by omega) (Ev.ite_t (by have := f.2; omega) ?_)
      rw [hw]
      exact ih
    · rw [if_neg c] at ih
      refine Ev.ite_t (by omega) (Ev.ite_t (by omega) (Ev.ite_t (by omega) (Ev.ite_t (by have := rowOf_short (sortTo l s i).1 (readAt l (rd s (i : Int))); have := f.1; omega) ?_)))
      rw [hw]
      exact ih
def codeTwo (n : Int) (l s : List Int) : Int := if listCode n s = 1 ∨ listCode n l = 0 then listCode n s else listCode n l
theorem lim (l : List Int) : ∃ x : Int, (x = 0 ∨ x = 3) ∧ (if l.length ≤ 40 then (0 : Int) else 3) = x ∧ (if l.length > 40 then (3 : Int) else 0) = x := by
  by_cases h : l.length ≤ 40
  · exact ⟨0, .inl rfl, if_pos h, if_neg (by omega)⟩
  · exact ⟨3, .inr rfl, if_neg h, if_pos (by omega)⟩
theorem implTwo_ev (n : Int) (l s : List Int) : Ev (fun k => (impl_markCode.f n (l ++ s)).bind fun a => (impl_fewMarks.f l).bind fun b => (impl_fewMarks.f s).bind fun c => impl_firstOf.f k [a, b, c]) (codeTwo n l s) := by
  have e (a b c : Int) := firstOf_ev [a, b, c] (by simp)
  rw [implCode_f, few_f, few_f]
  refine Ev.congr (f := fun k => impl_firstOf.f k [if 1 ≤ n ∧ n ≤ 12 then (if (l ++ s).any (fun m => !okMark n m) = true then 1 else 0) else 1, if l.length ≤ 40 then 0 else 3, if s.length ≤ 40 then 0 else 3]) (fun k => rfl) ?_
  have q : firstNZ [if 1 ≤ n ∧ n ≤ 12 then (if (l ++ s).any (fun m => !okMark n m) = true then (1 : Int) else 0) else 1, if l.length ≤ 40 then 0 else 3, if s.length ≤ 40 then 0 else 3] = codeTwo n l s := by
    unfold codeTwo listCode
    rw [List.any_append]
    by_cases c : 1 ≤ n ∧ n ≤ 12
    · simp only [if_pos c]
      obtain ⟨x, hx, x1, x2⟩ := lim l
      obtain ⟨y, hy, y1, y2⟩ := lim s
      rw [x1, y1, x2, y2]
      cases d : l.any (fun m => !okMark n m) <;> cases g : s.any (fun m => !okMark n m) <;> rcases hx with rfl | rfl <;> rcases hy with rfl | rfl <;> simp [firstNZ]
    · simp [c, firstNZ]
  have := e (if 1 ≤ n ∧ n ≤ 12 then (if (l ++ s).any (fun m => !okMark n m) = true then 1 else 0) else 1) (if l.length ≤ 40 then 0 else 3) (if s.length ≤ 40 then 0 else 3)
  rw [q] at this
  exact this
theorem implSort_eq (n : Int) (l s : List Int) (hl : l.length ≤ 1048576) (hs : s.length ≤ 1048576) (k : Nat) : impl_SortByMarks.f k n l s = ((impl_markCode.f n (l ++ s)).bind fun a => (impl_fewMarks.f l).bind fun b => (impl_fewMarks.f s).bind fun c => impl_firstOf.f k [a, b, c]).bind fun t => if t = 0 then ((impl_apartCode.f k l).bind fun t2 => impl_SortByMarks.j0 k l s t2) else impl_SortByMarks.j0 k l s t := by
  unfold impl_SortByMarks.f
  have hc : slices_Concat_impl_Mark_impl_Mark.f [l, s] = some (l ++ s) := by
    unfold slices_Concat_impl_Mark_impl_Mark.f
    rw [if_pos ⟨by simp, by simp; omega⟩]
    simp
  rw [hc, Option.bind_some, implCode_f, few_f, few_f]
  rfl
theorem implJ0_ev (l s : List Int) (hl : ∀ x ∈ l, 0 ≤ x ∧ x < 65536) (hm : l.length ≤ 1048576) (hs : s.length ≤ 1048576) (c : Int) : Ev (fun k => impl_SortByMarks.j0 k l s c) (if c = 0 then ((sortTo l s s.length).1, (sortTo l s s.length).2, 0) else ([], [], c)) := by
  by_cases h : c = 0
  · rw [if_pos h]
    refine Ev.step (fun k => by rw [impl_SortByMarks.j0]) (Ev.ite_t h (Ev.ite_t (by omega) (Ev.ite_t (by omega) ?_)))
    rw [Int.toNat_natCast]
    exact implSortLoop_ev l s hl hm hs s.length 0 (by omega)
  · rw [if_neg h]
    refine Ev.step (fun k => by rw [impl_SortByMarks.j0]) (Ev.ite_f h ?_)
    exact Ev.const rfl
theorem specJ2_ev (l s : List Int) (hl : Small l) (hm : l.length ≤ 1048576) (hs : s.length ≤ 1048576) (c : Int) : c = 0 → Ev (fun k => spec_SortByMarks.j2 k l s c) ((sortTo l s s.length).1, (sortTo l s s.length).2, 0) := by
  intro h
  refine Ev.step (fun k => by rw [spec_SortByMarks.j2]) (Ev.ite_t h (Ev.ite_t (by omega) (Ev.ite_t (by omega) ?_)))
  rw [Int.toNat_natCast]
  exact specSortLoop_ev l s hl hm hs s.length 0 (by omega)
end Go.Proofs.Ytedbegibkcegnac.M
end
