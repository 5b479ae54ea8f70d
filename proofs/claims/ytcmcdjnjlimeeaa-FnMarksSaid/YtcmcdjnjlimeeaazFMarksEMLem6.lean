import Derived.Test.YtcmcdjnjlimeeaazFMarksEClash
import Derived.Test.YtcmcdjnjlimeeaazFMarksEEvLoop
import Derived.Test.YtcmcdjnjlimeeaazFMarksEGreedyMarks
import Derived.Test.YtcmcdjnjlimeeaazFMarksEMLem
import Derived.Test.YtcmcdjnjlimeeaazFMarksEMLem3
import Derived.Test.YtcmcdjnjlimeeaazFMarksEMLem4a
import Derived.Test.YtcmcdjnjlimeeaazFMarksEMLem5a
import Derived.Test.YtcmcdjnjlimeeaazFMarksM0
import Derived.Test.YtcmcdjnjlimeeaazFMarksM5
import Derived.Test.YtcmcdjnjlimeeaazFMarksM7
import Derived.Test.YtcmcdjnjlimeeaazFMarksM9
namespace Go.Proofs.Ytcmcdjnjlimeeaa.M
open Go.RowKit Go.Proofs.YtcmcdjnjlimeeaaW.PrintWords Go.Proofs.YtcmcdjnjlimeeaaW.PrintLast Go.Proofs.YtcmcdjnjlimeeaaW.PrintMore
attribute [local go_sem] max2_int min2_int max_two min_two max_three min_three max_four min_four
set_option linter.unusedVariables false
set_option linter.unusedSimpArgs false
def greedy (most : Int) : Nat → List Int → List Int
  | 0, out => out
  | n + 1, out => if (out.length : Int) < most then (if out.any (fun x => meets x (n : Int)) = true then greedy most n out else greedy most n (out ++ [(n : Int)])) else out
theorem clashAny_ev (l : List Int) (m : Int) (hl : Small l) (h0 : 0 ≤ m) (h1 : m < 4096) : Ev (fun k => clashAny.f k l m) (l.any fun x => meets x m) := by
  have key : ∃ K, ∀ k, K ≤ k → ∀ x ∈ l, impl_clash.f k x m = some (meets x m) := by
    induction l with
    | nil => exact ⟨0, fun k _ x hx => by cases hx⟩
    | cons y r ih =>
      obtain ⟨K, hK⟩ := ih (fun x hx => hl x (List.mem_cons_of_mem _ hx))
      have hy := hl y (List.mem_cons_self ..)
      obtain ⟨K', hK'⟩ := clash_ev y m hy.1 (by omega) h0 (by omega)
      refine ⟨max K K', fun k hk x hx => ?_⟩
      rcases List.mem_cons.mp hx with rfl | h2
      · exact hK' k (by omega)
      · exact hK k (by omega) x h2
  obtain ⟨K, hK⟩ := key
  refine ⟨K, fun k hk => ?_⟩
  dsimp only
  unfold clashAny.f
  have a : l.all (fun x => (impl_clash.f k x m).isSome) = true := by
    rw [List.all_eq_true]
    intro x hx
    rw [hK k hk x hx]
    rfl
  rw [if_pos a]
  congr 1
  refine any_congr _ _ l fun x hx => ?_
  unfold clashAnyB
  rw [hK k hk x hx]
theorem implGreedy_ev (most : Int) (hmost : most ≤ 40) (n : Nat) (hn : n ≤ 4096) : ∀ out : List Int, Small out → out.length ≤ 1000 → Ev (fun k => impl_GreedyMarks.l0 k most out ((n : Int) - 1)) (greedy most n out, 0) := by
  induction n with
  | zero =>
    intro out hs hl
    refine Ev.step (f := fun k => impl_GreedyMarks.j1 k most out (((0 : Nat) : Int) - 1) false) (fun k => by rw [impl_GreedyMarks.l0, if_neg (by omega)]) ?_
    exact Ev.step (f := fun _ => some (out, 0)) (fun k => by rw [impl_GreedyMarks.j1, if_neg (by decide)]) (Ev.const rfl)
  | succ n ih =>
    intro out hs hl
    have e : ((n + 1 : Nat) : Int) - 1 = (n : Int) := by omega
    have wn : IntKind.u16.wrap (n : Int) = n := wrap_nat n (by omega)
    have w1 : wrap64 ((n : Int) - 1) = (n : Int) - 1 := w64 _ (by omega) (by omega)
    rw [e]
    refine Ev.step (f := fun k => impl_GreedyMarks.j1 k most out (n : Int) (decide ((out.length : Int) < most))) (fun k => by rw [impl_GreedyMarks.l0, if_pos (by omega), sizeMark_f, Option.bind_some]) ?_
    by_cases c : (out.length : Int) < most
    · rw [decide_eq_true c]
      have hc := clashAny_ev out (n : Int) hs (by omega) (by omega)
      refine Ev.step (f := fun k => ((clashAny.f k out (n : Int)).bind fun t151 => (if t151 = true then (impl_GreedyMarks.l0 k most out ((n : Int) - 1)) else (if out.length < 70368744177664 then (impl_GreedyMarks.l0 k most (out ++ [(n : Int)]) ((n : Int) - 1)) else (none))))) (fun k => by rw [impl_GreedyMarks.j1, if_pos rfl, wn, w1]) (Ev.bind hc ?_)
      rw [greedy, if_pos c]
      cases q : out.any (fun x => meets x (n : Int)) with
      | true => rw [if_pos rfl]; exact Ev.ite_t rfl (ih (by omega) out hs hl)
      | false => rw [if_neg (by decide)]; exact Ev.ite_f (by decide) (Ev.ite_t (by omega) (ih (by omega) _ (hs.snoc n (by omega)) (by rw [List.length_append]; simp; omega)))
    · rw [decide_eq_false c, greedy, if_neg c]
      exact Ev.step (f := fun _ => some (out, 0)) (fun k => by rw [impl_GreedyMarks.j1, if_neg (by decide)]) (Ev.const rfl)
theorem specGreedyRow_ev (most : Int) (n : Nat) (hn : n < 4096) (out : List Int) (hs : Small out) (hl : out.length ≤ 1000) (R : List Int × Int)
    (ht : out.any (fun x => meets x (n : Int)) = true → Ev (fun k => spec_GreedyMarks.l0 k most out ((n : Int) - 1)) R)
    (hf : out.any (fun x => meets x (n : Int)) = false → Ev (fun k => spec_GreedyMarks.l0 k most (out ++ [(n : Int)]) ((n : Int) - 1)) R) (d : Nat) :
    ∀ (i : Nat) (fine : Bool), i + d = out.length → (fine && !((out.drop i).any (fun x => meets x (n : Int)))) = (!(out.any (fun x => meets x (n : Int)))) →
      Ev (fun k => spec_GreedyMarks.l1 k most out (n : Int) (n : Int) fine (i : Int)) R := by
  have w1 : wrap64 ((n : Int) - 1) = (n : Int) - 1 := w64 _ (by omega) (by omega)
  induction d with
  | zero =>
    intro i fine hi hq
    rw [List.drop_eq_nil_of_le (by omega)] at hq
    simp only [List.any_nil, Bool.not_false, Bool.and_true] at hq
    cases fine with
    | true =>
      have q : out.any (fun x => meets x (n : Int)) = false := by simpa using hq.symm
      refine Ev.step (f := fun k => spec_GreedyMarks.l0 k most (out ++ [(n : Int)]) ((n : Int) - 1)) (fun k => ?_) (hf q)
      rw [spec_GreedyMarks.l1]
      rw [if_neg (by omega), if_pos rfl, if_pos (by omega), w1]
    | false =>
      have q : out.any (fun x => meets x (n : Int)) = true := by simpa using hq.symm
      refine Ev.step (f := fun k => spec_GreedyMarks.l0 k most out ((n : Int) - 1)) (fun k => ?_) (ht q)
      rw [spec_GreedyMarks.l1]
      rw [if_neg (by omega), if_neg (by decide), w1]
  | succ d ih =>
    intro i fine hi hq
    have hi2 : i < out.length := by omega
    have hd : out.drop i = out[i] :: out.drop (i + 1) := List.drop_eq_getElem_cons hi2
    have v := hs out[i] (List.getElem_mem hi2)
    have e : wrap64 ((i : Int) + 1) = ((i + 1 : Nat) : Int) := by rw [w64 _ (by omega) (by omega)]; rfl
    cases fine with
    | true =>
      have ha := apart_ev out[i] (n : Int) v.1 v.2 (by omega) (by omega)
      refine Ev.step (f := fun k => (spec_l06Apart.f k out[i] (n : Int)).bind fun t => spec_GreedyMarks.l1 k most out (n : Int) (n : Int) t ((i + 1 : Nat) : Int)) (fun k => ?_) (Ev.bind ha (ih (i + 1) _ (by omega) ?_))
      · rw [spec_GreedyMarks.l1]
        rw [if_pos (by omega), if_pos rfl, if_pos (by omega), rd_of_lt out i hi2, e]
      · rw [hd, List.any_cons] at hq
        rw [← hq]
        cases meets out[i] (n : Int) <;> simp
    | false =>
      refine Ev.step (f := fun k => spec_GreedyMarks.l1 k most out (n : Int) (n : Int) false ((i + 1 : Nat) : Int)) (fun k => ?_) (ih (i + 1) false (by omega) (by rw [← hq]; rfl))
      rw [spec_GreedyMarks.l1]
      rw [if_pos (by omega), if_neg (by decide), e]
theorem specGreedy_ev (most : Int) (hmost : most ≤ 40) (n : Nat) (hn : n ≤ 4096) : ∀ out : List Int, Small out → out.length ≤ 1000 → Ev (fun k => spec_GreedyMarks.l0 k most out ((n : Int) - 1)) (greedy most n out, 0) := by
  induction n with
  | zero =>
    intro out hs hl
    refine Ev.step (f := fun k => spec_GreedyMarks.j1 k most out (((0 : Nat) : Int) - 1) false) (fun k => by rw [spec_GreedyMarks.l0, if_neg (by omega)]) ?_
    exact Ev.step (f := fun _ => some (out, 0)) (fun k => by rw [spec_GreedyMarks.j1, if_neg (by decide)]) (Ev.const rfl)
  | succ n ih =>
    intro out hs hl
    have e : ((n + 1 : Nat) : Int) - 1 = (n : Int) := by omega
    have wn : IntKind.u16.wrap (n : Int) = n := wrap_nat n (by omega)
    rw [e]
    refine Ev.step (f := fun k => spec_GreedyMarks.j1 k most out (n : Int) (decide ((out.length : Int) < most))) (fun k => by rw [spec_GreedyMarks.l0, if_pos (by omega)]) ?_
    by_cases c : (out.length : Int) < most
    · rw [decide_eq_true c]
      refine Ev.step (f := fun k => spec_GreedyMarks.l1 k most out (n : Int) (n : Int) true ((0 : Nat) : Int)) (fun k => by rw [spec_GreedyMarks.j1, if_pos rfl, wn]; rfl) ?_
      refine specGreedyRow_ev most n (by omega) out hs hl _ ?_ ?_ out.length 0 true (by omega) (by rw [List.drop_zero]; simp)
      · intro q
        rw [greedy, if_pos c, if_pos q]
        exact ih (by omega) out hs hl
      · intro q
        rw [greedy, if_pos c, if_neg (by rw [q]; decide)]
        exact ih (by omega) _ (hs.snoc n (by omega)) (by rw [List.length_append]; simp; omega)
    · rw [decide_eq_false c, greedy, if_neg c]
      exact Ev.step (f := fun _ => some (out, 0)) (fun k => by rw [spec_GreedyMarks.j1, if_neg (by decide)]) (Ev.const rfl)
def greedyMarks (n most : Int) : List Int × Int :=
  if 1 ≤ n ∧ n ≤ 12 then (if 0 ≤ most ∧ most ≤ 40 then (greedy most (2 ^ n.toNat) [], 0) else ([], 2)) else ([], 1)
theorem specGreedyMarks_ev (n most : Int) : Ev (fun k => spec_GreedyMarks.f k n most) (greedyMarks n most) := by
  unfold greedyMarks
  by_cases h : 1 ≤ n ∧ n ≤ 12
  · rw [if_pos h]
    obtain ⟨j, rfl⟩ := Int.eq_ofNat_of_zero_le (show 0 ≤ n by omega)
    rw [Int.toNat_natCast]
    have hp := pow_nat_le j (by omega)
    have hw : wrap64 (((2 ^ j : Nat) : Int) - 1) = ((2 ^ j : Nat) : Int) - 1 := by
      generalize 2 ^ j = p at hp
      exact w64 _ (by omega) (by omega)
    by_cases h2 : 0 ≤ most ∧ most ≤ 40
    · rw [if_pos h2]
      refine Ev.congr (f := fun k => spec_GreedyMarks.l0 k most [] (((2 ^ j : Nat) : Int) - 1)) (fun k => ?_) (specGreedy_ev most h2.2 (2 ^ j) hp [] (fun x hx => by cases hx) (by simp))
      unfold spec_GreedyMarks.f
      rw [many_f, decide_eq_true h, Option.bind_some, if_pos rfl, in_f, decide_eq_true h2, Option.bind_some, if_pos rfl, u64_nat j (by omega), if_pos (by omega), shl_one j (by omega), ← pow_nat, hw]
    · rw [if_neg h2]
      exact Ev.fixed (fun k => by unfold spec_GreedyMarks.f; rw [many_f, decide_eq_true h, Option.bind_some, if_pos rfl, in_f, decide_eq_false h2]; rfl)
  · rw [if_neg h]
    exact Ev.fixed (fun k => by unfold spec_GreedyMarks.f; rw [many_f, decide_eq_false h]; rfl)
theorem implGreedyMarks_ev (n most : Int) : Ev (fun k => impl_GreedyMarks.f k n most) (greedyMarks n most) := by
  have e (a b : Int) := firstOf_ev [a, b] (by simp)
  unfold greedyMarks
  by_cases h : 1 ≤ n ∧ n ≤ 12
  · rw [if_pos h]
    obtain ⟨j, rfl⟩ := Int.eq_ofNat_of_zero_le (show 0 ≤ n by omega)
    rw [Int.toNat_natCast]
    have hp := pow_nat_le j (by omega)
    have hw : wrap64 (((2 ^ j : Nat) : Int) - 1) = ((2 ^ j : Nat) : Int) - 1 := by
      generalize 2 ^ j = p at hp
      exact w64 _ (by omega) (by omega)
    by_cases h2 : 0 ≤ most ∧ most ≤ 40
    · rw [if_pos h2]
      refine Ev.congr (f := fun k => (impl_firstOf.f k [0, 0]).bind fun t => if t = 0 then impl_GreedyMarks.l0 k most [] (((2 ^ j : Nat) : Int) - 1) else some ([], t)) (fun k => ?_) (Ev.bind (e 0 0) (Ev.ite_t rfl (implGreedy_ev most h2.2 (2 ^ j) hp [] (fun x hx => by cases hx) (by simp))))
      unfold impl_GreedyMarks.f
      rw [code_nil, if_pos h, within_f, decide_eq_true h2, if_pos (by omega), shl_one j (by omega), ← pow_nat, hw]
      rfl
    · rw [if_neg h2]
      refine Ev.congr (f := fun k => (impl_firstOf.f k [0, 2]).bind fun t => if t = 0 then (if 0 ≤ (j : Int) then (impl_GreedyMarks.l0 k most (([] : List Int)) (wrap64 ((shl .i64 1 (j : Int)) - 1))) else (none)) else some ([], t)) (fun k => ?_) (Ev.bind (e 0 2) (Ev.ite_f (by decide) (Ev.const rfl)))
      unfold impl_GreedyMarks.f
      rw [code_nil, if_pos h, within_f, decide_eq_false h2]
      rfl
  · rw [if_neg h]
    refine Ev.congr (f := fun k => (impl_firstOf.f k [1, if 0 ≤ most ∧ most ≤ 40 then 0 else 2]).bind fun t => if t = 0 then (if 0 ≤ n then (impl_GreedyMarks.l0 k most (([] : List Int)) (wrap64 ((shl .i64 1 n) - 1))) else (none)) else some ([], t)) (fun k => ?_) (Ev.bind (e 1 _) (Ev.ite_f (show ¬ ((1 : Int) = 0) by decide) (Ev.const rfl)))
    unfold impl_GreedyMarks.f
    rw [code_nil, if_neg h, within_f, Option.bind_some, Option.bind_some, unless_d]
    rfl
end Go.Proofs.Ytcmcdjnjlimeeaa.M
