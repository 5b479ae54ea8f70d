import Derived.Test.YtpokpbhcfdaapaazFClassesEEvLoop
import Derived.Test.YtpokpbhcfdaapaazFClassesEMLem
import Derived.Test.YtpokpbhcfdaapaazFClassesEMLem2
import Derived.Test.YtpokpbhcfdaapaazFClassesEMLem3
import Derived.Test.YtpokpbhcfdaapaazFClassesM0
import Derived.Test.YtpokpbhcfdaapaazFClassesM1
import Derived.Test.YtpokpbhcfdaapaazFClassesM15
import Derived.Test.YtpokpbhcfdaapaazFClassesM16
import Derived.Test.YtpokpbhcfdaapaazFClassesM18
import Derived.Test.YtpokpbhcfdaapaazFClassesM19
import Derived.Test.YtpokpbhcfdaapaazFClassesM3
import Derived.Test.YtpokpbhcfdaapaazFClassesM9
namespace Go.Proofs.Ytpokpbhcfdaapaa.M
open Go.RowKit Go.Proofs.YtpokpbhcfdaapaaW.PrintWords Go.Proofs.YtpokpbhcfdaapaaW.PrintLast Go.Proofs.YtpokpbhcfdaapaaW.PrintMore
attribute [local go_sem] max2_int min2_int max_two min_two max_three min_three max_four min_four
set_option linter.unusedVariables false
set_option linter.unusedSimpArgs false
theorem shl_one (n : Nat) (h : n ≤ 12) : shl .i64 1 (n : Int) = 2 ^ n := by
  unfold shl
  have e : min (n : Int).toNat IntKind.i64.bits = n := Nat.min_eq_left (show n ≤ 64 by omega)
  rw [e, Int.one_mul]
  have := pow_le_12 n h
  have hp : (0 : Int) < 2 ^ n := Int.pow_pos (by decide)
  exact IntWalk.i64_in _ ⟨by omega, by omega⟩
theorem wrap_nat (x : Nat) (h : x < 65536) : IntKind.u16.wrap (x : Int) = x := IntWalk.u16_in _ ⟨by omega, by omega⟩
theorem pow_nat (n : Nat) : ((2 ^ n : Nat) : Int) = 2 ^ n := by simp
theorem pow_nat_le (n : Nat) (h : n ≤ 12) : 2 ^ n ≤ 4096 := by
  have h2 : (2 ^ n : Nat) ≤ 2 ^ 12 := Nat.pow_le_pow_right (n := 2) (by decide) h
  exact h2
def classList (n : Nat) (c : Int) : Nat → List Int
  | 0 => []
  | x + 1 => if classOf n x = c then classList n c x ++ [(x : Int)] else classList n c x
theorem classList_len (n : Nat) (c : Int) : ∀ x, (classList n c x).length ≤ x
  | 0 => Nat.le_refl _
  | x + 1 => by
    have := classList_len n c x
    unfold classList
    split
    · rw [List.length_append]; simp; omega
    · omega
theorem specIn_ev (n : Nat) (c : Int) (hn : n ≤ 12) : Ev (fun k => spec_l06In.f k (n : Int) c) (classList n c (2 ^ n)) := by
  have hp := pow_nat_le n hn
  refine Ev.loop (L := fun k s => spec_l06In.l0 k (n : Int) c s.1 s.2) (fun s d => ∃ x : Nat, x + d = 2 ^ n ∧ s = (classList n c x, (x : Int))) ?_ (2 ^ n) ([], 0) ⟨0, by omega, rfl⟩
  rintro ⟨acc, ii⟩ d ⟨x, hd, e⟩
  cases e
  have hl := classList_len n c x
  by_cases h : x < 2 ^ n
  · obtain ⟨K, hK⟩ := specClass_ev n (x : Int) hn (by omega)
    refine .inr ⟨(classList n c (x + 1), ((x + 1 : Nat) : Int)), d - 1, by omega, ⟨x + 1, by omega, rfl⟩, K, fun k hk => ?_⟩
    have g := hK k hk
    dsimp only at g ⊢
    rw [spec_l06In.l0]
    rw [u64_nat n (by omega), if_pos (by omega), shl_one n hn, ← pow_nat, if_pos (by omega), wrap_nat x (by omega), g, Option.bind_some, w64 ((x : Int) + 1) (by omega) (by omega)]
    by_cases q : classOf n x = c
    · have e1 : classList n c (x + 1) = classList n c x ++ [(x : Int)] := by rw [classList, if_pos q]
      rw [if_pos q, if_pos (by omega), e1]
      rfl
    · have e1 : classList n c (x + 1) = classList n c x := by rw [classList, if_neg q]
      rw [if_neg q, e1]
      rfl
  · obtain rfl : x = 2 ^ n := by omega
    refine .inl ⟨0, fun k _ => ?_⟩
    dsimp only
    rw [spec_l06In.l0]
    rw [u64_nat n (by omega), if_pos (by omega), shl_one n hn, ← pow_nat, if_neg (by omega)]
theorem implIn_ev (n : Nat) (c : Int) (hn : n ≤ 12) : Ev (fun k => impl_ofClass.f k (n : Int) c) (classList n c (2 ^ n)) := by
  have hp := pow_nat_le n hn
  refine Ev.congr (f := fun k => impl_ofClass.l0 k (n : Int) c [] ((2 ^ n : Nat) : Int) 0) (fun k => by unfold impl_ofClass.f; rw [if_pos (by omega), shl_one n hn, pow_nat]) ?_
  refine Ev.loop (L := fun k s => impl_ofClass.l0 k (n : Int) c s.1 ((2 ^ n : Nat) : Int) s.2) (fun s d => ∃ x : Nat, x + d = 2 ^ n ∧ s = (classList n c x, (x : Int))) ?_ (2 ^ n) ([], 0) ⟨0, by omega, rfl⟩
  rintro ⟨acc, ii⟩ d ⟨x, hd, e⟩
  cases e
  have hl := classList_len n c x
  by_cases h : x < 2 ^ n
  · obtain ⟨K, hK⟩ := implClass_ev n (x : Int) hn (by omega) (by omega)
    refine .inr ⟨(classList n c (x + 1), ((x + 1 : Nat) : Int)), d - 1, by omega, ⟨x + 1, by omega, rfl⟩, K, fun k hk => ?_⟩
    have g := hK k hk
    dsimp only at g ⊢
    rw [impl_ofClass.l0]
    rw [if_pos (by omega), wrap_nat x (by omega), g, Option.bind_some, w64 ((x : Int) + 1) (by omega) (by omega)]
    by_cases q : classOf n x = c
    · have e1 : classList n c (x + 1) = classList n c x ++ [(x : Int)] := by rw [classList, if_pos q]
      rw [if_pos q, if_pos (by omega), e1]
      rfl
    · have e1 : classList n c (x + 1) = classList n c x := by rw [classList, if_neg q]
      rw [if_neg q, e1]
      rfl
  · obtain rfl : x = 2 ^ n := by omega
    refine .inl ⟨0, fun k _ => ?_⟩
    dsimp only
    rw [impl_ofClass.l0]
    rw [if_neg (by omega)]
def classSize (n : Nat) (c : Int) : Int := (classList n c (2 ^ n)).length
theorem bitAt_zero (i : Nat) : bitAt 0 i = 0 := by unfold bitAt; simp
theorem csum_zero : ∀ n, csum 0 n = 0
  | 0 => rfl
  | n + 1 => by rw [csum, csum_zero n, bitAt_zero]; rfl
theorem classOf_zero (n : Nat) : classOf n ((0 : Nat) : Int) = 0 := by
  unfold classOf
  rw [show ((0 : Nat) : Int) = 0 from rfl, csum_zero]
  simp
theorem size_pos (n : Nat) : 1 ≤ classSize n 0 := by
  have h : ∀ x, 1 ≤ (classList n 0 (x + 1)).length := by
    intro x
    induction x with
    | zero => rw [classList, if_pos (classOf_zero n)]; simp [classList]
    | succ x ih =>
      rw [classList]
      split
      · rw [List.length_append]; omega
      · exact ih
  unfold classSize
  have hp : 0 < 2 ^ n := Nat.two_pow_pos n
  obtain ⟨x, hx⟩ : ∃ x, 2 ^ n = x + 1 := ⟨2 ^ n - 1, by omega⟩
  rw [hx]
  have := h x
  omega
def bestUp (n : Nat) : Nat → Int × Int
  | 0 => (0, classSize n 0)
  | c + 1 => if classSize n ((c + 1 : Nat) : Int) > (bestUp n c).2 then (((c + 1 : Nat) : Int), classSize n ((c + 1 : Nat) : Int)) else bestUp n c
theorem sizeMark_f (l : List Int) : impl_size_impl_Mark.f l = some (l.length : Int) := rfl
theorem specBest_ev (n : Nat) (hn : n ≤ 12) : Ev (fun k => spec_BestClass.l0 k (n : Int) 0 (-1) 0) ((bestUp n n).1, (bestUp n n).2, 0) := by
  obtain ⟨K0, hK0⟩ := specIn_ev n 0 hn
  have hz := size_pos n
  refine Ev.loop (L := fun k s => spec_BestClass.l0 k (n : Int) s.1 s.2.1 s.2.2) (fun s d => (s = (0, -1, 0) ∧ d = n + 1) ∨ ∃ c : Nat, c + d = n ∧ s = ((bestUp n c).1, (bestUp n c).2, ((c + 1 : Nat) : Int))) ?_ (n + 1) (0, -1, 0) (.inl ⟨rfl, rfl⟩)
  rintro ⟨s1, s2, s3⟩ d (⟨e, rfl⟩ | ⟨c, hd, e⟩)
  · cases e
    refine .inr ⟨(0, classSize n 0, ((0 + 1 : Nat) : Int)), n, by omega, .inr ⟨0, by omega, rfl⟩, K0, fun k hk => ?_⟩
    have g := hK0 k hk
    dsimp only at g ⊢
    rw [spec_BestClass.l0]
    rw [if_pos (by omega), g, Option.bind_some]
    have : ((classList n 0 (2 ^ n)).length : Int) > -1 := by omega
    rw [if_pos this, w64 _ (by omega) (by omega)]
    rfl
  · cases e
    by_cases h : c < n
    · obtain ⟨K, hK⟩ := specIn_ev n ((c + 1 : Nat) : Int) hn
      refine .inr ⟨((bestUp n (c + 1)).1, (bestUp n (c + 1)).2, ((c + 1 + 1 : Nat) : Int)), d - 1, by omega, .inr ⟨c + 1, by omega, rfl⟩, K, fun k hk => ?_⟩
      have g := hK k hk
      have w : wrap64 (((c + 1 : Nat) : Int) + 1) = ((c + 1 + 1 : Nat) : Int) := by rw [w64 _ (by omega) (by omega)]; rfl
      dsimp only at g ⊢
      rw [spec_BestClass.l0]
      rw [if_pos (by omega), g, Option.bind_some, w]
      by_cases q : classSize n ((c + 1 : Nat) : Int) > (bestUp n c).2
      · rw [bestUp, if_pos q, if_pos (show ((classList n ((c + 1 : Nat) : Int) (2 ^ n)).length : Int) > (bestUp n c).2 from q)]
        rfl
      · rw [bestUp, if_neg q, if_neg (show ¬ ((classList n ((c + 1 : Nat) : Int) (2 ^ n)).length : Int) > (bestUp n c).2 from q)]
    · obtain rfl : c = n := by omega
      refine .inl ⟨0, fun k _ => ?_⟩
      dsimp only
      rw [spec_BestClass.l0]
      rw [if_neg (by omega)]
theorem implBest_ev (n : Nat) (hn : n ≤ 12) : Ev (fun k => impl_BestClass.l0 k (n : Int) 0 0 ((n : Int) + 1) 0) ((bestUp n n).1, (bestUp n n).2, 0) := by
  obtain ⟨K0, hK0⟩ := implIn_ev n 0 hn
  have hz := size_pos n
  refine Ev.loop (L := fun k s => impl_BestClass.l0 k (n : Int) s.1 s.2.1 ((n : Int) + 1) s.2.2) (fun s d => (s = (0, 0, 0) ∧ d = n + 1) ∨ ∃ c : Nat, c + d = n ∧ s = ((bestUp n c).1, (bestUp n c).2, ((c + 1 : Nat) : Int))) ?_ (n + 1) (0, 0, 0) (.inl ⟨rfl, rfl⟩)
  rintro ⟨s1, s2, s3⟩ d (⟨e, rfl⟩ | ⟨c, hd, e⟩)
  · cases e
    refine .inr ⟨(0, classSize n 0, ((0 + 1 : Nat) : Int)), n, by omega, .inr ⟨0, by omega, rfl⟩, K0, fun k hk => ?_⟩
    have g := hK0 k hk
    dsimp only at g ⊢
    rw [impl_BestClass.l0]
    rw [if_pos (by omega), g, Option.bind_some, sizeMark_f, Option.bind_some]
    have : ((classList n 0 (2 ^ n)).length : Int) > 0 := by unfold classSize at hz; omega
    rw [if_pos this, w64 _ (by omega) (by omega)]
    rfl
  · cases e
    by_cases h : c < n
    · obtain ⟨K, hK⟩ := implIn_ev n ((c + 1 : Nat) : Int) hn
      refine .inr ⟨((bestUp n (c + 1)).1, (bestUp n (c + 1)).2, ((c + 1 + 1 : Nat) : Int)), d - 1, by omega, .inr ⟨c + 1, by omega, rfl⟩, K, fun k hk => ?_⟩
      have g := hK k hk
      have w : wrap64 (((c + 1 : Nat) : Int) + 1) = ((c + 1 + 1 : Nat) : Int) := by rw [w64 _ (by omega) (by omega)]; rfl
      dsimp only at g ⊢
      rw [impl_BestClass.l0]
      rw [if_pos (by omega), g, Option.bind_some, sizeMark_f, Option.bind_some, w]
      by_cases q : classSize n ((c + 1 : Nat) : Int) > (bestUp n c).2
      · rw [bestUp, if_pos q, if_pos (show ((classList n ((c + 1 : Nat) : Int) (2 ^ n)).length : Int) > (bestUp n c).2 from q)]
        rfl
      · rw [bestUp, if_neg q, if_neg (show ¬ ((classList n ((c + 1 : Nat) : Int) (2 ^ n)).length : Int) > (bestUp n c).2 from q)]
    · obtain rfl : c = n := by omega
      refine .inl ⟨0, fun k _ => ?_⟩
      dsimp only
      rw [impl_BestClass.l0]
      rw [if_neg (by omega)]
theorem BestClass_both (n : Int) : ∃ R, ((¬ (1 ≤ n ∧ n ≤ 12) ∧ R = (0, 0, 1)) ∨ ((1 ≤ n ∧ n ≤ 12) ∧ R = ((bestUp n.toNat n.toNat).1, (bestUp n.toNat n.toNat).2, 0))) ∧ Ev (fun k => spec_BestClass.f k n) R ∧ Ev (fun k => impl_BestClass.f k n) R := by
  by_cases c : 1 ≤ n ∧ n ≤ 12
  · obtain ⟨j, rfl⟩ := Int.eq_ofNat_of_zero_le (show 0 ≤ n by omega)
    refine ⟨_, .inr ⟨c, rfl⟩, ?_, ?_⟩
    · refine Ev.congr (f := fun k => spec_BestClass.l0 k (j : Int) 0 (-1) 0) (fun k => by unfold spec_BestClass.f; rw [many_f, decide_eq_true c]; rfl) (specBest_ev j (by omega))
    · refine Ev.congr (f := fun k => impl_BestClass.l0 k (j : Int) 0 0 ((j : Int) + 1) 0) (fun k => by unfold impl_BestClass.f; rw [code_nil, if_pos c, w64 _ (by omega) (by omega)]; rfl) (implBest_ev j (by omega))
  · refine ⟨_, .inl ⟨c, rfl⟩, ?_, ?_⟩
    · exact Ev.fixed (fun k => by unfold spec_BestClass.f; rw [many_f, decide_eq_false c]; rfl)
    · exact Ev.fixed (fun k => by unfold impl_BestClass.f; rw [code_nil, if_neg c]; rfl)
theorem in_f (a b c : Int) : spec_l00In.f a b c = some (decide (b ≤ a ∧ a ≤ c)) := by
  unfold spec_l00In.f
  by_cases h1 : b ≤ a <;> by_cases h2 : a ≤ c <;> simp [h1, h2]
theorem within_f (a b c : Int) : impl_within.f a b c = some (decide (b ≤ a ∧ a ≤ c)) := by
  unfold impl_within.f
  by_cases h1 : b ≤ a <;> by_cases h2 : a ≤ c <;> simp [h1, h2]
def classMarks (n c : Int) : List Int × Int :=
  if 1 ≤ n ∧ n ≤ 12 then (if 0 ≤ c ∧ c ≤ n then (if ((classList n.toNat c (2 ^ n.toNat)).length : Int) > 40 then ([], 3) else (classList n.toNat c (2 ^ n.toNat), 0)) else ([], 2)) else ([], 1)
theorem ClassMarks_both (n c : Int) : Ev (fun k => spec_ClassMarks.f k n c) (classMarks n c) ∧ Ev (fun k => impl_ClassMarks.f k n c) (classMarks n c) := by
  have e (a b : Int) := firstOf_ev [a, b] (by simp)
  unfold classMarks
  by_cases h : 1 ≤ n ∧ n ≤ 12
  · rw [if_pos h]
    obtain ⟨j, rfl⟩ := Int.eq_ofNat_of_zero_le (show 0 ≤ n by omega)
    rw [Int.toNat_natCast]
    by_cases h2 : 0 ≤ c ∧ c ≤ (j : Int)
    · rw [if_pos h2]
      have hs := specIn_ev j c (by omega)
      have hi := implIn_ev j c (by omega)
      have e0 := e 0 0
      refine ⟨Ev.congr (f := fun k => (spec_l06In.f k (j : Int) c).bind fun t => if (t.length : Int) > 40 then some ([], 3) else some (t, 0)) (fun k => by unfold spec_ClassMarks.f; rw [many_f, decide_eq_true h, in_f, decide_eq_true h2]; rfl) (Ev.bind hs ?_), Ev.congr (f := fun k => (impl_firstOf.f k [0, 0]).bind fun t => if t = 0 then ((impl_ofClass.f k (j : Int) c).bind fun t => if (t.length : Int) > 40 then some ([], 3) else some (t, 0)) else some ([], t)) (fun k => by unfold impl_ClassMarks.f; rw [code_nil, if_pos h, within_f, decide_eq_true h2]; rfl) (Ev.bind e0 (Ev.ite_t rfl (Ev.bind hi ?_)))⟩
      · show Ev (fun _ => if ((classList j c (2 ^ j)).length : Int) > 40 then some (([] : List Int), (3 : Int)) else some (classList j c (2 ^ j), 0)) _
        by_cases z : ((classList j c (2 ^ j)).length : Int) > 40
        · rw [if_pos z, if_pos z]; exact Ev.const rfl
        · rw [if_neg z, if_neg z]; exact Ev.const rfl
      · show Ev (fun _ => if ((classList j c (2 ^ j)).length : Int) > 40 then some (([] : List Int), (3 : Int)) else some (classList j c (2 ^ j), 0)) _
        by_cases z : ((classList j c (2 ^ j)).length : Int) > 40
        · rw [if_pos z, if_pos z]; exact Ev.const rfl
        · rw [if_neg z, if_neg z]; exact Ev.const rfl
    · rw [if_neg h2]
      refine ⟨Ev.fixed (fun k => by unfold spec_ClassMarks.f; rw [many_f, decide_eq_true h, in_f, decide_eq_false h2]; rfl), Ev.congr (f := fun k => (impl_firstOf.f k [0, 2]).bind fun t => if t = 0 then ((impl_ofClass.f k (j : Int) c).bind fun t => if (t.length : Int) > 40 then some ([], 3) else some (t, 0)) else some ([], t)) (fun k => by unfold impl_ClassMarks.f; rw [code_nil, if_pos h, within_f, decide_eq_false h2]; rfl) (Ev.bind (e 0 2) (Ev.ite_f (by decide) (Ev.const rfl)))⟩
  · rw [if_neg h]
    refine ⟨Ev.fixed (fun k => by unfold spec_ClassMarks.f; rw [many_f, decide_eq_false h]; rfl), ?_⟩
    refine Ev.congr (f := fun k => (impl_firstOf.f k [1, if 0 ≤ c ∧ c ≤ n then 0 else 2]).bind fun t => if t = 0 then ((impl_ofClass.f k n c).bind fun t => if (t.length : Int) > 40 then some ([], 3) else some (t, 0)) else some ([], t)) (fun k => by unfold impl_ClassMarks.f; rw [code_nil, if_neg h, within_f, Option.bind_some, Option.bind_some, unless_d]; rfl) (Ev.bind (e 1 _) (Ev.ite_f (show ¬ ((1 : Int) = 0) by decide) (Ev.const rfl)))
end Go.Proofs.Ytpokpbhcfdaapaa.M
