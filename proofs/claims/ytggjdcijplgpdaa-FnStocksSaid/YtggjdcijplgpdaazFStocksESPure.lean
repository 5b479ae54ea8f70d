import Derived.Test.YtggjdcijplgpdaazFStocksELayG
import Derived.Test.YtggjdcijplgpdaazFStocksEDayOf
import Derived.Test.YtggjdcijplgpdaazFStocksEIdxSS
import Derived.Test.YtggjdcijplgpdaazFStocksEFresh
import Derived.Test.YtggjdcijplgpdaazFStocksEKCode
import Derived.Test.YtggjdcijplgpdaazFStocksELLasts
import Derived.Test.YtggjdcijplgpdaazFStocksELasts
import Derived.Test.YtggjdcijplgpdaazFStocksH12
import Derived.Test.YtggjdcijplgpdaazFStocksESome
import Derived.Test.YtggjdcijplgpdaazFStocksEVHouse
import Derived.Test.YtggjdcijplgpdaazFStocksEVStock
import Derived.Test.YtggjdcijplgpdaazFStocksECloneSt
namespace Go.Proofs.Ytggjdcijplgpdaa.H
open Go.RowKit Go.Proofs.YtggjdcijplgpdaaW.PrintWords Go.Proofs.YtggjdcijplgpdaaW.PrintLast Go.Proofs.YtggjdcijplgpdaaW.PrintMore
attribute [local go_sem] max2_int min2_int max_two min_two max_three min_three max_four min_four
set_option linter.unusedVariables false
set_option linter.unusedSimpArgs false
def csum (s : S55) : Nat → Int
 | 0 => 0
 | n + 1 => csum s n + s.at_ n
def usum (s : S55) : Nat → Int
 | 0 => 0
 | n + 1 => usum s n + s.at_ (8 + n)
theorem csum_put (s : S55) (j : Nat) (hj : j < 25) (v : Int) : ∀ n, n ≤ 8 → csum (s.put j v) n = csum s n + (if j < n then v - s.at_ j else 0)
 | 0, _ => by simp [csum]
 | n + 1, hn => by
  rw [csum, csum, csum_put s j hj v n (by omega), S55.put_at _ _ _ _ hj]
  by_cases c : n = j
  · subst c
    rw [if_pos rfl, if_neg (by omega), if_pos (by omega)]
    omega
  · rw [if_neg c]
    by_cases d : j < n
    · rw [if_pos d, if_pos (by omega)]
      omega
    · rw [if_neg d, if_neg (by omega)]
      omega
theorem usum_put (s : S55) (j : Nat) (hj : j < 25) (v : Int) : ∀ n, n ≤ 8 → usum (s.put j v) n = usum s n + (if 8 ≤ j ∧ j < 8 + n then v - s.at_ j else 0)
 | 0, _ => by
  rw [if_neg (by omega)]
  simp [usum]
 | n + 1, hn => by
  rw [usum, usum, usum_put s j hj v n (by omega), S55.put_at _ _ _ _ hj]
  by_cases c : 8 + n = j
  · subst c
    rw [if_pos rfl, if_neg (by omega), if_pos (by omega)]
    omega
  · rw [if_neg c]
    by_cases d : 8 ≤ j ∧ j < 8 + n
    · rw [if_pos d, if_pos (by omega)]
      omega
    · rw [if_neg d, if_neg (by omega)]
      omega
theorem sumL_put (s : S55) (j : Nat) (hj : j < 25) (v : Int) : sumL (s.put j v).l = sumL s.l - s.at_ j + v := by
 rw [S55.put_l, sumL_set _ _ _ (show j < s.l.length from hj)]
 rfl
theorem csum_nonneg {s : S55} (h : FitSt s) : ∀ n, 0 ≤ csum s n
 | 0 => Int.le_refl _
 | n + 1 => by
  have := csum_nonneg h n
  have := at_pos h n
  show 0 ≤ csum s n + s.at_ n
  omega
theorem stepA_facts (s : S55) (i : Nat) (hi : i < 8) : (∀ n, n ≤ 8 → csum (stepA s i) n = csum s n) ∧ usum (stepA s i) 8 = usum s 8 - s.at_ (8 + i) ∧ (stepA s i).at_ 24 = s.at_ 24 ∧ sumL (stepA s i).l = sumL s.l := by
 unfold stepA
 refine ⟨fun n hn => ?_, ?_, ?_, ?_⟩
 · rw [csum_put _ _ (by omega) _ n hn, csum_put _ _ (by omega) _ n hn, if_neg (by omega), if_neg (by omega)]
   omega
 · rw [usum_put _ _ (by omega) _ 8 (by omega), usum_put _ _ (by omega) _ 8 (by omega), if_neg (by omega), if_pos (by omega), S55.put_at _ _ _ _ (by omega), if_neg (by omega)]
   omega
 · rw [S55.put_at _ _ _ _ (by omega), if_neg (by omega), S55.put_at _ _ _ _ (by omega), if_neg (by omega)]
 · rw [sumL_put _ _ (by omega), sumL_put _ _ (by omega), S55.put_at _ _ _ _ (by omega), if_neg (by omega)]
   omega
theorem after_facts (s : S55) : ∀ i, i ≤ 8 → (∀ n, n ≤ 8 → csum (afterA s i) n = csum s n) ∧ usum (afterA s i) 8 = usum s 8 - usum s i ∧ (afterA s i).at_ 24 = s.at_ 24 ∧ sumL (afterA s i).l = sumL s.l
 | 0, _ => ⟨fun _ _ => rfl, by show usum s 8 = usum s 8 - 0; omega, rfl, rfl⟩
 | i + 1, hi => by
  obtain ⟨h1, h2, h3, h4⟩ := after_facts s i (by omega)
  obtain ⟨g1, g2, g3, g4⟩ := stepA_facts (afterA s i) i (by omega)
  refine ⟨fun n hn => (g1 n hn).trans (h1 n hn), ?_, g3.trans h3, g4.trans h4⟩
  have e := (after_at (s := s) i (by omega) i (Nat.le_refl _) (by omega)).1
  show usum (stepA (afterA s i) i) 8 = _
  rw [g2, h2, e]
  show usum s 8 - usum s i - s.at_ (8 + i) = usum s 8 - (usum s i + s.at_ (8 + i))
  omega
theorem after_dirty (s : S55) : ∀ i, i ≤ 8 → ∀ q, q < i → (afterA s i).at_ (16 + q) = s.at_ (16 + q) + s.at_ (8 + q)
 | 0, _, q, hq => absurd hq (by omega)
 | i + 1, hi, q, hq => by
  show (stepA (afterA s i) i).at_ (16 + q) = _
  unfold stepA
  rw [S55.put_at _ _ _ _ (by omega), if_neg (by omega), S55.put_at _ _ _ _ (by omega)]
  by_cases c : q = i
  · subst c
    have e := after_at (s := s) q (by omega) q (Nat.le_refl _) (by omega)
    rw [if_pos rfl, e.1, e.2]
  · rw [if_neg (by omega)]
    exact after_dirty s i (by omega) q (by omega)
theorem takeStep_facts {s : S55} {m : Int} (i : Nat) (hi : i < 8) :
 csum (takeStep i (s, m)).1 i = csum s i ∧ csum (takeStep i (s, m)).1 8 = csum s 8 - mn (s.at_ i) m ∧ usum (takeStep i (s, m)).1 8 + (takeStep i (s, m)).1.at_ 24 = usum s 8 + s.at_ 24 + mn (s.at_ i) m ∧ (takeStep i (s, m)).2 = m - mn (s.at_ i) m ∧ sumL (takeStep i (s, m)).1.l = sumL s.l ∧ ∀ q, (takeStep i (s, m)).1.at_ (16 + q) = if 16 + q = 24 ∧ i = 0 then s.at_ 24 + mn (s.at_ i) m else s.at_ (16 + q) := by
 unfold takeStep
 dsimp only
 generalize mn (s.at_ i) m = n
 by_cases c : i = 0
 · subst c
   simp only [↓reduceIte]
   have e1 : (s.put 0 (s.at_ 0 - n)).at_ 24 = s.at_ 24 := by rw [S55.put_at _ _ _ _ (by omega), if_neg (by omega)]
   rw [e1]
   refine ⟨rfl, ?_, ?_, by first | rfl | trivial, ?_, fun q => ?_⟩
   · rw [csum_put _ 24 (by omega) _ 8 (by omega), csum_put s 0 (by omega) _ 8 (by omega), e1]
     repeat' split
     all_goals omega
   · rw [usum_put _ 24 (by omega) _ 8 (by omega), usum_put s 0 (by omega) _ 8 (by omega), S55.put_at _ 24 _ _ (by omega), e1]
     repeat' split
     all_goals omega
   · rw [sumL_put _ _ (by omega), sumL_put _ _ (by omega), e1]
     omega
   · rw [S55.put_at _ 24 _ _ (by omega), S55.put_at s 0 _ _ (by omega), if_neg (show ¬ (16 + q = 0) by omega)]
     by_cases d : 16 + q = 24
     · rw [if_pos d, if_pos ⟨d, by first | rfl | trivial⟩]
     · rw [if_neg d, if_neg (fun h => d h.1)]
 · simp only [if_neg c]
   have e1 : (s.put i (s.at_ i - n)).at_ (7 + i) = s.at_ (7 + i) := by rw [S55.put_at _ _ _ _ (by omega), if_neg (by omega)]
   rw [e1]
   refine ⟨?_, ?_, ?_, by first | rfl | trivial, ?_, fun q => ?_⟩
   · rw [csum_put _ (7 + i) (by omega) _ i (by omega), csum_put s i (by omega) _ i (by omega), e1]
     repeat' split
     all_goals omega
   · rw [csum_put _ (7 + i) (by omega) _ 8 (by omega), csum_put s i (by omega) _ 8 (by omega), e1]
     repeat' split
     all_goals omega
   · rw [usum_put _ (7 + i) (by omega) _ 8 (by omega), usum_put s i (by omega) _ 8 (by omega), S55.put_at _ (7 + i) _ _ (by omega), S55.put_at s i _ 24 (by omega), e1]
     repeat' split
     all_goals omega
   · rw [sumL_put _ _ (by omega), sumL_put _ _ (by omega), e1]
     omega
   · rw [S55.put_at _ (7 + i) _ _ (by omega), S55.put_at s i _ _ (by omega)]
     repeat' split
     all_goals omega
theorem takes_facts : ∀ (i : Nat) (s : S55) (m : Int), i ≤ 8 → FitSt s → 0 ≤ m ∧ m ≤ 500 →
 (takes i (s, m)).2 = max 0 (m - csum s i) ∧ csum (takes i (s, m)).1 8 = csum s 8 - (m - (takes i (s, m)).2) ∧ usum (takes i (s, m)).1 8 + (takes i (s, m)).1.at_ 24 = usum s 8 + s.at_ 24 + (m - (takes i (s, m)).2) ∧ sumL (takes i (s, m)).1.l = sumL s.l ∧ ∀ q, q < 8 → (takes i (s, m)).1.at_ (16 + q) = s.at_ (16 + q)
 | 0, s, m, _, h, hm => ⟨by show m = max 0 (m - 0); omega, by show csum s 8 = csum s 8 - (m - m); omega, by show _ = usum s 8 + s.at_ 24 + (m - m); simp [takes], rfl, fun _ _ => rfl⟩
 | i + 1, s, m, hi, h, hm => by
  obtain ⟨g1, g2, g3, g4, g5, g6⟩ := takeStep_facts (s := s) (m := m) i (by omega)
  obtain ⟨h1, h2⟩ := fit_take h hm i (by omega)
  obtain ⟨k1, k2, k3, k4, k5⟩ := takes_facts i (takeStep i (s, m)).1 (takeStep i (s, m)).2 (by omega) h1 h2
  show (takes i (takeStep i (s, m))).2 = _ ∧ csum (takes i (takeStep i (s, m))).1 8 = _ - (m - (takes i (takeStep i (s, m))).2) ∧ _ + (takes i (takeStep i (s, m))).1.at_ 24 = _ + (m - (takes i (takeStep i (s, m))).2) ∧ sumL (takes i (takeStep i (s, m))).1.l = _ ∧ ∀ q, q < 8 → (takes i (takeStep i (s, m))).1.at_ (16 + q) = _
  have k1' : (takes i (takeStep i (s, m))).2 = max 0 ((takeStep i (s, m)).2 - csum (takeStep i (s, m)).1 i) := k1
  have hc := csum_nonneg h i
  have ha := at_pos h i
  refine ⟨?_, ?_, ?_, k4.trans g5, fun q hq => ?_⟩
  · rw [k1', g1, g4]
    show max 0 (m - mn (s.at_ i) m - csum s i) = max 0 (m - (csum s i + s.at_ i))
    unfold mn
    split <;> omega
  · refine k2.trans ?_
    rw [g2, show ((takeStep i (s, m)).1, (takeStep i (s, m)).2) = takeStep i (s, m) from rfl, g4]
    omega
  · refine k3.trans ?_
    rw [g3, show ((takeStep i (s, m)).1, (takeStep i (s, m)).2) = takeStep i (s, m) from rfl, g4]
    omega
  · refine (k5 q hq).trans ?_
    rw [g6 q, if_neg (by omega)]
theorem use_facts {s : S55} {m : Int} (h : FitSt s) (hm : 0 ≤ m ∧ m ≤ 500) :
 (useOf s m).2 = max 0 (m - csum s 8) ∧ csum (useOf s m).1 8 = csum s 8 - (m - (useOf s m).2) ∧ usum (useOf s m).1 8 + ((useOf s m).1.at_ 24 - s.at_ 24) = m - (useOf s m).2 ∧ sumL (useOf s m).1.l = sumL s.l ∧ ∀ q, q < 8 → (useOf s m).1.at_ (16 + q) = s.at_ (16 + q) + s.at_ (8 + q) := by
 obtain ⟨a1, a2, a3, a4⟩ := after_facts s 8 (Nat.le_refl _)
 obtain ⟨t1, t2, t3, t4, t5⟩ := takes_facts 8 (afterA s 8) m (Nat.le_refl _) (fit_after h 8 (Nat.le_refl _)) hm
 unfold useOf
 rw [a1 8 (Nat.le_refl _)] at t1 t2
 rw [a2, a3] at t3
 refine ⟨t1, t2, by omega, t4.trans a4, fun q hq => (t5 q hq).trans (after_dirty s 8 (Nat.le_refl _) q hq)⟩
theorem washStep_csum {s : S55} {n : Int} (h : FitSt s) (hn : 0 ≤ n ∧ n ≤ 1000) (i : Nat) (hi : i < 8) : csum s 8 ≤ csum (washStep i (s, n)).1 8 := by
 have b := mn_bd (at_pos h (16 + i)) hn.1
 unfold washStep
 dsimp only
 have e1 : (s.put (16 + i) (s.at_ (16 + i) - mn (s.at_ (16 + i)) n)).at_ i = s.at_ i := by rw [S55.put_at _ _ _ _ (by omega), if_neg (by omega)]
 rw [e1, csum_put _ i (by omega) _ 8 (by omega), csum_put s (16 + i) (by omega) _ 8 (by omega), e1]
 repeat' split
 all_goals omega
theorem washes_csum : ∀ (i : Nat) (s : S55) (n : Int), i ≤ 8 → FitSt s → 0 ≤ n ∧ n ≤ 1000 → csum s 8 ≤ csum (washes i (s, n)).1 8
 | 0, _, _, _, _, _ => Int.le_refl _
 | i + 1, s, n, hi, h, hn => by
  have h1 := fit_wash h hn i (by omega)
  exact Int.le_trans (washStep_csum h hn i (by omega)) (washes_csum i _ _ (by omega) h1.1 h1.2)
theorem day_one {s : S55} {a1 a2 a3 x : Int} (h : FitSt s) (ha : 0 ≤ a1 ∧ a1 ≤ 1000) (hx : 0 ≤ x ∧ x ≤ 500) : ∃ t, (dayOf [s] a1 a2 a3 [x]).1 = [t] ∧ FitSt t ∧ (dayOf [s] a1 a2 a3 [x]).2 = [max 0 (x - csum s 8)] ∧ csum s 8 - (x - max 0 (x - csum s 8)) ≤ csum t 8 := by
 obtain ⟨u1, u2, _, _, _⟩ := use_facts h hx
 have hf := fit_use h hx
 have e : useTo [s] [x] 1 = ([(useOf s x).1], [(useOf s x).2]) := rfl
 unfold dayOf
 rw [show [s].length = 1 from rfl, e]
 dsimp only
 by_cases c : (a3 + 1) % a2 = 0
 · rw [if_pos c]
   have hw := fit_washes 8 _ _ (Nat.le_refl _) hf.1 ha
   have hc := washes_csum 8 _ _ (Nat.le_refl _) hf.1 ha
   refine ⟨(washes 8 ((useOf s x).1, a1)).1, rfl, hw.1, by rw [u1], ?_⟩
   rw [← u1]
   omega
 · rw [if_neg c]
   refine ⟨_, rfl, hf.1, by rw [u1], ?_⟩
   rw [← u1, u2]
   exact Int.le_refl _
theorem simS_enough (a1 a2 : Int) (ha : 0 ≤ a1 ∧ a1 ≤ 1000) (b : Int) (hb : b ≤ 500) : ∀ (xs : List Int) (s : S55) (a3 : Int), (∀ x ∈ xs, 0 ≤ x ∧ x ≤ b) → FitSt s → b * (xs.length : Int) ≤ csum s 8 → simS a1 a2 xs [s] a3 = false
 | [], _, _, _, _, _ => rfl
 | x :: xs, s, a3, hx, hf, hc => by
  have h0 := hx x (by simp)
  obtain ⟨t, e1, ht, e2, hct⟩ := day_one (a1 := a1) (a2 := a2) (a3 := a3) (x := x) hf ha (by omega)
  have hl : ((x :: xs).length : Int) = (xs.length : Int) + 1 := by simp
  have hb2 : b * ((xs.length : Int) + 1) = b * (xs.length : Int) + b := by rw [Int.mul_add, Int.mul_one]
  rw [hl, hb2] at hc
  have hp : 0 ≤ b * (xs.length : Int) := Int.mul_nonneg (by omega) (by omega)
  have hm : max 0 (x - csum s 8) = 0 := by omega
  rw [hm] at e2 hct
  rw [simS, e1, e2, simS_enough a1 a2 ha b hb xs t (a3 + 1) (fun y hy => hx y (by simp [hy])) ht (by omega)]
  rfl
theorem csum_fresh (p : Int) : csum (freshS p) 8 = p := by
 show 0 + 0 + 0 + 0 + 0 + 0 + 0 + 0 + p = p
 omega
theorem least_of {p : Nat → Bool} : ∀ n, p n = false → ∃ m, m ≤ n ∧ p m = false ∧ ∀ q, q < m → p q = true
 | 0, h => ⟨0, Nat.le_refl _, h, fun q hq => absurd hq (by omega)⟩
 | n + 1, h => by
  by_cases c : ∃ m, m ≤ n ∧ p m = false
  · obtain ⟨m, hm, hp⟩ := c
    have key : ∀ k, k ≤ n → p k = false → ∃ m, m ≤ k ∧ p m = false ∧ ∀ q, q < m → p q = true := by
     intro k
     induction k using Nat.strongRecOn with
     | _ k ih =>
      intro hk hp
      by_cases d : ∃ q, q < k ∧ p q = false
      · obtain ⟨q, hq, hpq⟩ := d
        obtain ⟨m, h1, h2, h3⟩ := ih q hq (by omega) hpq
        exact ⟨m, by omega, h2, h3⟩
      · refine ⟨k, Nat.le_refl _, hp, fun q hq => ?_⟩
        cases e : p q with
        | true => rfl
        | false => exact absurd ⟨q, hq, e⟩ d
    obtain ⟨m', h1, h2, h3⟩ := key m hm hp
    exact ⟨m', by omega, h2, h3⟩
  · refine ⟨n + 1, Nat.le_refl _, h, fun q hq => ?_⟩
    cases e : p q with
    | true => rfl
    | false => exact absurd ⟨q, by omega, e⟩ c
theorem least_stock (tub every : Int) (xs : List Int) (ht : 0 ≤ tub ∧ tub ≤ 1000) (hx : ∀ x ∈ xs, 0 ≤ x ∧ x ≤ 6) (hl : xs.length ≤ 8) : ∃ P : Nat, P ≤ 500 ∧ simS tub every xs [freshS (P : Int)] 0 = false ∧ ∀ q : Nat, q < P → simS tub every xs [freshS (q : Int)] 0 = true := by
 have h : simS tub every xs [freshS ((500 : Nat) : Int)] 0 = false := by
  refine simS_enough tub every ht 6 (by decide) xs _ 0 hx (fit_fresh (p := 500) (by omega) _ (by simp)) ?_
  show 6 * (xs.length : Int) ≤ csum (freshS 500) 8
  rw [csum_fresh]
  omega
 exact least_of (p := fun n => simS tub every xs [freshS (n : Int)] 0) 500 h
theorem run_one (a1 a2 : Int) (ha : 0 ≤ a1 ∧ a1 ≤ 1000) : ∀ (xs : List Int) (l : List S55) (a3 : Int) (out : List (List Int)), (∀ x ∈ xs, 0 ≤ x ∧ x ≤ 500) → FitL l → l.length = 1 → 0 ≤ a3 → a3 + xs.length ≤ 60 →
 ∃ lr LL, runDays a1 a2 (xs.map fun x => [x]) l a3 out = ⟨lr, a1, a2, a3 + xs.length, out ++ LL, 0⟩ ∧ LL.length = xs.length ∧ (LL.any fun r => r.any isShort) = simS a1 a2 xs l a3
 | [], l, a3, out, _, _, _, _, _ => ⟨l, [], by simp [runDays], rfl, rfl⟩
 | x :: xs, l, a3, out, hx, hf, hl, h0, h6 => by
  have hlen : ((x :: xs).length : Int) = (xs.length : Int) + 1 := by simp
  rw [hlen] at h6
  have hNL : NeedL [x] := fun y hy => by rw [List.mem_singleton] at hy; subst hy; exact hx y (by simp)
  have hok := dayOf_ok (a2 := a2) (a3 := a3) hf ha hNL hl.symm
  have hd : dayC l a3 [x] = 0 := by
   unfold dayC
   rw [needOk_of hNL hl.symm, decide_eq_true (show a3 < 60 by omega)]
   rfl
  obtain ⟨lr, LL, e, hL, hS⟩ := run_one a1 a2 ha xs (dayOf l a1 a2 a3 [x]).1 (a3 + 1) (out ++ [(dayOf l a1 a2 a3 [x]).2]) (fun y hy => hx y (by simp [hy])) hok.1 (hok.2.trans hl) (by omega) (by omega)
  refine ⟨lr, (dayOf l a1 a2 a3 [x]).2 :: LL, ?_, by rw [List.length_cons, List.length_cons, hL], ?_⟩
  · rw [List.map_cons, runDays, if_pos hd, e, hlen, List.append_assoc]
    have : a3 + 1 + (xs.length : Int) = a3 + ((xs.length : Int) + 1) := by omega
    rw [this]
    rfl
  · rw [List.any_cons, hS]
    rfl
theorem validH_of {l : List S55} {a1 a2 a3 : Int} (h : FitH l a1 a2 a3) : validH l a1 a2 a3 = true := by
 unfold validH
 have h6 : (l.any fun s => !fitB s) = false := List.any_eq_false.mpr fun s hs => by rw [(fitB_iff s).mpr (h.st s hs)]; simp
 rw [inB_of (by have := h.pos; have := h.four; omega), h6, inB_of h.tub, inB_of h.every, inB_of h.today]
 rfl
theorem dayAll_one {l : List S55} {a1 a2 : Int} {xs : List Int} (h : FitH l a1 a2 0) (hl : l.length = 1) (hx : ∀ x ∈ xs, 0 ≤ x ∧ x ≤ 500) (hn : xs.length ≤ 60) : ∃ lr p3 LL, dayAllOf l a1 a2 0 (xs.map fun x => [x]) = ⟨lr, a1, a2, p3, LL, 0⟩ ∧ LL.length ≤ 60 ∧ (LL.any fun r => r.any isShort) = simS a1 a2 xs l 0 := by
 obtain ⟨lr, LL, e, hL, hS⟩ := run_one a1 a2 h.tub xs l 0 [] hx h.st hl (Int.le_refl _) (by omega)
 refine ⟨lr, 0 + (xs.length : Int), LL, ?_, by omega, hS⟩
 have hs : startC l a1 a2 0 (xs.map fun x => [x]).length = 0 := by
  unfold startC
  rw [validH_of h, List.length_map, decide_eq_true (show (xs.length : Int) ≤ 60 by omega)]
  rfl
 unfold dayAllOf
 rw [if_pos hs, e]
 rfl
def stD (a1 a2 : Int) (needs : List Int) (l : List S55) : Nat → List S55
 | 0 => l
 | k + 1 => (dayOf (stD a1 a2 needs l k) a1 a2 (k : Int) needs).1
theorem stD_fit {a1 a2 : Int} {needs : List Int} {l : List S55} (ha : 0 ≤ a1 ∧ a1 ≤ 1000) (hf : FitL l) (hn : NeedL needs) (hl : needs.length = l.length) : ∀ k, FitL (stD a1 a2 needs l k) ∧ (stD a1 a2 needs l k).length = l.length
 | 0 => ⟨hf, rfl⟩
 | k + 1 => by
  obtain ⟨h1, h2⟩ := stD_fit ha hf hn hl k
  have := dayOf_ok (a2 := a2) (a3 := (k : Int)) h1 ha hn (hl.trans h2.symm)
  exact ⟨this.1, this.2.trans h2⟩
def shortD (a1 a2 : Int) (needs : List Int) (l : List S55) (k : Nat) : Bool := (dayOf (stD a1 a2 needs l k) a1 a2 (k : Int) needs).2.any fun x => decide (0 < x)
theorem lastF_at (a1 a2 : Int) (needs : List Int) (l : List S55) : ∀ (m k : Nat), ∃ N : Nat, lastF a1 a2 needs m (stD a1 a2 needs l k) (k : Int) = (N : Int) ∧ k ≤ N ∧ N ≤ k + m ∧ (∀ q, k ≤ q → q < N → shortD a1 a2 needs l q = false) ∧ (N < k + m → shortD a1 a2 needs l N = true)
 | 0, k => ⟨k, rfl, Nat.le_refl _, Nat.le_refl _, fun q h1 h2 => absurd h2 (by omega), fun h => absurd h (by omega)⟩
 | m + 1, k => by
  rw [lastF]
  cases e : shortD a1 a2 needs l k with
  | true =>
   have e' : ((dayOf (stD a1 a2 needs l k) a1 a2 (k : Int) needs).2.any fun x => decide (0 < x)) = true := e
   rw [if_pos e']
   exact ⟨k, rfl, Nat.le_refl _, by omega, fun q h1 h2 => absurd h2 (by omega), fun _ => e⟩
  | false =>
   have e' : ((dayOf (stD a1 a2 needs l k) a1 a2 (k : Int) needs).2.any fun x => decide (0 < x)) = false := e
   rw [e', if_neg (by decide)]
   obtain ⟨N, h1, h2, h3, h4, h5⟩ := lastF_at a1 a2 needs l m (k + 1)
   refine ⟨N, h1, by omega, by omega, fun q hq hqn => ?_, fun hN => h5 (by omega)⟩
   by_cases c : q = k
   · subst c
     exact e
   · exact h4 q (by omega) hqn
theorem sumAll_set : ∀ (l : List S55) (s : S55), 0 < l.length → sumAll (l.set 0 s) = sumAll l - sumL (l.getD 0 z55).l + sumL s.l
 | [], _, h => absurd h (by simp)
 | t :: l, s, _ => by
  show sumL s.l + sumAll l = sumL t.l + sumAll l - sumL t.l + sumL s.l
  omega
end Go.Proofs.Ytggjdcijplgpdaa.H
