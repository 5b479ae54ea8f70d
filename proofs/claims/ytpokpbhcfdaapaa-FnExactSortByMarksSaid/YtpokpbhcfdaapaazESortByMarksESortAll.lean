import Derived.Test.YtpokpbhcfdaapaazESortByMarksEConcat
import Derived.Test.YtpokpbhcfdaapaazESortByMarksEEvLoop
import Derived.Test.YtpokpbhcfdaapaazESortByMarksEListsInt64
import Derived.Test.YtpokpbhcfdaapaazESortByMarksEListsMark
import Derived.Test.YtpokpbhcfdaapaazESortByMarksEMSort
import Derived.Test.YtpokpbhcfdaapaazESortByMarksEMarkSS
import Derived.Test.YtpokpbhcfdaapaazESortByMarksESortLaw
import Derived.Test.YtpokpbhcfdaapaazESortByMarksM0
import Derived.Test.YtpokpbhcfdaapaazESortByMarksM13
namespace Go.Proofs.Ytpokpbhcfdaapaa.M
open Go.RowKit Go.Proofs.YtpokpbhcfdaapaaW.PrintWords Go.Proofs.YtpokpbhcfdaapaaW.PrintLast Go.Proofs.YtpokpbhcfdaapaaW.PrintMore
attribute [local go_sem] max2_int min2_int max_two min_two max_three min_three max_four min_four
set_option linter.unusedVariables false
set_option linter.unusedSimpArgs false
theorem heldSS_ev (ls : List (List Int)) (hb : ls.length ≤ 1000) (hf : ls.flatten.length ≤ 1000000) : Ev (fun k => laws_heldInt64SS.f k (markedTo ls 1 ls.length) 1) (1 + (ls.flatten.length : Int)) := by
  have L : ∀ d i : Nat, i + d = ls.length → Ev (fun k => laws_heldInt64SS.l0 k (markedTo ls 1 ls.length) (1 + ((upTo ls i).length : Int)) (i : Int)) (1 + (ls.flatten.length : Int)) := by
    intro d
    induction d with
    | zero =>
      intro i hi
      obtain rfl : i = ls.length := by omega
      refine Ev.step (fun k => by rw [laws_heldInt64SS.l0]) (Ev.ite_f (by rw [markedTo_len]; omega) ?_)
      rw [upTo_all]
      exact Ev.const rfl
    | succ d ih =>
      intro i hi
      have hle := upTo_le ls (i + 1)
      have hsc := congrArg List.length (upTo_succ ls i (by omega))
      rw [List.length_append] at hsc
      have hel : rd_L1 (markedTo ls 1 ls.length) (i : Int) = marksInt64 (1 + ((upTo ls i).length : Int)) (rowAt ls i).length := by
        show (markedTo ls 1 ls.length).getD (i : Int).toNat [] = _
        rw [Int.toNat_natCast, List.getD_eq_getElem?_getD, markedTo_before ls 1 ls.length i (by omega) (by omega)]
        rfl
      have hh := laws_heldInt64S.ev (1 + ((upTo ls i).length : Int)) (rowAt ls i).length (by omega) (by omega) (by omega)
      rw [← hel] at hh
      have hn := ih (i + 1) (by omega)
      refine Ev.step (fun k => by rw [laws_heldInt64SS.l0]) (Ev.ite_t (by rw [markedTo_len]; omega) (Ev.ite_t (by omega) (Ev.bind hh (Ev.ite_f (show ¬ (1 + ((upTo ls i).length : Int) + ((rowAt ls i).length : Int) < 0) by omega) ?_))))
      rw [show wrap64 ((i : Int) + 1) = ((i + 1 : Nat) : Int) by rw [w64 _ (by omega) (by omega)]; rfl, show 1 + ((upTo ls i).length : Int) + ((rowAt ls i).length : Int) = 1 + ((upTo ls (i + 1)).length : Int) by omega]
      exact hn
  have h := L ls.length 0 (by omega)
  exact h
theorem eqSS_ev (ls : List (List Int)) (hb : ls.length ≤ 1000) (hf : ls.flatten.length ≤ 1000000) : Ev (fun k => laws_eqInt64SS.f k ls ls) true := by
  have L : ∀ d i : Nat, i + d = ls.length → Ev (fun k => laws_eqInt64SS.l0 k ls ls (i : Int)) true := by
    intro d
    induction d with
    | zero =>
      intro i hi
      refine Ev.step (fun k => by rw [laws_eqInt64SS.l0]) (Ev.ite_f (by omega) ?_)
      exact Ev.const rfl
    | succ d ih =>
      intro i hi
      have hs := row_short ls i
      have hh := laws_eqInt64S.same (rd_L1 ls (i : Int)) (by show ((ls.getD (i : Int).toNat []).length) ≤ _; rw [Int.toNat_natCast]; omega)
      refine Ev.step (fun k => by rw [laws_eqInt64SS.l0]) (Ev.ite_t (by omega) (Ev.ite_t (by omega) (Ev.ite_t (by omega) (Ev.bind hh (Ev.ite_t rfl ?_)))))
      rw [show wrap64 ((i : Int) + 1) = ((i + 1 : Nat) : Int) by rw [w64 _ (by omega) (by omega)]; rfl]
      exact ih (i + 1) (by omega)
  exact Ev.congr (f := fun k => laws_eqInt64SS.l0 k ls ls ((0 : Nat) : Int)) (fun k => by unfold laws_eqInt64SS.f; rw [if_pos rfl]; rfl) (L ls.length 0 (by omega))
set_option maxHeartbeats 4000000 in
set_option maxRecDepth 100000 in
theorem sortShort (a0 : Int) (A1 : Option Addr) (c1 : Nat) (l1 : List Int) (A2 : Option Addr) (c2 : Nat) (l2 : List Int) (W : World) (h : (l1.length : Int) > 1048576 ∨ (l2.length : Int) > 1048576) :
    Calls Try.prog 4 #[.int .i64 a0, .slice A1 l1.length c1, .slice A2 l2.length c2] W fun e w' => e = .returned (.bool true) ∧ Below W.heap.size W w' := by
  by_cases b1 : (l1.length : Int) > 1048576
  · have d1 : decide (1048576 < (l1.length : Int)) = true := decide_eq_true b1
    clear h b1
    go_enter Try.func4, Try.ntmps4
    go_wp2
    go_ret
    exact ⟨rfl, Below.refl _ _⟩
  · have b2 := h.resolve_left b1
    have d1 : decide (1048576 < (l1.length : Int)) = false := decide_eq_false b1
    have d2 : decide (1048576 < (l2.length : Int)) = true := decide_eq_true b2
    clear h b1 b2
    go_enter Try.func4, Try.ntmps4
    go_wp2
    go_ret
    exact ⟨rfl, Below.refl _ _⟩
theorem sortWalk (a0 : Int) (a1 : Option Addr) (len1 cap1 : Nat) (z1 : List Int) (a2 : Option Addr) (len2 cap2 : Nat) (z2 : List Int) (w : World) (w0 : (Lit.int .i64 a0).wf = true) (w1 : (a1 = none ∧ len1 = 0 ∧ cap1 = 0 ∧ z1 = []) ∨ ∃ x, a1 = some x ∧ len1 ≤ cap1 ∧ cap1 ≤ maxLen ∧ z1.length = cap1 ∧ (∀ i, i < z1.length → w.cell? (x.add i) = some (.int .u16 (z1.getD i 0))) ∧ ∀ n ∈ z1, (Lit.int .u16 n).wf = true) (y1 : len1 * 2 ≤ 140737488351232) (w2 : (a2 = none ∧ len2 = 0 ∧ cap2 = 0 ∧ z2 = []) ∨ ∃ x, a2 = some x ∧ len2 ≤ cap2 ∧ cap2 ≤ maxLen ∧ z2.length = cap2 ∧ (∀ i, i < z2.length → w.cell? (x.add i) = some (.int .u16 (z2.getD i 0))) ∧ ∀ n ∈ z2, (Lit.int .u16 n).wf = true) (y2 : len2 * 2 ≤ 140737488351232) :
    Calls Try.prog 4 #[.int .i64 a0, .slice a1 len1 cap1, .slice a2 len2 cap2] w fun e w' => e = .returned (.bool true) ∧ Below w.heap.size w w' := by
  obtain ⟨l1, rfl, hr1, hm1, hw1, hc1⟩ := ReadsInt.ofRowC w1
  obtain ⟨l2, rfl, hr2, hm2, hw2, hc2⟩ := ReadsInt.ofRowC w2
  by_cases b : (l1.length : Int) > 1048576 ∨ (l2.length : Int) > 1048576
  · exact sortShort a0 _ _ l1 _ _ l2 w b
  have b1 : ¬ (l1.length : Int) > 1048576 := fun h => b (.inl h)
  have b2 : ¬ (l2.length : Int) > 1048576 := fun h => b (.inr h)
  obtain ⟨LL, L, c, es, ei, n1, n2, n3⟩ := SortByMarks_both a0 l1 l2 (by omega) (by omega) (fun m hm => u16_bd (hw1 m hm))
  obtain ⟨ks, hs⟩ := Ev.get es
  obtain ⟨ki, hi⟩ := Ev.get ei
  obtain ⟨k1, t1⟩ := Ev.get (laws_toMarkS.ev l1 (by omega))
  obtain ⟨k2, t2⟩ := Ev.get (laws_toMarkS.ev l2 (by omega))
  obtain ⟨ke, e1⟩ := Ev.get (eqSS_ev LL (by omega) (by omega))
  obtain ⟨ke2, e2⟩ := Ev.get (laws_eqInt64S.same L (by omega))
  obtain ⟨kq1, q1⟩ := Ev.get (laws_eqMarkS.same l1 (by omega))
  obtain ⟨kq2, q2⟩ := Ev.get (laws_eqMarkS.same l2 (by omega))
  obtain ⟨km1, m1⟩ := Ev.get (laws_markMarkS.ev l1 1 (by omega) (by omega) (by omega))
  obtain ⟨km2, m2⟩ := Ev.get (laws_markMarkS.ev l2 (1 + (l1.length : Int)) (by omega) (by omega) (by omega))
  obtain ⟨km3, m3⟩ := Ev.get (laws_markInt64S.ev L (1 + (LL.flatten.length : Int)) (by omega) (by omega) (by omega))
  obtain ⟨kh, h1⟩ := Ev.get (heldSS_ev LL (by omega) (by omega))
  obtain ⟨kh2, h2⟩ := Ev.get (laws_heldInt64S.ev (1 + (LL.flatten.length : Int)) L.length (by omega) (by omega) (by omega))
  exact sortLaw_calls a0 _ _ l1 _ _ l2 w (Kd.C_of_reads (d := (0 : Int)) (h1 := fun _ => rfl) hr1) hc1 (Kd.C_of_reads (d := (0 : Int)) (h1 := fun _ => rfl) hr2) hc2 LL L c _ _ _ _ _ _ _ k1 k2 ks ki ke ke2 kq1 kq2 km1 km2 km3 kh kh2 b1 b2 t1 t2 hs hi e1 e2 q1 q2 m1 m2 (by omega) (by omega) (by omega) rfl (by omega) m3 h1 h2 (by omega) (marksInt64_len _ _)
end Go.Proofs.Ytpokpbhcfdaapaa.M
