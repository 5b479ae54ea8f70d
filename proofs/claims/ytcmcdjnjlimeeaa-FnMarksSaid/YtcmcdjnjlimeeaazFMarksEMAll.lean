import Derived.Test.YtcmcdjnjlimeeaazFMarksEEvLoop
import Derived.Test.YtcmcdjnjlimeeaazFMarksEMDraw
import Derived.Test.YtcmcdjnjlimeeaazFMarksEMFine2a
import Derived.Test.YtcmcdjnjlimeeaazFMarksEMLem
import Derived.Test.YtcmcdjnjlimeeaazFMarksEMLem2
import Derived.Test.YtcmcdjnjlimeeaazFMarksEMLem3
import Derived.Test.YtcmcdjnjlimeeaazFMarksEMLem4
import Derived.Test.YtcmcdjnjlimeeaazFMarksEMLem4a
import Derived.Test.YtcmcdjnjlimeeaazFMarksEMLem5a
import Derived.Test.YtcmcdjnjlimeeaazFMarksEMLem6
import Derived.Test.YtcmcdjnjlimeeaazFMarksEMLem7i
import Derived.Test.YtcmcdjnjlimeeaazFMarksEMMarks
import Derived.Test.YtcmcdjnjlimeeaazFMarksEMTold
import Derived.Test.YtcmcdjnjlimeeaazFMarksEMarkCode
import Derived.Test.YtcmcdjnjlimeeaazFMarksM0
import Derived.Test.YtcmcdjnjlimeeaazFMarksM1
import Derived.Test.YtcmcdjnjlimeeaazFMarksM12
import Derived.Test.YtcmcdjnjlimeeaazFMarksM4
import Derived.Test.YtcmcdjnjlimeeaazFMarksM5
import Derived.Test.YtcmcdjnjlimeeaazFMarksM6
import Derived.Test.YtcmcdjnjlimeeaazFMarksM8
namespace Go.Proofs.Ytcmcdjnjlimeeaa.M
open Go.RowKit Go.Proofs.YtcmcdjnjlimeeaaW.PrintWords Go.Proofs.YtcmcdjnjlimeeaaW.PrintLast Go.Proofs.YtcmcdjnjlimeeaaW.PrintMore
attribute [local go_sem] max2_int min2_int max_two min_two max_three min_three max_four min_four
set_option linter.unusedVariables false
set_option linter.unusedSimpArgs false
theorem marks_rd_mem (l : List Int) (i : Nat) (h : i < l.length) : rd l (i : Int) ∈ l := by
  rw [rd_of_lt l i h]
  exact List.getElem_mem h
theorem readOf_ev (n : Nat) (hn : 1 ≤ n ∧ n ≤ 7) (G : List Int) (hl : G.length ≤ 40) (hb : ∀ x ∈ G, 0 ≤ x ∧ x < 2 ^ n) (hA : Apart G) (i : Nat) (hi : i < G.length) (s : Int) (hs : s ∈ seenOf (rd G (i : Int)) 12) : Ev (fun k => impl_ReadStitches.f k (n : Int) G s) ((i : Int), 0) := by
  have hp : 2 ^ n ≤ 2 ^ 7 := Nat.pow_le_pow_right (by decide) hn.2
  have hpn := pow_nat n
  have hx := hb _ (marks_rd_mem G i hi)
  obtain ⟨g, hg⟩ := Int.eq_ofNat_of_zero_le hx.1
  rw [hg] at hs hx
  have hsb := few_mem g (by omega) s hs
  have v : ∀ x ∈ G, 0 ≤ x ∧ x < 65536 := fun x hm => ⟨(hb x hm).1, by have := (hb x hm).2; omega⟩
  obtain ⟨R, hR, hE⟩ := implReadS_ev (n : Int) G s (by omega) v
  have hc : codeSeen (n : Int) G s = 0 := by
    unfold codeSeen
    rw [if_pos (okFew n ⟨hn.1, by omega⟩ s hsb.1 (by omega)), listOk n ⟨hn.1, by omega⟩ G hl hb]
  have hat : readAt G s = (i : Int) := readAt_of G hA i hi s (by rw [← rd_of_lt G i hi, hg]; exact hs)
  rcases hR with ⟨h, _⟩ | ⟨_, ⟨⟨a, b, h⟩, _⟩ | ⟨_, ⟨h, _⟩ | ⟨_, rfl⟩⟩⟩
  · exact absurd hc h
  · exact (not_meeting hA h).elim
  · rw [hat] at h; omega
  · rw [hat] at hE; exact hE
theorem marksTold (l0 l1 : List Int) (hw0 : ∀ x ∈ l0, (Lit.int .u8 x).wf = true) (hw1 : ∀ x ∈ l1, (Lit.int .u8 x).wf = true) (h0 : l0.length ≤ 3000) (h1 : l1.length ≤ 3000) : ∃ n m most LS D G ap a b four, MarksTold l0 l1 n m most LS D G ap a b four := by
  obtain ⟨t, ht, hat⟩ := at_f l0 0 6 (by omega) (by omega) (by omega) hw0
  obtain ⟨t', rfl⟩ : ∃ q : Nat, t = (q : Int) := Int.eq_ofNat_of_zero_le hat.1
  obtain ⟨n, hnt⟩ : ∃ n : Nat, n = t' + 2 := ⟨_, rfl⟩
  have hn2 : wrap64 (2 + (t' : Int)) = (n : Int) := by rw [w64 _ (by omega) (by omega)]; omega
  have hB : 2 ≤ n ∧ n ≤ 7 := by omega
  have hB2 : 1 ≤ n ∧ n ≤ 12 := by omega
  obtain ⟨x, hx, hx0, hx1⟩ := a2mark_f l1 n (by omega)
  obtain ⟨m, rfl⟩ : ∃ m : Nat, x = (m : Int) := Int.eq_ofNat_of_zero_le hx0
  have hpn := pow_nat n
  have hp7 : 2 ^ n ≤ 2 ^ 7 := Nat.pow_le_pow_right (by decide) hB.2
  have hm : m < 2 ^ n := by omega
  have hm7 : m < 128 := by omega
  obtain ⟨LS, hLS, hLl, hLb⟩ := a2marks_ev l0 n (by omega)
  obtain ⟨most, hmo, hmo0, hmo1⟩ := at_f l1 2 12 (by omega) (by omega) (by omega) hw1
  have okm := okFew n hB2 (m : Int) (by omega) hx1
  have vLS : ∀ x ∈ LS, 0 ≤ x ∧ x < 65536 := fun x hm => ⟨(hLb x hm).1, by have := (hLb x hm).2; omega⟩
  have cLS := listOk n hB2 LS (by omega) hLb
  obtain ⟨R1, hR1, hs1, hi1⟩ := FirstClash_both (n : Int) LS (by omega) vLS
  obtain ⟨R2, hR2, hs2, hi2⟩ := CheckMarks_both (n : Int) LS (by omega) vLS
  have T := greedy_all n most hmo0
  have gm : greedyMarks (n : Int) most = (greedy most (2 ^ n) [], 0) := by
    unfold greedyMarks
    rw [if_pos (by omega), if_pos (by omega), Int.toNat_natCast]
  have gI := implGreedyMarks_ev (n : Int) most
  have gS := specGreedyMarks_ev (n : Int) most
  rw [gm] at gI gS
  generalize greedy most (2 ^ n) [] = G at T gI gS
  have gl : G.length ≤ 40 := by have := T.short; omega
  have gb : ∀ x ∈ G, 0 ≤ x ∧ x < 2 ^ n := fun x hx => ⟨by have := (T.bd x hx).1; omega, (T.bd x hx).2⟩
  have gv : ∀ x ∈ G, 0 ≤ x ∧ x < 65536 := fun x hm => ⟨(gb x hm).1, by have := (gb x hm).2; omega⟩
  have gA := apart_of T.apart
  have gc := listOk n hB2 G gl gb
  have dl := seen_len (m : Int) 12
  -- all but the clash
  have all : ∀ (ap : Bool) (a b four : Int), Ev (fun k => impl_CheckMarks.f k (n : Int) LS) (ap, 0) → Ev (fun k => spec_CheckMarks.f k (n : Int) LS) (ap, 0) → Ev (fun k => impl_FirstClash.f k (n : Int) LS) (a, b, four) → Ev (fun k => spec_FirstClash.f k (n : Int) LS) (a, b, four) → (four == 6) = ap →
      (ap = true ∨ (ap = false ∧ ∃ (p q : Nat) (S1 S2 : List Int) (v : Int), a = (p : Int) ∧ b = (q : Int) ∧ p < q ∧ q < LS.length ∧ (∃ k, spec_LostFrom.f k (n : Int) (rd LS (p : Int)) = some (S1, 0)) ∧ (∃ k, spec_LostFrom.f k (n : Int) (rd LS (q : Int)) = some (S2, 0)) ∧ S1.length ≤ 1000 ∧ (∀ j : Nat, j < S1.length → ∃ k, spec_A2HasMark.f k S2 (rd S1 (j : Int)) = some (S2.contains (rd S1 (j : Int)))) ∧ (S1.any fun s => S2.contains s) = true ∧ ∃ k, impl_ReadStitches.f k (n : Int) LS (m : Int) = some (v, 4))) →
      MarksTold l0 l1 n m most LS (seenOf (m : Int) 12) G ap a b four := by
    intro ap a b four e1 e2 e3 e4 he hr
    refine { long := ?_, at1 := ⟨_, ht, hn2⟩, mark := hx, marks := Ev.get hLS, at2 := hmo, text := ?_, lost := ?_, lostS := ?_, check := Ev.get e1, checkS := Ev.get e2, clash := Ev.get e3, clashS := Ev.get e4, gr := Ev.get gI, grS := Ev.get gS, valid := ?_, sameD := Ev.get (sameMarks_ev _ (by omega)), sameG := Ev.get (sameMarks_ev _ (by omega)), count := ?_, same := he, short := by have := T.short; omega, dlen := by omega, glen := gl, apart := ?_, fine := Ev.get (implCheck_ev (n : Int) G gv gc gA), each := ?_, further := ?_, rest := hr }
    · unfold laws_a2Long.f
      rw [if_neg (by omega), decide_eq_false (by omega)]
    · obtain ⟨k1, hk1⟩ := Ev.get (textOf_ev m n hm hB2)
      obtain ⟨k2, hk2⟩ := Ev.get (readText_ev m n hm hB2)
      exact ⟨k1, _, hk1, k2, hk2⟩
    · refine Ev.get (g := fun k => impl_LostFrom.f k (n : Int) (m : Int)) (Ev.congr (f := fun k => (impl_Mark_lost.f k (m : Int)).bind fun t => some (t, 0)) (fun k => ?_) (Ev.bind (implLost_ev (m : Int) (by omega) (by omega)) (Ev.const rfl)))
      unfold impl_LostFrom.f
      rw [code_one, if_pos okm, Option.bind_some, if_pos rfl]
    · exact Ev.get (specLostFrom_ev (n : Int) (m : Int) (by omega) okm)
    · rw [valid_f, okm]
    · have hc := few_count m hm7
      have hb := sumBits_bd (m : Int) 16
      exact ⟨_, stitchesIn_f (m : Int) (by omega) (by omega), by rw [w64 _ (by omega) (by omega)]; exact hc⟩
    · intro i hi
      obtain ⟨z1, z2, z3, z4, z5⟩ := few_seen m hm7 i hi
      exact ⟨_, apartBy_f (n : Int) (m : Int) _ okm (okFew n hB2 _ z4 (by omega)), by omega, z2, z3⟩
    · intro i hi
      have hx := gb _ (marks_rd_mem G i hi)
      obtain ⟨g, hg⟩ := Int.eq_ofNat_of_zero_le hx.1
      have ok := okFew n hB2 _ hx.1 hx.2
      have sl := seen_len (rd G (i : Int)) 12
      obtain ⟨k, hk⟩ := Ev.get (specLostFrom_ev (n : Int) _ hx.1 ok)
      refine ⟨_, k, hk, by omega, fun h0 => ?_, fun j hj => ?_⟩
      · have hd := List.pairwise_iff_getElem.mp T.down (i - 1) i (by omega) hi (by omega)
        rw [← rd_of_lt G i hi, ← rd_of_lt G (i - 1) (by omega), show ((i - 1 : Nat) : Int) = (i : Int) - 1 by omega] at hd
        omega
      · exact Ev.get (readOf_ev n ⟨by omega, hB.2⟩ G gl gb gA i hi _ (marks_rd_mem _ j hj))
    · have fb : ∀ x ∈ G ++ [(m : Int)], 0 ≤ x ∧ x < 2 ^ n := by
        intro x hx
        rcases List.mem_append.mp hx with hx | hx
        · exact gb x hx
        · rw [List.mem_singleton] at hx
          subst hx
          exact ⟨by omega, hx1⟩
      have fl : (G ++ [(m : Int)]).length ≤ 40 := by rw [List.length_append, List.length_singleton]; have := T.short; omega
      obtain ⟨R, hR, _, hI⟩ := CheckMarks_both (n : Int) (G ++ [(m : Int)]) (by omega) (fun x hm => ⟨(fb x hm).1, by have := (fb x hm).2; omega⟩)
      obtain ⟨k, hk⟩ := Ev.get hI
      rcases hR with ⟨h, _⟩ | ⟨_, ⟨rfl, hA⟩ | ⟨rfl, _⟩⟩
      · exact absurd (listOk n hB2 _ fl fb) h
      · refine ⟨k, true, hk, fun hlt => ?_⟩
        have hf := T.full hlt m (Nat.zero_le _) hx1
        obtain ⟨y, hy, hmy⟩ := List.any_eq_true.mp hf
        have := (List.pairwise_append.mp (apart_to hA)).2.2 y hy (m : Int) (by simp)
        rw [hmy] at this
        cases this
      · exact ⟨k, false, hk, fun _ => rfl⟩
  rcases hR1 with ⟨h, _⟩ | ⟨_, ⟨rfl, hA⟩ | ⟨p, q, rfl, hM⟩⟩
  · exact absurd cLS h
  · rcases hR2 with ⟨h, _⟩ | ⟨_, ⟨rfl, _⟩ | ⟨_, a, b, hM⟩⟩
    · exact absurd cLS h
    · exact ⟨n, m, most, LS, _, G, true, 0, 0, 6, all true 0 0 6 hi2 hs2 hi1 hs1 rfl (.inl rfl)⟩
    · exact (not_meeting hA hM).elim
  · rcases hR2 with ⟨h, _⟩ | ⟨_, ⟨_, hA⟩ | ⟨rfl, _⟩⟩
    · exact absurd cLS h
    · exact (not_meeting hA hM).elim
    · refine ⟨n, m, most, LS, _, G, false, (p : Int), (q : Int), 0, all false _ _ 0 hi2 hs2 hi1 hs1 rfl (.inr ⟨rfl, ?_⟩)⟩
      have hM' := hM
      obtain ⟨hpq, hq, hme⟩ := hM
      have bp := hLb _ (marks_rd_mem LS p (by omega))
      have bq := hLb _ (marks_rd_mem LS q hq)
      have lp := seen_len (rd LS (p : Int)) 12
      have lq := seen_len (rd LS (q : Int)) 12
      obtain ⟨R, hR, hE⟩ := implReadS_ev (n : Int) LS (m : Int) (by omega) vLS
      have hc : codeSeen (n : Int) LS (m : Int) = 0 := by
        unfold codeSeen
        rw [if_pos okm, cLS]
      refine ⟨p, q, _, _, 0, rfl, rfl, hpq, hq, Ev.get (specLostFrom_ev (n : Int) _ bp.1 (okFew n hB2 _ bp.1 bp.2)), Ev.get (specLostFrom_ev (n : Int) _ bq.1 (okFew n hB2 _ bq.1 bq.2)), by omega, fun j hj => ?_, ?_, ?_⟩
      · exact Ev.get (g := fun k => spec_A2HasMark.f k _ _) (Ev.bind (has_ev _ _ (by omega)) (Ev.const rfl))
      · rw [rd_of_lt LS p (by omega), rd_of_lt LS q hq]
        exact hme
      · rcases hR with ⟨h, _⟩ | ⟨_, ⟨_, rfl⟩ | ⟨hA, _⟩⟩
        · exact absurd hc h
        · exact Ev.get hE
        · exact (not_meeting hA hM').elim
end Go.Proofs.Ytcmcdjnjlimeeaa.M
