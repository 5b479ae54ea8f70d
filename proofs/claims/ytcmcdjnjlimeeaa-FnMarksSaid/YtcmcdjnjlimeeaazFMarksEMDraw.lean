import Derived.Test.YtcmcdjnjlimeeaazFMarksEEvLoop
import Derived.Test.YtcmcdjnjlimeeaazFMarksEMFine2a
import Derived.Test.YtcmcdjnjlimeeaazFMarksM0
import Derived.Test.YtcmcdjnjlimeeaazFMarksM1
namespace Go.Proofs.Ytcmcdjnjlimeeaa.M
open Go.RowKit Go.Proofs.YtcmcdjnjlimeeaaW.PrintWords Go.Proofs.YtcmcdjnjlimeeaaW.PrintLast Go.Proofs.YtcmcdjnjlimeeaaW.PrintMore
attribute [local go_sem] max2_int min2_int max_two min_two max_three min_three max_four min_four
set_option linter.unusedVariables false
set_option linter.unusedSimpArgs false
theorem u8_bd {x : Int} (h : (Lit.int .u8 x).wf = true) : 0 ≤ x ∧ x < 256 := by
  simp [Lit.wf, IntKind.min, IntKind.max, IntKind.bits, IntKind.signed] at h
  omega
theorem rd_u8 (l : List Int) (i : Nat) (h : i < l.length) (hw : ∀ x ∈ l, (Lit.int .u8 x).wf = true) : 0 ≤ rd l (i : Int) ∧ rd l (i : Int) < 256 := by
  rw [rd_of_lt l i h]
  exact u8_bd (hw _ (List.getElem_mem h))
theorem at_f (l : List Int) (i : Nat) (q : Int) (hq : 1 ≤ q) (hi : i ≤ 1000) (hq2 : q ≤ 1000) (hw : ∀ x ∈ l, (Lit.int .u8 x).wf = true) : ∃ t, laws_a2At.f l i q = some t ∧ 0 ≤ t ∧ t < q := by
  unfold laws_a2At.f
  by_cases c : (i : Int) ≥ (l.length : Int)
  · exact ⟨0, by rw [if_pos c], by omega, by omega⟩
  · have hb := rd_u8 l i (by omega) hw
    refine ⟨Int.tmod (rd l i) q, by rw [if_neg c, if_neg (by omega), if_pos (by omega), if_pos (by omega), if_neg (by omega), w64 _ (by omega) (by omega)], ?_, ?_⟩
    · rw [Int.tmod_eq_emod_of_nonneg hb.1]; exact Int.emod_nonneg _ (by omega)
    · rw [Int.tmod_eq_emod_of_nonneg hb.1]; exact Int.emod_lt_of_pos _ (by omega)
theorem next_f (l : List Int) (i : Nat) (hi : i ≤ 100000) (x : Int) : ∃ r y, spec_l00Src_next.f l (i : Int) x = some (r, ((i + 1 : Nat) : Int), y) := by
  unfold spec_l00Src_next.f
  rw [show wrap64 ((i : Int) + 1) = ((i + 1 : Nat) : Int) by rw [w64 _ (by omega) (by omega)]; rfl]
  by_cases c : (i : Int) < (l.length : Int)
  · rw [if_pos c, if_pos (by omega), if_pos (by omega)]
    exact ⟨_, _, rfl⟩
  · rw [if_neg c, if_neg (by omega)]
    exact ⟨_, _, rfl⟩
theorem a2mark_f (l : List Int) (n : Nat) (hn : n ≤ 12) : ∃ t, spec_A2Mark.f l (n : Int) = some t ∧ 0 ≤ t ∧ t < 2 ^ n := by
  obtain ⟨r1, y1, h1⟩ := next_f l 0 (by omega) 0
  obtain ⟨r2, y2, h2⟩ := next_f l 1 (by omega) y1
  have hp : spec_l00Src_pick.f l 0 0 65536 = some (Int.tmod (wrap64 ((wrap64 (r1 * 256)) + r2)) 65536, ((1 + 1 : Nat) : Int), y2) := by
    unfold spec_l00Src_pick.f
    rw [if_neg (by decide), show spec_l00Src_next.f l 0 0 = _ from h1, Option.bind_some, if_pos (by decide), show spec_l00Src_next.f l ((0 + 1 : Nat) : Int) y1 = _ from h2, Option.bind_some, if_neg (by decide)]
  have hW := wrap_u16_bd (Int.tmod (wrap64 ((wrap64 (r1 * 256)) + r2)) 65536)
  have hA := and_low _ hW n hn
  refine ⟨_, ?_, hA⟩
  unfold spec_A2Mark.f spec_l00From.f
  rw [Option.bind_some, hp, Option.bind_some, u64_nat n (by omega), if_pos (by omega)]
  have hs : IntKind.u16.wrap (shl .u16 1 (n : Int) - 1) = (2 : Int) ^ n - 1 := by
    have : ∀ q : Fin 13, IntKind.u16.wrap (shl .u16 1 ((q.val : Nat) : Int) - 1) = (2 : Int) ^ q.val - 1 := by decide +kernel
    exact this ⟨n, by omega⟩
  rw [hs]
end Go.Proofs.Ytcmcdjnjlimeeaa.M
