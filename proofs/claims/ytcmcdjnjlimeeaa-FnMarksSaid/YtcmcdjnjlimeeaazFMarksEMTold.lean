import Derived.Test.YtcmcdjnjlimeeaazFMarksEGreedyMarks
import Derived.Test.YtcmcdjnjlimeeaazFMarksM0
import Derived.Test.YtcmcdjnjlimeeaazFMarksM1
import Derived.Test.YtcmcdjnjlimeeaazFMarksM10
import Derived.Test.YtcmcdjnjlimeeaazFMarksM12
import Derived.Test.YtcmcdjnjlimeeaazFMarksM2
import Derived.Test.YtcmcdjnjlimeeaazFMarksM3
import Derived.Test.YtcmcdjnjlimeeaazFMarksM4
import Derived.Test.YtcmcdjnjlimeeaazFMarksM5
import Derived.Test.YtcmcdjnjlimeeaazFMarksM6
import Derived.Test.YtcmcdjnjlimeeaazFMarksM8
import Derived.Test.YtcmcdjnjlimeeaazFMarksM9
namespace Go.Proofs.Ytcmcdjnjlimeeaa.M
open Go.RowKit Go.Proofs.YtcmcdjnjlimeeaaW.PrintWords Go.Proofs.YtcmcdjnjlimeeaaW.PrintLast Go.Proofs.YtcmcdjnjlimeeaaW.PrintMore
attribute [local go_sem] max2_int min2_int max_two min_two max_three min_three max_four min_four
set_option linter.unusedVariables false
set_option linter.unusedSimpArgs false
structure MarksTold (l0 l1 : List Int) (n m most : Int) (LS D G : List Int) (ap : Bool) (a b four : Int) : Prop where
  long : laws_a2Long.f l0 l1 = some false
  at1 : ∃ t0, laws_a2At.f l0 0 6 = some t0 ∧ wrap64 (2 + t0) = n
  mark : spec_A2Mark.f l1 n = some m
  marks : ∃ k, spec_A2Marks.f k l0 n = some LS
  at2 : laws_a2At.f l1 2 12 = some most
  text : ∃ k tx, impl_MarkText.f k n m = some tx ∧ ∃ k, impl_ReadMark.f k tx = some (m, n, 0)
  lost : ∃ k, impl_LostFrom.f k n m = some (D, 0)
  lostS : ∃ k, spec_LostFrom.f k n m = some (D, 0)
  check : ∃ k, impl_CheckMarks.f k n LS = some (ap, 0)
  checkS : ∃ k, spec_CheckMarks.f k n LS = some (ap, 0)
  clash : ∃ k, impl_FirstClash.f k n LS = some (a, b, four)
  clashS : ∃ k, spec_FirstClash.f k n LS = some (a, b, four)
  gr : ∃ k, impl_GreedyMarks.f k n most = some (G, 0)
  grS : ∃ k, spec_GreedyMarks.f k n most = some (G, 0)
  valid : impl_ValidMark.f n m = some true
  sameD : ∃ k, spec_A2SameMarks.f k D D = some true
  sameG : ∃ k, spec_A2SameMarks.f k G G = some true
  count : ∃ st, impl_StitchesIn.f m = some st ∧ wrap64 (st + 1) = (D.length : Int)
  same : (four == 6) = ap
  short : ¬ (G.length : Int) > most
  dlen : D.length ≤ 1000
  glen : G.length ≤ 40
  apart : ∀ i : Nat, i < D.length → ∃ y, impl_ApartBy.f n m (rd D (i : Int)) = some (y, 0) ∧ ¬ y > 1 ∧ (y == 0) = ((i : Int) == 0) ∧ Go.bits .andNot .u16 (rd D (i : Int)) m = 0
  fine : ∃ k, impl_CheckMarks.f k n G = some (true, 0)
  each : ∀ i : Nat, i < G.length → ∃ S k, spec_LostFrom.f k n (rd G (i : Int)) = some (S, 0) ∧ S.length ≤ 1000 ∧ (0 < i → ¬ rd G (i : Int) ≥ rd G ((i : Int) - 1)) ∧ ∀ j : Nat, j < S.length → ∃ k, impl_ReadStitches.f k n G (rd S (j : Int)) = some ((i : Int), 0)
  further : ∃ k fu, impl_CheckMarks.f k n (G ++ [m]) = some (fu, 0) ∧ ((G.length : Int) < most → fu = false)
  rest : ap = true ∨ (ap = false ∧ ∃ (p q : Nat) (S1 S2 : List Int) (v : Int), a = (p : Int) ∧ b = (q : Int) ∧ p < q ∧ q < LS.length ∧ (∃ k, spec_LostFrom.f k n (rd LS (p : Int)) = some (S1, 0)) ∧ (∃ k, spec_LostFrom.f k n (rd LS (q : Int)) = some (S2, 0)) ∧ S1.length ≤ 1000 ∧ (∀ j : Nat, j < S1.length → ∃ k, spec_A2HasMark.f k S2 (rd S1 (j : Int)) = some (S2.contains (rd S1 (j : Int)))) ∧ (S1.any fun s => S2.contains s) = true ∧ ∃ k, impl_ReadStitches.f k n LS m = some (v, 4))
theorem at_u16 {w : World} {A : Option Addr} {l : List Int} (h : Kd.C (Kd.int .u16) w A l.length l) (i : Nat) (hi : i < l.length) : ∃ ad, A = some ad ∧ w.cell? (ad.add i) = some (.int .u16 (rd l (i : Int))) := by
  obtain ⟨ad, e, hx⟩ := Kd.at_int h (i : Int) (by omega) (by omega)
  rw [Int.toNat_natCast] at hx
  exact ⟨ad, e, hx⟩
end Go.Proofs.Ytcmcdjnjlimeeaa.M
