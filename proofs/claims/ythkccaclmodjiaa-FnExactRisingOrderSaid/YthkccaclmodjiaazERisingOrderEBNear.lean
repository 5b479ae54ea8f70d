import Derived.Test.YthkccaclmodjiaazERisingOrderEEvLoop
import Derived.Test.YthkccaclmodjiaazERisingOrderI0
import Derived.Test.YthkccaclmodjiaazERisingOrderI1
import Derived.Test.YthkccaclmodjiaazERisingOrderI2
import Derived.Test.YthkccaclmodjiaazERisingOrderI7
import Derived.Test.YthkccaclmodjiaazERisingOrderI9
namespace Go.Proofs.Ythkccaclmodjiaa.I
open Go.RowKit Go.Proofs.YthkccaclmodjiaaW.PrintWords Go.Proofs.YthkccaclmodjiaaW.PrintLast Go.Proofs.YthkccaclmodjiaaW.PrintMore
attribute [local go_sem] max2_int min2_int max_two min_two max_three min_three max_four min_four
set_option linter.unusedVariables false
set_option linter.unusedSimpArgs false
def mk1 (x : List S57) (i a : Int) : List S57 := x.set (i : Int).toNat (⟨IntKind.i8.wrap a, (rd_T57 x i).f1, (rd_T57 x i).f2⟩ : S57)
def mk2 (x : List S57) (i a : Int) : List S57 := (mk1 x i a).set (i : Int).toNat (⟨(rd_T57 (mk1 x i a) i).f0, IntKind.i8.wrap (wrap64 (a + 1)), (rd_T57 (mk1 x i a) i).f2⟩ : S57)
def mk3 (x : List S57) (i a : Int) : List S57 := (mk2 x i a).set (i : Int).toNat (⟨(rd_T57 (mk2 x i a) i).f0, (rd_T57 (mk2 x i a) i).f1, IntKind.i16.wrap (wrap64 (wrap64 (a + 1) + 1))⟩ : S57)
theorem mk3_len (x : List S57) (i a : Int) : (mk3 x i a).length = x.length := by
  unfold mk3 mk2 mk1
  simp only [List.length_set]
theorem markPiece_ev (l : List S57) (hm : l.length ≤ 1048576) : ∃ m, Ev (fun k => laws_markPieceS.f k l 1) (1 + 3 * (l.length : Int), m) := by
  have key : ∀ (d i : Nat) (x : List S57), x.length = l.length → i + d = l.length → ∃ m, Ev (fun k => laws_markPieceS.l0 k x (1 + 3 * (i : Int)) (i : Int)) (1 + 3 * (l.length : Int), m) := by
    intro d
    induction d with
    | zero =>
      intro i x hx hd
      obtain rfl : i = l.length := by omega
      refine ⟨x, Ev.step (f := fun _ => some (1 + 3 * (l.length : Int), x)) (fun k => ?_) (Ev.const rfl)⟩
      rw [laws_markPieceS.l0]
      rw [if_neg (by omega)]
    | succ d ih =>
      intro i x hx hd
      have c1 : (i : Int) < (x.length : Int) := by omega
      have c2 : (0 : Int) ≤ (i : Int) := by omega
      have w1 : wrap64 ((i : Int) + 1) = ((i + 1 : Nat) : Int) := by rw [w64 _ (by omega) (by omega)]; rfl
      have w2 : wrap64 (1 + 3 * (i : Int) + 1) = 1 + 3 * (i : Int) + 1 := w64 _ (by omega) (by omega)
      have w3 : wrap64 (1 + 3 * (i : Int) + 1 + 1) = 1 + 3 * (i : Int) + 1 + 1 := w64 _ (by omega) (by omega)
      have w4 : wrap64 (1 + 3 * (i : Int) + 1 + 1 + 1) = 1 + 3 * ((i + 1 : Nat) : Int) := by rw [w64 _ (by omega) (by omega)]; omega
      have hs : ∀ k, laws_markPieceS.l0 (k + 1) x (1 + 3 * (i : Int)) (i : Int) = laws_markPieceS.l0 k (mk3 x (i : Int) (1 + 3 * (i : Int))) (1 + 3 * ((i + 1 : Nat) : Int)) ((i + 1 : Nat) : Int) := by
        intro k
        rw [laws_markPieceS.l0]
        rw [if_pos c1, if_pos c2, Option.bind_some, Option.bind_some]
        show laws_markPieceS.l0 k (mk3 x (i : Int) (1 + 3 * (i : Int))) (wrap64 (wrap64 (wrap64 (1 + 3 * (i : Int) + 1) + 1) + 1)) (wrap64 ((i : Int) + 1)) = _
        rw [w2, w3, w4, w1]
      obtain ⟨m, hm⟩ := ih (i + 1) (mk3 x (i : Int) (1 + 3 * (i : Int))) (by rw [mk3_len]; exact hx) (by omega)
      exact ⟨m, Ev.step hs hm⟩
  exact key l.length 0 l rfl (by omega)
end Go.Proofs.Ythkccaclmodjiaa.I
