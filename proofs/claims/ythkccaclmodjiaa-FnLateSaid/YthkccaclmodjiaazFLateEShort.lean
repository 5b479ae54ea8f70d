import Derived.Test.YthkccaclmodjiaazFLateI0
namespace Go.Proofs.Ythkccaclmodjiaa.I
open Go.RowKit Go.Proofs.YthkccaclmodjiaaW.PrintWords Go.Proofs.YthkccaclmodjiaaW.PrintLast Go.Proofs.YthkccaclmodjiaaW.PrintMore
attribute [local go_sem] max2_int min2_int max_two min_two max_three min_three max_four min_four
set_option linter.unusedVariables false
set_option linter.unusedSimpArgs false
theorem mvR {P Q : Prop} (X : Aside0 P) (h : P → Q := by intro h_; (with_reducible repeat (first | apply Kd.R_alloc | apply Kd.R_drewN | apply Kd.R_drew)); exact h_) : Q := h X.out
theorem blB {P Q : Prop} (X : Aside0 P) (h : P → Q := by intro h_; repeat (first | (with_reducible first | exact h_ | apply below_alloc | apply pw_below_drewN | apply below_drew1) | exact h_)) : Q := h X.out
theorem cvC {P Q : Prop} (X : P) (h : P → Q := by intro h_; repeat (first | exact h_ | (with_reducible refine Kd.C_alloc ?_ _) | (with_reducible refine Kd.C_drewN ?_ _) | (with_reducible refine Kd.C_drew ?_))) : Q := h X
theorem dtB {p : Prop} [Decidable p] (h : decide p = true := by first | (with_reducible assumption) | assumption) : p := of_decide_eq_true h
end Go.Proofs.Ythkccaclmodjiaa.I
