import Derived.Test.YtpokpbhcfdaapaazFClassesEMLem
import Derived.Test.YtpokpbhcfdaapaazFClassesEMLem2
import Derived.Test.YtpokpbhcfdaapaazFClassesEMLem5
import Derived.Test.YtpokpbhcfdaapaazFClassesEMarkCode
import Derived.Test.YtpokpbhcfdaapaazFClassesM0
namespace Go.Proofs.Ytpokpbhcfdaapaa.M
open Go.RowKit Go.Proofs.YtpokpbhcfdaapaaW.PrintWords Go.Proofs.YtpokpbhcfdaapaaW.PrintLast Go.Proofs.YtpokpbhcfdaapaaW.PrintMore
attribute [local go_sem] max2_int min2_int max_two min_two max_three min_three max_four min_four
set_option linter.unusedVariables false
set_option linter.unusedSimpArgs false
def lackN (n c m : Int) : Int := (c - classOf n m + n + 1) % (n + 1)
def mendN (n c m : Int) : Int × Int :=
  if okMark n m = true then (if 0 ≤ c ∧ c ≤ n then (if lackN n c m = 0 then (m, 0) else (if bitAt m (lackN n c m - 1).toNat = 1 then (0, 6) else (Go.bits .or .u16 m (shl .u16 1 (lackN n c m - 1)), 0))) else (0, 2)) else (0, 1)
def chkSeen (n : Nat) : Bool := (List.range (2 ^ n)).all fun m => (seenOf (m : Int) 12).all fun s => decide (mendN n (classOf n (m : Int)) s = ((m : Int), 0))
def chkMend (n : Nat) : Bool := (List.range (2 ^ n)).all fun m => (List.range (n + 1)).all fun k => decide ((mendN n k m).2 ≠ 0) || (decide (classOf n (mendN n k m).1 = k) && okMark n (mendN n k m).1 && decide (sumBits (Go.bits .xor .u16 (mendN n k m).1 m) 16 ≤ 1) && decide (Go.bits .andNot .u16 m (mendN n k m).1 = 0) && decide (0 ≤ (mendN n k m).1))
def sizesTo (n : Nat) : Nat → Int
  | 0 => 0
  | k + 1 => sizesTo n k + classSize n k
def chkSize (n : Nat) : Bool := (List.range (n + 1)).all (fun k => decide (classSize n k ≤ 40) && decide (classSize n k ≤ (bestUp n n).2) && (decide (¬ (k : Int) < (bestUp n n).1) || decide (classSize n k ≠ (bestUp n n).2)) && (decide ((k : Int) ≠ (bestUp n n).1) || decide (classSize n k = (bestUp n n).2))) && decide (1 ≤ (bestUp n n).2) && decide (sizesTo n (n + 1) = 2 ^ n)
set_option maxRecDepth 100000
theorem chkSeen_all : chkSeen 2 = true ∧ chkSeen 3 = true ∧ chkSeen 4 = true ∧ chkSeen 5 = true ∧ chkSeen 6 = true ∧ chkSeen 7 = true := by decide +kernel
theorem chkMend_all : chkMend 2 = true ∧ chkMend 3 = true ∧ chkMend 4 = true ∧ chkMend 5 = true ∧ chkMend 6 = true ∧ chkMend 7 = true := by decide +kernel
theorem chkSize_all : chkSize 2 = true ∧ chkSize 3 = true ∧ chkSize 4 = true ∧ chkSize 5 = true ∧ chkSize 6 = true ∧ chkSize 7 = true := by decide +kernel
end Go.Proofs.Ytpokpbhcfdaapaa.M
