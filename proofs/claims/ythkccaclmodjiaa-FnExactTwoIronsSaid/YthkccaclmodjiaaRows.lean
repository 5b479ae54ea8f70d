/-
  No cell of these rows narrows 'for every input' (looked for: loops, veiled, ifaces, maps, wideKeys, modest, calm, conditions, laid).
  DERIVED. THE GIVEN ROWS OF THIS SEAT. 16 by the template 'for every input the law returns true; each argument reads behind the call as it read before'; 0 by the template 'total and deterministic' (their statements: YthkccaclmodjiaaTotals.lean).
  GIVEN WITH THE SEED: the statements are not yours to turn. If you find one false, say at which input.
  Laid BY PROGRAM, IN A SANDBOX (cutbox-rows.mjs): the forced cells as the released guide's own fill.sh prints them over the translation 3b24877622e82f56… (all of the seat's roots in one cut). By AI agents, Wed Nov 11 2026. No macro, syntax, notation, axiom, sorry.
-/
import Derived.Test.YthkccaclmodjiaaChecked
import GoSem.Claim
import GoSem.ClaimJoined
import GoSem.ClaimMapViews
import Derived.JoinedTies
import Derived.KernelRfl
namespace Go.Proofs.Ythkccaclmodjiaa
/- THE CELL 'sum', in the pinned program and in every row, IS THE sha256 OF THE DUMP (.gsa) THAT YthkccaclmodjiaaProg.lean LOADS. Nothing in Lean hashes anything: it is a label: what it is worth is what the hold of that sum in a sandbox is worth. -/
noncomputable def Try.pinned : Pinned := { name := "ythkccaclmodjiaa", sum := "3b24877622e82f565e0628f4e6149f76f39b6b756646d50d54eb210851db59d6", checked := Try.checked }
namespace Rows
def none {H : Type} : Left H := { results := [], args := [] }

/-- 'laws.FnExactChangeTime': WHATEVER THE INPUT: true; the input reads as it did. -/
def fnExactChangeTimeSpec : ChangeSpec := { name := "fnExactChangeTime", fn := fun _ => fun
  | [d1, d2, d3] => { results := [.lit (.bool true)], args := [d1, d2, d3] }
  | _ => none }
def fnExactChangeTimeRow : OpenClaim := { program := "ythkccaclmodjiaa", sum := "3b24877622e82f565e0628f4e6149f76f39b6b756646d50d54eb210851db59d6", func := "loop.example/g01378/laws.FnExactChangeTime", spec := "fnExactChangeTime", apart := false }
def FnExactChangeTimeSaid : Prop := fnExactChangeTimeRow.holds Try.pinned (OpenSpec.ofChange fnExactChangeTimeSpec)

/-- ITS FALSE NEIGHBOUR: 'it returns false'. Refute it at one input. -/
def fnExactChangeTimeWrong : ChangeSpec := { name := "fnExactChangeTime", fn := fun _ => fun
  | [d1, d2, d3] => { results := [.lit (.bool false)], args := [d1, d2, d3] }
  | _ => none }
def FnExactChangeTimeWrongFalsely : Prop := fnExactChangeTimeRow.holds Try.pinned (OpenSpec.ofChange fnExactChangeTimeWrong)

/-- 'laws.FnExactTimeBound': WHATEVER THE INPUT: true; the input reads as it did. -/
def fnExactTimeBoundSpec : ChangeSpec := { name := "fnExactTimeBound", fn := fun _ => fun
  | [d1, d2] => { results := [.lit (.bool true)], args := [d1, d2] }
  | _ => none }
def fnExactTimeBoundRow : OpenClaim := { program := "ythkccaclmodjiaa", sum := "3b24877622e82f565e0628f4e6149f76f39b6b756646d50d54eb210851db59d6", func := "loop.example/g01378/laws.FnExactTimeBound", spec := "fnExactTimeBound", unfollowed := true, recurses := true, apart := false }
def FnExactTimeBoundSaid : Prop := fnExactTimeBoundRow.holds Try.pinned (OpenSpec.ofChange fnExactTimeBoundSpec)

/-- ITS FALSE NEIGHBOUR: 'it returns false'. Refute it at one input. -/
def fnExactTimeBoundWrong : ChangeSpec := { name := "fnExactTimeBound", fn := fun _ => fun
  | [d1, d2] => { results := [.lit (.bool false)], args := [d1, d2] }
  | _ => none }
def FnExactTimeBoundWrongFalsely : Prop := fnExactTimeBoundRow.holds Try.pinned (OpenSpec.ofChange fnExactTimeBoundWrong)

/-- 'laws.FnExactNearestOrder': WHATEVER THE INPUT: true; the input reads as it did. -/
def fnExactNearestOrderSpec : ChangeSpec := { name := "fnExactNearestOrder", fn := fun _ => fun
  | [d1, d2] => { results := [.lit (.bool true)], args := [d1, d2] }
  | _ => none }
def fnExactNearestOrderRow : OpenClaim := { program := "ythkccaclmodjiaa", sum := "3b24877622e82f565e0628f4e6149f76f39b6b756646d50d54eb210851db59d6", func := "loop.example/g01378/laws.FnExactNearestOrder", spec := "fnExactNearestOrder", unfollowed := true, recurses := true, apart := false }
def FnExactNearestOrderSaid : Prop := fnExactNearestOrderRow.holds Try.pinned (OpenSpec.ofChange fnExactNearestOrderSpec)

/-- ITS FALSE NEIGHBOUR: 'it returns false'. Refute it at one input. -/
def fnExactNearestOrderWrong : ChangeSpec := { name := "fnExactNearestOrder", fn := fun _ => fun
  | [d1, d2] => { results := [.lit (.bool false)], args := [d1, d2] }
  | _ => none }
def FnExactNearestOrderWrongFalsely : Prop := fnExactNearestOrderRow.holds Try.pinned (OpenSpec.ofChange fnExactNearestOrderWrong)

/-- 'laws.FnExactLeastWait': WHATEVER THE INPUT: true; the input reads as it did. -/
def fnExactLeastWaitSpec : ChangeSpec := { name := "fnExactLeastWait", fn := fun _ => fun
  | [d1, d2] => { results := [.lit (.bool true)], args := [d1, d2] }
  | _ => none }
def fnExactLeastWaitRow : OpenClaim := { program := "ythkccaclmodjiaa", sum := "3b24877622e82f565e0628f4e6149f76f39b6b756646d50d54eb210851db59d6", func := "loop.example/g01378/laws.FnExactLeastWait", spec := "fnExactLeastWait", unfollowed := true, recurses := true, apart := false }
def FnExactLeastWaitSaid : Prop := fnExactLeastWaitRow.holds Try.pinned (OpenSpec.ofChange fnExactLeastWaitSpec)

/-- ITS FALSE NEIGHBOUR: 'it returns false'. Refute it at one input. -/
def fnExactLeastWaitWrong : ChangeSpec := { name := "fnExactLeastWait", fn := fun _ => fun
  | [d1, d2] => { results := [.lit (.bool false)], args := [d1, d2] }
  | _ => none }
def FnExactLeastWaitWrongFalsely : Prop := fnExactLeastWaitRow.holds Try.pinned (OpenSpec.ofChange fnExactLeastWaitWrong)

/-- 'laws.FnExactShortestOrder': WHATEVER THE INPUT: true; the input reads as it did. -/
def fnExactShortestOrderSpec : ChangeSpec := { name := "fnExactShortestOrder", fn := fun _ => fun
  | [d1, d2] => { results := [.lit (.bool true)], args := [d1, d2] }
  | _ => none }
def fnExactShortestOrderRow : OpenClaim := { program := "ythkccaclmodjiaa", sum := "3b24877622e82f565e0628f4e6149f76f39b6b756646d50d54eb210851db59d6", func := "loop.example/g01378/laws.FnExactShortestOrder", spec := "fnExactShortestOrder", unfollowed := true, recurses := true, apart := false }
def FnExactShortestOrderSaid : Prop := fnExactShortestOrderRow.holds Try.pinned (OpenSpec.ofChange fnExactShortestOrderSpec)

/-- ITS FALSE NEIGHBOUR: 'it returns false'. Refute it at one input. -/
def fnExactShortestOrderWrong : ChangeSpec := { name := "fnExactShortestOrder", fn := fun _ => fun
  | [d1, d2] => { results := [.lit (.bool false)], args := [d1, d2] }
  | _ => none }
def FnExactShortestOrderWrongFalsely : Prop := fnExactShortestOrderRow.holds Try.pinned (OpenSpec.ofChange fnExactShortestOrderWrong)

/-- 'laws.FnExactDueOrder': WHATEVER THE INPUT: true; the input reads as it did. -/
def fnExactDueOrderSpec : ChangeSpec := { name := "fnExactDueOrder", fn := fun _ => fun
  | [d] => { results := [.lit (.bool true)], args := [d] }
  | _ => none }
def fnExactDueOrderRow : OpenClaim := { program := "ythkccaclmodjiaa", sum := "3b24877622e82f565e0628f4e6149f76f39b6b756646d50d54eb210851db59d6", func := "loop.example/g01378/laws.FnExactDueOrder", spec := "fnExactDueOrder", unfollowed := true, recurses := true, apart := false }
def FnExactDueOrderSaid : Prop := fnExactDueOrderRow.holds Try.pinned (OpenSpec.ofChange fnExactDueOrderSpec)

/-- ITS FALSE NEIGHBOUR: 'it returns false'. Refute it at one input. -/
def fnExactDueOrderWrong : ChangeSpec := { name := "fnExactDueOrder", fn := fun _ => fun
  | [d] => { results := [.lit (.bool false)], args := [d] }
  | _ => none }
def FnExactDueOrderWrongFalsely : Prop := fnExactDueOrderRow.holds Try.pinned (OpenSpec.ofChange fnExactDueOrderWrong)

/-- 'laws.FnExactRisingOrder': WHATEVER THE INPUT: true; the input reads as it did. -/
def fnExactRisingOrderSpec : ChangeSpec := { name := "fnExactRisingOrder", fn := fun _ => fun
  | [d] => { results := [.lit (.bool true)], args := [d] }
  | _ => none }
def fnExactRisingOrderRow : OpenClaim := { program := "ythkccaclmodjiaa", sum := "3b24877622e82f565e0628f4e6149f76f39b6b756646d50d54eb210851db59d6", func := "loop.example/g01378/laws.FnExactRisingOrder", spec := "fnExactRisingOrder", unfollowed := true, recurses := true, apart := false }
def FnExactRisingOrderSaid : Prop := fnExactRisingOrderRow.holds Try.pinned (OpenSpec.ofChange fnExactRisingOrderSpec)

/-- ITS FALSE NEIGHBOUR: 'it returns false'. Refute it at one input. -/
def fnExactRisingOrderWrong : ChangeSpec := { name := "fnExactRisingOrder", fn := fun _ => fun
  | [d] => { results := [.lit (.bool false)], args := [d] }
  | _ => none }
def FnExactRisingOrderWrongFalsely : Prop := fnExactRisingOrderRow.holds Try.pinned (OpenSpec.ofChange fnExactRisingOrderWrong)

/-- 'laws.FnExactTwoIrons': WHATEVER THE INPUT: true; the input reads as it did. -/
def fnExactTwoIronsSpec : ChangeSpec := { name := "fnExactTwoIrons", fn := fun _ => fun
  | [d1, d2] => { results := [.lit (.bool true)], args := [d1, d2] }
  | _ => none }
def fnExactTwoIronsRow : OpenClaim := { program := "ythkccaclmodjiaa", sum := "3b24877622e82f565e0628f4e6149f76f39b6b756646d50d54eb210851db59d6", func := "loop.example/g01378/laws.FnExactTwoIrons", spec := "fnExactTwoIrons", unfollowed := true, recurses := true, apart := false }
def FnExactTwoIronsSaid : Prop := fnExactTwoIronsRow.holds Try.pinned (OpenSpec.ofChange fnExactTwoIronsSpec)

/-- ITS FALSE NEIGHBOUR: 'it returns false'. Refute it at one input. -/
def fnExactTwoIronsWrong : ChangeSpec := { name := "fnExactTwoIrons", fn := fun _ => fun
  | [d1, d2] => { results := [.lit (.bool false)], args := [d1, d2] }
  | _ => none }
def FnExactTwoIronsWrongFalsely : Prop := fnExactTwoIronsRow.holds Try.pinned (OpenSpec.ofChange fnExactTwoIronsWrong)

/-- 'laws.FnExactTotalTime': WHATEVER THE INPUT: true; the input reads as it did. -/
def fnExactTotalTimeSpec : ChangeSpec := { name := "fnExactTotalTime", fn := fun _ => fun
  | [d1, d2, d3] => { results := [.lit (.bool true)], args := [d1, d2, d3] }
  | _ => none }
def fnExactTotalTimeRow : OpenClaim := { program := "ythkccaclmodjiaa", sum := "3b24877622e82f565e0628f4e6149f76f39b6b756646d50d54eb210851db59d6", func := "loop.example/g01378/laws.FnExactTotalTime", spec := "fnExactTotalTime", unfollowed := true, recurses := true, apart := false }
def FnExactTotalTimeSaid : Prop := fnExactTotalTimeRow.holds Try.pinned (OpenSpec.ofChange fnExactTotalTimeSpec)

/-- ITS FALSE NEIGHBOUR: 'it returns false'. Refute it at one input. -/
def fnExactTotalTimeWrong : ChangeSpec := { name := "fnExactTotalTime", fn := fun _ => fun
  | [d1, d2, d3] => { results := [.lit (.bool false)], args := [d1, d2, d3] }
  | _ => none }
def FnExactTotalTimeWrongFalsely : Prop := fnExactTotalTimeRow.holds Try.pinned (OpenSpec.ofChange fnExactTotalTimeWrong)

/-- 'laws.FnExactWaitSum': WHATEVER THE INPUT: true; the input reads as it did. -/
def fnExactWaitSumSpec : ChangeSpec := { name := "fnExactWaitSum", fn := fun _ => fun
  | [d1, d2, d3] => { results := [.lit (.bool true)], args := [d1, d2, d3] }
  | _ => none }
def fnExactWaitSumRow : OpenClaim := { program := "ythkccaclmodjiaa", sum := "3b24877622e82f565e0628f4e6149f76f39b6b756646d50d54eb210851db59d6", func := "loop.example/g01378/laws.FnExactWaitSum", spec := "fnExactWaitSum", unfollowed := true, recurses := true, apart := false }
def FnExactWaitSumSaid : Prop := fnExactWaitSumRow.holds Try.pinned (OpenSpec.ofChange fnExactWaitSumSpec)

/-- ITS FALSE NEIGHBOUR: 'it returns false'. Refute it at one input. -/
def fnExactWaitSumWrong : ChangeSpec := { name := "fnExactWaitSum", fn := fun _ => fun
  | [d1, d2, d3] => { results := [.lit (.bool false)], args := [d1, d2, d3] }
  | _ => none }
def FnExactWaitSumWrongFalsely : Prop := fnExactWaitSumRow.holds Try.pinned (OpenSpec.ofChange fnExactWaitSumWrong)

/-- 'laws.FnExactLatenessOf': WHATEVER THE INPUT: true; the input reads as it did. -/
def fnExactLatenessOfSpec : ChangeSpec := { name := "fnExactLatenessOf", fn := fun _ => fun
  | [d1, d2, d3] => { results := [.lit (.bool true)], args := [d1, d2, d3] }
  | _ => none }
def fnExactLatenessOfRow : OpenClaim := { program := "ythkccaclmodjiaa", sum := "3b24877622e82f565e0628f4e6149f76f39b6b756646d50d54eb210851db59d6", func := "loop.example/g01378/laws.FnExactLatenessOf", spec := "fnExactLatenessOf", unfollowed := true, recurses := true, apart := false }
def FnExactLatenessOfSaid : Prop := fnExactLatenessOfRow.holds Try.pinned (OpenSpec.ofChange fnExactLatenessOfSpec)

/-- ITS FALSE NEIGHBOUR: 'it returns false'. Refute it at one input. -/
def fnExactLatenessOfWrong : ChangeSpec := { name := "fnExactLatenessOf", fn := fun _ => fun
  | [d1, d2, d3] => { results := [.lit (.bool false)], args := [d1, d2, d3] }
  | _ => none }
def FnExactLatenessOfWrongFalsely : Prop := fnExactLatenessOfRow.holds Try.pinned (OpenSpec.ofChange fnExactLatenessOfWrong)

/-- 'laws.FnExactFinishTimes': WHATEVER THE INPUT: true; the input reads as it did. -/
def fnExactFinishTimesSpec : ChangeSpec := { name := "fnExactFinishTimes", fn := fun _ => fun
  | [d1, d2, d3] => { results := [.lit (.bool true)], args := [d1, d2, d3] }
  | _ => none }
def fnExactFinishTimesRow : OpenClaim := { program := "ythkccaclmodjiaa", sum := "3b24877622e82f565e0628f4e6149f76f39b6b756646d50d54eb210851db59d6", func := "loop.example/g01378/laws.FnExactFinishTimes", spec := "fnExactFinishTimes", unfollowed := true, recurses := true, apart := false }
def FnExactFinishTimesSaid : Prop := fnExactFinishTimesRow.holds Try.pinned (OpenSpec.ofChange fnExactFinishTimesSpec)

/-- ITS FALSE NEIGHBOUR: 'it returns false'. Refute it at one input. -/
def fnExactFinishTimesWrong : ChangeSpec := { name := "fnExactFinishTimes", fn := fun _ => fun
  | [d1, d2, d3] => { results := [.lit (.bool false)], args := [d1, d2, d3] }
  | _ => none }
def FnExactFinishTimesWrongFalsely : Prop := fnExactFinishTimesRow.holds Try.pinned (OpenSpec.ofChange fnExactFinishTimesWrong)

/-- 'laws.FnExactLateIn': WHATEVER THE INPUT: true; the input reads as it did. -/
def fnExactLateInSpec : ChangeSpec := { name := "fnExactLateIn", fn := fun _ => fun
  | [d1, d2, d3] => { results := [.lit (.bool true)], args := [d1, d2, d3] }
  | _ => none }
def fnExactLateInRow : OpenClaim := { program := "ythkccaclmodjiaa", sum := "3b24877622e82f565e0628f4e6149f76f39b6b756646d50d54eb210851db59d6", func := "loop.example/g01378/laws.FnExactLateIn", spec := "fnExactLateIn", unfollowed := true, recurses := true, apart := false }
def FnExactLateInSaid : Prop := fnExactLateInRow.holds Try.pinned (OpenSpec.ofChange fnExactLateInSpec)

/-- ITS FALSE NEIGHBOUR: 'it returns false'. Refute it at one input. -/
def fnExactLateInWrong : ChangeSpec := { name := "fnExactLateIn", fn := fun _ => fun
  | [d1, d2, d3] => { results := [.lit (.bool false)], args := [d1, d2, d3] }
  | _ => none }
def FnExactLateInWrongFalsely : Prop := fnExactLateInRow.holds Try.pinned (OpenSpec.ofChange fnExactLateInWrong)

/-- 'laws.FnExactLeastLateness': WHATEVER THE INPUT: true; the input reads as it did. -/
def fnExactLeastLatenessSpec : ChangeSpec := { name := "fnExactLeastLateness", fn := fun _ => fun
  | [d1, d2] => { results := [.lit (.bool true)], args := [d1, d2] }
  | _ => none }
def fnExactLeastLatenessRow : OpenClaim := { program := "ythkccaclmodjiaa", sum := "3b24877622e82f565e0628f4e6149f76f39b6b756646d50d54eb210851db59d6", func := "loop.example/g01378/laws.FnExactLeastLateness", spec := "fnExactLeastLateness", unfollowed := true, recurses := true, apart := false }
def FnExactLeastLatenessSaid : Prop := fnExactLeastLatenessRow.holds Try.pinned (OpenSpec.ofChange fnExactLeastLatenessSpec)

/-- ITS FALSE NEIGHBOUR: 'it returns false'. Refute it at one input. -/
def fnExactLeastLatenessWrong : ChangeSpec := { name := "fnExactLeastLateness", fn := fun _ => fun
  | [d1, d2] => { results := [.lit (.bool false)], args := [d1, d2] }
  | _ => none }
def FnExactLeastLatenessWrongFalsely : Prop := fnExactLeastLatenessRow.holds Try.pinned (OpenSpec.ofChange fnExactLeastLatenessWrong)

/-- 'laws.FnExactFewestLate': WHATEVER THE INPUT: true; the input reads as it did. -/
def fnExactFewestLateSpec : ChangeSpec := { name := "fnExactFewestLate", fn := fun _ => fun
  | [d1, d2] => { results := [.lit (.bool true)], args := [d1, d2] }
  | _ => none }
def fnExactFewestLateRow : OpenClaim := { program := "ythkccaclmodjiaa", sum := "3b24877622e82f565e0628f4e6149f76f39b6b756646d50d54eb210851db59d6", func := "loop.example/g01378/laws.FnExactFewestLate", spec := "fnExactFewestLate", unfollowed := true, recurses := true, apart := false }
def FnExactFewestLateSaid : Prop := fnExactFewestLateRow.holds Try.pinned (OpenSpec.ofChange fnExactFewestLateSpec)

/-- ITS FALSE NEIGHBOUR: 'it returns false'. Refute it at one input. -/
def fnExactFewestLateWrong : ChangeSpec := { name := "fnExactFewestLate", fn := fun _ => fun
  | [d1, d2] => { results := [.lit (.bool false)], args := [d1, d2] }
  | _ => none }
def FnExactFewestLateWrongFalsely : Prop := fnExactFewestLateRow.holds Try.pinned (OpenSpec.ofChange fnExactFewestLateWrong)

/-- 'laws.FnLate': WHATEVER THE INPUT: true; the input reads as it did. -/
def fnLateSpec : ChangeSpec := { name := "fnLate", fn := fun _ => fun
  | [d1, d2] => { results := [.lit (.bool true)], args := [d1, d2] }
  | _ => none }
def fnLateRow : OpenClaim := { program := "ythkccaclmodjiaa", sum := "3b24877622e82f565e0628f4e6149f76f39b6b756646d50d54eb210851db59d6", func := "loop.example/g01378/laws.FnLate", spec := "fnLate", unfollowed := true, recurses := true, apart := false }
def FnLateSaid : Prop := fnLateRow.holds Try.pinned (OpenSpec.ofChange fnLateSpec)

/-- ITS FALSE NEIGHBOUR: 'it returns false'. Refute it at one input. -/
def fnLateWrong : ChangeSpec := { name := "fnLate", fn := fun _ => fun
  | [d1, d2] => { results := [.lit (.bool false)], args := [d1, d2] }
  | _ => none }
def FnLateWrongFalsely : Prop := fnLateRow.holds Try.pinned (OpenSpec.ofChange fnLateWrong)

/- THE SECOND FORM. 'bulk': how many values and letters a reading holds, each counted each time it is reached (what is shared counts as often as it is met; a slice's spare places count too). A statement '..UptoSaid' is the law's where the arguments, and the package variables that the reading takes, are together of bulk at most 1048576: NARROWER than '..Said'. Prove '..Said' where nothing that the law and all that it calls make is longer than what came in: it says more and counts as full. Else prove '..UptoSaid'. A law counts once. -/
mutual
def uptoBulk {H : Type} : DataW H → Nat
  | .lit (.string bytes) => bytes.length + 1
  | .lit _ => 1
  | .nil => 1
  | .ptr d => uptoBulk d + 1
  | .slice elems spare => uptoBulkAll elems + uptoBulkAll spare + 1
  | .agg parts => uptoBulkAll parts + 1
  | .iface _ d => uptoBulk d + 1
  | .map entries => uptoBulkEntries entries + 1
  | .held _ => 1
def uptoBulkAll {H : Type} : List (DataW H) → Nat
  | [] => 0
  | d :: r => uptoBulk d + uptoBulkAll r
def uptoBulkEntries {H : Type} : List (Lit × DataW H) → Nat
  | [] => 0
  | x :: r => uptoBulkEntry x + uptoBulkEntries r
def uptoBulkEntry {H : Type} : Lit × DataW H → Nat
  | (.string bytes, d) => bytes.length + uptoBulk d + 1
  | (_, d) => uptoBulk d + 1
 end
def uptoSmall : (H : Type) → List (DataW H) → Bool := fun _ ds => decide (uptoBulkAll ds ≤ 1048576)
def OpenSpec.upto (s : _root_.Go.ChangeSpec) : _root_.Go.OpenSpec := { _root_.Go.OpenSpec.ofChange s with cond := some uptoSmall }

/-- 'laws.FnExactChangeTime', WHERE WHAT IT READS IS OF BULK AT MOST 1048576: true; the input reads as it did. -/
def fnExactChangeTimeUptoRow : OpenClaim := { program := "ythkccaclmodjiaa", sum := "3b24877622e82f565e0628f4e6149f76f39b6b756646d50d54eb210851db59d6", func := "loop.example/g01378/laws.FnExactChangeTime", spec := "fnExactChangeTime", apart := false, narrowed := true }
def FnExactChangeTimeUptoSaid : Prop := fnExactChangeTimeUptoRow.holds Try.pinned (OpenSpec.upto fnExactChangeTimeSpec)

/-- 'laws.FnExactTimeBound', WHERE WHAT IT READS IS OF BULK AT MOST 1048576: true; the input reads as it did. -/
def fnExactTimeBoundUptoRow : OpenClaim := { program := "ythkccaclmodjiaa", sum := "3b24877622e82f565e0628f4e6149f76f39b6b756646d50d54eb210851db59d6", func := "loop.example/g01378/laws.FnExactTimeBound", spec := "fnExactTimeBound", unfollowed := true, recurses := true, apart := false, narrowed := true }
def FnExactTimeBoundUptoSaid : Prop := fnExactTimeBoundUptoRow.holds Try.pinned (OpenSpec.upto fnExactTimeBoundSpec)

/-- 'laws.FnExactNearestOrder', WHERE WHAT IT READS IS OF BULK AT MOST 1048576: true; the input reads as it did. -/
def fnExactNearestOrderUptoRow : OpenClaim := { program := "ythkccaclmodjiaa", sum := "3b24877622e82f565e0628f4e6149f76f39b6b756646d50d54eb210851db59d6", func := "loop.example/g01378/laws.FnExactNearestOrder", spec := "fnExactNearestOrder", unfollowed := true, recurses := true, apart := false, narrowed := true }
def FnExactNearestOrderUptoSaid : Prop := fnExactNearestOrderUptoRow.holds Try.pinned (OpenSpec.upto fnExactNearestOrderSpec)

/-- 'laws.FnExactLeastWait', WHERE WHAT IT READS IS OF BULK AT MOST 1048576: true; the input reads as it did. -/
def fnExactLeastWaitUptoRow : OpenClaim := { program := "ythkccaclmodjiaa", sum := "3b24877622e82f565e0628f4e6149f76f39b6b756646d50d54eb210851db59d6", func := "loop.example/g01378/laws.FnExactLeastWait", spec := "fnExactLeastWait", unfollowed := true, recurses := true, apart := false, narrowed := true }
def FnExactLeastWaitUptoSaid : Prop := fnExactLeastWaitUptoRow.holds Try.pinned (OpenSpec.upto fnExactLeastWaitSpec)

/-- 'laws.FnExactShortestOrder', WHERE WHAT IT READS IS OF BULK AT MOST 1048576: true; the input reads as it did. -/
def fnExactShortestOrderUptoRow : OpenClaim := { program := "ythkccaclmodjiaa", sum := "3b24877622e82f565e0628f4e6149f76f39b6b756646d50d54eb210851db59d6", func := "loop.example/g01378/laws.FnExactShortestOrder", spec := "fnExactShortestOrder", unfollowed := true, recurses := true, apart := false, narrowed := true }
def FnExactShortestOrderUptoSaid : Prop := fnExactShortestOrderUptoRow.holds Try.pinned (OpenSpec.upto fnExactShortestOrderSpec)

/-- 'laws.FnExactDueOrder', WHERE WHAT IT READS IS OF BULK AT MOST 1048576: true; the input reads as it did. -/
def fnExactDueOrderUptoRow : OpenClaim := { program := "ythkccaclmodjiaa", sum := "3b24877622e82f565e0628f4e6149f76f39b6b756646d50d54eb210851db59d6", func := "loop.example/g01378/laws.FnExactDueOrder", spec := "fnExactDueOrder", unfollowed := true, recurses := true, apart := false, narrowed := true }
def FnExactDueOrderUptoSaid : Prop := fnExactDueOrderUptoRow.holds Try.pinned (OpenSpec.upto fnExactDueOrderSpec)

/-- 'laws.FnExactRisingOrder', WHERE WHAT IT READS IS OF BULK AT MOST 1048576: true; the input reads as it did. -/
def fnExactRisingOrderUptoRow : OpenClaim := { program := "ythkccaclmodjiaa", sum := "3b24877622e82f565e0628f4e6149f76f39b6b756646d50d54eb210851db59d6", func := "loop.example/g01378/laws.FnExactRisingOrder", spec := "fnExactRisingOrder", unfollowed := true, recurses := true, apart := false, narrowed := true }
def FnExactRisingOrderUptoSaid : Prop := fnExactRisingOrderUptoRow.holds Try.pinned (OpenSpec.upto fnExactRisingOrderSpec)

/-- 'laws.FnExactTwoIrons', WHERE WHAT IT READS IS OF BULK AT MOST 1048576: true; the input reads as it did. -/
def fnExactTwoIronsUptoRow : OpenClaim := { program := "ythkccaclmodjiaa", sum := "3b24877622e82f565e0628f4e6149f76f39b6b756646d50d54eb210851db59d6", func := "loop.example/g01378/laws.FnExactTwoIrons", spec := "fnExactTwoIrons", unfollowed := true, recurses := true, apart := false, narrowed := true }
def FnExactTwoIronsUptoSaid : Prop := fnExactTwoIronsUptoRow.holds Try.pinned (OpenSpec.upto fnExactTwoIronsSpec)

/-- 'laws.FnExactTotalTime', WHERE WHAT IT READS IS OF BULK AT MOST 1048576: true; the input reads as it did. -/
def fnExactTotalTimeUptoRow : OpenClaim := { program := "ythkccaclmodjiaa", sum := "3b24877622e82f565e0628f4e6149f76f39b6b756646d50d54eb210851db59d6", func := "loop.example/g01378/laws.FnExactTotalTime", spec := "fnExactTotalTime", unfollowed := true, recurses := true, apart := false, narrowed := true }
def FnExactTotalTimeUptoSaid : Prop := fnExactTotalTimeUptoRow.holds Try.pinned (OpenSpec.upto fnExactTotalTimeSpec)

/-- 'laws.FnExactWaitSum', WHERE WHAT IT READS IS OF BULK AT MOST 1048576: true; the input reads as it did. -/
def fnExactWaitSumUptoRow : OpenClaim := { program := "ythkccaclmodjiaa", sum := "3b24877622e82f565e0628f4e6149f76f39b6b756646d50d54eb210851db59d6", func := "loop.example/g01378/laws.FnExactWaitSum", spec := "fnExactWaitSum", unfollowed := true, recurses := true, apart := false, narrowed := true }
def FnExactWaitSumUptoSaid : Prop := fnExactWaitSumUptoRow.holds Try.pinned (OpenSpec.upto fnExactWaitSumSpec)

/-- 'laws.FnExactLatenessOf', WHERE WHAT IT READS IS OF BULK AT MOST 1048576: true; the input reads as it did. -/
def fnExactLatenessOfUptoRow : OpenClaim := { program := "ythkccaclmodjiaa", sum := "3b24877622e82f565e0628f4e6149f76f39b6b756646d50d54eb210851db59d6", func := "loop.example/g01378/laws.FnExactLatenessOf", spec := "fnExactLatenessOf", unfollowed := true, recurses := true, apart := false, narrowed := true }
def FnExactLatenessOfUptoSaid : Prop := fnExactLatenessOfUptoRow.holds Try.pinned (OpenSpec.upto fnExactLatenessOfSpec)

/-- 'laws.FnExactFinishTimes', WHERE WHAT IT READS IS OF BULK AT MOST 1048576: true; the input reads as it did. -/
def fnExactFinishTimesUptoRow : OpenClaim := { program := "ythkccaclmodjiaa", sum := "3b24877622e82f565e0628f4e6149f76f39b6b756646d50d54eb210851db59d6", func := "loop.example/g01378/laws.FnExactFinishTimes", spec := "fnExactFinishTimes", unfollowed := true, recurses := true, apart := false, narrowed := true }
def FnExactFinishTimesUptoSaid : Prop := fnExactFinishTimesUptoRow.holds Try.pinned (OpenSpec.upto fnExactFinishTimesSpec)

/-- 'laws.FnExactLateIn', WHERE WHAT IT READS IS OF BULK AT MOST 1048576: true; the input reads as it did. -/
def fnExactLateInUptoRow : OpenClaim := { program := "ythkccaclmodjiaa", sum := "3b24877622e82f565e0628f4e6149f76f39b6b756646d50d54eb210851db59d6", func := "loop.example/g01378/laws.FnExactLateIn", spec := "fnExactLateIn", unfollowed := true, recurses := true, apart := false, narrowed := true }
def FnExactLateInUptoSaid : Prop := fnExactLateInUptoRow.holds Try.pinned (OpenSpec.upto fnExactLateInSpec)

/-- 'laws.FnExactLeastLateness', WHERE WHAT IT READS IS OF BULK AT MOST 1048576: true; the input reads as it did. -/
def fnExactLeastLatenessUptoRow : OpenClaim := { program := "ythkccaclmodjiaa", sum := "3b24877622e82f565e0628f4e6149f76f39b6b756646d50d54eb210851db59d6", func := "loop.example/g01378/laws.FnExactLeastLateness", spec := "fnExactLeastLateness", unfollowed := true, recurses := true, apart := false, narrowed := true }
def FnExactLeastLatenessUptoSaid : Prop := fnExactLeastLatenessUptoRow.holds Try.pinned (OpenSpec.upto fnExactLeastLatenessSpec)

/-- 'laws.FnExactFewestLate', WHERE WHAT IT READS IS OF BULK AT MOST 1048576: true; the input reads as it did. -/
def fnExactFewestLateUptoRow : OpenClaim := { program := "ythkccaclmodjiaa", sum := "3b24877622e82f565e0628f4e6149f76f39b6b756646d50d54eb210851db59d6", func := "loop.example/g01378/laws.FnExactFewestLate", spec := "fnExactFewestLate", unfollowed := true, recurses := true, apart := false, narrowed := true }
def FnExactFewestLateUptoSaid : Prop := fnExactFewestLateUptoRow.holds Try.pinned (OpenSpec.upto fnExactFewestLateSpec)

/-- 'laws.FnLate', WHERE WHAT IT READS IS OF BULK AT MOST 1048576: true; the input reads as it did. -/
def fnLateUptoRow : OpenClaim := { program := "ythkccaclmodjiaa", sum := "3b24877622e82f565e0628f4e6149f76f39b6b756646d50d54eb210851db59d6", func := "loop.example/g01378/laws.FnLate", spec := "fnLate", unfollowed := true, recurses := true, apart := false, narrowed := true }
def FnLateUptoSaid : Prop := fnLateUptoRow.holds Try.pinned (OpenSpec.upto fnLateSpec)

end Rows
end Go.Proofs.Ythkccaclmodjiaa
