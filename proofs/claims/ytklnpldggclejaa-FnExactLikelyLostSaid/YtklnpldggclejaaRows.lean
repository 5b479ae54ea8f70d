/-
  No cell of these rows narrows 'for every input' (looked for: loops, veiled, ifaces, maps, wideKeys, modest, calm, conditions, laid).
  DERIVED. THE GIVEN ROWS OF THIS SEAT. 18 by the template 'for every input the law returns true; each argument reads behind the call as it read before'; 0 by the template 'total and deterministic' (their statements: YtklnpldggclejaaTotals.lean).
  GIVEN WITH THE SEED: the statements are not yours to turn. If you find one false, say at which input.
  Laid BY PROGRAM, IN A SANDBOX (cutbox-rows.mjs): the forced cells as the released guide's own fill.sh prints them over the translation 0b6c0ffcf9155994… (all of the seat's roots in one cut). By AI agents, Wed Nov 11 2026. No macro, syntax, notation, axiom, sorry.
-/
import Derived.Test.YtklnpldggclejaaChecked
import GoSem.Claim
import GoSem.ClaimJoined
import GoSem.ClaimMapViews
import Derived.JoinedTies
import Derived.KernelRfl
namespace Go.Proofs.Ytklnpldggclejaa
/- THE CELL 'sum', in the pinned program and in every row, IS THE sha256 OF THE DUMP (.gsa) THAT YtklnpldggclejaaProg.lean LOADS. Nothing in Lean hashes anything: it is a label: what it is worth is what the hold of that sum in a sandbox is worth. -/
noncomputable def Try.pinned : Pinned := { name := "ytklnpldggclejaa", sum := "0b6c0ffcf9155994458bf24a2ca482bb38d3a0ac214557b9bc81873a212a2bf3", checked := Try.checked }
namespace Rows
def none {H : Type} : Left H := { results := [], args := [] }

/-- 'laws.FnExactReadMark': WHATEVER THE INPUT: true; the input reads as it did. -/
def fnExactReadMarkSpec : ChangeSpec := { name := "fnExactReadMark", fn := fun _ => fun
  | [d] => { results := [.lit (.bool true)], args := [d] }
  | _ => none }
def fnExactReadMarkRow : OpenClaim := { program := "ytklnpldggclejaa", sum := "0b6c0ffcf9155994458bf24a2ca482bb38d3a0ac214557b9bc81873a212a2bf3", func := "loop.example/g01378/laws.FnExactReadMark", spec := "fnExactReadMark", apart := false }
def FnExactReadMarkSaid : Prop := fnExactReadMarkRow.holds Try.pinned (OpenSpec.ofChange fnExactReadMarkSpec)

/-- ITS FALSE NEIGHBOUR: 'it returns false'. Refute it at one input. -/
def fnExactReadMarkWrong : ChangeSpec := { name := "fnExactReadMark", fn := fun _ => fun
  | [d] => { results := [.lit (.bool false)], args := [d] }
  | _ => none }
def FnExactReadMarkWrongFalsely : Prop := fnExactReadMarkRow.holds Try.pinned (OpenSpec.ofChange fnExactReadMarkWrong)

/-- 'laws.FnExactApartBy': WHATEVER THE INPUT: true; the input reads as it did. -/
def fnExactApartBySpec : ChangeSpec := { name := "fnExactApartBy", fn := fun _ => fun
  | [d1, d2, d3] => { results := [.lit (.bool true)], args := [d1, d2, d3] }
  | _ => none }
def fnExactApartByRow : OpenClaim := { program := "ytklnpldggclejaa", sum := "0b6c0ffcf9155994458bf24a2ca482bb38d3a0ac214557b9bc81873a212a2bf3", func := "loop.example/g01378/laws.FnExactApartBy", spec := "fnExactApartBy", unfollowed := true, recurses := true, apart := false }
def FnExactApartBySaid : Prop := fnExactApartByRow.holds Try.pinned (OpenSpec.ofChange fnExactApartBySpec)

/-- ITS FALSE NEIGHBOUR: 'it returns false'. Refute it at one input. -/
def fnExactApartByWrong : ChangeSpec := { name := "fnExactApartBy", fn := fun _ => fun
  | [d1, d2, d3] => { results := [.lit (.bool false)], args := [d1, d2, d3] }
  | _ => none }
def FnExactApartByWrongFalsely : Prop := fnExactApartByRow.holds Try.pinned (OpenSpec.ofChange fnExactApartByWrong)

/-- 'laws.FnExactClassOf': WHATEVER THE INPUT: true; the input reads as it did. -/
def fnExactClassOfSpec : ChangeSpec := { name := "fnExactClassOf", fn := fun _ => fun
  | [d1, d2] => { results := [.lit (.bool true)], args := [d1, d2] }
  | _ => none }
def fnExactClassOfRow : OpenClaim := { program := "ytklnpldggclejaa", sum := "0b6c0ffcf9155994458bf24a2ca482bb38d3a0ac214557b9bc81873a212a2bf3", func := "loop.example/g01378/laws.FnExactClassOf", spec := "fnExactClassOf", unfollowed := true, recurses := true, apart := false }
def FnExactClassOfSaid : Prop := fnExactClassOfRow.holds Try.pinned (OpenSpec.ofChange fnExactClassOfSpec)

/-- ITS FALSE NEIGHBOUR: 'it returns false'. Refute it at one input. -/
def fnExactClassOfWrong : ChangeSpec := { name := "fnExactClassOf", fn := fun _ => fun
  | [d1, d2] => { results := [.lit (.bool false)], args := [d1, d2] }
  | _ => none }
def FnExactClassOfWrongFalsely : Prop := fnExactClassOfRow.holds Try.pinned (OpenSpec.ofChange fnExactClassOfWrong)

/-- 'laws.FnExactMendStitch': WHATEVER THE INPUT: true; the input reads as it did. -/
def fnExactMendStitchSpec : ChangeSpec := { name := "fnExactMendStitch", fn := fun _ => fun
  | [d1, d2, d3] => { results := [.lit (.bool true)], args := [d1, d2, d3] }
  | _ => none }
def fnExactMendStitchRow : OpenClaim := { program := "ytklnpldggclejaa", sum := "0b6c0ffcf9155994458bf24a2ca482bb38d3a0ac214557b9bc81873a212a2bf3", func := "loop.example/g01378/laws.FnExactMendStitch", spec := "fnExactMendStitch", unfollowed := true, recurses := true, apart := false }
def FnExactMendStitchSaid : Prop := fnExactMendStitchRow.holds Try.pinned (OpenSpec.ofChange fnExactMendStitchSpec)

/-- ITS FALSE NEIGHBOUR: 'it returns false'. Refute it at one input. -/
def fnExactMendStitchWrong : ChangeSpec := { name := "fnExactMendStitch", fn := fun _ => fun
  | [d1, d2, d3] => { results := [.lit (.bool false)], args := [d1, d2, d3] }
  | _ => none }
def FnExactMendStitchWrongFalsely : Prop := fnExactMendStitchRow.holds Try.pinned (OpenSpec.ofChange fnExactMendStitchWrong)

/-- 'laws.FnExactLostFrom': WHATEVER THE INPUT: true; the input reads as it did. -/
def fnExactLostFromSpec : ChangeSpec := { name := "fnExactLostFrom", fn := fun _ => fun
  | [d1, d2] => { results := [.lit (.bool true)], args := [d1, d2] }
  | _ => none }
def fnExactLostFromRow : OpenClaim := { program := "ytklnpldggclejaa", sum := "0b6c0ffcf9155994458bf24a2ca482bb38d3a0ac214557b9bc81873a212a2bf3", func := "loop.example/g01378/laws.FnExactLostFrom", spec := "fnExactLostFrom", unfollowed := true, recurses := true, apart := false }
def FnExactLostFromSaid : Prop := fnExactLostFromRow.holds Try.pinned (OpenSpec.ofChange fnExactLostFromSpec)

/-- ITS FALSE NEIGHBOUR: 'it returns false'. Refute it at one input. -/
def fnExactLostFromWrong : ChangeSpec := { name := "fnExactLostFrom", fn := fun _ => fun
  | [d1, d2] => { results := [.lit (.bool false)], args := [d1, d2] }
  | _ => none }
def FnExactLostFromWrongFalsely : Prop := fnExactLostFromRow.holds Try.pinned (OpenSpec.ofChange fnExactLostFromWrong)

/-- 'laws.FnExactBestClass': WHATEVER THE INPUT: true; the input reads as it did. -/
def fnExactBestClassSpec : ChangeSpec := { name := "fnExactBestClass", fn := fun _ => fun
  | [d] => { results := [.lit (.bool true)], args := [d] }
  | _ => none }
def fnExactBestClassRow : OpenClaim := { program := "ytklnpldggclejaa", sum := "0b6c0ffcf9155994458bf24a2ca482bb38d3a0ac214557b9bc81873a212a2bf3", func := "loop.example/g01378/laws.FnExactBestClass", spec := "fnExactBestClass", unfollowed := true, recurses := true, apart := false }
def FnExactBestClassSaid : Prop := fnExactBestClassRow.holds Try.pinned (OpenSpec.ofChange fnExactBestClassSpec)

/-- ITS FALSE NEIGHBOUR: 'it returns false'. Refute it at one input. -/
def fnExactBestClassWrong : ChangeSpec := { name := "fnExactBestClass", fn := fun _ => fun
  | [d] => { results := [.lit (.bool false)], args := [d] }
  | _ => none }
def FnExactBestClassWrongFalsely : Prop := fnExactBestClassRow.holds Try.pinned (OpenSpec.ofChange fnExactBestClassWrong)

/-- 'laws.FnExactMissingBy': WHATEVER THE INPUT: true; the input reads as it did. -/
def fnExactMissingBySpec : ChangeSpec := { name := "fnExactMissingBy", fn := fun _ => fun
  | [d1, d2] => { results := [.lit (.bool true)], args := [d1, d2] }
  | _ => none }
def fnExactMissingByRow : OpenClaim := { program := "ytklnpldggclejaa", sum := "0b6c0ffcf9155994458bf24a2ca482bb38d3a0ac214557b9bc81873a212a2bf3", func := "loop.example/g01378/laws.FnExactMissingBy", spec := "fnExactMissingBy", unfollowed := true, recurses := true, apart := false }
def FnExactMissingBySaid : Prop := fnExactMissingByRow.holds Try.pinned (OpenSpec.ofChange fnExactMissingBySpec)

/-- ITS FALSE NEIGHBOUR: 'it returns false'. Refute it at one input. -/
def fnExactMissingByWrong : ChangeSpec := { name := "fnExactMissingBy", fn := fun _ => fun
  | [d1, d2] => { results := [.lit (.bool false)], args := [d1, d2] }
  | _ => none }
def FnExactMissingByWrongFalsely : Prop := fnExactMissingByRow.holds Try.pinned (OpenSpec.ofChange fnExactMissingByWrong)

/-- 'laws.FnExactLeastApart': WHATEVER THE INPUT: true; the input reads as it did. -/
def fnExactLeastApartSpec : ChangeSpec := { name := "fnExactLeastApart", fn := fun _ => fun
  | [d1, d2] => { results := [.lit (.bool true)], args := [d1, d2] }
  | _ => none }
def fnExactLeastApartRow : OpenClaim := { program := "ytklnpldggclejaa", sum := "0b6c0ffcf9155994458bf24a2ca482bb38d3a0ac214557b9bc81873a212a2bf3", func := "loop.example/g01378/laws.FnExactLeastApart", spec := "fnExactLeastApart", unfollowed := true, recurses := true, apart := false }
def FnExactLeastApartSaid : Prop := fnExactLeastApartRow.holds Try.pinned (OpenSpec.ofChange fnExactLeastApartSpec)

/-- ITS FALSE NEIGHBOUR: 'it returns false'. Refute it at one input. -/
def fnExactLeastApartWrong : ChangeSpec := { name := "fnExactLeastApart", fn := fun _ => fun
  | [d1, d2] => { results := [.lit (.bool false)], args := [d1, d2] }
  | _ => none }
def FnExactLeastApartWrongFalsely : Prop := fnExactLeastApartRow.holds Try.pinned (OpenSpec.ofChange fnExactLeastApartWrong)

/-- 'laws.FnExactClassMarks': WHATEVER THE INPUT: true; the input reads as it did. -/
def fnExactClassMarksSpec : ChangeSpec := { name := "fnExactClassMarks", fn := fun _ => fun
  | [d1, d2] => { results := [.lit (.bool true)], args := [d1, d2] }
  | _ => none }
def fnExactClassMarksRow : OpenClaim := { program := "ytklnpldggclejaa", sum := "0b6c0ffcf9155994458bf24a2ca482bb38d3a0ac214557b9bc81873a212a2bf3", func := "loop.example/g01378/laws.FnExactClassMarks", spec := "fnExactClassMarks", unfollowed := true, recurses := true, apart := false }
def FnExactClassMarksSaid : Prop := fnExactClassMarksRow.holds Try.pinned (OpenSpec.ofChange fnExactClassMarksSpec)

/-- ITS FALSE NEIGHBOUR: 'it returns false'. Refute it at one input. -/
def fnExactClassMarksWrong : ChangeSpec := { name := "fnExactClassMarks", fn := fun _ => fun
  | [d1, d2] => { results := [.lit (.bool false)], args := [d1, d2] }
  | _ => none }
def FnExactClassMarksWrongFalsely : Prop := fnExactClassMarksRow.holds Try.pinned (OpenSpec.ofChange fnExactClassMarksWrong)

/-- 'laws.FnExactGreedyMarks': WHATEVER THE INPUT: true; the input reads as it did. -/
def fnExactGreedyMarksSpec : ChangeSpec := { name := "fnExactGreedyMarks", fn := fun _ => fun
  | [d1, d2] => { results := [.lit (.bool true)], args := [d1, d2] }
  | _ => none }
def fnExactGreedyMarksRow : OpenClaim := { program := "ytklnpldggclejaa", sum := "0b6c0ffcf9155994458bf24a2ca482bb38d3a0ac214557b9bc81873a212a2bf3", func := "loop.example/g01378/laws.FnExactGreedyMarks", spec := "fnExactGreedyMarks", unfollowed := true, recurses := true, apart := false }
def FnExactGreedyMarksSaid : Prop := fnExactGreedyMarksRow.holds Try.pinned (OpenSpec.ofChange fnExactGreedyMarksSpec)

/-- ITS FALSE NEIGHBOUR: 'it returns false'. Refute it at one input. -/
def fnExactGreedyMarksWrong : ChangeSpec := { name := "fnExactGreedyMarks", fn := fun _ => fun
  | [d1, d2] => { results := [.lit (.bool false)], args := [d1, d2] }
  | _ => none }
def FnExactGreedyMarksWrongFalsely : Prop := fnExactGreedyMarksRow.holds Try.pinned (OpenSpec.ofChange fnExactGreedyMarksWrong)

/-- 'laws.FnExactFirstClash': WHATEVER THE INPUT: true; the input reads as it did. -/
def fnExactFirstClashSpec : ChangeSpec := { name := "fnExactFirstClash", fn := fun _ => fun
  | [d1, d2] => { results := [.lit (.bool true)], args := [d1, d2] }
  | _ => none }
def fnExactFirstClashRow : OpenClaim := { program := "ytklnpldggclejaa", sum := "0b6c0ffcf9155994458bf24a2ca482bb38d3a0ac214557b9bc81873a212a2bf3", func := "loop.example/g01378/laws.FnExactFirstClash", spec := "fnExactFirstClash", unfollowed := true, recurses := true, apart := false }
def FnExactFirstClashSaid : Prop := fnExactFirstClashRow.holds Try.pinned (OpenSpec.ofChange fnExactFirstClashSpec)

/-- ITS FALSE NEIGHBOUR: 'it returns false'. Refute it at one input. -/
def fnExactFirstClashWrong : ChangeSpec := { name := "fnExactFirstClash", fn := fun _ => fun
  | [d1, d2] => { results := [.lit (.bool false)], args := [d1, d2] }
  | _ => none }
def FnExactFirstClashWrongFalsely : Prop := fnExactFirstClashRow.holds Try.pinned (OpenSpec.ofChange fnExactFirstClashWrong)

/-- 'laws.FnExactCheckMarks': WHATEVER THE INPUT: true; the input reads as it did. -/
def fnExactCheckMarksSpec : ChangeSpec := { name := "fnExactCheckMarks", fn := fun _ => fun
  | [d1, d2] => { results := [.lit (.bool true)], args := [d1, d2] }
  | _ => none }
def fnExactCheckMarksRow : OpenClaim := { program := "ytklnpldggclejaa", sum := "0b6c0ffcf9155994458bf24a2ca482bb38d3a0ac214557b9bc81873a212a2bf3", func := "loop.example/g01378/laws.FnExactCheckMarks", spec := "fnExactCheckMarks", unfollowed := true, recurses := true, apart := false }
def FnExactCheckMarksSaid : Prop := fnExactCheckMarksRow.holds Try.pinned (OpenSpec.ofChange fnExactCheckMarksSpec)

/-- ITS FALSE NEIGHBOUR: 'it returns false'. Refute it at one input. -/
def fnExactCheckMarksWrong : ChangeSpec := { name := "fnExactCheckMarks", fn := fun _ => fun
  | [d1, d2] => { results := [.lit (.bool false)], args := [d1, d2] }
  | _ => none }
def FnExactCheckMarksWrongFalsely : Prop := fnExactCheckMarksRow.holds Try.pinned (OpenSpec.ofChange fnExactCheckMarksWrong)

/-- 'laws.FnExactLikelyLost': WHATEVER THE INPUT: true; the input reads as it did. -/
def fnExactLikelyLostSpec : ChangeSpec := { name := "fnExactLikelyLost", fn := fun _ => fun
  | [d1, d2, d3] => { results := [.lit (.bool true)], args := [d1, d2, d3] }
  | _ => none }
def fnExactLikelyLostRow : OpenClaim := { program := "ytklnpldggclejaa", sum := "0b6c0ffcf9155994458bf24a2ca482bb38d3a0ac214557b9bc81873a212a2bf3", func := "loop.example/g01378/laws.FnExactLikelyLost", spec := "fnExactLikelyLost", unfollowed := true, recurses := true, apart := false }
def FnExactLikelyLostSaid : Prop := fnExactLikelyLostRow.holds Try.pinned (OpenSpec.ofChange fnExactLikelyLostSpec)

/-- ITS FALSE NEIGHBOUR: 'it returns false'. Refute it at one input. -/
def fnExactLikelyLostWrong : ChangeSpec := { name := "fnExactLikelyLost", fn := fun _ => fun
  | [d1, d2, d3] => { results := [.lit (.bool false)], args := [d1, d2, d3] }
  | _ => none }
def FnExactLikelyLostWrongFalsely : Prop := fnExactLikelyLostRow.holds Try.pinned (OpenSpec.ofChange fnExactLikelyLostWrong)

/-- 'laws.FnExactReadStitches': WHATEVER THE INPUT: true; the input reads as it did. -/
def fnExactReadStitchesSpec : ChangeSpec := { name := "fnExactReadStitches", fn := fun _ => fun
  | [d1, d2, d3] => { results := [.lit (.bool true)], args := [d1, d2, d3] }
  | _ => none }
def fnExactReadStitchesRow : OpenClaim := { program := "ytklnpldggclejaa", sum := "0b6c0ffcf9155994458bf24a2ca482bb38d3a0ac214557b9bc81873a212a2bf3", func := "loop.example/g01378/laws.FnExactReadStitches", spec := "fnExactReadStitches", unfollowed := true, recurses := true, apart := false }
def FnExactReadStitchesSaid : Prop := fnExactReadStitchesRow.holds Try.pinned (OpenSpec.ofChange fnExactReadStitchesSpec)

/-- ITS FALSE NEIGHBOUR: 'it returns false'. Refute it at one input. -/
def fnExactReadStitchesWrong : ChangeSpec := { name := "fnExactReadStitches", fn := fun _ => fun
  | [d1, d2, d3] => { results := [.lit (.bool false)], args := [d1, d2, d3] }
  | _ => none }
def FnExactReadStitchesWrongFalsely : Prop := fnExactReadStitchesRow.holds Try.pinned (OpenSpec.ofChange fnExactReadStitchesWrong)

/-- 'laws.FnExactSortByMarks': WHATEVER THE INPUT: true; the input reads as it did. -/
def fnExactSortByMarksSpec : ChangeSpec := { name := "fnExactSortByMarks", fn := fun _ => fun
  | [d1, d2, d3] => { results := [.lit (.bool true)], args := [d1, d2, d3] }
  | _ => none }
def fnExactSortByMarksRow : OpenClaim := { program := "ytklnpldggclejaa", sum := "0b6c0ffcf9155994458bf24a2ca482bb38d3a0ac214557b9bc81873a212a2bf3", func := "loop.example/g01378/laws.FnExactSortByMarks", spec := "fnExactSortByMarks", unfollowed := true, recurses := true, apart := false }
def FnExactSortByMarksSaid : Prop := fnExactSortByMarksRow.holds Try.pinned (OpenSpec.ofChange fnExactSortByMarksSpec)

/-- ITS FALSE NEIGHBOUR: 'it returns false'. Refute it at one input. -/
def fnExactSortByMarksWrong : ChangeSpec := { name := "fnExactSortByMarks", fn := fun _ => fun
  | [d1, d2, d3] => { results := [.lit (.bool false)], args := [d1, d2, d3] }
  | _ => none }
def FnExactSortByMarksWrongFalsely : Prop := fnExactSortByMarksRow.holds Try.pinned (OpenSpec.ofChange fnExactSortByMarksWrong)

/-- 'laws.FnClasses': WHATEVER THE INPUT: true; the input reads as it did. -/
def fnClassesSpec : ChangeSpec := { name := "fnClasses", fn := fun _ => fun
  | [d1, d2] => { results := [.lit (.bool true)], args := [d1, d2] }
  | _ => none }
def fnClassesRow : OpenClaim := { program := "ytklnpldggclejaa", sum := "0b6c0ffcf9155994458bf24a2ca482bb38d3a0ac214557b9bc81873a212a2bf3", func := "loop.example/g01378/laws.FnClasses", spec := "fnClasses", unfollowed := true, recurses := true, apart := false }
def FnClassesSaid : Prop := fnClassesRow.holds Try.pinned (OpenSpec.ofChange fnClassesSpec)

/-- ITS FALSE NEIGHBOUR: 'it returns false'. Refute it at one input. -/
def fnClassesWrong : ChangeSpec := { name := "fnClasses", fn := fun _ => fun
  | [d1, d2] => { results := [.lit (.bool false)], args := [d1, d2] }
  | _ => none }
def FnClassesWrongFalsely : Prop := fnClassesRow.holds Try.pinned (OpenSpec.ofChange fnClassesWrong)

/-- 'laws.FnMarks': WHATEVER THE INPUT: true; the input reads as it did. -/
def fnMarksSpec : ChangeSpec := { name := "fnMarks", fn := fun _ => fun
  | [d1, d2] => { results := [.lit (.bool true)], args := [d1, d2] }
  | _ => none }
def fnMarksRow : OpenClaim := { program := "ytklnpldggclejaa", sum := "0b6c0ffcf9155994458bf24a2ca482bb38d3a0ac214557b9bc81873a212a2bf3", func := "loop.example/g01378/laws.FnMarks", spec := "fnMarks", unfollowed := true, recurses := true, apart := false }
def FnMarksSaid : Prop := fnMarksRow.holds Try.pinned (OpenSpec.ofChange fnMarksSpec)

/-- ITS FALSE NEIGHBOUR: 'it returns false'. Refute it at one input. -/
def fnMarksWrong : ChangeSpec := { name := "fnMarks", fn := fun _ => fun
  | [d1, d2] => { results := [.lit (.bool false)], args := [d1, d2] }
  | _ => none }
def FnMarksWrongFalsely : Prop := fnMarksRow.holds Try.pinned (OpenSpec.ofChange fnMarksWrong)

/-- 'laws.FnSorted': WHATEVER THE INPUT: true; the input reads as it did. -/
def fnSortedSpec : ChangeSpec := { name := "fnSorted", fn := fun _ => fun
  | [d1, d2] => { results := [.lit (.bool true)], args := [d1, d2] }
  | _ => none }
def fnSortedRow : OpenClaim := { program := "ytklnpldggclejaa", sum := "0b6c0ffcf9155994458bf24a2ca482bb38d3a0ac214557b9bc81873a212a2bf3", func := "loop.example/g01378/laws.FnSorted", spec := "fnSorted", unfollowed := true, recurses := true, apart := false }
def FnSortedSaid : Prop := fnSortedRow.holds Try.pinned (OpenSpec.ofChange fnSortedSpec)

/-- ITS FALSE NEIGHBOUR: 'it returns false'. Refute it at one input. -/
def fnSortedWrong : ChangeSpec := { name := "fnSorted", fn := fun _ => fun
  | [d1, d2] => { results := [.lit (.bool false)], args := [d1, d2] }
  | _ => none }
def FnSortedWrongFalsely : Prop := fnSortedRow.holds Try.pinned (OpenSpec.ofChange fnSortedWrong)

/- THE SECOND FORM. 'bulk': how many values and letters a reading holds, each counted each time it is reached (what is shared counts as often as it is met; a slice's spare places count too). A statement '..UptoSaid' is the law's where the arguments, and the package variables that the reading takes, are together of bulk at most 1048576: NARROWER than '..Said'. Prove '..Said' where nothing that the law and all that it calls make is longer than what came in: it says more and counts as full. Else prove '..UptoSaid'. A law counts once. -/
mutual
def uptoBulk {H : Type} : DataW H → Nat
  | .lit (.string bytes) => bytes.length + 1
  | .lit _ => 1
  | .nil => 1
  | .ptr d => uptoBulk d + 1
  | .slice elems spare => uptoBulkAll elems + uptoBulkAll spare + 1
  | .agg parts => uptoBulkAll parts + 1
  | .iface _ d => uptoBulk d + 1
  | .map entries => uptoBulkEntries entries + 1
  | .held _ => 1
def uptoBulkAll {H : Type} : List (DataW H) → Nat
  | [] => 0
  | d :: r => uptoBulk d + uptoBulkAll r
def uptoBulkEntries {H : Type} : List (Lit × DataW H) → Nat
  | [] => 0
  | x :: r => uptoBulkEntry x + uptoBulkEntries r
def uptoBulkEntry {H : Type} : Lit × DataW H → Nat
  | (.string bytes, d) => bytes.length + uptoBulk d + 1
  | (_, d) => uptoBulk d + 1
 end
def uptoSmall : (H : Type) → List (DataW H) → Bool := fun _ ds => decide (uptoBulkAll ds ≤ 1048576)
def OpenSpec.upto (s : _root_.Go.ChangeSpec) : _root_.Go.OpenSpec := { _root_.Go.OpenSpec.ofChange s with cond := some uptoSmall }

/-- 'laws.FnExactReadMark', WHERE WHAT IT READS IS OF BULK AT MOST 1048576: true; the input reads as it did. -/
def fnExactReadMarkUptoRow : OpenClaim := { program := "ytklnpldggclejaa", sum := "0b6c0ffcf9155994458bf24a2ca482bb38d3a0ac214557b9bc81873a212a2bf3", func := "loop.example/g01378/laws.FnExactReadMark", spec := "fnExactReadMark", apart := false, narrowed := true }
def FnExactReadMarkUptoSaid : Prop := fnExactReadMarkUptoRow.holds Try.pinned (OpenSpec.upto fnExactReadMarkSpec)

/-- 'laws.FnExactApartBy', WHERE WHAT IT READS IS OF BULK AT MOST 1048576: true; the input reads as it did. -/
def fnExactApartByUptoRow : OpenClaim := { program := "ytklnpldggclejaa", sum := "0b6c0ffcf9155994458bf24a2ca482bb38d3a0ac214557b9bc81873a212a2bf3", func := "loop.example/g01378/laws.FnExactApartBy", spec := "fnExactApartBy", unfollowed := true, recurses := true, apart := false, narrowed := true }
def FnExactApartByUptoSaid : Prop := fnExactApartByUptoRow.holds Try.pinned (OpenSpec.upto fnExactApartBySpec)

/-- 'laws.FnExactClassOf', WHERE WHAT IT READS IS OF BULK AT MOST 1048576: true; the input reads as it did. -/
def fnExactClassOfUptoRow : OpenClaim := { program := "ytklnpldggclejaa", sum := "0b6c0ffcf9155994458bf24a2ca482bb38d3a0ac214557b9bc81873a212a2bf3", func := "loop.example/g01378/laws.FnExactClassOf", spec := "fnExactClassOf", unfollowed := true, recurses := true, apart := false, narrowed := true }
def FnExactClassOfUptoSaid : Prop := fnExactClassOfUptoRow.holds Try.pinned (OpenSpec.upto fnExactClassOfSpec)

/-- 'laws.FnExactMendStitch', WHERE WHAT IT READS IS OF BULK AT MOST 1048576: true; the input reads as it did. -/
def fnExactMendStitchUptoRow : OpenClaim := { program := "ytklnpldggclejaa", sum := "0b6c0ffcf9155994458bf24a2ca482bb38d3a0ac214557b9bc81873a212a2bf3", func := "loop.example/g01378/laws.FnExactMendStitch", spec := "fnExactMendStitch", unfollowed := true, recurses := true, apart := false, narrowed := true }
def FnExactMendStitchUptoSaid : Prop := fnExactMendStitchUptoRow.holds Try.pinned (OpenSpec.upto fnExactMendStitchSpec)

/-- 'laws.FnExactLostFrom', WHERE WHAT IT READS IS OF BULK AT MOST 1048576: true; the input reads as it did. -/
def fnExactLostFromUptoRow : OpenClaim := { program := "ytklnpldggclejaa", sum := "0b6c0ffcf9155994458bf24a2ca482bb38d3a0ac214557b9bc81873a212a2bf3", func := "loop.example/g01378/laws.FnExactLostFrom", spec := "fnExactLostFrom", unfollowed := true, recurses := true, apart := false, narrowed := true }
def FnExactLostFromUptoSaid : Prop := fnExactLostFromUptoRow.holds Try.pinned (OpenSpec.upto fnExactLostFromSpec)

/-- 'laws.FnExactBestClass', WHERE WHAT IT READS IS OF BULK AT MOST 1048576: true; the input reads as it did. -/
def fnExactBestClassUptoRow : OpenClaim := { program := "ytklnpldggclejaa", sum := "0b6c0ffcf9155994458bf24a2ca482bb38d3a0ac214557b9bc81873a212a2bf3", func := "loop.example/g01378/laws.FnExactBestClass", spec := "fnExactBestClass", unfollowed := true, recurses := true, apart := false, narrowed := true }
def FnExactBestClassUptoSaid : Prop := fnExactBestClassUptoRow.holds Try.pinned (OpenSpec.upto fnExactBestClassSpec)

/-- 'laws.FnExactMissingBy', WHERE WHAT IT READS IS OF BULK AT MOST 1048576: true; the input reads as it did. -/
def fnExactMissingByUptoRow : OpenClaim := { program := "ytklnpldggclejaa", sum := "0b6c0ffcf9155994458bf24a2ca482bb38d3a0ac214557b9bc81873a212a2bf3", func := "loop.example/g01378/laws.FnExactMissingBy", spec := "fnExactMissingBy", unfollowed := true, recurses := true, apart := false, narrowed := true }
def FnExactMissingByUptoSaid : Prop := fnExactMissingByUptoRow.holds Try.pinned (OpenSpec.upto fnExactMissingBySpec)

/-- 'laws.FnExactLeastApart', WHERE WHAT IT READS IS OF BULK AT MOST 1048576: true; the input reads as it did. -/
def fnExactLeastApartUptoRow : OpenClaim := { program := "ytklnpldggclejaa", sum := "0b6c0ffcf9155994458bf24a2ca482bb38d3a0ac214557b9bc81873a212a2bf3", func := "loop.example/g01378/laws.FnExactLeastApart", spec := "fnExactLeastApart", unfollowed := true, recurses := true, apart := false, narrowed := true }
def FnExactLeastApartUptoSaid : Prop := fnExactLeastApartUptoRow.holds Try.pinned (OpenSpec.upto fnExactLeastApartSpec)

/-- 'laws.FnExactClassMarks', WHERE WHAT IT READS IS OF BULK AT MOST 1048576: true; the input reads as it did. -/
def fnExactClassMarksUptoRow : OpenClaim := { program := "ytklnpldggclejaa", sum := "0b6c0ffcf9155994458bf24a2ca482bb38d3a0ac214557b9bc81873a212a2bf3", func := "loop.example/g01378/laws.FnExactClassMarks", spec := "fnExactClassMarks", unfollowed := true, recurses := true, apart := false, narrowed := true }
def FnExactClassMarksUptoSaid : Prop := fnExactClassMarksUptoRow.holds Try.pinned (OpenSpec.upto fnExactClassMarksSpec)

/-- 'laws.FnExactGreedyMarks', WHERE WHAT IT READS IS OF BULK AT MOST 1048576: true; the input reads as it did. -/
def fnExactGreedyMarksUptoRow : OpenClaim := { program := "ytklnpldggclejaa", sum := "0b6c0ffcf9155994458bf24a2ca482bb38d3a0ac214557b9bc81873a212a2bf3", func := "loop.example/g01378/laws.FnExactGreedyMarks", spec := "fnExactGreedyMarks", unfollowed := true, recurses := true, apart := false, narrowed := true }
def FnExactGreedyMarksUptoSaid : Prop := fnExactGreedyMarksUptoRow.holds Try.pinned (OpenSpec.upto fnExactGreedyMarksSpec)

/-- 'laws.FnExactFirstClash', WHERE WHAT IT READS IS OF BULK AT MOST 1048576: true; the input reads as it did. -/
def fnExactFirstClashUptoRow : OpenClaim := { program := "ytklnpldggclejaa", sum := "0b6c0ffcf9155994458bf24a2ca482bb38d3a0ac214557b9bc81873a212a2bf3", func := "loop.example/g01378/laws.FnExactFirstClash", spec := "fnExactFirstClash", unfollowed := true, recurses := true, apart := false, narrowed := true }
def FnExactFirstClashUptoSaid : Prop := fnExactFirstClashUptoRow.holds Try.pinned (OpenSpec.upto fnExactFirstClashSpec)

/-- 'laws.FnExactCheckMarks', WHERE WHAT IT READS IS OF BULK AT MOST 1048576: true; the input reads as it did. -/
def fnExactCheckMarksUptoRow : OpenClaim := { program := "ytklnpldggclejaa", sum := "0b6c0ffcf9155994458bf24a2ca482bb38d3a0ac214557b9bc81873a212a2bf3", func := "loop.example/g01378/laws.FnExactCheckMarks", spec := "fnExactCheckMarks", unfollowed := true, recurses := true, apart := false, narrowed := true }
def FnExactCheckMarksUptoSaid : Prop := fnExactCheckMarksUptoRow.holds Try.pinned (OpenSpec.upto fnExactCheckMarksSpec)

/-- 'laws.FnExactLikelyLost', WHERE WHAT IT READS IS OF BULK AT MOST 1048576: true; the input reads as it did. -/
def fnExactLikelyLostUptoRow : OpenClaim := { program := "ytklnpldggclejaa", sum := "0b6c0ffcf9155994458bf24a2ca482bb38d3a0ac214557b9bc81873a212a2bf3", func := "loop.example/g01378/laws.FnExactLikelyLost", spec := "fnExactLikelyLost", unfollowed := true, recurses := true, apart := false, narrowed := true }
def FnExactLikelyLostUptoSaid : Prop := fnExactLikelyLostUptoRow.holds Try.pinned (OpenSpec.upto fnExactLikelyLostSpec)

/-- 'laws.FnExactReadStitches', WHERE WHAT IT READS IS OF BULK AT MOST 1048576: true; the input reads as it did. -/
def fnExactReadStitchesUptoRow : OpenClaim := { program := "ytklnpldggclejaa", sum := "0b6c0ffcf9155994458bf24a2ca482bb38d3a0ac214557b9bc81873a212a2bf3", func := "loop.example/g01378/laws.FnExactReadStitches", spec := "fnExactReadStitches", unfollowed := true, recurses := true, apart := false, narrowed := true }
def FnExactReadStitchesUptoSaid : Prop := fnExactReadStitchesUptoRow.holds Try.pinned (OpenSpec.upto fnExactReadStitchesSpec)

/-- 'laws.FnExactSortByMarks', WHERE WHAT IT READS IS OF BULK AT MOST 1048576: true; the input reads as it did. -/
def fnExactSortByMarksUptoRow : OpenClaim := { program := "ytklnpldggclejaa", sum := "0b6c0ffcf9155994458bf24a2ca482bb38d3a0ac214557b9bc81873a212a2bf3", func := "loop.example/g01378/laws.FnExactSortByMarks", spec := "fnExactSortByMarks", unfollowed := true, recurses := true, apart := false, narrowed := true }
def FnExactSortByMarksUptoSaid : Prop := fnExactSortByMarksUptoRow.holds Try.pinned (OpenSpec.upto fnExactSortByMarksSpec)

/-- 'laws.FnClasses', WHERE WHAT IT READS IS OF BULK AT MOST 1048576: true; the input reads as it did. -/
def fnClassesUptoRow : OpenClaim := { program := "ytklnpldggclejaa", sum := "0b6c0ffcf9155994458bf24a2ca482bb38d3a0ac214557b9bc81873a212a2bf3", func := "loop.example/g01378/laws.FnClasses", spec := "fnClasses", unfollowed := true, recurses := true, apart := false, narrowed := true }
def FnClassesUptoSaid : Prop := fnClassesUptoRow.holds Try.pinned (OpenSpec.upto fnClassesSpec)

/-- 'laws.FnMarks', WHERE WHAT IT READS IS OF BULK AT MOST 1048576: true; the input reads as it did. -/
def fnMarksUptoRow : OpenClaim := { program := "ytklnpldggclejaa", sum := "0b6c0ffcf9155994458bf24a2ca482bb38d3a0ac214557b9bc81873a212a2bf3", func := "loop.example/g01378/laws.FnMarks", spec := "fnMarks", unfollowed := true, recurses := true, apart := false, narrowed := true }
def FnMarksUptoSaid : Prop := fnMarksUptoRow.holds Try.pinned (OpenSpec.upto fnMarksSpec)

/-- 'laws.FnSorted', WHERE WHAT IT READS IS OF BULK AT MOST 1048576: true; the input reads as it did. -/
def fnSortedUptoRow : OpenClaim := { program := "ytklnpldggclejaa", sum := "0b6c0ffcf9155994458bf24a2ca482bb38d3a0ac214557b9bc81873a212a2bf3", func := "loop.example/g01378/laws.FnSorted", spec := "fnSorted", unfollowed := true, recurses := true, apart := false, narrowed := true }
def FnSortedUptoSaid : Prop := fnSortedUptoRow.holds Try.pinned (OpenSpec.upto fnSortedSpec)

end Rows
end Go.Proofs.Ytklnpldggclejaa
