/-
  No cell of these rows narrows 'for every input' (looked for: loops, veiled, ifaces, maps, wideKeys, modest, calm, conditions, laid).
  DERIVED. THE GIVEN ROWS OF THIS SEAT. 5 by the template 'for every input the law returns true; each argument reads behind the call as it read before'; 0 by the template 'total and deterministic' (their statements: YtdengckenddcoaaTotals.lean).
  GIVEN WITH THE SEED: the statements are not yours to turn. If you find one false, say at which input.
  Laid BY PROGRAM, IN A SANDBOX (cutbox-rows.mjs): the forced cells as the released guide's own fill.sh prints them over the translation ee115c39614700f5… (all of the seat's roots in one cut). By AI agents, Wed Nov 11 2026. No macro, syntax, notation, axiom, sorry.
-/
import Derived.Test.YtdengckenddcoaaChecked
import GoSem.Claim
import GoSem.ClaimJoined
import GoSem.ClaimMapViews
import Derived.JoinedTies
import Derived.KernelRfl
namespace Go.Proofs.Ytdengckenddcoaa
/- THE CELL 'sum', in the pinned program and in every row, IS THE sha256 OF THE DUMP (.gsa) THAT YtdengckenddcoaaProg.lean LOADS. Nothing in Lean hashes anything: it is a label: what it is worth is what the hold of that sum in a sandbox is worth. -/
noncomputable def Try.pinned : Pinned := { name := "ytdengckenddcoaa", sum := "ee115c39614700f59051267ef37b796fd8ddb000f8bc6e9f17728873ab6773ed", checked := Try.checked }
namespace Rows
def none {H : Type} : Left H := { results := [], args := [] }

/-- 'laws.FnExactValidMark': WHATEVER THE INPUT: true; the input reads as it did. -/
def fnExactValidMarkSpec : ChangeSpec := { name := "fnExactValidMark", fn := fun _ => fun
  | [d1, d2] => { results := [.lit (.bool true)], args := [d1, d2] }
  | _ => none }
def fnExactValidMarkRow : OpenClaim := { program := "ytdengckenddcoaa", sum := "ee115c39614700f59051267ef37b796fd8ddb000f8bc6e9f17728873ab6773ed", func := "loop.example/g01378/laws.FnExactValidMark", spec := "fnExactValidMark", apart := false }
def FnExactValidMarkSaid : Prop := fnExactValidMarkRow.holds Try.pinned (OpenSpec.ofChange fnExactValidMarkSpec)

/-- ITS FALSE NEIGHBOUR: 'it returns false'. Refute it at one input. -/
def fnExactValidMarkWrong : ChangeSpec := { name := "fnExactValidMark", fn := fun _ => fun
  | [d1, d2] => { results := [.lit (.bool false)], args := [d1, d2] }
  | _ => none }
def FnExactValidMarkWrongFalsely : Prop := fnExactValidMarkRow.holds Try.pinned (OpenSpec.ofChange fnExactValidMarkWrong)

/-- 'laws.FnExactStitchesIn': WHATEVER THE INPUT: true; the input reads as it did. -/
def fnExactStitchesInSpec : ChangeSpec := { name := "fnExactStitchesIn", fn := fun _ => fun
  | [d] => { results := [.lit (.bool true)], args := [d] }
  | _ => none }
def fnExactStitchesInRow : OpenClaim := { program := "ytdengckenddcoaa", sum := "ee115c39614700f59051267ef37b796fd8ddb000f8bc6e9f17728873ab6773ed", func := "loop.example/g01378/laws.FnExactStitchesIn", spec := "fnExactStitchesIn", apart := false }
def FnExactStitchesInSaid : Prop := fnExactStitchesInRow.holds Try.pinned (OpenSpec.ofChange fnExactStitchesInSpec)

/-- ITS FALSE NEIGHBOUR: 'it returns false'. Refute it at one input. -/
def fnExactStitchesInWrong : ChangeSpec := { name := "fnExactStitchesIn", fn := fun _ => fun
  | [d] => { results := [.lit (.bool false)], args := [d] }
  | _ => none }
def FnExactStitchesInWrongFalsely : Prop := fnExactStitchesInRow.holds Try.pinned (OpenSpec.ofChange fnExactStitchesInWrong)

/-- 'laws.FnExactValidIron': WHATEVER THE INPUT: true; the input reads as it did. -/
def fnExactValidIronSpec : ChangeSpec := { name := "fnExactValidIron", fn := fun _ => fun
  | [d] => { results := [.lit (.bool true)], args := [d] }
  | _ => none }
def fnExactValidIronRow : OpenClaim := { program := "ytdengckenddcoaa", sum := "ee115c39614700f59051267ef37b796fd8ddb000f8bc6e9f17728873ab6773ed", func := "loop.example/g01378/laws.FnExactValidIron", spec := "fnExactValidIron", apart := false }
def FnExactValidIronSaid : Prop := fnExactValidIronRow.holds Try.pinned (OpenSpec.ofChange fnExactValidIronSpec)

/-- ITS FALSE NEIGHBOUR: 'it returns false'. Refute it at one input. -/
def fnExactValidIronWrong : ChangeSpec := { name := "fnExactValidIron", fn := fun _ => fun
  | [d] => { results := [.lit (.bool false)], args := [d] }
  | _ => none }
def FnExactValidIronWrongFalsely : Prop := fnExactValidIronRow.holds Try.pinned (OpenSpec.ofChange fnExactValidIronWrong)

/-- 'laws.FnExactValidPiece': WHATEVER THE INPUT: true; the input reads as it did. -/
def fnExactValidPieceSpec : ChangeSpec := { name := "fnExactValidPiece", fn := fun _ => fun
  | [d] => { results := [.lit (.bool true)], args := [d] }
  | _ => none }
def fnExactValidPieceRow : OpenClaim := { program := "ytdengckenddcoaa", sum := "ee115c39614700f59051267ef37b796fd8ddb000f8bc6e9f17728873ab6773ed", func := "loop.example/g01378/laws.FnExactValidPiece", spec := "fnExactValidPiece", apart := false }
def FnExactValidPieceSaid : Prop := fnExactValidPieceRow.holds Try.pinned (OpenSpec.ofChange fnExactValidPieceSpec)

/-- ITS FALSE NEIGHBOUR: 'it returns false'. Refute it at one input. -/
def fnExactValidPieceWrong : ChangeSpec := { name := "fnExactValidPiece", fn := fun _ => fun
  | [d] => { results := [.lit (.bool false)], args := [d] }
  | _ => none }
def FnExactValidPieceWrongFalsely : Prop := fnExactValidPieceRow.holds Try.pinned (OpenSpec.ofChange fnExactValidPieceWrong)

/-- 'laws.FnExactMarkText': WHATEVER THE INPUT: true; the input reads as it did. -/
def fnExactMarkTextSpec : ChangeSpec := { name := "fnExactMarkText", fn := fun _ => fun
  | [d1, d2] => { results := [.lit (.bool true)], args := [d1, d2] }
  | _ => none }
def fnExactMarkTextRow : OpenClaim := { program := "ytdengckenddcoaa", sum := "ee115c39614700f59051267ef37b796fd8ddb000f8bc6e9f17728873ab6773ed", func := "loop.example/g01378/laws.FnExactMarkText", spec := "fnExactMarkText", apart := false }
def FnExactMarkTextSaid : Prop := fnExactMarkTextRow.holds Try.pinned (OpenSpec.ofChange fnExactMarkTextSpec)

/-- ITS FALSE NEIGHBOUR: 'it returns false'. Refute it at one input. -/
def fnExactMarkTextWrong : ChangeSpec := { name := "fnExactMarkText", fn := fun _ => fun
  | [d1, d2] => { results := [.lit (.bool false)], args := [d1, d2] }
  | _ => none }
def FnExactMarkTextWrongFalsely : Prop := fnExactMarkTextRow.holds Try.pinned (OpenSpec.ofChange fnExactMarkTextWrong)

/- THE SECOND FORM. 'bulk': how many values and letters a reading holds, each counted each time it is reached (what is shared counts as often as it is met; a slice's spare places count too). A statement '..UptoSaid' is the law's where the arguments, and the package variables that the reading takes, are together of bulk at most 1048576: NARROWER than '..Said'. Prove '..Said' where nothing that the law and all that it calls make is longer than what came in: it says more and counts as full. Else prove '..UptoSaid'. A law counts once. -/
mutual
def uptoBulk {H : Type} : DataW H → Nat
  | .lit (.string bytes) => bytes.length + 1
  | .lit _ => 1
  | .nil => 1
  | .ptr d => uptoBulk d + 1
  | .slice elems spare => uptoBulkAll elems + uptoBulkAll spare + 1
  | .agg parts => uptoBulkAll parts + 1
  | .iface _ d => uptoBulk d + 1
  | .map entries => uptoBulkEntries entries + 1
  | .held _ => 1
def uptoBulkAll {H : Type} : List (DataW H) → Nat
  | [] => 0
  | d :: r => uptoBulk d + uptoBulkAll r
def uptoBulkEntries {H : Type} : List (Lit × DataW H) → Nat
  | [] => 0
  | x :: r => uptoBulkEntry x + uptoBulkEntries r
def uptoBulkEntry {H : Type} : Lit × DataW H → Nat
  | (.string bytes, d) => bytes.length + uptoBulk d + 1
  | (_, d) => uptoBulk d + 1
 end
def uptoSmall : (H : Type) → List (DataW H) → Bool := fun _ ds => decide (uptoBulkAll ds ≤ 1048576)
def OpenSpec.upto (s : _root_.Go.ChangeSpec) : _root_.Go.OpenSpec := { _root_.Go.OpenSpec.ofChange s with cond := some uptoSmall }

/-- 'laws.FnExactValidMark', WHERE WHAT IT READS IS OF BULK AT MOST 1048576: true; the input reads as it did. -/
def fnExactValidMarkUptoRow : OpenClaim := { program := "ytdengckenddcoaa", sum := "ee115c39614700f59051267ef37b796fd8ddb000f8bc6e9f17728873ab6773ed", func := "loop.example/g01378/laws.FnExactValidMark", spec := "fnExactValidMark", apart := false, narrowed := true }
def FnExactValidMarkUptoSaid : Prop := fnExactValidMarkUptoRow.holds Try.pinned (OpenSpec.upto fnExactValidMarkSpec)

/-- 'laws.FnExactStitchesIn', WHERE WHAT IT READS IS OF BULK AT MOST 1048576: true; the input reads as it did. -/
def fnExactStitchesInUptoRow : OpenClaim := { program := "ytdengckenddcoaa", sum := "ee115c39614700f59051267ef37b796fd8ddb000f8bc6e9f17728873ab6773ed", func := "loop.example/g01378/laws.FnExactStitchesIn", spec := "fnExactStitchesIn", apart := false, narrowed := true }
def FnExactStitchesInUptoSaid : Prop := fnExactStitchesInUptoRow.holds Try.pinned (OpenSpec.upto fnExactStitchesInSpec)

/-- 'laws.FnExactValidIron', WHERE WHAT IT READS IS OF BULK AT MOST 1048576: true; the input reads as it did. -/
def fnExactValidIronUptoRow : OpenClaim := { program := "ytdengckenddcoaa", sum := "ee115c39614700f59051267ef37b796fd8ddb000f8bc6e9f17728873ab6773ed", func := "loop.example/g01378/laws.FnExactValidIron", spec := "fnExactValidIron", apart := false, narrowed := true }
def FnExactValidIronUptoSaid : Prop := fnExactValidIronUptoRow.holds Try.pinned (OpenSpec.upto fnExactValidIronSpec)

/-- 'laws.FnExactValidPiece', WHERE WHAT IT READS IS OF BULK AT MOST 1048576: true; the input reads as it did. -/
def fnExactValidPieceUptoRow : OpenClaim := { program := "ytdengckenddcoaa", sum := "ee115c39614700f59051267ef37b796fd8ddb000f8bc6e9f17728873ab6773ed", func := "loop.example/g01378/laws.FnExactValidPiece", spec := "fnExactValidPiece", apart := false, narrowed := true }
def FnExactValidPieceUptoSaid : Prop := fnExactValidPieceUptoRow.holds Try.pinned (OpenSpec.upto fnExactValidPieceSpec)

/-- 'laws.FnExactMarkText', WHERE WHAT IT READS IS OF BULK AT MOST 1048576: true; the input reads as it did. -/
def fnExactMarkTextUptoRow : OpenClaim := { program := "ytdengckenddcoaa", sum := "ee115c39614700f59051267ef37b796fd8ddb000f8bc6e9f17728873ab6773ed", func := "loop.example/g01378/laws.FnExactMarkText", spec := "fnExactMarkText", apart := false, narrowed := true }
def FnExactMarkTextUptoSaid : Prop := fnExactMarkTextUptoRow.holds Try.pinned (OpenSpec.upto fnExactMarkTextSpec)

end Rows
end Go.Proofs.Ytdengckenddcoaa
