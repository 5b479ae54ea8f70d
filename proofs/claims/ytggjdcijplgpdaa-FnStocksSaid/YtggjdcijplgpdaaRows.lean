/-
  No cell of these rows narrows 'for every input' (looked for: loops, veiled, ifaces, maps, wideKeys, modest, calm, conditions, laid).
  DERIVED. THE GIVEN ROWS OF THIS SEAT. 4 by the template 'for every input the law returns true; each argument reads behind the call as it read before'; 0 by the template 'total and deterministic' (their statements: YtggjdcijplgpdaaTotals.lean).
  GIVEN WITH THE SEED: the statements are not yours to turn. If you find one false, say at which input.
  Laid BY PROGRAM, IN A SANDBOX (cutbox-rows.mjs): the forced cells as the released guide's own fill.sh prints them over the translation 4be83be102f3e89a… (all of the seat's roots in one cut). By AI agents, Wed Nov 11 2026. No macro, syntax, notation, axiom, sorry.
-/
import Derived.Test.YtggjdcijplgpdaaChecked
import GoSem.Claim
import GoSem.ClaimJoined
import GoSem.ClaimMapViews
import Derived.JoinedTies
import Derived.KernelRfl
namespace Go.Proofs.Ytggjdcijplgpdaa
/- THE CELL 'sum', in the pinned program and in every row, IS THE sha256 OF THE DUMP (.gsa) THAT YtggjdcijplgpdaaProg.lean LOADS. Nothing in Lean hashes anything: it is a label: what it is worth is what the hold of that sum in a sandbox is worth. -/
noncomputable def Try.pinned : Pinned := { name := "ytggjdcijplgpdaa", sum := "4be83be102f3e89aac4f41c0440c3df6a5fa9ca60d392d232349edf890193d5c", checked := Try.checked }
namespace Rows
def none {H : Type} : Left H := { results := [], args := [] }

/-- 'laws.FnExactDayAll': WHATEVER THE INPUT: true; the input reads as it did. -/
def fnExactDayAllSpec : ChangeSpec := { name := "fnExactDayAll", fn := fun _ => fun
  | [d1, d2] => { results := [.lit (.bool true)], args := [d1, d2] }
  | _ => none }
def fnExactDayAllRow : OpenClaim := { program := "ytggjdcijplgpdaa", sum := "4be83be102f3e89aac4f41c0440c3df6a5fa9ca60d392d232349edf890193d5c", func := "loop.example/g01378/laws.FnExactDayAll", spec := "fnExactDayAll", unfollowed := true, recurses := true, apart := false }
def FnExactDayAllSaid : Prop := fnExactDayAllRow.holds Try.pinned (OpenSpec.ofChange fnExactDayAllSpec)

/-- ITS FALSE NEIGHBOUR: 'it returns false'. Refute it at one input. -/
def fnExactDayAllWrong : ChangeSpec := { name := "fnExactDayAll", fn := fun _ => fun
  | [d1, d2] => { results := [.lit (.bool false)], args := [d1, d2] }
  | _ => none }
def FnExactDayAllWrongFalsely : Prop := fnExactDayAllRow.holds Try.pinned (OpenSpec.ofChange fnExactDayAllWrong)

/-- 'laws.FnStocks': WHATEVER THE INPUT: true; the input reads as it did. -/
def fnStocksSpec : ChangeSpec := { name := "fnStocks", fn := fun _ => fun
  | [d1, d2] => { results := [.lit (.bool true)], args := [d1, d2] }
  | _ => none }
def fnStocksRow : OpenClaim := { program := "ytggjdcijplgpdaa", sum := "4be83be102f3e89aac4f41c0440c3df6a5fa9ca60d392d232349edf890193d5c", func := "loop.example/g01378/laws.FnStocks", spec := "fnStocks", unfollowed := true, recurses := true, apart := false }
def FnStocksSaid : Prop := fnStocksRow.holds Try.pinned (OpenSpec.ofChange fnStocksSpec)

/-- ITS FALSE NEIGHBOUR: 'it returns false'. Refute it at one input. -/
def fnStocksWrong : ChangeSpec := { name := "fnStocks", fn := fun _ => fun
  | [d1, d2] => { results := [.lit (.bool false)], args := [d1, d2] }
  | _ => none }
def FnStocksWrongFalsely : Prop := fnStocksRow.holds Try.pinned (OpenSpec.ofChange fnStocksWrong)

/-- 'laws.FnExactAllDryAt': WHATEVER THE INPUT: true; the input reads as it did. -/
def fnExactAllDryAtSpec : ChangeSpec := { name := "fnExactAllDryAt", fn := fun _ => fun
  | [d1, d2, d3, d4] => { results := [.lit (.bool true)], args := [d1, d2, d3, d4] }
  | _ => none }
def fnExactAllDryAtRow : OpenClaim := { program := "ytggjdcijplgpdaa", sum := "4be83be102f3e89aac4f41c0440c3df6a5fa9ca60d392d232349edf890193d5c", func := "loop.example/g01378/laws.FnExactAllDryAt", spec := "fnExactAllDryAt", unfollowed := true, recurses := true, apart := false }
def FnExactAllDryAtSaid : Prop := fnExactAllDryAtRow.holds Try.pinned (OpenSpec.ofChange fnExactAllDryAtSpec)

/-- ITS FALSE NEIGHBOUR: 'it returns false'. Refute it at one input. -/
def fnExactAllDryAtWrong : ChangeSpec := { name := "fnExactAllDryAt", fn := fun _ => fun
  | [d1, d2, d3, d4] => { results := [.lit (.bool false)], args := [d1, d2, d3, d4] }
  | _ => none }
def FnExactAllDryAtWrongFalsely : Prop := fnExactAllDryAtRow.holds Try.pinned (OpenSpec.ofChange fnExactAllDryAtWrong)

/-- 'laws.FnExactHangInOrder': WHATEVER THE INPUT: true; the input reads as it did. -/
def fnExactHangInOrderSpec : ChangeSpec := { name := "fnExactHangInOrder", fn := fun _ => fun
  | [d1, d2, d3, d4] => { results := [.lit (.bool true)], args := [d1, d2, d3, d4] }
  | _ => none }
def fnExactHangInOrderRow : OpenClaim := { program := "ytggjdcijplgpdaa", sum := "4be83be102f3e89aac4f41c0440c3df6a5fa9ca60d392d232349edf890193d5c", func := "loop.example/g01378/laws.FnExactHangInOrder", spec := "fnExactHangInOrder", unfollowed := true, recurses := true, apart := false }
def FnExactHangInOrderSaid : Prop := fnExactHangInOrderRow.holds Try.pinned (OpenSpec.ofChange fnExactHangInOrderSpec)

/-- ITS FALSE NEIGHBOUR: 'it returns false'. Refute it at one input. -/
def fnExactHangInOrderWrong : ChangeSpec := { name := "fnExactHangInOrder", fn := fun _ => fun
  | [d1, d2, d3, d4] => { results := [.lit (.bool false)], args := [d1, d2, d3, d4] }
  | _ => none }
def FnExactHangInOrderWrongFalsely : Prop := fnExactHangInOrderRow.holds Try.pinned (OpenSpec.ofChange fnExactHangInOrderWrong)

/- THE SECOND FORM. 'bulk': how many values and letters a reading holds, each counted each time it is reached (what is shared counts as often as it is met; a slice's spare places count too). A statement '..UptoSaid' is the law's where the arguments, and the package variables that the reading takes, are together of bulk at most 1048576: NARROWER than '..Said'. Prove '..Said' where nothing that the law and all that it calls make is longer than what came in: it says more and counts as full. Else prove '..UptoSaid'. A law counts once. -/
mutual
def uptoBulk {H : Type} : DataW H → Nat
  | .lit (.string bytes) => bytes.length + 1
  | .lit _ => 1
  | .nil => 1
  | .ptr d => uptoBulk d + 1
  | .slice elems spare => uptoBulkAll elems + uptoBulkAll spare + 1
  | .agg parts => uptoBulkAll parts + 1
  | .iface _ d => uptoBulk d + 1
  | .map entries => uptoBulkEntries entries + 1
  | .held _ => 1
def uptoBulkAll {H : Type} : List (DataW H) → Nat
  | [] => 0
  | d :: r => uptoBulk d + uptoBulkAll r
def uptoBulkEntries {H : Type} : List (Lit × DataW H) → Nat
  | [] => 0
  | x :: r => uptoBulkEntry x + uptoBulkEntries r
def uptoBulkEntry {H : Type} : Lit × DataW H → Nat
  | (.string bytes, d) => bytes.length + uptoBulk d + 1
  | (_, d) => uptoBulk d + 1
 end
def uptoSmall : (H : Type) → List (DataW H) → Bool := fun _ ds => decide (uptoBulkAll ds ≤ 1048576)
def OpenSpec.upto (s : _root_.Go.ChangeSpec) : _root_.Go.OpenSpec := { _root_.Go.OpenSpec.ofChange s with cond := some uptoSmall }

/-- 'laws.FnExactDayAll', WHERE WHAT IT READS IS OF BULK AT MOST 1048576: true; the input reads as it did. -/
def fnExactDayAllUptoRow : OpenClaim := { program := "ytggjdcijplgpdaa", sum := "4be83be102f3e89aac4f41c0440c3df6a5fa9ca60d392d232349edf890193d5c", func := "loop.example/g01378/laws.FnExactDayAll", spec := "fnExactDayAll", unfollowed := true, recurses := true, apart := false, narrowed := true }
def FnExactDayAllUptoSaid : Prop := fnExactDayAllUptoRow.holds Try.pinned (OpenSpec.upto fnExactDayAllSpec)

/-- 'laws.FnStocks', WHERE WHAT IT READS IS OF BULK AT MOST 1048576: true; the input reads as it did. -/
def fnStocksUptoRow : OpenClaim := { program := "ytggjdcijplgpdaa", sum := "4be83be102f3e89aac4f41c0440c3df6a5fa9ca60d392d232349edf890193d5c", func := "loop.example/g01378/laws.FnStocks", spec := "fnStocks", unfollowed := true, recurses := true, apart := false, narrowed := true }
def FnStocksUptoSaid : Prop := fnStocksUptoRow.holds Try.pinned (OpenSpec.upto fnStocksSpec)

/-- 'laws.FnExactAllDryAt', WHERE WHAT IT READS IS OF BULK AT MOST 1048576: true; the input reads as it did. -/
def fnExactAllDryAtUptoRow : OpenClaim := { program := "ytggjdcijplgpdaa", sum := "4be83be102f3e89aac4f41c0440c3df6a5fa9ca60d392d232349edf890193d5c", func := "loop.example/g01378/laws.FnExactAllDryAt", spec := "fnExactAllDryAt", unfollowed := true, recurses := true, apart := false, narrowed := true }
def FnExactAllDryAtUptoSaid : Prop := fnExactAllDryAtUptoRow.holds Try.pinned (OpenSpec.upto fnExactAllDryAtSpec)

/-- 'laws.FnExactHangInOrder', WHERE WHAT IT READS IS OF BULK AT MOST 1048576: true; the input reads as it did. -/
def fnExactHangInOrderUptoRow : OpenClaim := { program := "ytggjdcijplgpdaa", sum := "4be83be102f3e89aac4f41c0440c3df6a5fa9ca60d392d232349edf890193d5c", func := "loop.example/g01378/laws.FnExactHangInOrder", spec := "fnExactHangInOrder", unfollowed := true, recurses := true, apart := false, narrowed := true }
def FnExactHangInOrderUptoSaid : Prop := fnExactHangInOrderUptoRow.holds Try.pinned (OpenSpec.upto fnExactHangInOrderSpec)

end Rows
end Go.Proofs.Ytggjdcijplgpdaa
