-- Written by this session's program pr.py over the kit's printer.
import Derived.Test.YtdengckenddcoaaProg
import Derived.Below
import Derived.Deep.Draws
import Derived.Deep.AppendLies
import Derived.Maps.AppendAt
import Derived.OwnWalk
import Derived.Laws.BytesArg
import Derived.Laws.MakeOwn
import Derived.Laws.OwnMore
import Derived.Deep.OwnRows
import Derived.Tactics
import Derived.Lib.ConvBytes
import Derived.Laws.Slices
import Derived.WalkKit
import Derived.KernelRfl
import Derived.RowKit3
import Derived.Deep.LoopGhost
import Derived.Deep.QuietTactic
import Derived.BigQuiet
import Derived.WideLaws
import Derived.Deep.DeepCutAuto
import Derived.Deep.CutBlock
import Derived.Deep.RegionHeld3
import Derived.Laws.Rows
import Derived.Lib.AppendStr
import Derived.ArgAppend
import Derived.Laws.IdiomCopy
import Derived.OrdersHeld
import Derived.Laws.BitsLemmas
import Derived.RowKit
import Derived.Test.YtdengckenddcoaaWWords
import Derived.Test.YtdengckenddcoaaWLast
import Derived.Test.YtdengckenddcoaaWTab
import Derived.Test.YtdengckenddcoaaWFour
import Derived.Test.YtdengckenddcoaaWQPut
import Derived.Test.YtdengckenddcoaaWApart
import Derived.Test.YtdengckenddcoaaWArr
import Derived.Test.YtdengckenddcoaaWZeros
import Derived.Test.YtdengckenddcoaaWFoot
import Derived.Test.YtdengckenddcoaaWKept
import Derived.Test.YtdengckenddcoaaWShare
import Derived.Test.YtdengckenddcoaaWN
import Derived.Test.YtdengckenddcoaaWFootNe
import Derived.Test.YtdengckenddcoaaWAt
import Derived.Test.YtdengckenddcoaaWEqStruct
import Derived.Test.YtdengckenddcoaaWRepsOne
import Derived.Test.YtdengckenddcoaaWInv
import Derived.Test.YtdengckenddcoaaWInvWords
import Derived.Test.YtdengckenddcoaaWGuard
import Derived.Test.YtdengckenddcoaaWNEv
import Derived.Test.YtdengckenddcoaaWMore
namespace Go.Proofs.Ytdengckenddcoaa.X
open Go.RowKit Go.Proofs.YtdengckenddcoaaW.PrintWords Go.Proofs.YtdengckenddcoaaW.PrintLast Go.Proofs.YtdengckenddcoaaW.PrintMore
attribute [local go_sem] max2_int min2_int max_two min_two max_three min_three max_four min_four   -- for this text's walks alone
set_option linter.unusedVariables false
set_option linter.unusedSimpArgs false



def errW : Option Int → Value
  | none => .nilIface
  | some c => .iface 0 (.int .i64 c)
theorem errW_none : errW none = .nilIface := rfl
theorem errW_some (c : Int) : errW (some c) = .iface 0 (.int .i64 c) := rfl

theorem info5 : (Try.prog.info? 5).map (fun i => (i.zero, i.size, i.bytes)) = some (some (.int .u8 0), 1, 1) := by kernel_rfl
-- the values' own types

end Go.Proofs.Ytdengckenddcoaa.X
