/- Plain Lean functions of a law's Go functions, their contracts, by a program of this session (wip/pr.py over the kit's print). -/
import Derived.Test.YtfnpodebjejhpaaProg
import Derived.Below
import Derived.Deep.Draws
import Derived.Deep.AppendLies
import Derived.Maps.AppendAt
import Derived.OwnWalk
import Derived.Laws.BytesArg
import Derived.Laws.MakeOwn
import Derived.Laws.OwnMore
import Derived.Deep.OwnRows
import Derived.Tactics
import Derived.Lib.ConvBytes
import Derived.Laws.Slices
import Derived.WalkKit
import Derived.KernelRfl
import Derived.RowKit3
import Derived.Deep.LoopGhost
import Derived.Deep.QuietTactic
import Derived.BigQuiet
import Derived.WideLaws
import Derived.Deep.DeepCutAuto
import Derived.Deep.CutBlock
import Derived.Deep.RegionHeld3
import Derived.Laws.Rows
import Derived.Lib.AppendStr
import Derived.ArgAppend
import Derived.Laws.IdiomCopy
import Derived.OrdersHeld
import Derived.Laws.BitsLemmas
import Derived.RowKit
import Derived.Shelf.Abstract
import Derived.BigRegion
import Derived.Lib.SliceRun
import Derived.Test.YtfnpodebjejhpaaGv
import Derived.Test.YtfnpodebjejhpaaWWords
import Derived.Test.YtfnpodebjejhpaaWLast
import Derived.Test.YtfnpodebjejhpaaWTab
import Derived.Test.YtfnpodebjejhpaaWFour
import Derived.Test.YtfnpodebjejhpaaWQPut
import Derived.Test.YtfnpodebjejhpaaWApart
import Derived.Test.YtfnpodebjejhpaaWArr
import Derived.Test.YtfnpodebjejhpaaWZeros
import Derived.Test.YtfnpodebjejhpaaWFoot
import Derived.Test.YtfnpodebjejhpaaWKept
import Derived.Test.YtfnpodebjejhpaaWShare
import Derived.Test.YtfnpodebjejhpaaWN
import Derived.Test.YtfnpodebjejhpaaWFootNe
import Derived.Test.YtfnpodebjejhpaaWAt
import Derived.Test.YtfnpodebjejhpaaWEqStruct
import Derived.Test.YtfnpodebjejhpaaWRepsOne
import Derived.Test.YtfnpodebjejhpaaWInv
import Derived.Test.YtfnpodebjejhpaaWInvWords
import Derived.Test.YtfnpodebjejhpaaWGuard
import Derived.Test.YtfnpodebjejhpaaWNEv
import Derived.Test.YtfnpodebjejhpaaWMore
namespace Go.Proofs.Ytfnpodebjejhpaa.PFk
open Go.RowKit Go.Proofs.YtfnpodebjejhpaaW.PrintWords Go.Proofs.YtfnpodebjejhpaaW.PrintLast Go.Proofs.YtfnpodebjejhpaaW.PrintMore
attribute [local go_sem] max2_int min2_int max_two min_two max_three min_three max_four min_four   -- for this text's walks alone
set_option linter.unusedVariables false
set_option linter.unusedSimpArgs false



def errW : Option Int → Value
  | none => .nilIface
  | some c => .iface 0 (.int .i64 c)
theorem errW_none : errW none = .nilIface := rfl
theorem errW_some (c : Int) : errW (some c) = .iface 0 (.int .i64 c) := rfl

theorem info3 : (Try.prog.info? 3).map (fun i => (i.zero, i.size, i.bytes)) = some (some (.int .i64 0), 1, 8) := by kernel_rfl
-- the values' own types

end Go.Proofs.Ytfnpodebjejhpaa.PFk
