/- Plain Lean functions of a law's Go functions, their contracts, by a program of this session (wip/pr.py over the kit's print). -/
import Derived.Test.YtiokbmbdhejciaaProg
import Derived.Below
import Derived.Deep.Draws
import Derived.Deep.AppendLies
import Derived.Maps.AppendAt
import Derived.OwnWalk
import Derived.Laws.BytesArg
import Derived.Laws.MakeOwn
import Derived.Laws.OwnMore
import Derived.Deep.OwnRows
import Derived.Tactics
import Derived.Lib.ConvBytes
import Derived.Laws.Slices
import Derived.WalkKit
import Derived.KernelRfl
import Derived.RowKit3
import Derived.Deep.LoopGhost
import Derived.Deep.QuietTactic
import Derived.BigQuiet
import Derived.WideLaws
import Derived.Deep.DeepCutAuto
import Derived.Deep.CutBlock
import Derived.Deep.RegionHeld3
import Derived.Laws.Rows
import Derived.Lib.AppendStr
import Derived.ArgAppend
import Derived.Laws.IdiomCopy
import Derived.OrdersHeld
import Derived.Laws.BitsLemmas
import Derived.RowKit
import Derived.Shelf.Abstract
import Derived.BigRegion
import Derived.Lib.SliceRun
import Derived.Test.YtiokbmbdhejciaaGv
import Derived.Test.YtiokbmbdhejciaaWWords
import Derived.Test.YtiokbmbdhejciaaWLast
import Derived.Test.YtiokbmbdhejciaaWTab
import Derived.Test.YtiokbmbdhejciaaWFour
import Derived.Test.YtiokbmbdhejciaaWQPut
import Derived.Test.YtiokbmbdhejciaaWApart
import Derived.Test.YtiokbmbdhejciaaWArr
import Derived.Test.YtiokbmbdhejciaaWZeros
import Derived.Test.YtiokbmbdhejciaaWFoot
import Derived.Test.YtiokbmbdhejciaaWKept
import Derived.Test.YtiokbmbdhejciaaWShare
import Derived.Test.YtiokbmbdhejciaaWN
import Derived.Test.YtiokbmbdhejciaaWFootNe
import Derived.Test.YtiokbmbdhejciaaWAt
import Derived.Test.YtiokbmbdhejciaaWEqStruct
import Derived.Test.YtiokbmbdhejciaaWRepsOne
import Derived.Test.YtiokbmbdhejciaaWInv
import Derived.Test.YtiokbmbdhejciaaWInvWords
import Derived.Test.YtiokbmbdhejciaaWGuard
import Derived.Test.YtiokbmbdhejciaaWNEv
import Derived.Test.YtiokbmbdhejciaaWMore
namespace Go.Proofs.Ytiokbmbdhejciaa.PCh
open Go.RowKit Go.Proofs.YtiokbmbdhejciaaW.PrintWords Go.Proofs.YtiokbmbdhejciaaW.PrintLast Go.Proofs.YtiokbmbdhejciaaW.PrintMore
attribute [local go_sem] max2_int min2_int max_two min_two max_three min_three max_four min_four   -- for this text's walks alone
set_option linter.unusedVariables false
set_option linter.unusedSimpArgs false



def errW : Option Int → Value
  | none => .nilIface
  | some c => .iface 0 (.int .i64 c)
theorem errW_none : errW none = .nilIface := rfl
theorem errW_some (c : Int) : errW (some c) = .iface 0 (.int .i64 c) := rfl

theorem info3 : (Try.prog.info? 3).map (fun i => (i.zero, i.size, i.bytes)) = some (some (.int .i64 0), 1, 8) := by kernel_rfl
-- the values' own types

end Go.Proofs.Ytiokbmbdhejciaa.PCh
