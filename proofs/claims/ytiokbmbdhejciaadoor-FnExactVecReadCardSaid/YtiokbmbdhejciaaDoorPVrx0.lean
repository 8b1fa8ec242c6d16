/- Plain Lean functions of a law's Go functions, their contracts, by a program of this session (wip/pr.py over the kit's print). -/
import Derived.Test.YtiokbmbdhejciaaDoorProg
import Derived.Below
import Derived.Deep.Draws
import Derived.Deep.AppendLies
import Derived.Maps.AppendAt
import Derived.OwnWalk
import Derived.Laws.BytesArg
import Derived.Laws.MakeOwn
import Derived.Laws.OwnMore
import Derived.Deep.OwnRows
import Derived.Tactics
import Derived.Lib.ConvBytes
import Derived.Laws.Slices
import Derived.WalkKit
import Derived.KernelRfl
import Derived.RowKit3
import Derived.Deep.LoopGhost
import Derived.Deep.QuietTactic
import Derived.BigQuiet
import Derived.WideLaws
import Derived.Deep.DeepCutAuto
import Derived.Deep.CutBlock
import Derived.Deep.RegionHeld3
import Derived.Laws.Rows
import Derived.Lib.AppendStr
import Derived.ArgAppend
import Derived.Laws.IdiomCopy
import Derived.OrdersHeld
import Derived.Laws.BitsLemmas
import Derived.RowKit
import Derived.Shelf.Abstract
import Derived.BigRegion
import Derived.Lib.SliceRun
import Derived.Test.YtiokbmbdhejciaaDoorGv
import Derived.Lib.AppendZeros
import Derived.Test.YtiokbmbdhejciaaDoorLa
import Derived.Test.YtiokbmbdhejciaaDoorWWords
import Derived.Test.YtiokbmbdhejciaaDoorWLast
import Derived.Test.YtiokbmbdhejciaaDoorWTab
import Derived.Test.YtiokbmbdhejciaaDoorWFour
import Derived.Test.YtiokbmbdhejciaaDoorWQPut
import Derived.Test.YtiokbmbdhejciaaDoorWApart
import Derived.Test.YtiokbmbdhejciaaDoorWArr
import Derived.Test.YtiokbmbdhejciaaDoorWZeros
import Derived.Test.YtiokbmbdhejciaaDoorWFoot
import Derived.Test.YtiokbmbdhejciaaDoorWKept
import Derived.Test.YtiokbmbdhejciaaDoorWShare
import Derived.Test.YtiokbmbdhejciaaDoorWN
import Derived.Test.YtiokbmbdhejciaaDoorWFootNe
import Derived.Test.YtiokbmbdhejciaaDoorWAt
import Derived.Test.YtiokbmbdhejciaaDoorWEqStruct
import Derived.Test.YtiokbmbdhejciaaDoorWRepsOne
import Derived.Test.YtiokbmbdhejciaaDoorWInv
import Derived.Test.YtiokbmbdhejciaaDoorWInvWords
import Derived.Test.YtiokbmbdhejciaaDoorWGuard
import Derived.Test.YtiokbmbdhejciaaDoorWNEv
import Derived.Test.YtiokbmbdhejciaaDoorWMore
namespace Go.Proofs.YtiokbmbdhejciaaDoor.PVr
open Go.RowKit Go.Proofs.YtiokbmbdhejciaaDoorW.PrintWords Go.Proofs.YtiokbmbdhejciaaDoorW.PrintLast Go.Proofs.YtiokbmbdhejciaaDoorW.PrintMore
attribute [local go_sem] max2_int min2_int max_two min_two max_three min_three max_four min_four   -- for this text's walks alone
set_option linter.unusedVariables false
set_option linter.unusedSimpArgs false



def errW : Option Int → Value
  | none => .nilIface
  | some c => .iface 0 (.int .i64 c)
theorem errW_none : errW none = .nilIface := rfl
theorem errW_some (c : Int) : errW (some c) = .iface 0 (.int .i64 c) := rfl

theorem info3 : (Tryd.prog.info? 3).map (fun i => (i.zero, i.size, i.bytes)) = some (some (.int .i64 0), 1, 8) := by kernel_rfl
theorem info5 : (Tryd.prog.info? 5).map (fun i => (i.zero, i.size, i.bytes)) = some (some (.int .u8 0), 1, 1) := by kernel_rfl
theorem info9 : (Tryd.prog.info? 9).map (fun i => (i.zero, i.size, i.bytes)) = some (some (.string ⟨#[]⟩), 1, 16) := by kernel_rfl
-- the values' own types

end Go.Proofs.YtiokbmbdhejciaaDoor.PVr
