/- Plain Lean functions of a law's Go functions, their contracts, by a program of this session (wip/pr.py over the kit's print). -/
import Derived.Test.YtkijolmifhlfoaaProg
import Derived.Below
import Derived.Deep.Draws
import Derived.Deep.AppendLies
import Derived.Maps.AppendAt
import Derived.OwnWalk
import Derived.Laws.BytesArg
import Derived.Laws.MakeOwn
import Derived.Laws.OwnMore
import Derived.Deep.OwnRows
import Derived.Tactics
import Derived.Lib.ConvBytes
import Derived.Laws.Slices
import Derived.WalkKit
import Derived.KernelRfl
import Derived.RowKit3
import Derived.Deep.LoopGhost
import Derived.Deep.QuietTactic
import Derived.BigQuiet
import Derived.WideLaws
import Derived.Deep.DeepCutAuto
import Derived.Deep.CutBlock
import Derived.Deep.RegionHeld3
import Derived.Laws.Rows
import Derived.Lib.AppendStr
import Derived.ArgAppend
import Derived.Laws.IdiomCopy
import Derived.OrdersHeld
import Derived.Laws.BitsLemmas
import Derived.RowKit
import Derived.Shelf.Abstract
import Derived.BigRegion
import Derived.Lib.SliceRun
import Derived.Test.YtkijolmifhlfoaaGv
import Derived.Test.YtkijolmifhlfoaaWWords
import Derived.Test.YtkijolmifhlfoaaWLast
import Derived.Test.YtkijolmifhlfoaaWTab
import Derived.Test.YtkijolmifhlfoaaWFour
import Derived.Test.YtkijolmifhlfoaaWQPut
import Derived.Test.YtkijolmifhlfoaaWApart
import Derived.Test.YtkijolmifhlfoaaWArr
import Derived.Test.YtkijolmifhlfoaaWZeros
import Derived.Test.YtkijolmifhlfoaaWFoot
import Derived.Test.YtkijolmifhlfoaaWKept
import Derived.Test.YtkijolmifhlfoaaWShare
import Derived.Test.YtkijolmifhlfoaaWN
import Derived.Test.YtkijolmifhlfoaaWFootNe
import Derived.Test.YtkijolmifhlfoaaWAt
import Derived.Test.YtkijolmifhlfoaaWEqStruct
import Derived.Test.YtkijolmifhlfoaaWRepsOne
import Derived.Test.YtkijolmifhlfoaaWInv
import Derived.Test.YtkijolmifhlfoaaWInvWords
import Derived.Test.YtkijolmifhlfoaaWGuard
import Derived.Test.YtkijolmifhlfoaaWNEv
import Derived.Test.YtkijolmifhlfoaaWMore
namespace Go.Proofs.Ytkijolmifhlfoaa.PAll
open Go.RowKit Go.Proofs.YtkijolmifhlfoaaW.PrintWords Go.Proofs.YtkijolmifhlfoaaW.PrintLast Go.Proofs.YtkijolmifhlfoaaW.PrintMore
attribute [local go_sem] max2_int min2_int max_two min_two max_three min_three max_four min_four   -- for this text's walks alone
set_option linter.unusedVariables false
set_option linter.unusedSimpArgs false



def errW : Option Int → Value
  | none => .nilIface
  | some c => .iface 0 (.int .i64 c)
theorem errW_none : errW none = .nilIface := rfl
theorem errW_some (c : Int) : errW (some c) = .iface 0 (.int .i64 c) := rfl

-- the values' own types

end Go.Proofs.Ytkijolmifhlfoaa.PAll
