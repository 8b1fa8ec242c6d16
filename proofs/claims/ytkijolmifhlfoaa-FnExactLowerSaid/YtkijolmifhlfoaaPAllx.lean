/- Plain Lean functions of a law's Go functions, their contracts, by a program of this session (wip/pr.py over the kit's print). -/
import Derived.Test.YtkijolmifhlfoaaPAllx0
import Derived.Test.YtkijolmifhlfoaaPAllx1
import Derived.Test.YtkijolmifhlfoaaPAllx2
import Derived.Test.YtkijolmifhlfoaaPAllx3
import Derived.Test.YtkijolmifhlfoaaPAllx4
namespace Go.Proofs.Ytkijolmifhlfoaa.PAll
open Go.RowKit Go.Proofs.YtkijolmifhlfoaaW.PrintWords Go.Proofs.YtkijolmifhlfoaaW.PrintLast Go.Proofs.YtkijolmifhlfoaaW.PrintMore
attribute [local go_sem] max2_int min2_int max_two min_two max_three min_three max_four min_four   -- for this text's walks alone
set_option linter.unusedVariables false
set_option linter.unusedSimpArgs false

end Go.Proofs.Ytkijolmifhlfoaa.PAll
