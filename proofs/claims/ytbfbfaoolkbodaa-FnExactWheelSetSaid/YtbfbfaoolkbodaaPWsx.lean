/- Plain Lean functions of a law's Go functions, their contracts, by a program of this session (wip/pr.py over the kit's print). -/
import Derived.Test.YtbfbfaoolkbodaaPWsx0
import Derived.Test.YtbfbfaoolkbodaaPWsx1
import Derived.Test.YtbfbfaoolkbodaaPWsx2
import Derived.Test.YtbfbfaoolkbodaaPWsx3
import Derived.Test.YtbfbfaoolkbodaaPWsx4
namespace Go.Proofs.Ytbfbfaoolkbodaa.PWs
open Go.RowKit Go.Proofs.YtbfbfaoolkbodaaW.PrintWords Go.Proofs.YtbfbfaoolkbodaaW.PrintLast Go.Proofs.YtbfbfaoolkbodaaW.PrintMore
attribute [local go_sem] max2_int min2_int max_two min_two max_three min_three max_four min_four   -- for this text's walks alone
set_option linter.unusedVariables false
set_option linter.unusedSimpArgs false

end Go.Proofs.Ytbfbfaoolkbodaa.PWs
