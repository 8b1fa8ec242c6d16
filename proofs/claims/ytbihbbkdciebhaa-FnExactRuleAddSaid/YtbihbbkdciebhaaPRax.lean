/- Plain Lean functions of a law's Go functions, their contracts, by a program of this session (wip/pr.py over the kit's print). -/
import Derived.Test.YtbihbbkdciebhaaPRax0
import Derived.Test.YtbihbbkdciebhaaPRax1
import Derived.Test.YtbihbbkdciebhaaPRax2
import Derived.Test.YtbihbbkdciebhaaPRax3
import Derived.Test.YtbihbbkdciebhaaPRax4
import Derived.Test.YtbihbbkdciebhaaPRax5
import Derived.Test.YtbihbbkdciebhaaPRax6
import Derived.Test.YtbihbbkdciebhaaPRax7
import Derived.Test.YtbihbbkdciebhaaPRax8
namespace Go.Proofs.Ytbihbbkdciebhaa.PRa
open Go.RowKit Go.Proofs.YtbihbbkdciebhaaW.PrintWords Go.Proofs.YtbihbbkdciebhaaW.PrintLast Go.Proofs.YtbihbbkdciebhaaW.PrintMore
attribute [local go_sem] max2_int min2_int max_two min_two max_three min_three max_four min_four   -- for this text's walks alone
set_option linter.unusedVariables false
set_option linter.unusedSimpArgs false

end Go.Proofs.Ytbihbbkdciebhaa.PRa
