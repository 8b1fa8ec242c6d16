/- Plain Lean functions of a law's Go functions, their contracts, by a program of this session (wip/pr.py over the kit's print). -/
import Derived.Test.YtbihbbkdciebhaaPShx0
import Derived.Test.YtbihbbkdciebhaaPShx1
import Derived.Test.YtbihbbkdciebhaaPShx2
import Derived.Test.YtbihbbkdciebhaaPShx3
import Derived.Test.YtbihbbkdciebhaaPShx4
import Derived.Test.YtbihbbkdciebhaaPShx5
import Derived.Test.YtbihbbkdciebhaaPShx6
import Derived.Test.YtbihbbkdciebhaaPShx7
import Derived.Test.YtbihbbkdciebhaaPShx8
namespace Go.Proofs.Ytbihbbkdciebhaa.PSh
open Go.RowKit Go.Proofs.YtbihbbkdciebhaaW.PrintWords Go.Proofs.YtbihbbkdciebhaaW.PrintLast Go.Proofs.YtbihbbkdciebhaaW.PrintMore
attribute [local go_sem] max2_int min2_int max_two min_two max_three min_three max_four min_four   -- for this text's walks alone
set_option linter.unusedVariables false
set_option linter.unusedSimpArgs false

end Go.Proofs.Ytbihbbkdciebhaa.PSh
