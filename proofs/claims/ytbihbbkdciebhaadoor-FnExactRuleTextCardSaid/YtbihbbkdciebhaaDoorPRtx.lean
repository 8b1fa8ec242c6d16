/- Plain Lean functions of a law's Go functions, their contracts, by a program of this session (wip/pr.py over the kit's print). -/
import Derived.Test.YtbihbbkdciebhaaDoorPRtx0
import Derived.Test.YtbihbbkdciebhaaDoorPRtx1
import Derived.Test.YtbihbbkdciebhaaDoorPRtx2
import Derived.Test.YtbihbbkdciebhaaDoorPRtx3
import Derived.Test.YtbihbbkdciebhaaDoorPRtx4
import Derived.Test.YtbihbbkdciebhaaDoorPRtx5
import Derived.Test.YtbihbbkdciebhaaDoorPRtx6
import Derived.Test.YtbihbbkdciebhaaDoorPRtx7
import Derived.Test.YtbihbbkdciebhaaDoorPRtx8
namespace Go.Proofs.YtbihbbkdciebhaaDoor.PRt
open Go.RowKit Go.Proofs.YtbihbbkdciebhaaDoorW.PrintWords Go.Proofs.YtbihbbkdciebhaaDoorW.PrintLast Go.Proofs.YtbihbbkdciebhaaDoorW.PrintMore
attribute [local go_sem] max2_int min2_int max_two min_two max_three min_three max_four min_four   -- for this text's walks alone
set_option linter.unusedVariables false
set_option linter.unusedSimpArgs false

end Go.Proofs.YtbihbbkdciebhaaDoor.PRt
