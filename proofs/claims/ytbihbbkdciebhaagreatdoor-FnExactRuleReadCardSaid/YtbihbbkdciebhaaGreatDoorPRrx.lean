/- Plain Lean functions of a law's Go functions, their contracts, by a program of this session (wip/pr.py over the kit's print). -/
import Derived.Test.YtbihbbkdciebhaaGreatDoorPRrx0
import Derived.Test.YtbihbbkdciebhaaGreatDoorPRrx1
import Derived.Test.YtbihbbkdciebhaaGreatDoorPRrx2
import Derived.Test.YtbihbbkdciebhaaGreatDoorPRrx3
import Derived.Test.YtbihbbkdciebhaaGreatDoorPRrx4
import Derived.Test.YtbihbbkdciebhaaGreatDoorPRrx5
import Derived.Test.YtbihbbkdciebhaaGreatDoorPRrx6
import Derived.Test.YtbihbbkdciebhaaGreatDoorPRrx7
import Derived.Test.YtbihbbkdciebhaaGreatDoorPRrx8
import Derived.Test.YtbihbbkdciebhaaGreatDoorPRrx9
namespace Go.Proofs.YtbihbbkdciebhaaGreatDoor.PRr
open Go.RowKit Go.Proofs.YtbihbbkdciebhaaGreatDoorW.PrintWords Go.Proofs.YtbihbbkdciebhaaGreatDoorW.PrintLast Go.Proofs.YtbihbbkdciebhaaGreatDoorW.PrintMore
attribute [local go_sem] max2_int min2_int max_two min_two max_three min_three max_four min_four   -- for this text's walks alone
set_option linter.unusedVariables false
set_option linter.unusedSimpArgs false

end Go.Proofs.YtbihbbkdciebhaaGreatDoor.PRr
