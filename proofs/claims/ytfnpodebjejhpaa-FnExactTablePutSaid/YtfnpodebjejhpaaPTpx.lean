/- Plain Lean functions of a law's Go functions, their contracts, by a program of this session (wip/pr.py over the kit's print). -/
import Derived.Test.YtfnpodebjejhpaaPTpx0
import Derived.Test.YtfnpodebjejhpaaPTpx1
import Derived.Test.YtfnpodebjejhpaaPTpx2
import Derived.Test.YtfnpodebjejhpaaPTpx3
import Derived.Test.YtfnpodebjejhpaaPTpx4
import Derived.Test.YtfnpodebjejhpaaPTpx5
import Derived.Test.YtfnpodebjejhpaaPTpx6
import Derived.Test.YtfnpodebjejhpaaPTpx7
import Derived.Test.YtfnpodebjejhpaaPTpx8
import Derived.Test.YtfnpodebjejhpaaPTpx9
namespace Go.Proofs.Ytfnpodebjejhpaa.PTp
open Go.RowKit Go.Proofs.YtfnpodebjejhpaaW.PrintWords Go.Proofs.YtfnpodebjejhpaaW.PrintLast Go.Proofs.YtfnpodebjejhpaaW.PrintMore
attribute [local go_sem] max2_int min2_int max_two min_two max_three min_three max_four min_four   -- for this text's walks alone
set_option linter.unusedVariables false
set_option linter.unusedSimpArgs false

end Go.Proofs.Ytfnpodebjejhpaa.PTp
