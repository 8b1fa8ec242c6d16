/- Plain Lean functions of a law's Go functions, their contracts, by a program of this session (wip/pr.py over the kit's print). -/
import Derived.Test.YtfnpodebjejhpaaPTdx0
import Derived.Test.YtfnpodebjejhpaaPTdx1
import Derived.Test.YtfnpodebjejhpaaPTdx2
import Derived.Test.YtfnpodebjejhpaaPTdx3
import Derived.Test.YtfnpodebjejhpaaPTdx4
import Derived.Test.YtfnpodebjejhpaaPTdx5
import Derived.Test.YtfnpodebjejhpaaPTdx6
import Derived.Test.YtfnpodebjejhpaaPTdx7
import Derived.Test.YtfnpodebjejhpaaPTdx8
import Derived.Test.YtfnpodebjejhpaaPTdx9
import Derived.Test.YtfnpodebjejhpaaPTdx10
namespace Go.Proofs.Ytfnpodebjejhpaa.PTd
open Go.RowKit Go.Proofs.YtfnpodebjejhpaaW.PrintWords Go.Proofs.YtfnpodebjejhpaaW.PrintLast Go.Proofs.YtfnpodebjejhpaaW.PrintMore
attribute [local go_sem] max2_int min2_int max_two min_two max_three min_three max_four min_four   -- for this text's walks alone
set_option linter.unusedVariables false
set_option linter.unusedSimpArgs false

end Go.Proofs.Ytfnpodebjejhpaa.PTd
