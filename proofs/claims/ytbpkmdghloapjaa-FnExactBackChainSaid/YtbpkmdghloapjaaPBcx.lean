/- Plain Lean functions of a law's Go functions, their contracts, by a program of this session (wip/pr.py over the kit's print). -/
import Derived.Test.YtbpkmdghloapjaaPBcx0
import Derived.Test.YtbpkmdghloapjaaPBcx1
import Derived.Test.YtbpkmdghloapjaaPBcx2
import Derived.Test.YtbpkmdghloapjaaPBcx3
import Derived.Test.YtbpkmdghloapjaaPBcx4
import Derived.Test.YtbpkmdghloapjaaPBcx5
import Derived.Test.YtbpkmdghloapjaaPBcx6
import Derived.Test.YtbpkmdghloapjaaPBcx7
import Derived.Test.YtbpkmdghloapjaaPBcx8
namespace Go.Proofs.Ytbpkmdghloapjaa.PBc
open Go.RowKit Go.Proofs.YtbpkmdghloapjaaW.PrintWords Go.Proofs.YtbpkmdghloapjaaW.PrintLast Go.Proofs.YtbpkmdghloapjaaW.PrintMore
attribute [local go_sem] max2_int min2_int max_two min_two max_three min_three max_four min_four   -- for this text's walks alone
set_option linter.unusedVariables false
set_option linter.unusedSimpArgs false

end Go.Proofs.Ytbpkmdghloapjaa.PBc
