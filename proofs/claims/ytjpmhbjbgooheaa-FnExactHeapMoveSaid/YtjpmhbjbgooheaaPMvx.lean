/- Plain Lean functions of a law's Go functions, their contracts, by a program of this session (wip/pr.py over the kit's print). -/
import Derived.Test.YtjpmhbjbgooheaaPMvx0
import Derived.Test.YtjpmhbjbgooheaaPMvx1
import Derived.Test.YtjpmhbjbgooheaaPMvx2
import Derived.Test.YtjpmhbjbgooheaaPMvx3
import Derived.Test.YtjpmhbjbgooheaaPMvx4
import Derived.Test.YtjpmhbjbgooheaaPMvx5
import Derived.Test.YtjpmhbjbgooheaaPMvx6
import Derived.Test.YtjpmhbjbgooheaaPMvx7
import Derived.Test.YtjpmhbjbgooheaaPMvx8
namespace Go.Proofs.Ytjpmhbjbgooheaa.PMv
open Go.RowKit Go.Proofs.YtjpmhbjbgooheaaW.PrintWords Go.Proofs.YtjpmhbjbgooheaaW.PrintLast Go.Proofs.Ytjpmhbjbgooheaa.Th
set_option linter.unusedVariables false
set_option linter.unusedSimpArgs false

end Go.Proofs.Ytjpmhbjbgooheaa.PMv
