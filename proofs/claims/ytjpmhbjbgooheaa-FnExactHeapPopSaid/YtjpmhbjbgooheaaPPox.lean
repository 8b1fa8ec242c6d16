/- Plain Lean functions of a law's Go functions, their contracts, by a program of this session (wip/pr.py over the kit's print). -/
import Derived.Test.YtjpmhbjbgooheaaPPox0
import Derived.Test.YtjpmhbjbgooheaaPPox1
import Derived.Test.YtjpmhbjbgooheaaPPox2
import Derived.Test.YtjpmhbjbgooheaaPPox3
import Derived.Test.YtjpmhbjbgooheaaPPox4
import Derived.Test.YtjpmhbjbgooheaaPPox5
import Derived.Test.YtjpmhbjbgooheaaPPox6
import Derived.Test.YtjpmhbjbgooheaaPPox7
namespace Go.Proofs.Ytjpmhbjbgooheaa.PPo
open Go.RowKit Go.Proofs.YtjpmhbjbgooheaaW.PrintWords Go.Proofs.YtjpmhbjbgooheaaW.PrintLast Go.Proofs.Ytjpmhbjbgooheaa.Th
set_option linter.unusedVariables false
set_option linter.unusedSimpArgs false

end Go.Proofs.Ytjpmhbjbgooheaa.PPo
