/- The plain law behind the row FnExactWheelNew: what the law's function computes is true, whatever the arguments. No condition. -/
import Derived.Test.YtbfbfaoolkbodaaPWnx2
import Derived.Test.YtbfbfaoolkbodaaFr
import Derived.Test.YtbfbfaoolkbodaaTWn
namespace Go.Proofs.Ytbfbfaoolkbodaa.UFnExactWheelNew
open Go.RowKit Go.Proofs.YtbfbfaoolkbodaaW.PrintWords Go.Proofs.YtbfbfaoolkbodaaW.PrintLast Go.Proofs.YtbfbfaoolkbodaaW.PrintMore Go.Proofs.YtbfbfaoolkbodaaFr Go.Proofs.Ytbfbfaoolkbodaa.PWn
set_option linter.unusedVariables false
set_option linter.unusedSimpArgs false
def Pure : Prop := ∀ (a0 : Int), I64 a0 → ∃ k, laws_FnExactWheelNew.f k a0 = some true
-- IMPORT YtbfbfaoolkbodaaT@K@
open Go.Proofs.Ytbfbfaoolkbodaa.T
theorem pure : Pure := by
  unfold Pure
  intro s _
  have h1 := newW_len s
  have h2 := newW_tot s
  have h3 := newW_empty s
  refine ⟨7000, ?_⟩
  unfold laws_FnExactWheelNew.f
  simp only [specNewW s (show 6010 ≤ 7000 by omega), implNewW, Option.bind_some, eqW (newW s).1 (newW s).2 (by omega) (by omega) (show (newW s).2.length + totW (newW s).2 + 2 < 7000 by omega), markW0 _ _ h3, heldW0 (newW s).1 (newW s).2 h1 h3 (show 10 < 7000 by omega), if_true]
  rfl
end Go.Proofs.Ytbfbfaoolkbodaa.UFnExactWheelNew
