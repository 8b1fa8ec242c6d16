/- The plain law behind the row FnExactTableNew: what the law's function computes is true, whatever the arguments. No condition. -/
import Derived.Test.YtfnpodebjejhpaaPTnx5
import Derived.Test.YtfnpodebjejhpaaFr
import Derived.Test.YtfnpodebjejhpaaTTn
namespace Go.Proofs.Ytfnpodebjejhpaa.UFnExactTableNew
open Go.RowKit Go.Proofs.YtfnpodebjejhpaaW.PrintWords Go.Proofs.YtfnpodebjejhpaaW.PrintLast Go.Proofs.YtfnpodebjejhpaaW.PrintMore Go.Proofs.YtfnpodebjejhpaaFr Go.Proofs.Ytfnpodebjejhpaa.PTn
set_option linter.unusedVariables false
set_option linter.unusedSimpArgs false
def Pure : Prop := ∀ (a0 : Int) (a1 : Int), I64 a0 → I64 a1 → ∃ k, laws_FnExactTableNew.f k a0 a1 = some true
-- IMPORT YtfnpodebjejhpaaT@K@
open Go.Proofs.Ytfnpodebjejhpaa.T
theorem pure : Pure := by
  unfold Pure
  intro s n _ _
  have hl := newF_len s n
  obtain ⟨Y, m1, m2⟩ := markHeldT (newF s n).1 (newF s n).2 (by omega)
  refine ⟨7000, ?_⟩
  unfold laws_FnExactTableNew.f
  simp only [newS s n (show 6100 < 7000 by omega), newI s n, Option.bind_some, eqTabF (newF s n).1 (newF s n).2 (by omega) (show (newF s n).2.length < 7000 by omega), m1, m2, if_true]
  rw [if_neg (by omega), if_neg (by omega)]
end Go.Proofs.Ytfnpodebjejhpaa.UFnExactTableNew
