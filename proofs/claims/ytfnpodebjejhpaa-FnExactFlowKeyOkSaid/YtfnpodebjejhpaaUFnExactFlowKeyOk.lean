/- The plain law behind the row FnExactFlowKeyOk: what the law's function computes is true, whatever the arguments. No condition. -/
import Derived.Test.YtfnpodebjejhpaaPFkx1
import Derived.Test.YtfnpodebjejhpaaFr
import Derived.Test.YtfnpodebjejhpaaTFk
namespace Go.Proofs.Ytfnpodebjejhpaa.UFnExactFlowKeyOk
open Go.RowKit Go.Proofs.YtfnpodebjejhpaaW.PrintWords Go.Proofs.YtfnpodebjejhpaaW.PrintLast Go.Proofs.YtfnpodebjejhpaaW.PrintMore Go.Proofs.YtfnpodebjejhpaaFr Go.Proofs.Ytfnpodebjejhpaa.PFk
set_option linter.unusedVariables false
set_option linter.unusedSimpArgs false
def Pure : Prop := ∀ (a0_0 : Int) (a0_1 : Int) (a0_2 : Int) (a0_3 : Int) (a0_4 : Int) (a0_5 : Int) (a0_6 : Int) (a0_7 : Int) (a0_8 : Int) (a0_9 : Int) (a0_10 : Int) (a0_11 : Int) (a0_12 : Int) (a0_13 : Int), I64 a0_0 → I64 a0_1 → I64 a0_2 → I64 a0_3 → I64 a0_4 → I64 a0_5 → I64 a0_6 → I64 a0_7 → I64 a0_8 → I64 a0_9 → I64 a0_10 → I64 a0_11 → I64 a0_12 → I64 a0_13 → ∃ k, laws_FnExactFlowKeyOk.f k a0_0 a0_1 a0_2 a0_3 a0_4 a0_5 a0_6 a0_7 a0_8 a0_9 a0_10 a0_11 a0_12 a0_13 = some true
-- IMPORT YtfnpodebjejhpaaT@K@
open Go.Proofs.Ytfnpodebjejhpaa.T
theorem pure : Pure := by
  unfold Pure
  intros
  refine ⟨4, ?_⟩
  simp only [laws_FnExactFlowKeyOk.f, laws_toFlowKey.f, laws_toKey.f, laws_toAddr.f, Option.bind_some, specFlowKey, implFlowKey _ _ _ _ _ _ _ _ _ _ _ _ _ _ (show 3 < 4 by omega)]
  simp
end Go.Proofs.Ytfnpodebjejhpaa.UFnExactFlowKeyOk
