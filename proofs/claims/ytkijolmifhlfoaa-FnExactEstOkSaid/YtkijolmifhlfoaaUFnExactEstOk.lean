/- The plain law behind the row FnExactEstOk: what the law's function computes is true, whatever the arguments. No condition. -/
import Derived.Test.YtkijolmifhlfoaaPAllx3
import Derived.Test.YtkijolmifhlfoaaFr
import Derived.Test.YtkijolmifhlfoaaV
namespace Go.Proofs.Ytkijolmifhlfoaa.UFnExactEstOk
open Go.RowKit Go.Proofs.YtkijolmifhlfoaaW.PrintWords Go.Proofs.YtkijolmifhlfoaaW.PrintLast Go.Proofs.YtkijolmifhlfoaaW.PrintMore Go.Proofs.YtkijolmifhlfoaaFr Go.Proofs.Ytkijolmifhlfoaa.PAll
set_option linter.unusedVariables false
set_option linter.unusedSimpArgs false
def Pure : Prop := ∀ (a0_0 : Bool) (a0_1 : Int) (a0_2 : Int) (a0_3 : Int), I64 a0_1 → I64 a0_2 → I64 a0_3 → laws_FnExactEstOk.f a0_0 a0_1 a0_2 a0_3 = some true
-- IMPORT YtkijolmifhlfoaaV
open Go.Proofs.Ytkijolmifhlfoaa.V
theorem pure : Pure := by
  unfold Pure
  intro a b c d _ _ _
  simp only [laws_FnExactEstOk.f, laws_toEst.f, laws_toVec.f, spec_EstOk.f, impl_EstOk.f, l13All_eq, isFrom_eq, Option.bind_some]
  cases a <;> simp
end Go.Proofs.Ytkijolmifhlfoaa.UFnExactEstOk
