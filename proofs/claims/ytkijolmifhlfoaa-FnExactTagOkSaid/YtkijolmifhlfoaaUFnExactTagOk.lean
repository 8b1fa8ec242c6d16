/- The plain law behind the row FnExactTagOk: what the law's function computes is true, whatever the arguments. No condition. -/
import Derived.Test.YtkijolmifhlfoaaPAllx2
import Derived.Test.YtkijolmifhlfoaaFr
import Derived.Test.YtkijolmifhlfoaaV
namespace Go.Proofs.Ytkijolmifhlfoaa.UFnExactTagOk
open Go.RowKit Go.Proofs.YtkijolmifhlfoaaW.PrintWords Go.Proofs.YtkijolmifhlfoaaW.PrintLast Go.Proofs.YtkijolmifhlfoaaW.PrintMore Go.Proofs.YtkijolmifhlfoaaFr Go.Proofs.Ytkijolmifhlfoaa.PAll
set_option linter.unusedVariables false
set_option linter.unusedSimpArgs false
def Pure : Prop := ∀ (a0_0 : Int) (a0_1 : Int) (a0_2 : Int), I64 a0_0 → I64 a0_1 → I64 a0_2 → laws_FnExactTagOk.f a0_0 a0_1 a0_2 = some true
-- IMPORT YtkijolmifhlfoaaV
open Go.Proofs.Ytkijolmifhlfoaa.V
theorem pure : Pure := by
  unfold Pure
  intro a b c _ _ _
  simp [laws_FnExactTagOk.f, laws_toVec.f, spec_TagOk.f, impl_TagOk.f, l13All_eq, isFrom_eq]
end Go.Proofs.Ytkijolmifhlfoaa.UFnExactTagOk
