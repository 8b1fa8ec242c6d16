/- The plain law behind the row FnExactProfOk: what the law's function computes is true, whatever the arguments. No condition. -/
import Derived.Test.YtkijolmifhlfoaaPAllx2
import Derived.Test.YtkijolmifhlfoaaFr
import Derived.Test.YtkijolmifhlfoaaV
namespace Go.Proofs.Ytkijolmifhlfoaa.UFnExactProfOk
open Go.RowKit Go.Proofs.YtkijolmifhlfoaaW.PrintWords Go.Proofs.YtkijolmifhlfoaaW.PrintLast Go.Proofs.YtkijolmifhlfoaaW.PrintMore Go.Proofs.YtkijolmifhlfoaaFr Go.Proofs.Ytkijolmifhlfoaa.PAll
set_option linter.unusedVariables false
set_option linter.unusedSimpArgs false
def Pure : Prop := ∀ (a0_0 : Int) (a0_1 : Int) (a0_2 : Int) (a0_3 : Int) (a0_4 : Int) (a0_5 : Int), I64 a0_0 → I64 a0_1 → I64 a0_2 → I64 a0_3 → I64 a0_4 → I64 a0_5 → laws_FnExactProfOk.f a0_0 a0_1 a0_2 a0_3 a0_4 a0_5 = some true
-- IMPORT YtkijolmifhlfoaaV
open Go.Proofs.Ytkijolmifhlfoaa.V
theorem pure : Pure := by
  unfold Pure
  intro a b c d e f _ _ _ _ _ _
  simp only [laws_FnExactProfOk.f, laws_toProf.f, laws_toVec.f, spec_ProfOk.f, impl_ProfOk.f, l13All_eq, isFrom_eq, Option.bind_some]
  cases All3 a b c 0 1000 <;> simp
end Go.Proofs.Ytkijolmifhlfoaa.UFnExactProfOk
