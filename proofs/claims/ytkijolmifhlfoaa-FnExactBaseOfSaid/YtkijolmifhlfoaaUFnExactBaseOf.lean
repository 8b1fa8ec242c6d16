/- The plain law behind the row FnExactBaseOf: what the law's function computes is true, whatever the arguments. No condition. -/
import Derived.Test.YtkijolmifhlfoaaPAllx3
import Derived.Test.YtkijolmifhlfoaaFr
import Derived.Test.YtkijolmifhlfoaaV
namespace Go.Proofs.Ytkijolmifhlfoaa.UFnExactBaseOf
open Go.RowKit Go.Proofs.YtkijolmifhlfoaaW.PrintWords Go.Proofs.YtkijolmifhlfoaaW.PrintLast Go.Proofs.YtkijolmifhlfoaaW.PrintMore Go.Proofs.YtkijolmifhlfoaaFr Go.Proofs.Ytkijolmifhlfoaa.PAll
set_option linter.unusedVariables false
set_option linter.unusedSimpArgs false
def Pure : Prop := ∀ (a0_0 : Int) (a0_1 : Int) (a0_2 : Int) (a1 : Int), I64 a0_0 → I64 a0_1 → I64 a0_2 → I64 a1 → laws_FnExactBaseOf.f a0_0 a0_1 a0_2 a1 = some true
-- IMPORT YtkijolmifhlfoaaV
open Go.Proofs.Ytkijolmifhlfoaa.V
theorem pure : Pure := by
  unfold Pure
  intro a b c d _ _ _ _
  simp only [laws_FnExactBaseOf.f, laws_toVec.f, spec_BaseOf.f, impl_BaseOf.f, spec_TagOk.f, impl_TagOk.f, spec_l13Delta.f, impl_isDelta.f, spec_VecTop.f, impl_VecTop.f, l13All_eq, isFrom_eq, within_eq, Option.bind_some]
  cases h : All3 a b c 0 1000000000000 with
  | false => simp
  | true =>
    by_cases h1 : d ≥ 0
    · by_cases h2 : d ≤ 10000000 <;> simp [h1, h2]
    · simp [h1]
end Go.Proofs.Ytkijolmifhlfoaa.UFnExactBaseOf
