/- The plain law behind the row FnExactLower: what the law's function computes is true, whatever the arguments. No condition. -/
import Derived.Test.YtkijolmifhlfoaaPAllx4
import Derived.Test.YtkijolmifhlfoaaFr
import Derived.Test.YtkijolmifhlfoaaV
namespace Go.Proofs.Ytkijolmifhlfoaa.UFnExactLower
open Go.RowKit Go.Proofs.YtkijolmifhlfoaaW.PrintWords Go.Proofs.YtkijolmifhlfoaaW.PrintLast Go.Proofs.YtkijolmifhlfoaaW.PrintMore Go.Proofs.YtkijolmifhlfoaaFr Go.Proofs.Ytkijolmifhlfoaa.PAll
set_option linter.unusedVariables false
set_option linter.unusedSimpArgs false
def Pure : Prop := ∀ (a0_0 : Int) (a0_1 : Int) (a0_2 : Int) (a1 : Int), I64 a0_0 → I64 a0_1 → I64 a0_2 → I64 a1 → laws_FnExactLower.f a0_0 a0_1 a0_2 a1 = some true
-- IMPORT YtkijolmifhlfoaaV
open Go.Proofs.Ytkijolmifhlfoaa.V
theorem pure : Pure := by
  unfold Pure
  intro a b c d _ _ _ _
  simp only [laws_FnExactLower.f, laws_toVec.f, spec_Lower.f, impl_Lower.f, spec_TagOk.f, impl_TagOk.f, l13All_eq, isFrom_eq, within_eq, Option.bind_some]
  cases h : All3 a b c 0 1000000000000 with
  | false => simp [laws_eqVec.f]
  | true =>
    by_cases h1 : d < 0
    · simp [h1, laws_eqVec.f, show ¬ (0 ≤ d ∧ d ≤ 1000000000000) by omega]
    · by_cases h2 : d > 1000000000000
      · simp [h1, h2, laws_eqVec.f, show ¬ (0 ≤ d ∧ d ≤ 1000000000000) by omega]
      · simp [h1, h2, laws_eqVec.f, impl_Vec_each_c52.f, impl_Vec_each.f, show (0 ≤ d ∧ d ≤ 1000000000000) by omega]
end Go.Proofs.Ytkijolmifhlfoaa.UFnExactLower
