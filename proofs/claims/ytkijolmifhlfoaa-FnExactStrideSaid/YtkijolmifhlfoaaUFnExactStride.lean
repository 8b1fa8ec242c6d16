/- The plain law behind the row FnExactStride: what the law's function computes is true, whatever the arguments. No condition. -/
import Derived.Test.YtkijolmifhlfoaaPAllx2
import Derived.Test.YtkijolmifhlfoaaFr
import Derived.Test.YtkijolmifhlfoaaV
namespace Go.Proofs.Ytkijolmifhlfoaa.UFnExactStride
open Go.RowKit Go.Proofs.YtkijolmifhlfoaaW.PrintWords Go.Proofs.YtkijolmifhlfoaaW.PrintLast Go.Proofs.YtkijolmifhlfoaaW.PrintMore Go.Proofs.YtkijolmifhlfoaaFr Go.Proofs.Ytkijolmifhlfoaa.PAll
set_option linter.unusedVariables false
set_option linter.unusedSimpArgs false
def Pure : Prop := ∀ (a0 : Int), I64 a0 → laws_FnExactStride.f a0 = some true
-- IMPORT YtkijolmifhlfoaaV
open Go.Proofs.Ytkijolmifhlfoaa.V
theorem pure : Pure := by
  unfold Pure
  intro a _
  unfold laws_FnExactStride.f spec_Stride.f impl_Stride.f impl_isWeight.f
  simp only [within_eq, Option.bind_some]
  by_cases h1 : a < 1
  · simp [h1, show ¬ (1 ≤ a) from by omega]
  · by_cases h2 : a > 10
    · simp [h1, h2, show ¬ (a ≤ 10) from by omega]
    · simp [h1, h2, show 1 ≤ a from by omega, show a ≤ 10 from by omega, show ¬ a = 0 from by omega]
end Go.Proofs.Ytkijolmifhlfoaa.UFnExactStride
