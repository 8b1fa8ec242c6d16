/- The plain law behind the row FnExactVecMost: what the law's function computes is true, whatever the arguments. No condition. -/
import Derived.Test.YtkijolmifhlfoaaPAllx3
import Derived.Test.YtkijolmifhlfoaaFr
namespace Go.Proofs.Ytkijolmifhlfoaa.UFnExactVecMost
open Go.RowKit Go.Proofs.YtkijolmifhlfoaaW.PrintWords Go.Proofs.YtkijolmifhlfoaaW.PrintLast Go.Proofs.YtkijolmifhlfoaaW.PrintMore Go.Proofs.YtkijolmifhlfoaaFr Go.Proofs.Ytkijolmifhlfoaa.PAll
set_option linter.unusedVariables false
set_option linter.unusedSimpArgs false
def Pure : Prop := ∀ (a0_0 : Int) (a0_1 : Int) (a0_2 : Int) (a1_0 : Int) (a1_1 : Int) (a1_2 : Int), I64 a0_0 → I64 a0_1 → I64 a0_2 → I64 a1_0 → I64 a1_1 → I64 a1_2 → laws_FnExactVecMost.f a0_0 a0_1 a0_2 a1_0 a1_1 a1_2 = some true
theorem pure : Pure := by
  unfold Pure
  intro a b c d e f _ _ _ _ _ _
  simp [laws_FnExactVecMost.f, laws_toVec.f, spec_VecMost.f, impl_VecMost.f, impl_both_c47.f, impl_both.f, laws_eqVec.f]
end Go.Proofs.Ytkijolmifhlfoaa.UFnExactVecMost
