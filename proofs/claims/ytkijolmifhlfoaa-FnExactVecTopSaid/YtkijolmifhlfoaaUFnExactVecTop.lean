/- The plain law behind the row FnExactVecTop: what the law's function computes is true, whatever the arguments. No condition. -/
import Derived.Test.YtkijolmifhlfoaaPAllx2
import Derived.Test.YtkijolmifhlfoaaFr
namespace Go.Proofs.Ytkijolmifhlfoaa.UFnExactVecTop
open Go.RowKit Go.Proofs.YtkijolmifhlfoaaW.PrintWords Go.Proofs.YtkijolmifhlfoaaW.PrintLast Go.Proofs.YtkijolmifhlfoaaW.PrintMore Go.Proofs.YtkijolmifhlfoaaFr Go.Proofs.Ytkijolmifhlfoaa.PAll
set_option linter.unusedVariables false
set_option linter.unusedSimpArgs false
def Pure : Prop := ∀ (a0_0 : Int) (a0_1 : Int) (a0_2 : Int), I64 a0_0 → I64 a0_1 → I64 a0_2 → laws_FnExactVecTop.f a0_0 a0_1 a0_2 = some true
theorem pure : Pure := by
  unfold Pure
  intros
  simp only [laws_FnExactVecTop.f, laws_toVec.f, spec_VecTop.f, impl_VecTop.f, Option.bind_some]
  repeat' split
  all_goals first | rfl | (simp_all; done) | (simp_all; omega) | (exfalso; omega)
end Go.Proofs.Ytkijolmifhlfoaa.UFnExactVecTop
