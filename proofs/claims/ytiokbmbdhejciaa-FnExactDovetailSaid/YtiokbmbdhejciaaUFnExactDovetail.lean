/- The plain law behind the row FnExactDovetail: what the law's function computes is true, whatever the arguments. No condition. -/
import Derived.Test.YtiokbmbdhejciaaPAllx3
import Derived.Test.YtiokbmbdhejciaaFr
import Derived.Test.YtiokbmbdhejciaaV
namespace Go.Proofs.Ytiokbmbdhejciaa.UFnExactDovetail
open Go.RowKit Go.Proofs.YtiokbmbdhejciaaW.PrintWords Go.Proofs.YtiokbmbdhejciaaW.PrintLast Go.Proofs.YtiokbmbdhejciaaW.PrintMore Go.Proofs.YtiokbmbdhejciaaFr Go.Proofs.Ytiokbmbdhejciaa.PAll
set_option linter.unusedVariables false
set_option linter.unusedSimpArgs false
def Pure : Prop := ∀ (a0_0 : Int) (a0_1 : Int) (a0_2 : Int) (a1 : Int), I64 a0_0 → I64 a0_1 → I64 a0_2 → I64 a1 → ∃ k, laws_FnExactDovetail.f k a0_0 a0_1 a0_2 a1 = some true
-- IMPORT YtiokbmbdhejciaaV
open Go.Proofs.Ytiokbmbdhejciaa.V
theorem pure : Pure := by
  unfold Pure
  intro a b c d _ _ _ _
  refine ⟨10, ?_⟩
  simp only [laws_FnExactDovetail.f, laws_toVec.f, spec_Dovetail.f, impl_Dovetail.f, spec_TagOk.f, impl_TagOk.f, l13All_eq, isFrom_eq, impl_isDelta.f, spec_l13Delta.f, within_eq, Option.bind_some]
  cases h : All3 a b c 0 1000000000000 with
  | false => simp [laws_eqVec.f, spec_Dovetail.j0]
  | true =>
    by_cases h1 : d ≥ 0
    · by_cases h2 : d ≤ 10000000
      · simp [h1, h2, laws_eqVec.f, spec_Dovetail.j0, spec_Dovetail.l0, spec_l13List.f, spec_l13Of.f, spec_VecTop.f, impl_VecTop.f, impl_Vec_each_c52.f, impl_Vec_each.f, rd, w1, w2, w3]
      · simp [h1, h2, laws_eqVec.f, spec_Dovetail.j0]
    · simp [h1, laws_eqVec.f, spec_Dovetail.j0]
end Go.Proofs.Ytiokbmbdhejciaa.UFnExactDovetail
