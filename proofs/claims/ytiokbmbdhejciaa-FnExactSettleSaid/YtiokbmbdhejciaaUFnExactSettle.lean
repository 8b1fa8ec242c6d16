/- The plain law behind the row FnExactSettle: what the law's function computes is true, whatever the arguments. No condition. -/
import Derived.Test.YtiokbmbdhejciaaPSex3
import Derived.Test.YtiokbmbdhejciaaFr
import Derived.Test.YtiokbmbdhejciaaVSe
namespace Go.Proofs.Ytiokbmbdhejciaa.UFnExactSettle
open Go.RowKit Go.Proofs.YtiokbmbdhejciaaW.PrintWords Go.Proofs.YtiokbmbdhejciaaW.PrintLast Go.Proofs.YtiokbmbdhejciaaW.PrintMore Go.Proofs.YtiokbmbdhejciaaFr Go.Proofs.Ytiokbmbdhejciaa.PSe
set_option linter.unusedVariables false
set_option linter.unusedSimpArgs false
def Pure : Prop := ∀ (a0_0 : Int) (a0_1 : Int) (a0_2 : Int) (a1_0 : Int) (a1_1 : Int) (a1_2 : Int) (a2_0 : Int) (a2_1 : Int) (a2_2 : Int), I64 a0_0 → I64 a0_1 → I64 a0_2 → I64 a1_0 → I64 a1_1 → I64 a1_2 → I64 a2_0 → I64 a2_1 → I64 a2_2 → ∃ k, laws_FnExactSettle.f k a0_0 a0_1 a0_2 a1_0 a1_1 a1_2 a2_0 a2_1 a2_2 = some true
-- IMPORT YtiokbmbdhejciaaV@K@
open Go.Proofs.Ytiokbmbdhejciaa.V
theorem pure : Pure := by
  unfold Pure
  intro a b c d e f g h i _ _ _ _ _ _ _ _ _
  refine ⟨10, ?_⟩
  simp only [laws_FnExactSettle.f, laws_toVec.f, spec_Settle.f, impl_Settle.f, spec_CarryOk.f, impl_CarryOk.f, spec_CostOk.f, impl_CostOk.f, l13All_eq, isFrom_eq, Option.bind_some]
  cases h1 : All3 a b c (-1000000) 1000000 with
  | false => simp [laws_eqVec.f, spec_Settle.j0, impl_Settle.j0]
  | true =>
    cases h2 : All3 d e f 1 1000 with
    | false => simp [laws_eqVec.f, spec_Settle.j0, impl_Settle.j0]
    | true =>
      cases h3 : All3 g h i 1 1000 with
      | false => simp [laws_eqVec.f, spec_Settle.j0, impl_Settle.j0]
      | true =>
        simp only [if_true, spec_Settle.j0, impl_Settle.j0, Bool.not_true, Bool.false_eq_true, if_false, impl_Vec_plus.f, impl_Vec_minus.f, impl_both_c79.f, impl_both_c80.f, impl_both.f, Option.bind_some, spec_CarryOk.f, impl_CarryOk.f, l13All_eq, isFrom_eq]
        split <;> simp [laws_eqVec.f]
end Go.Proofs.Ytiokbmbdhejciaa.UFnExactSettle
