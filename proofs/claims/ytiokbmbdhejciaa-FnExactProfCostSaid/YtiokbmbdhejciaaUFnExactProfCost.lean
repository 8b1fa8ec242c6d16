/- The plain law behind the row FnExactProfCost: what the law's function computes is true, whatever the arguments. No condition. -/
import Derived.Test.YtiokbmbdhejciaaPAllx2
import Derived.Test.YtiokbmbdhejciaaFr
import Derived.Test.YtiokbmbdhejciaaV
namespace Go.Proofs.Ytiokbmbdhejciaa.UFnExactProfCost
open Go.RowKit Go.Proofs.YtiokbmbdhejciaaW.PrintWords Go.Proofs.YtiokbmbdhejciaaW.PrintLast Go.Proofs.YtiokbmbdhejciaaW.PrintMore Go.Proofs.YtiokbmbdhejciaaFr Go.Proofs.Ytiokbmbdhejciaa.PAll
set_option linter.unusedVariables false
set_option linter.unusedSimpArgs false
def Pure : Prop := ∀ (a0_0 : Int) (a0_1 : Int) (a0_2 : Int) (a0_3 : Int) (a0_4 : Int) (a0_5 : Int) (a1 : Int), I64 a0_0 → I64 a0_1 → I64 a0_2 → I64 a0_3 → I64 a0_4 → I64 a0_5 → I64 a1 → laws_FnExactProfCost.f a0_0 a0_1 a0_2 a0_3 a0_4 a0_5 a1 = some true
-- IMPORT YtiokbmbdhejciaaV
open Go.Proofs.Ytiokbmbdhejciaa.V
theorem pure : Pure := by
  unfold Pure
  intro a b c d e f s _ _ _ _ _ _ _
  simp only [laws_FnExactProfCost.f, laws_toProf.f, laws_toVec.f, spec_ProfCost.f, impl_ProfCost.f, spec_ProfOk.f, impl_ProfOk.f, l13All_eq, isFrom_eq, impl_isSize.f, within_eq, Option.bind_some]
  cases h : All3 a b c 0 1000 with
  | false => simp [laws_eqVec.f]
  | true =>
    cases h' : All3 d e f 0 1000 with
    | false => simp [laws_eqVec.f]
    | true =>
      by_cases h1 : s < 0
      · simp [h1, laws_eqVec.f, show ¬ (0 ≤ s ∧ s ≤ 1600) by omega]
      · by_cases h2 : s > 1600
        · simp [h1, h2, laws_eqVec.f, show ¬ (0 ≤ s ∧ s ≤ 1600) by omega]
        · simp [h1, h2, laws_eqVec.f, impl_both_c43.f, impl_both.f, show (0 ≤ s ∧ s ≤ 1600) by omega]
end Go.Proofs.Ytiokbmbdhejciaa.UFnExactProfCost
