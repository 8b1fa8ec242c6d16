/- The plain law behind the row FnExactFinish: what the law's function computes is true, whatever the arguments. No condition. -/
import Derived.Test.YtiokbmbdhejciaaPFix2
import Derived.Test.YtiokbmbdhejciaaFr
import Derived.Test.YtiokbmbdhejciaaVFi
namespace Go.Proofs.Ytiokbmbdhejciaa.UFnExactFinish
open Go.RowKit Go.Proofs.YtiokbmbdhejciaaW.PrintWords Go.Proofs.YtiokbmbdhejciaaW.PrintLast Go.Proofs.YtiokbmbdhejciaaW.PrintMore Go.Proofs.YtiokbmbdhejciaaFr Go.Proofs.Ytiokbmbdhejciaa.PFi
set_option linter.unusedVariables false
set_option linter.unusedSimpArgs false
def Pure : Prop := ∀ (a0_0 : Int) (a0_1 : Int) (a0_2 : Int) (a1_0 : Int) (a1_1 : Int) (a1_2 : Int) (a2 : Int), I64 a0_0 → I64 a0_1 → I64 a0_2 → I64 a1_0 → I64 a1_1 → I64 a1_2 → I64 a2 → ∃ k, laws_FnExactFinish.f k a0_0 a0_1 a0_2 a1_0 a1_1 a1_2 a2 = some true
-- IMPORT YtiokbmbdhejciaaV@K@
open Go.Proofs.Ytiokbmbdhejciaa.V
theorem pure : Pure := by
  unfold Pure
  intro a b c d e f s _ _ _ _ _ _ _
  refine ⟨10, ?_⟩
  simp only [laws_FnExactFinish.f, laws_toVec.f, spec_Finish.f, impl_Finish.f, spec_TagOk.f, impl_TagOk.f, spec_ChargeOk.f, impl_ChargeOk.f, impl_isWeight.f, within_eq, l13All_eq, isFrom_eq, Option.bind_some]
  cases h1 : All3 a b c 0 1000000000000 with
  | false => simp [laws_eqVec.f, spec_Finish.j0, impl_Finish.j0]
  | true =>
    cases h2 : All3 d e f 1 2000 with
    | false => simp [laws_eqVec.f, spec_Finish.j0, impl_Finish.j0]
    | true =>
      by_cases h3 : s < 1
      · simp [laws_eqVec.f, spec_Finish.j0, impl_Finish.j0, spec_Stride.f, h3, show ¬ (1 ≤ s ∧ s ≤ 10) by omega]
      · by_cases h4 : s > 10
        · simp [laws_eqVec.f, spec_Finish.j0, impl_Finish.j0, spec_Stride.f, h3, h4, show ¬ (1 ≤ s ∧ s ≤ 10) by omega]
        · have h5 : 1 ≤ s ∧ s ≤ 10 := by omega
          have h6 : s ≠ 0 := by omega
          have h7 : spec_Stride.f s = some (wrap64 (2520 / s)) := by simp [spec_Stride.f, h3, h4, h6]
          have h8 : impl_Stride.f s = some (wrap64 (2520 / s)) := by simp [impl_Stride.f, impl_isWeight.f, within_eq, h5, h6]
          have h9 : (wrap64 (2520 / s) == 0) = false := by
            have : s = 1 ∨ s = 2 ∨ s = 3 ∨ s = 4 ∨ s = 5 ∨ s = 6 ∨ s = 7 ∨ s = 8 ∨ s = 9 ∨ s = 10 := by omega
            rcases this with h | h | h | h | h | h | h | h | h | h <;> subst h <;> simp [wrap64]
          simp only [if_true, h7, Option.bind_some, h9, h5, and_self, decide_true, Bool.not_true, spec_Finish.j0, impl_Finish.j0, Bool.false_eq_true, if_false, impl_both_c67.f, impl_both.f, h8, spec_TagOk.f, impl_TagOk.f, l13All_eq, isFrom_eq, spec_l13List.f]
          simp [spec_Finish.l0, h7, spec_l13Of.f, rd, w1, w2, w3, spec_TagOk.f, l13All_eq]
          split <;> simp [laws_eqVec.f]
end Go.Proofs.Ytiokbmbdhejciaa.UFnExactFinish
