/- The plain law behind the row FnExactCharge: what the law's function computes is true, whatever the arguments. No condition. -/
import Derived.Test.YtiokbmbdhejciaaPChx3
import Derived.Test.YtiokbmbdhejciaaFr
import Derived.Test.YtiokbmbdhejciaaVCh
namespace Go.Proofs.Ytiokbmbdhejciaa.UFnExactCharge
open Go.RowKit Go.Proofs.YtiokbmbdhejciaaW.PrintWords Go.Proofs.YtiokbmbdhejciaaW.PrintLast Go.Proofs.YtiokbmbdhejciaaW.PrintMore Go.Proofs.YtiokbmbdhejciaaFr Go.Proofs.Ytiokbmbdhejciaa.PCh
set_option linter.unusedVariables false
set_option linter.unusedSimpArgs false
def Pure : Prop := ∀ (a0_0 : Int) (a0_1 : Int) (a0_2 : Int) (a1_0 : Int) (a1_1 : Int) (a1_2 : Int), I64 a0_0 → I64 a0_1 → I64 a0_2 → I64 a1_0 → I64 a1_1 → I64 a1_2 → ∃ k, laws_FnExactCharge.f k a0_0 a0_1 a0_2 a1_0 a1_1 a1_2 = some true
-- IMPORT YtiokbmbdhejciaaV@K@
open Go.Proofs.Ytiokbmbdhejciaa.V
def cl (x : Int) : Int := if x < 1 then 1 else if x > 2000 then 2000 else x
theorem specClip (x : Int) : spec_Clip.f x 1 2000 = some (cl x) := by unfold spec_Clip.f cl; by_cases h1 : x < 1 <;> by_cases h2 : x > 2000 <;> simp [h1, h2]
theorem implClip (x : Int) : impl_Clip.f x 1 2000 = some (cl x) := by unfold impl_Clip.f cl; by_cases h1 : x < 1 <;> by_cases h2 : x > 2000 <;> simp [h1, h2]
theorem pure : Pure := by
  unfold Pure
  intro a b c d e f _ _ _ _ _ _
  refine ⟨10, ?_⟩
  simp only [laws_FnExactCharge.f, laws_toVec.f, spec_Charge.f, impl_Charge.f, spec_CostOk.f, impl_CostOk.f, spec_CarryOk.f, impl_CarryOk.f, l13All_eq, isFrom_eq, Option.bind_some]
  cases h1 : All3 a b c 1 1000 with
  | false => simp [laws_eqVec.f, spec_Charge.j0, impl_Charge.j0]
  | true =>
    cases h2 : All3 d e f (-1000000) 1000000 with
    | false => simp [laws_eqVec.f, spec_Charge.j0, impl_Charge.j0]
    | true =>
      simp only [if_true, spec_Charge.j0, impl_Charge.j0, Bool.not_true, Bool.false_eq_true, if_false, impl_Vec_plus.f, impl_Vec_minus.f, impl_both_c79.f, impl_both_c80.f, impl_Vec_each_c70.f, impl_both.f, impl_Vec_each.f, Option.bind_some, implClip, spec_l13List.f]
      simp [spec_Charge.l0, spec_l13Of.f, rd, w1, w2, w3, specClip, laws_eqVec.f, Int.add_comm d a, Int.add_comm e b, Int.add_comm f c]
end Go.Proofs.Ytiokbmbdhejciaa.UFnExactCharge
