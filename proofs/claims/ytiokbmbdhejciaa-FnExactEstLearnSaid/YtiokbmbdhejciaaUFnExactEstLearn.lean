/- The plain law behind the row FnExactEstLearn: what the law's function computes is true, whatever the arguments. No condition. -/
import Derived.Test.YtiokbmbdhejciaaPElx3
import Derived.Test.YtiokbmbdhejciaaFr
import Derived.Test.YtiokbmbdhejciaaVEl
namespace Go.Proofs.Ytiokbmbdhejciaa.UFnExactEstLearn
open Go.RowKit Go.Proofs.YtiokbmbdhejciaaW.PrintWords Go.Proofs.YtiokbmbdhejciaaW.PrintLast Go.Proofs.YtiokbmbdhejciaaW.PrintMore Go.Proofs.YtiokbmbdhejciaaFr Go.Proofs.Ytiokbmbdhejciaa.PEl
set_option linter.unusedVariables false
set_option linter.unusedSimpArgs false
def Pure : Prop := ∀ (a0_0 : Bool) (a0_1 : Int) (a0_2 : Int) (a0_3 : Int) (a1_0 : Int) (a1_1 : Int) (a1_2 : Int), I64 a0_1 → I64 a0_2 → I64 a0_3 → I64 a1_0 → I64 a1_1 → I64 a1_2 → ∃ k, laws_FnExactEstLearn.f k a0_0 a0_1 a0_2 a0_3 a1_0 a1_1 a1_2 = some true
-- IMPORT YtiokbmbdhejciaaV@K@
open Go.Proofs.Ytiokbmbdhejciaa.V
theorem pure : Pure := by
  unfold Pure
  intro a b c d e f g _ _ _ _ _ _
  refine ⟨10, ?_⟩
  simp only [laws_FnExactEstLearn.f, laws_toEst.f, laws_toVec.f, spec_EstLearn.f, impl_EstLearn.f, spec_EstOk.f, impl_EstOk.f, spec_CostOk.f, impl_CostOk.f, l13All_eq, isFrom_eq, Option.bind_some]
  have key : ∀ o : Bool, (spec_EstLearn.j0 10 o a b c d e f g).bind (fun bt534 => (impl_EstLearn.j0 10 o a b c d e f g).bind (fun bt546 => (laws_eqEst.f bt546.1 bt546.2.1 bt546.2.2.1 bt546.2.2.2 bt534.1 bt534.2.1 bt534.2.2.1 bt534.2.2.2).bind fun t551 => if t551 = true then some true else none)) = some true := by
    intro o
    cases o
    · cases a
      · simp [laws_eqEst.f, laws_eqVec.f, spec_EstLearn.j0, impl_EstLearn.j0, impl_Vec_each_c72.f, impl_Vec_each.f, spec_EstLearn.l0, spec_l13List.f, spec_l13Of.f, rd, w1, w2, w3]
      · simp [laws_eqEst.f, laws_eqVec.f, spec_EstLearn.j0, impl_EstLearn.j0, impl_both_c73.f, impl_both.f, spec_EstLearn.l0, spec_l13List.f, spec_l13Of.f, rd, w1, w2, w3]
    · simp [laws_eqEst.f, laws_eqVec.f, spec_EstLearn.j0, impl_EstLearn.j0]
  cases a with
  | false =>
    cases h1 : (b == 0 && (c == 0 && d == 0)) with
    | false => simpa using key true
    | true => simpa using key (!All3 e f g 1 1000)
  | true =>
    cases h1 : All3 b c d 16 16000 with
    | false => simpa [h1] using key true
    | true => simpa [h1] using key (!All3 e f g 1 1000)
end Go.Proofs.Ytiokbmbdhejciaa.UFnExactEstLearn
