/- The plain law behind the row FnExactEstTell: what the law's function computes is true, whatever the arguments. No condition. -/
import Derived.Test.YtiokbmbdhejciaaPAllx6
import Derived.Test.YtiokbmbdhejciaaFr
import Derived.Test.YtiokbmbdhejciaaV
namespace Go.Proofs.Ytiokbmbdhejciaa.UFnExactEstTell
open Go.RowKit Go.Proofs.YtiokbmbdhejciaaW.PrintWords Go.Proofs.YtiokbmbdhejciaaW.PrintLast Go.Proofs.YtiokbmbdhejciaaW.PrintMore Go.Proofs.YtiokbmbdhejciaaFr Go.Proofs.Ytiokbmbdhejciaa.PAll
set_option linter.unusedVariables false
set_option linter.unusedSimpArgs false
def Pure : Prop := ∀ (a0_0 : Bool) (a0_1 : Int) (a0_2 : Int) (a0_3 : Int) (a1_0 : Int) (a1_1 : Int) (a1_2 : Int), I64 a0_1 → I64 a0_2 → I64 a0_3 → I64 a1_0 → I64 a1_1 → I64 a1_2 → ∃ k, laws_FnExactEstTell.f k a0_0 a0_1 a0_2 a0_3 a1_0 a1_1 a1_2 = some true
-- IMPORT YtiokbmbdhejciaaV
open Go.Proofs.Ytiokbmbdhejciaa.V
theorem pure : Pure := by
  unfold Pure
  intro a b c d e f g _ _ _ _ _ _
  refine ⟨10, ?_⟩
  simp only [laws_FnExactEstTell.f, laws_toEst.f, laws_toVec.f, spec_EstTell.f, impl_EstTell.f, spec_EstOk.f, impl_EstOk.f, spec_CostOk.f, impl_CostOk.f, l13All_eq, isFrom_eq, Option.bind_some]
  have key : ∀ o : Bool, (spec_EstTell.j0 10 o a b c d e f g).bind (fun bt331 => (impl_EstTell.j0 10 o a b c d e f g).bind (fun bt342 => (laws_eqVec.f bt342.1 bt342.2.1 bt342.2.2 bt331.1 bt331.2.1 bt331.2.2).bind fun t346 => if t346 = true then some true else none)) = some true := by
    intro o
    cases o <;> cases a <;> simp [laws_eqVec.f, spec_EstTell.j0, impl_EstTell.j0, impl_Vec_each_c62.f, impl_Vec_each.f]
  cases a with
  | false =>
    cases h1 : (b == 0 && (c == 0 && d == 0)) with
    | false => simpa using key true
    | true => simpa using key (!All3 e f g 1 1000)
  | true =>
    cases h1 : All3 b c d 16 16000 with
    | false => simpa [h1] using key true
    | true => simpa [h1] using key (!All3 e f g 1 1000)
end Go.Proofs.Ytiokbmbdhejciaa.UFnExactEstTell
