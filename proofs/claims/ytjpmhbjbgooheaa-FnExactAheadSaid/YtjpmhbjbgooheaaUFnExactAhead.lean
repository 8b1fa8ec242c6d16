/- The plain law behind the row FnExactAhead: what the law's function computes is true, whatever the arguments. No condition. -/
import Derived.Test.YtjpmhbjbgooheaaPAllx1
import Derived.Test.YtjpmhbjbgooheaaFr
namespace Go.Proofs.Ytjpmhbjbgooheaa.UFnExactAhead
open Go.RowKit Go.Proofs.YtjpmhbjbgooheaaW.PrintWords Go.Proofs.YtjpmhbjbgooheaaW.PrintLast Go.Proofs.YtjpmhbjbgooheaaW.PrintMore Go.Proofs.YtjpmhbjbgooheaaFr Go.Proofs.Ytjpmhbjbgooheaa.PAll
set_option linter.unusedVariables false
set_option linter.unusedSimpArgs false
def Pure : Prop := ∀ (a0_0 : Int) (a0_1 : Int) (a1_0 : Int) (a1_1 : Int), I64 a0_0 → I64 a0_1 → I64 a1_0 → I64 a1_1 → laws_FnExactAhead.f a0_0 a0_1 a1_0 a1_1 = some true
theorem pure : Pure := by
  unfold Pure
  intro a b c d _ _ _ _
  simp only [laws_FnExactAhead.f, laws_toItem.f, spec_Ahead.f, impl_Ahead.f, Option.bind_some]
  by_cases h1 : a < c
  · simp [h1]
  · by_cases h2 : a = c <;> simp [h1, h2]
end Go.Proofs.Ytjpmhbjbgooheaa.UFnExactAhead
