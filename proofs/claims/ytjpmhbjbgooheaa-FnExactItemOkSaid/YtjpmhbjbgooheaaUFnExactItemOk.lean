/- The plain law behind the row FnExactItemOk: what the law's function computes is true, whatever the arguments. No condition. -/
import Derived.Test.YtjpmhbjbgooheaaPAllx1
import Derived.Test.YtjpmhbjbgooheaaFr
namespace Go.Proofs.Ytjpmhbjbgooheaa.UFnExactItemOk
open Go.RowKit Go.Proofs.YtjpmhbjbgooheaaW.PrintWords Go.Proofs.YtjpmhbjbgooheaaW.PrintLast Go.Proofs.YtjpmhbjbgooheaaW.PrintMore Go.Proofs.YtjpmhbjbgooheaaFr Go.Proofs.Ytjpmhbjbgooheaa.PAll
set_option linter.unusedVariables false
set_option linter.unusedSimpArgs false
def Pure : Prop := ∀ (a0_0 : Int) (a0_1 : Int), I64 a0_0 → I64 a0_1 → laws_FnExactItemOk.f a0_0 a0_1 = some true
theorem pure : Pure := by
  unfold Pure
  intro a b _ _
  simp only [laws_FnExactItemOk.f, laws_toItem.f, spec_ItemOk.f, impl_ItemOk.f, impl_within.f, Option.bind_some]
  by_cases h1 : a ≥ 0 <;> by_cases h2 : a ≤ 1000000000000 <;> by_cases h3 : b ≥ 0 <;> simp [h1, h2, h3]
end Go.Proofs.Ytjpmhbjbgooheaa.UFnExactItemOk
