/- The plain law behind the row FnExactHeapOk: what the law's function computes is true, whatever the arguments. No condition. -/
import Derived.Test.YtjpmhbjbgooheaaPOkx3
import Derived.Test.YtjpmhbjbgooheaaFr
import Derived.Test.YtjpmhbjbgooheaaHOk
namespace Go.Proofs.Ytjpmhbjbgooheaa.UFnExactHeapOk
open Go.RowKit Go.Proofs.YtjpmhbjbgooheaaW.PrintWords Go.Proofs.YtjpmhbjbgooheaaW.PrintLast Go.Proofs.YtjpmhbjbgooheaaW.PrintMore Go.Proofs.YtjpmhbjbgooheaaFr Go.Proofs.Ytjpmhbjbgooheaa.POk
set_option linter.unusedVariables false
set_option linter.unusedSimpArgs false
def Pure : Prop := ∀ (l0_0 : List (S23)), (l0_0.length ≤ maxLen ∧ ∀ y ∈ l0_0, (I64 y.f0 ∧ I64 y.f1)) → ∃ k, laws_FnExactHeapOk.f k l0_0 = some true
-- IMPORT YtjpmhbjbgooheaaH@K@
open Go.Proofs.Ytjpmhbjbgooheaa.H
theorem pure : Pure := by
  unfold Pure
  rintro l ⟨hl, _⟩
  by_cases hs : l.length ≤ 1048576
  · have hL : (l.map conv).length ≤ 1048577 := by simp; omega
    refine ⟨4 * l.length + 10, ?_⟩
    unfold laws_FnExactHeapOk.f
    rw [sz_small hs, Option.bind_some, if_neg (by omega), toHeapF l (by omega) (by omega)]
    simp only [Option.bind_some, specOkF _ hL (show 3 * (l.map conv).length + 3 < 4 * l.length + 10 by simp; omega), implOkF _ hL (show (l.map conv).length < 4 * l.length + 10 by simp; omega), eqHeapF _ hL (show (l.map conv).length < 4 * l.length + 10 by simp; omega)]
    simp
  · refine ⟨1, ?_⟩
    unfold laws_FnExactHeapOk.f
    rw [sz_big hl hs]
    simp
end Go.Proofs.Ytjpmhbjbgooheaa.UFnExactHeapOk
