/- The plain law behind the row FnExactHeapPlace: what the law's function computes is true, whatever the arguments. No condition. -/
import Derived.Test.YtjpmhbjbgooheaaPOkx3
import Derived.Test.YtjpmhbjbgooheaaFr
import Derived.Test.YtjpmhbjbgooheaaHOk
namespace Go.Proofs.Ytjpmhbjbgooheaa.UFnExactHeapPlace
open Go.RowKit Go.Proofs.YtjpmhbjbgooheaaW.PrintWords Go.Proofs.YtjpmhbjbgooheaaW.PrintLast Go.Proofs.YtjpmhbjbgooheaaW.PrintMore Go.Proofs.YtjpmhbjbgooheaaFr Go.Proofs.Ytjpmhbjbgooheaa.POk
set_option linter.unusedVariables false
set_option linter.unusedSimpArgs false
def Pure : Prop := ∀ (l0_0 : List (S23)) (a1 : Int), (l0_0.length ≤ maxLen ∧ ∀ y ∈ l0_0, (I64 y.f0 ∧ I64 y.f1)) → I64 a1 → ∃ k, laws_FnExactHeapPlace.f k l0_0 a1 = some true
-- IMPORT YtjpmhbjbgooheaaH@K@
open Go.Proofs.Ytjpmhbjbgooheaa.H
theorem pure : Pure := by
  unfold Pure
  rintro l a ⟨hl, _⟩ _
  by_cases hs : l.length ≤ 1048576
  · have hL : (l.map conv).length ≤ 1048577 := by simp; omega
    refine ⟨4 * l.length + 10, ?_⟩
    unfold laws_FnExactHeapPlace.f spec_HeapPlace.f impl_HeapPlace.f
    rw [sz_small hs, Option.bind_some, if_neg (by omega), toHeapF l (by omega) (by omega)]
    simp only [Option.bind_some, specOkF _ hL (show 3 * (l.map conv).length + 3 < 4 * l.length + 10 by simp; omega), implOkF _ hL (show (l.map conv).length < 4 * l.length + 10 by simp; omega), eqHeapF _ hL (show (l.map conv).length < 4 * l.length + 10 by simp; omega), atF _ a hL (show (l.map conv).length < 4 * l.length + 10 by simp; omega), placeF]
    cases hok (l.map conv) <;> simp
  · refine ⟨1, ?_⟩
    unfold laws_FnExactHeapPlace.f
    rw [sz_big hl hs]
    simp
end Go.Proofs.Ytjpmhbjbgooheaa.UFnExactHeapPlace
