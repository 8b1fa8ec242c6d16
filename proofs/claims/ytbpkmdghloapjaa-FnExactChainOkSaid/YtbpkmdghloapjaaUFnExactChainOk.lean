/- The plain law behind the row FnExactChainOk: what the law's function computes is true, whatever the arguments. No condition. -/
import Derived.Test.YtbpkmdghloapjaaPChx9
import Derived.Test.YtbpkmdghloapjaaFr
import Derived.Test.YtbpkmdghloapjaaTCh
namespace Go.Proofs.Ytbpkmdghloapjaa.UFnExactChainOk
open Go.RowKit Go.Proofs.YtbpkmdghloapjaaW.PrintWords Go.Proofs.YtbpkmdghloapjaaW.PrintLast Go.Proofs.YtbpkmdghloapjaaW.PrintMore Go.Proofs.YtbpkmdghloapjaaFr Go.Proofs.Ytbpkmdghloapjaa.PCh
set_option linter.unusedVariables false
set_option linter.unusedSimpArgs false
def Pure : Prop := ∀ (l0 : List (S35)), (l0.length ≤ maxLen ∧ ∀ y ∈ l0, (I64 y.f0 ∧ ((I64 y.f1.f0.f0 ∧ I64 y.f1.f0.f1 ∧ I64 y.f1.f0.f2 ∧ I64 y.f1.f0.f3 ∧ I64 y.f1.f0.f4) ∧ I64 y.f1.f1) ∧ ((I64 y.f2.f0.f0 ∧ I64 y.f2.f0.f1 ∧ I64 y.f2.f0.f2 ∧ I64 y.f2.f0.f3 ∧ I64 y.f2.f0.f4) ∧ I64 y.f2.f1) ∧ I64 y.f3 ∧ I64 y.f4 ∧ I64 y.f5 ∧ I64 y.f6)) → ∃ k, laws_FnExactChainOk.f k l0 = some true
-- IMPORT YtbpkmdghloapjaaT@K@
open Go.Proofs.Ytbpkmdghloapjaa.T
theorem pure : Pure := by
  unfold Pure
  rintro l ⟨hl, _⟩
  by_cases hz : l.length ≤ 1048576
  · have hL : (l.map convM).length ≤ 1048577 := by simp; omega
    refine ⟨l.length + 2000, ?_⟩
    unfold laws_FnExactChainOk.f
    rw [szM_small hz, Option.bind_some, if_neg (by omega), toModsF l (by omega) (by omega)]
    simp only [Option.bind_some, specChain _ hL (show (l.map convM).length + 1600 ≤ l.length + 2000 by simp), implChain (l.map convM) (show 100 < l.length + 2000 by omega), eqModsF _ hL (show (l.map convM).length < l.length + 2000 by simp)]
    simp
  · refine ⟨1, ?_⟩
    unfold laws_FnExactChainOk.f
    rw [szM_big hl hz]
    simp
end Go.Proofs.Ytbpkmdghloapjaa.UFnExactChainOk
