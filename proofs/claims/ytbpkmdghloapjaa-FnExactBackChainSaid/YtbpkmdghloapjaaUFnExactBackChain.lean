/- The plain law behind the row FnExactBackChain: what the law's function computes is true, whatever the arguments. No condition. -/
import Derived.Test.YtbpkmdghloapjaaPBcx8
import Derived.Test.YtbpkmdghloapjaaFr
import Derived.Test.YtbpkmdghloapjaaTBc
namespace Go.Proofs.Ytbpkmdghloapjaa.UFnExactBackChain
open Go.RowKit Go.Proofs.YtbpkmdghloapjaaW.PrintWords Go.Proofs.YtbpkmdghloapjaaW.PrintLast Go.Proofs.YtbpkmdghloapjaaW.PrintMore Go.Proofs.YtbpkmdghloapjaaFr Go.Proofs.Ytbpkmdghloapjaa.PBc
set_option linter.unusedVariables false
set_option linter.unusedSimpArgs false
def Pure : Prop := ∀ (l0 : List (S35)), (l0.length ≤ maxLen ∧ ∀ y ∈ l0, (I64 y.f0 ∧ ((I64 y.f1.f0.f0 ∧ I64 y.f1.f0.f1 ∧ I64 y.f1.f0.f2 ∧ I64 y.f1.f0.f3 ∧ I64 y.f1.f0.f4) ∧ I64 y.f1.f1) ∧ ((I64 y.f2.f0.f0 ∧ I64 y.f2.f0.f1 ∧ I64 y.f2.f0.f2 ∧ I64 y.f2.f0.f3 ∧ I64 y.f2.f0.f4) ∧ I64 y.f2.f1) ∧ I64 y.f3 ∧ I64 y.f4 ∧ I64 y.f5 ∧ I64 y.f6)) → ∃ k, laws_FnExactBackChain.f k l0 = some true
-- IMPORT YtbpkmdghloapjaaT@K@
open Go.Proofs.Ytbpkmdghloapjaa.T
theorem pure : Pure := by
  unfold Pure
  rintro l ⟨hl, _⟩
  by_cases hz : l.length ≤ 1048576
  · have hL : (l.map convM).length ≤ 1048576 := by simp; omega
    have hLl : (l.map convM).length = l.length := by simp
    have hB := backF_len (l.map convM)
    obtain ⟨Y1, m1, _⟩ := markHeldM (l.map convM) (by omega)
    obtain ⟨Y2, m2, h2⟩ := markHeldM (backF (l.map convM)) (by omega)
    refine ⟨l.length + 2000, ?_⟩
    unfold laws_FnExactBackChain.f
    rw [szM_small hz, Option.bind_some, if_neg (by omega), toModsF l (by omega) (by omega)]
    simp only [Option.bind_some, specBack _ hL (show (l.map convM).length + 1600 ≤ l.length + 2000 by omega), implBack _ hL (show 100 < l.length + 2000 by omega), eqModsF _ (show (l.map convM).length ≤ 1048577 by omega) (show (l.map convM).length < l.length + 2000 by omega), eqModsF _ (show (backF (l.map convM)).length ≤ 1048577 by omega) (show (backF (l.map convM)).length < l.length + 2000 by omega), m1, m2, h2, if_true]
    rw [if_neg (by omega), if_neg (by omega), if_neg (by omega)]
  · refine ⟨1, ?_⟩
    unfold laws_FnExactBackChain.f
    rw [szM_big hl hz]
    simp
end Go.Proofs.Ytbpkmdghloapjaa.UFnExactBackChain
