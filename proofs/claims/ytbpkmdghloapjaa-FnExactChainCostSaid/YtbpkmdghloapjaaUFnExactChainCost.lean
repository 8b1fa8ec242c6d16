/- The plain law behind the row FnExactChainCost: what the law's function computes is true, whatever the arguments. No condition. -/
import Derived.Test.YtbpkmdghloapjaaPCcx9
import Derived.Test.YtbpkmdghloapjaaFr
import Derived.Test.YtbpkmdghloapjaaTCc
namespace Go.Proofs.Ytbpkmdghloapjaa.UFnExactChainCost
open Go.RowKit Go.Proofs.YtbpkmdghloapjaaW.PrintWords Go.Proofs.YtbpkmdghloapjaaW.PrintLast Go.Proofs.YtbpkmdghloapjaaW.PrintMore Go.Proofs.YtbpkmdghloapjaaFr Go.Proofs.Ytbpkmdghloapjaa.PCc
set_option linter.unusedVariables false
set_option linter.unusedSimpArgs false
def Pure : Prop := ∀ (l0 : List (S81)) (l1 : List (S35)) (a2 : Int), (l0.length ≤ maxLen ∧ ∀ y ∈ l0, ((I64 y.f0.f0 ∧ I64 y.f0.f1 ∧ I64 y.f0.f2) ∧ (I64 y.f1.f0 ∧ I64 y.f1.f1 ∧ I64 y.f1.f2))) → (l1.length ≤ maxLen ∧ ∀ y ∈ l1, (I64 y.f0 ∧ ((I64 y.f1.f0.f0 ∧ I64 y.f1.f0.f1 ∧ I64 y.f1.f0.f2 ∧ I64 y.f1.f0.f3 ∧ I64 y.f1.f0.f4) ∧ I64 y.f1.f1) ∧ ((I64 y.f2.f0.f0 ∧ I64 y.f2.f0.f1 ∧ I64 y.f2.f0.f2 ∧ I64 y.f2.f0.f3 ∧ I64 y.f2.f0.f4) ∧ I64 y.f2.f1) ∧ I64 y.f3 ∧ I64 y.f4 ∧ I64 y.f5 ∧ I64 y.f6)) → I64 a2 → ∃ k, laws_FnExactChainCost.f k l0 l1 a2 = some true
-- IMPORT YtbpkmdghloapjaaT@K@
open Go.Proofs.Ytbpkmdghloapjaa.T
theorem pure : Pure := by
  unfold Pure
  intro p l s hp hl hs
  obtain ⟨hp, _⟩ := hp
  obtain ⟨hl, _⟩ := hl
  by_cases hz : p.length ≤ 1048576
  · by_cases hy : (l.length : Int) ≤ 1048576 - (p.length : Int)
    · have hL : (l.map convM).length ≤ 1048577 := by simp; omega
      have hP : (p.map convP).length ≤ 1048577 := by simp; omega
      refine ⟨p.length + l.length + 2000, ?_⟩
      unfold laws_FnExactChainCost.f
      rw [szP_small hz, Option.bind_some, if_neg (by omega), szM2_small (by omega) hy, Option.bind_some, if_neg (by omega), toProfsF p (by omega) (by omega), toModsF l (by omega) (by omega)]
      simp only [Option.bind_some, specCC _ _ s hL (show (l.map convM).length + 1700 ≤ p.length + l.length + 2000 by simp; omega), implCC _ _ s hL (show (l.map convM).length + 1700 ≤ p.length + l.length + 2000 by simp; omega), eqModsF _ hL (show (l.map convM).length < p.length + l.length + 2000 by simp; omega), eqProfsF _ hP (show (p.map convP).length < p.length + l.length + 2000 by simp; omega)]
      simp [laws_eqVec.f]
    · refine ⟨1, ?_⟩
      unfold laws_FnExactChainCost.f
      rw [szP_small hz, Option.bind_some, if_neg (by omega), szM2_big (by omega) hl hy]
      simp
  · refine ⟨1, ?_⟩
    unfold laws_FnExactChainCost.f
    rw [szP_big hp hz]
    simp
end Go.Proofs.Ytbpkmdghloapjaa.UFnExactChainCost
