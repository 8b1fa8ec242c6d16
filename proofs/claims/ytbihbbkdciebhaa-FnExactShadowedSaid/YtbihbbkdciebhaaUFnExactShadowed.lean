/- The plain law behind the row FnExactShadowed: what the law's function computes is true, whatever the arguments. No condition. -/
import Derived.Test.YtbihbbkdciebhaaPShx8
import Derived.Test.YtbihbbkdciebhaaFr
import Derived.Test.YtbihbbkdciebhaaTSh
namespace Go.Proofs.Ytbihbbkdciebhaa.UFnExactShadowed
open Go.RowKit Go.Proofs.YtbihbbkdciebhaaW.PrintWords Go.Proofs.YtbihbbkdciebhaaW.PrintLast Go.Proofs.YtbihbbkdciebhaaW.PrintMore Go.Proofs.YtbihbbkdciebhaaFr Go.Proofs.Ytbihbbkdciebhaa.PSh
set_option linter.unusedVariables false
set_option linter.unusedSimpArgs false
def Pure : Prop := ∀ (l0 : List (S50)), (l0.length ≤ maxLen ∧ ∀ y ∈ l0, (I64 y.f0 ∧ ((I64 y.f1.f0.f0 ∧ I64 y.f1.f0.f1 ∧ I64 y.f1.f0.f2 ∧ I64 y.f1.f0.f3 ∧ I64 y.f1.f0.f4) ∧ I64 y.f1.f1) ∧ ((I64 y.f2.f0.f0 ∧ I64 y.f2.f0.f1 ∧ I64 y.f2.f0.f2 ∧ I64 y.f2.f0.f3 ∧ I64 y.f2.f0.f4) ∧ I64 y.f2.f1) ∧ I64 y.f3 ∧ I64 y.f4 ∧ I64 y.f5 ∧ I64 y.f6 ∧ I64 y.f7 ∧ I64 y.f8 ∧ I64 y.f9 ∧ I64 y.f10)) → ∃ k, laws_FnExactShadowed.f k l0 = some true
-- IMPORT YtbihbbkdciebhaaT@K@
open Go.Proofs.Ytbihbbkdciebhaa.T
theorem pure : Pure := by
  unfold Pure
  rintro l ⟨hl, _⟩
  by_cases hz : l.length ≤ 1048576
  · have hL : (l.map convR).length ≤ 1048577 := by simp; omega
    have h32 := shadF_len (l.map convR)
    refine ⟨l.length + 4000, ?_⟩
    unfold laws_FnExactShadowed.f
    rw [szR_small hz, Option.bind_some, if_neg (by omega), toRulesF l (by omega) (by omega)]
    simp only [Option.bind_some, specSh _ hL (show (l.map convR).length + 3000 ≤ l.length + 4000 by simp), implSh _ hL (show (l.map convR).length + 3000 ≤ l.length + 4000 by simp), eqRulesF _ hL (show (l.map convR).length < l.length + 4000 by simp), eqIntsF _ (show (shadF (l.map convR)).length ≤ 1048577 by omega) (show (shadF (l.map convR)).length < l.length + 4000 by omega), if_true]
    unfold laws_markRuleS.f
    rw [Option.bind_some, if_neg (by
      rw [stepN_nn 21 _ (by omega) (by simp; omega)]
      omega)]
    simp only [markIntsF _ (show (shadF (l.map convR)).length ≤ 1048577 by omega) (show (shadF (l.map convR)).length < l.length + 4000 by omega), Option.bind_some, heldIntsF _ (show (shadF (l.map convR)).length ≤ 1048577 by omega) (show (shadF (l.map convR)).length < l.length + 4000 by omega), if_true]
    rw [if_neg (by omega), if_neg (by omega)]
  · refine ⟨1, ?_⟩
    unfold laws_FnExactShadowed.f
    rw [szR_big hl hz]
    simp
end Go.Proofs.Ytbihbbkdciebhaa.UFnExactShadowed
