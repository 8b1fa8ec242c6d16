/- The plain law behind the row FnExactRulesOk: what the law's function computes is true, whatever the arguments. No condition. -/
import Derived.Test.YtbihbbkdciebhaaPRox7
import Derived.Test.YtbihbbkdciebhaaFr
import Derived.Test.YtbihbbkdciebhaaTRo
namespace Go.Proofs.Ytbihbbkdciebhaa.UFnExactRulesOk
open Go.RowKit Go.Proofs.YtbihbbkdciebhaaW.PrintWords Go.Proofs.YtbihbbkdciebhaaW.PrintLast Go.Proofs.YtbihbbkdciebhaaW.PrintMore Go.Proofs.YtbihbbkdciebhaaFr Go.Proofs.Ytbihbbkdciebhaa.PRo
set_option linter.unusedVariables false
set_option linter.unusedSimpArgs false
def Pure : Prop := ∀ (l0 : List (S50)), (l0.length ≤ maxLen ∧ ∀ y ∈ l0, (I64 y.f0 ∧ ((I64 y.f1.f0.f0 ∧ I64 y.f1.f0.f1 ∧ I64 y.f1.f0.f2 ∧ I64 y.f1.f0.f3 ∧ I64 y.f1.f0.f4) ∧ I64 y.f1.f1) ∧ ((I64 y.f2.f0.f0 ∧ I64 y.f2.f0.f1 ∧ I64 y.f2.f0.f2 ∧ I64 y.f2.f0.f3 ∧ I64 y.f2.f0.f4) ∧ I64 y.f2.f1) ∧ I64 y.f3 ∧ I64 y.f4 ∧ I64 y.f5 ∧ I64 y.f6 ∧ I64 y.f7 ∧ I64 y.f8 ∧ I64 y.f9 ∧ I64 y.f10)) → ∃ k, laws_FnExactRulesOk.f k l0 = some true
-- IMPORT YtbihbbkdciebhaaT@K@
open Go.Proofs.Ytbihbbkdciebhaa.T
theorem pure : Pure := by
  unfold Pure
  rintro l ⟨hl, _⟩
  by_cases hz : l.length ≤ 1048576
  · have hL : (l.map convR).length ≤ 1048577 := by simp; omega
    refine ⟨l.length + 2000, ?_⟩
    unfold laws_FnExactRulesOk.f
    rw [szR_small hz, Option.bind_some, if_neg (by omega), toRulesF l (by omega) (by omega)]
    simp only [Option.bind_some, specRules _ hL (show (l.map convR).length + 1500 ≤ l.length + 2000 by simp), implRules _ hL (show (l.map convR).length + 100 ≤ l.length + 2000 by simp), eqRulesF _ hL (show (l.map convR).length < l.length + 2000 by simp)]
    simp
  · refine ⟨1, ?_⟩
    unfold laws_FnExactRulesOk.f
    rw [szR_big hl hz]
    simp
end Go.Proofs.Ytbihbbkdciebhaa.UFnExactRulesOk
