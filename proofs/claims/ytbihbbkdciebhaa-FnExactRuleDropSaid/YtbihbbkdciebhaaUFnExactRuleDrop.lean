/- The plain law behind the row FnExactRuleDrop: what the law's function computes is true, whatever the arguments. No condition. -/
import Derived.Test.YtbihbbkdciebhaaPRdx7
import Derived.Test.YtbihbbkdciebhaaFr
import Derived.Test.YtbihbbkdciebhaaTRd
namespace Go.Proofs.Ytbihbbkdciebhaa.UFnExactRuleDrop
open Go.RowKit Go.Proofs.YtbihbbkdciebhaaW.PrintWords Go.Proofs.YtbihbbkdciebhaaW.PrintLast Go.Proofs.YtbihbbkdciebhaaW.PrintMore Go.Proofs.YtbihbbkdciebhaaFr Go.Proofs.Ytbihbbkdciebhaa.PRd
set_option linter.unusedVariables false
set_option linter.unusedSimpArgs false
def Pure : Prop := ∀ (l0 : List (S50)) (a1 : Int), (l0.length ≤ maxLen ∧ ∀ y ∈ l0, (I64 y.f0 ∧ ((I64 y.f1.f0.f0 ∧ I64 y.f1.f0.f1 ∧ I64 y.f1.f0.f2 ∧ I64 y.f1.f0.f3 ∧ I64 y.f1.f0.f4) ∧ I64 y.f1.f1) ∧ ((I64 y.f2.f0.f0 ∧ I64 y.f2.f0.f1 ∧ I64 y.f2.f0.f2 ∧ I64 y.f2.f0.f3 ∧ I64 y.f2.f0.f4) ∧ I64 y.f2.f1) ∧ I64 y.f3 ∧ I64 y.f4 ∧ I64 y.f5 ∧ I64 y.f6 ∧ I64 y.f7 ∧ I64 y.f8 ∧ I64 y.f9 ∧ I64 y.f10)) → I64 a1 → ∃ k, laws_FnExactRuleDrop.f k l0 a1 = some true
-- IMPORT YtbihbbkdciebhaaT@K@
open Go.Proofs.Ytbihbbkdciebhaa.T
theorem pure : Pure := by
  unfold Pure
  intro l p hyp hp
  obtain ⟨hl, _⟩ := hyp
  by_cases hz : l.length ≤ 1048576
  · have hL : (l.map convR).length ≤ 1048577 := by simp; omega
    have hLl : (l.map convR).length = l.length := by simp
    have hD := dropR_len (l.map convR) p
    obtain ⟨Y1, m1, _⟩ := markHeldR (l.map convR) hL
    obtain ⟨Y2, m2, h2⟩ := markHeldR (dropR (l.map convR) p).1 (by omega)
    refine ⟨l.length + 4000, ?_⟩
    unfold laws_FnExactRuleDrop.f
    rw [szR_small hz, Option.bind_some, if_neg (by omega), toRulesF l (by omega) (by omega)]
    simp only [Option.bind_some, specDrop _ hL p (show (l.map convR).length + 1500 ≤ l.length + 4000 by omega), implDrop _ hL p (show (l.map convR).length + 1500 ≤ l.length + 4000 by omega), eqRulesF _ hL (show (l.map convR).length < l.length + 4000 by omega), eqRulesF _ (show (dropR (l.map convR) p).1.length ≤ 1048577 by omega) (show (dropR (l.map convR) p).1.length < l.length + 4000 by omega), m1, m2, h2, if_true]
    rw [if_neg (by omega), if_neg (by omega), if_neg (by omega)]
  · refine ⟨1, ?_⟩
    unfold laws_FnExactRuleDrop.f
    rw [szR_big hl hz]
    simp
end Go.Proofs.Ytbihbbkdciebhaa.UFnExactRuleDrop
