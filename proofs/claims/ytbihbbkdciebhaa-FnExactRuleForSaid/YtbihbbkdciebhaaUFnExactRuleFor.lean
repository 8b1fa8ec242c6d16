/- The plain law behind the row FnExactRuleFor: what the law's function computes is true, whatever the arguments. No condition. -/
import Derived.Test.YtbihbbkdciebhaaPRfx8
import Derived.Test.YtbihbbkdciebhaaFr
import Derived.Test.YtbihbbkdciebhaaTRf
namespace Go.Proofs.Ytbihbbkdciebhaa.UFnExactRuleFor
open Go.RowKit Go.Proofs.YtbihbbkdciebhaaW.PrintWords Go.Proofs.YtbihbbkdciebhaaW.PrintLast Go.Proofs.YtbihbbkdciebhaaW.PrintMore Go.Proofs.YtbihbbkdciebhaaFr Go.Proofs.Ytbihbbkdciebhaa.PRf
set_option linter.unusedVariables false
set_option linter.unusedSimpArgs false
def Pure : Prop := ∀ (l0 : List (S50)) (a1_0 : Int) (a1_1 : Int) (a1_2 : Int) (a1_3 : Int) (a1_4 : Int) (a1_5 : Int) (a1_6 : Int) (a1_7 : Int) (a1_8 : Int) (a1_9 : Int) (a1_10 : Int) (a1_11 : Int) (a1_12 : Int), (l0.length ≤ maxLen ∧ ∀ y ∈ l0, (I64 y.f0 ∧ ((I64 y.f1.f0.f0 ∧ I64 y.f1.f0.f1 ∧ I64 y.f1.f0.f2 ∧ I64 y.f1.f0.f3 ∧ I64 y.f1.f0.f4) ∧ I64 y.f1.f1) ∧ ((I64 y.f2.f0.f0 ∧ I64 y.f2.f0.f1 ∧ I64 y.f2.f0.f2 ∧ I64 y.f2.f0.f3 ∧ I64 y.f2.f0.f4) ∧ I64 y.f2.f1) ∧ I64 y.f3 ∧ I64 y.f4 ∧ I64 y.f5 ∧ I64 y.f6 ∧ I64 y.f7 ∧ I64 y.f8 ∧ I64 y.f9 ∧ I64 y.f10)) → I64 a1_0 → I64 a1_1 → I64 a1_2 → I64 a1_3 → I64 a1_4 → I64 a1_5 → I64 a1_6 → I64 a1_7 → I64 a1_8 → I64 a1_9 → I64 a1_10 → I64 a1_11 → I64 a1_12 → ∃ k, laws_FnExactRuleFor.f k l0 a1_0 a1_1 a1_2 a1_3 a1_4 a1_5 a1_6 a1_7 a1_8 a1_9 a1_10 a1_11 a1_12 = some true
-- IMPORT YtbihbbkdciebhaaT@K@
open Go.Proofs.Ytbihbbkdciebhaa.T
theorem pure : Pure := by
  unfold Pure
  intro l k a b c d k' a' b' c' d' p s t hyp
  intros
  obtain ⟨hl, _⟩ := hyp
  by_cases hz : l.length ≤ 1048576
  · have hL : (l.map convR).length ≤ 1048577 := by simp; omega
    refine ⟨l.length + 2000, ?_⟩
    unfold laws_FnExactRuleFor.f
    rw [szR_small hz, Option.bind_some, if_neg (by omega), toRulesF l (by omega) (by omega)]
    simp only [Option.bind_some, laws_toKey.f, laws_toAddr.f, specFor _ hL _ _ _ _ _ _ _ _ _ _ _ _ _ (show (l.map convR).length + 1500 ≤ l.length + 2000 by simp), implFor _ hL _ _ _ _ _ _ _ _ _ _ _ _ _ (show (l.map convR).length + 100 ≤ l.length + 2000 by simp), eqRulesF _ hL (show (l.map convR).length < l.length + 2000 by simp)]
    simp
  · refine ⟨1, ?_⟩
    unfold laws_FnExactRuleFor.f
    rw [szR_big hl hz]
    simp
end Go.Proofs.Ytbihbbkdciebhaa.UFnExactRuleFor
