/- The plain law behind the row FnExactRuleAdd: what the law's function computes is true, whatever the arguments. No condition. -/
import Derived.Test.YtbihbbkdciebhaaPRax8
import Derived.Test.YtbihbbkdciebhaaFr
import Derived.Test.YtbihbbkdciebhaaTRa
namespace Go.Proofs.Ytbihbbkdciebhaa.UFnExactRuleAdd
open Go.RowKit Go.Proofs.YtbihbbkdciebhaaW.PrintWords Go.Proofs.YtbihbbkdciebhaaW.PrintLast Go.Proofs.YtbihbbkdciebhaaW.PrintMore Go.Proofs.YtbihbbkdciebhaaFr Go.Proofs.Ytbihbbkdciebhaa.PRa
set_option linter.unusedVariables false
set_option linter.unusedSimpArgs false
def Pure : Prop := ∀ (l0 : List (S50)) (a1_0 : Int) (a1_1 : Int) (a1_2 : Int) (a1_3 : Int) (a1_4 : Int) (a1_5 : Int) (a1_6 : Int) (a1_7 : Int) (a1_8 : Int) (a1_9 : Int) (a1_10 : Int) (a1_11 : Int) (a1_12 : Int) (a1_13 : Int) (a1_14 : Int) (a1_15 : Int) (a1_16 : Int) (a1_17 : Int) (a1_18 : Int) (a1_19 : Int) (a1_20 : Int), (l0.length ≤ maxLen ∧ ∀ y ∈ l0, (I64 y.f0 ∧ ((I64 y.f1.f0.f0 ∧ I64 y.f1.f0.f1 ∧ I64 y.f1.f0.f2 ∧ I64 y.f1.f0.f3 ∧ I64 y.f1.f0.f4) ∧ I64 y.f1.f1) ∧ ((I64 y.f2.f0.f0 ∧ I64 y.f2.f0.f1 ∧ I64 y.f2.f0.f2 ∧ I64 y.f2.f0.f3 ∧ I64 y.f2.f0.f4) ∧ I64 y.f2.f1) ∧ I64 y.f3 ∧ I64 y.f4 ∧ I64 y.f5 ∧ I64 y.f6 ∧ I64 y.f7 ∧ I64 y.f8 ∧ I64 y.f9 ∧ I64 y.f10)) → I64 a1_0 → I64 a1_1 → I64 a1_2 → I64 a1_3 → I64 a1_4 → I64 a1_5 → I64 a1_6 → I64 a1_7 → I64 a1_8 → I64 a1_9 → I64 a1_10 → I64 a1_11 → I64 a1_12 → I64 a1_13 → I64 a1_14 → I64 a1_15 → I64 a1_16 → I64 a1_17 → I64 a1_18 → I64 a1_19 → I64 a1_20 → ∃ k, laws_FnExactRuleAdd.f k l0 a1_0 a1_1 a1_2 a1_3 a1_4 a1_5 a1_6 a1_7 a1_8 a1_9 a1_10 a1_11 a1_12 a1_13 a1_14 a1_15 a1_16 a1_17 a1_18 a1_19 a1_20 = some true
-- IMPORT YtbihbbkdciebhaaT@K@
open Go.Proofs.Ytbihbbkdciebhaa.T
theorem pure : Pure := by
  unfold Pure
  intro l a0 a1 a2 a3 a4 a5 a6 a7 a8 a9 a10 a11 a12 a13 a14 a15 a16 a17 a18 a19 a20 hyp
  intros
  obtain ⟨hl, _⟩ := hyp
  obtain ⟨y, hy⟩ : ∃ y : S55, y = ⟨a0, ⟨⟨a1, a2, a3, a4, a5⟩, a6⟩, ⟨⟨a7, a8, a9, a10, a11⟩, a12⟩, a13, a14, a15, a16, a17, a18, a19, a20⟩ := ⟨_, rfl⟩
  by_cases hz : l.length ≤ 1048576
  · have hL : (l.map convR).length ≤ 1048577 := by simp; omega
    have hLl : (l.map convR).length = l.length := by simp
    have hD := addR_len (l.map convR) y
    have hD2 := addR_small (l.map convR) y
    obtain ⟨Y1, m1, _⟩ := markHeldR (l.map convR) hL
    obtain ⟨Y2, m2, h2⟩ := markHeldR (addR (l.map convR) y).1 (by omega)
    refine ⟨2 * l.length + 4000, ?_⟩
    have hs := specAdd (l.map convR) hL y (show 2 * (l.map convR).length + 1600 ≤ 2 * l.length + 4000 by omega)
    have hi := implAdd (l.map convR) hL y (show 2 * (l.map convR).length + 1600 ≤ 2 * l.length + 4000 by omega)
    have hE := eqRulesF (addR (l.map convR) y).1 (by omega) (show (addR (l.map convR) y).1.length < 2 * l.length + 4000 by omega)
    unfold laws_FnExactRuleAdd.f
    rw [szR_small hz, Option.bind_some, if_neg (by omega), toRulesF l (by omega) (by omega)]
    subst hy
    simp only [Option.bind_some, laws_toRule.f, laws_toPrefix.f, laws_toAddr.f, hs, hi, eqRulesF _ hL (show (l.map convR).length < 2 * l.length + 4000 by omega), hE, m1, m2, h2, if_true]
    rw [if_neg (by omega), if_neg (by omega), if_neg (by omega)]
  · refine ⟨1, ?_⟩
    unfold laws_FnExactRuleAdd.f
    rw [szR_big hl hz]
    simp
end Go.Proofs.Ytbihbbkdciebhaa.UFnExactRuleAdd
