/- The plain law behind the row FnExactTableGrow: what the law's function computes is true, whatever the arguments. No condition. -/
import Derived.Test.YtfnpodebjejhpaaPTgx8
import Derived.Test.YtfnpodebjejhpaaFr
import Derived.Test.YtfnpodebjejhpaaTTg
namespace Go.Proofs.Ytfnpodebjejhpaa.UFnExactTableGrow
open Go.RowKit Go.Proofs.YtfnpodebjejhpaaW.PrintWords Go.Proofs.YtfnpodebjejhpaaW.PrintLast Go.Proofs.YtfnpodebjejhpaaW.PrintMore Go.Proofs.YtfnpodebjejhpaaFr Go.Proofs.Ytfnpodebjejhpaa.PTg
set_option linter.unusedVariables false
set_option linter.unusedSimpArgs false
def Pure : Prop := ∀ (a0_0 : Int) (l0_1 : List (S94)), I64 a0_0 → (l0_1.length ≤ maxLen ∧ ∀ y ∈ l0_1, (True ∧ (I64 y.f1.f0 ∧ ((I64 y.f1.f1.f0.f0 ∧ I64 y.f1.f1.f0.f1 ∧ I64 y.f1.f1.f0.f2 ∧ I64 y.f1.f1.f0.f3 ∧ I64 y.f1.f1.f0.f4) ∧ (I64 y.f1.f1.f1.f0 ∧ I64 y.f1.f1.f1.f1 ∧ I64 y.f1.f1.f1.f2 ∧ I64 y.f1.f1.f1.f3 ∧ I64 y.f1.f1.f1.f4) ∧ I64 y.f1.f1.f2 ∧ I64 y.f1.f1.f3 ∧ I64 y.f1.f1.f4)) ∧ I64 y.f2)) → ∃ k, laws_FnExactTableGrow.f k a0_0 l0_1 = some true
-- IMPORT YtfnpodebjejhpaaT@K@
open Go.Proofs.Ytfnpodebjejhpaa.T
theorem pure : Pure := by
  unfold Pure
  rintro s l hs ⟨hl, _⟩
  by_cases hz : l.length ≤ 1048576
  · have hL : (l.map conv).length ≤ 1048577 := by simp; omega
    have hLl : (l.map conv).length = l.length := by simp
    have hD := growT_len s (l.map conv)
    obtain ⟨Y1, m1⟩ := markTabF s (l.map conv) hL
    obtain ⟨Y2, m2, h2⟩ := markHeldT (growT s (l.map conv)).1 (growT s (l.map conv)).2.1 (by omega)
    refine ⟨2 * l.length + 7000, ?_⟩
    unfold laws_FnExactTableGrow.f
    rw [sz_small hz, Option.bind_some, if_neg (by omega), toTabF s l (by omega) (by omega)]
    simp only [Option.bind_some, specGrow s _ hL (show (l.map conv).length + 6000 < 2 * l.length + 7000 by omega), implGrow s _ hL (show (l.map conv).length + 6000 < 2 * l.length + 7000 by omega), eqTabF s _ hL (show (l.map conv).length < 2 * l.length + 7000 by omega), eqTabF (growT s (l.map conv)).1 (growT s (l.map conv)).2.1 (by omega) (show (growT s (l.map conv)).2.1.length < 2 * l.length + 7000 by omega), m1, m2, h2, if_true]
    rw [if_neg (by omega), if_neg (by omega), if_neg (by omega)]
  · refine ⟨1, ?_⟩
    unfold laws_FnExactTableGrow.f
    rw [sz_big hl hz]
    simp
end Go.Proofs.Ytfnpodebjejhpaa.UFnExactTableGrow
