/- The plain law behind the row FnExactTableUsed: what the law's function computes is true, whatever the arguments. No condition. -/
import Derived.Test.YtfnpodebjejhpaaPTux7
import Derived.Test.YtfnpodebjejhpaaFr
import Derived.Test.YtfnpodebjejhpaaTTu
namespace Go.Proofs.Ytfnpodebjejhpaa.UFnExactTableUsed
open Go.RowKit Go.Proofs.YtfnpodebjejhpaaW.PrintWords Go.Proofs.YtfnpodebjejhpaaW.PrintLast Go.Proofs.YtfnpodebjejhpaaW.PrintMore Go.Proofs.YtfnpodebjejhpaaFr Go.Proofs.Ytfnpodebjejhpaa.PTu
set_option linter.unusedVariables false
set_option linter.unusedSimpArgs false
def Pure : Prop := ∀ (a0_0 : Int) (l0_1 : List (S94)), I64 a0_0 → (l0_1.length ≤ maxLen ∧ ∀ y ∈ l0_1, (True ∧ (I64 y.f1.f0 ∧ ((I64 y.f1.f1.f0.f0 ∧ I64 y.f1.f1.f0.f1 ∧ I64 y.f1.f1.f0.f2 ∧ I64 y.f1.f1.f0.f3 ∧ I64 y.f1.f1.f0.f4) ∧ (I64 y.f1.f1.f1.f0 ∧ I64 y.f1.f1.f1.f1 ∧ I64 y.f1.f1.f1.f2 ∧ I64 y.f1.f1.f1.f3 ∧ I64 y.f1.f1.f1.f4) ∧ I64 y.f1.f1.f2 ∧ I64 y.f1.f1.f3 ∧ I64 y.f1.f1.f4)) ∧ I64 y.f2)) → ∃ k, laws_FnExactTableUsed.f k a0_0 l0_1 = some true
-- IMPORT YtfnpodebjejhpaaT@K@
open Go.Proofs.Ytfnpodebjejhpaa.T
theorem pure : Pure := by
  unfold Pure
  rintro s l hs ⟨hl, _⟩
  by_cases hz : l.length ≤ 1048576
  · have hL : (l.map conv).length ≤ 1048577 := by simp; omega
    have h1 : (l.map conv).length < l.length + 7000 := by simp
    refine ⟨l.length + 7000, ?_⟩
    unfold laws_FnExactTableUsed.f spec_TableUsed.f impl_TableUsed.f
    rw [sz_small hz, Option.bind_some, if_neg (by omega), toTabF s l (by omega) (by omega)]
    simp only [Option.bind_some, specTab s _ hL (show (l.map conv).length + 6000 < l.length + 7000 by simp), implTab s _ hL (show (l.map conv).length + 500 < l.length + 7000 by simp), eqTabF s _ hL h1, specCnt _ s hL h1, implCnt _ s hL h1]
    cases tabOk s (l.map conv) <;> simp
  · refine ⟨1, ?_⟩
    unfold laws_FnExactTableUsed.f
    rw [sz_big hl hz]
    simp
end Go.Proofs.Ytfnpodebjejhpaa.UFnExactTableUsed
