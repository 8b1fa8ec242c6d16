/- What the printed functions on three resources come to: plain lemmas on numbers. No condition. -/
import Derived.Test.YtiokbmbdhejciaaPCrx
import Derived.Test.YtiokbmbdhejciaaFr
namespace Go.Proofs.Ytiokbmbdhejciaa.V
open Go.RowKit Go.Proofs.YtiokbmbdhejciaaW.PrintWords Go.Proofs.YtiokbmbdhejciaaW.PrintLast Go.Proofs.YtiokbmbdhejciaaW.PrintMore Go.Proofs.YtiokbmbdhejciaaFr Go.Proofs.Ytiokbmbdhejciaa.PCr
set_option linter.unusedVariables false
set_option linter.unusedSimpArgs false
/-- All three from lo to hi. -/
def All3 (a b c lo hi : Int) : Bool := decide (lo ≤ a ∧ a ≤ hi ∧ lo ≤ b ∧ b ≤ hi ∧ lo ≤ c ∧ c ≤ hi)
theorem all3 {a b c lo hi : Int} : All3 a b c lo hi = true ↔ lo ≤ a ∧ a ≤ hi ∧ lo ≤ b ∧ b ≤ hi ∧ lo ≤ c ∧ c ≤ hi := by simp [All3]
theorem l13All_eq (a b c lo hi : Int) : spec_l13All.f a b c lo hi = some (All3 a b c lo hi) := by
  unfold spec_l13All.f All3
  by_cases h1 : lo ≤ a <;> by_cases h2 : a ≤ hi <;> by_cases h3 : lo ≤ b <;> by_cases h4 : b ≤ hi <;> by_cases h5 : lo ≤ c <;> simp [*]
theorem within_eq (a lo hi : Int) : impl_within.f a lo hi = some (decide (lo ≤ a ∧ a ≤ hi)) := by
  unfold impl_within.f
  by_cases h1 : lo ≤ a <;> simp [*]
theorem isFrom_eq (a b c lo hi : Int) : impl_Vec_isFrom.f a b c lo hi = some (All3 a b c lo hi) := by
  unfold impl_Vec_isFrom.f All3
  simp only [within_eq, Option.bind_some]
  by_cases h1 : lo ≤ a <;> by_cases h2 : a ≤ hi <;> by_cases h3 : lo ≤ b <;> by_cases h4 : b ≤ hi <;> simp [*]
theorem mx_eq (a b : Int) : mx a b = max a b := by unfold mx; omega
theorem mn_eq (a b : Int) : mn a b = min a b := by unfold mn; omega
theorem wrap_id {x : Int} (h : I64 x) : wrap64 x = x := by unfold I64 at h; unfold wrap64; omega
theorem w1 : wrap64 1 = 1 := wrap_id (by unfold I64; omega)
theorem w2 : wrap64 2 = 2 := wrap_id (by unfold I64; omega)
theorem w3 : wrap64 3 = 3 := wrap_id (by unfold I64; omega)
end Go.Proofs.Ytiokbmbdhejciaa.V
