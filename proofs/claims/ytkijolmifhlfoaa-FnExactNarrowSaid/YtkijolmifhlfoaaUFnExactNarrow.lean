/- The plain law behind the row FnExactNarrow: what the law's function computes is true, whatever the arguments. No condition. -/
import Derived.Test.YtkijolmifhlfoaaPAllx3
import Derived.Test.YtkijolmifhlfoaaFr
import Derived.Test.YtkijolmifhlfoaaV
namespace Go.Proofs.Ytkijolmifhlfoaa.UFnExactNarrow
open Go.RowKit Go.Proofs.YtkijolmifhlfoaaW.PrintWords Go.Proofs.YtkijolmifhlfoaaW.PrintLast Go.Proofs.YtkijolmifhlfoaaW.PrintMore Go.Proofs.YtkijolmifhlfoaaFr Go.Proofs.Ytkijolmifhlfoaa.PAll
set_option linter.unusedVariables false
set_option linter.unusedSimpArgs false
def Pure : Prop := ∀ (a0_0 : Int) (a0_1 : Int) (a0_2 : Int) (a1 : Int), I64 a0_0 → I64 a0_1 → I64 a0_2 → I64 a1 → laws_FnExactNarrow.f a0_0 a0_1 a0_2 a1 = some true
-- IMPORT YtkijolmifhlfoaaV
open Go.Proofs.Ytkijolmifhlfoaa.V
theorem pure : Pure := by
  unfold Pure
  intro a b c d _ _ _ _
  simp only [laws_FnExactNarrow.f, laws_toVec.f, spec_Narrow.f, impl_Narrow.f, spec_TagOk.f, impl_TagOk.f, spec_l13Delta.f, impl_isDelta.f, spec_VecTop.f, impl_VecTop.f, l13All_eq, isFrom_eq, within_eq, Option.bind_some]
  cases h : All3 a b c 0 1000000000000 with
  | false => simp
  | true =>
    rw [all3] at h
    by_cases h1 : d ≥ 0
    · by_cases h2 : d ≤ 10000000
      · have hm : wrap64 (max (max a b) c - d) = max (max a b) c - d := by unfold wrap64; omega
        have e : All3 a b c (max (max a b) c - d) 1000000000000 = decide (min (min a b) c ≥ max (max a b) c - d) := by
          rw [Bool.eq_iff_iff, all3]
          simp only [decide_eq_true_eq]
          omega
        simp only [mx_eq, mn_eq, hm, h1, show (0 ≤ d) = True from eq_true h1, h2, e, if_true, and_self, decide_true, Option.bind_some, bne_self_eq_false, Bool.false_eq_true, if_false]
      · simp [h1, h2]
    · simp [h1]
end Go.Proofs.Ytkijolmifhlfoaa.UFnExactNarrow
