/- The plain law behind the row FnExactWheelNext: what the law's function computes is true, whatever the arguments. No condition. -/
import Derived.Test.YtbfbfaoolkbodaaPWxx3
import Derived.Test.YtbfbfaoolkbodaaFr
import Derived.Test.YtbfbfaoolkbodaaTWx
namespace Go.Proofs.Ytbfbfaoolkbodaa.UFnExactWheelNext
open Go.RowKit Go.Proofs.YtbfbfaoolkbodaaW.PrintWords Go.Proofs.YtbfbfaoolkbodaaW.PrintLast Go.Proofs.YtbfbfaoolkbodaaW.PrintMore Go.Proofs.YtbfbfaoolkbodaaFr Go.Proofs.Ytbfbfaoolkbodaa.PWx
set_option linter.unusedVariables false
set_option linter.unusedSimpArgs false
def Pure : Prop := ∀ (a0_0 : Int) (l0_1 : List (S65)), I64 a0_0 → (l0_1.length ≤ maxLen ∧ ∀ y ∈ l0_1, ((y.f0.length ≤ maxLen ∧ ∀ y_ ∈ y.f0, (I64 y_.f0 ∧ I64 y_.f1)))) → ∃ k, laws_FnExactWheelNext.f k a0_0 l0_1 = some true
-- IMPORT YtbfbfaoolkbodaaT@K@
open Go.Proofs.Ytbfbfaoolkbodaa.T
theorem pure : Pure := by
  unfold Pure
  rintro s l hs ⟨hl, hm⟩
  obtain ⟨k, hk⟩ : ∃ k, k = l.length + tot l + 7000 := ⟨_, rfl⟩
  rcases szW s l hl (fun y hy => (hm y hy).1) (show l.length < k by omega) with hz | ⟨t, hz, h0, hl2, ht⟩
  · refine ⟨k, ?_⟩
    unfold laws_FnExactWheelNext.f
    rw [hz]
    simp
  · obtain ⟨L, hL⟩ : ∃ L, L = l.map cP := ⟨_, rfl⟩
    have e1 : L.length = l.length := by rw [hL]; simp
    have e2 : totW L = tot l := by rw [hL]; exact tot_map l
    refine ⟨k, ?_⟩
    unfold laws_FnExactWheelNext.f
    rw [hz, Option.bind_some, if_neg (by omega), toW s l hl2 ht (show l.length + tot l + 2 < k by omega), ← hL]
    simp only [Option.bind_some, specNext s L (by omega) (by omega) (show 6010 ≤ k by omega) (show L.length + totW L < k by omega), implNext s L (by omega) (by omega) (show L.length + totW L < k by omega), eqW s L (by omega) (by omega) (show L.length + totW L + 2 < k by omega), if_true]
end Go.Proofs.Ytbfbfaoolkbodaa.UFnExactWheelNext
