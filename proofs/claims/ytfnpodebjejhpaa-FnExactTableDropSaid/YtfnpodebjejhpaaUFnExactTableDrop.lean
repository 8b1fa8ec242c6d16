/- The plain law behind the row FnExactTableDrop: what the law's function computes is true, whatever the arguments. No condition. -/
import Derived.Test.YtfnpodebjejhpaaPTdx10
import Derived.Test.YtfnpodebjejhpaaFr
import Derived.Test.YtfnpodebjejhpaaTTd
namespace Go.Proofs.Ytfnpodebjejhpaa.UFnExactTableDrop
open Go.RowKit Go.Proofs.YtfnpodebjejhpaaW.PrintWords Go.Proofs.YtfnpodebjejhpaaW.PrintLast Go.Proofs.YtfnpodebjejhpaaW.PrintMore Go.Proofs.YtfnpodebjejhpaaFr Go.Proofs.Ytfnpodebjejhpaa.PTd
set_option linter.unusedVariables false
set_option linter.unusedSimpArgs false
def Pure : Prop := ∀ (a0_0 : Int) (l0_1 : List (S94)) (a1_0 : Int) (a1_1 : Int) (a1_2 : Int) (a1_3 : Int) (a1_4 : Int) (a1_5 : Int) (a1_6 : Int) (a1_7 : Int) (a1_8 : Int) (a1_9 : Int) (a1_10 : Int) (a1_11 : Int) (a1_12 : Int) (a1_13 : Int), I64 a0_0 → (l0_1.length ≤ maxLen ∧ ∀ y ∈ l0_1, (True ∧ (I64 y.f1.f0 ∧ ((I64 y.f1.f1.f0.f0 ∧ I64 y.f1.f1.f0.f1 ∧ I64 y.f1.f1.f0.f2 ∧ I64 y.f1.f1.f0.f3 ∧ I64 y.f1.f1.f0.f4) ∧ (I64 y.f1.f1.f1.f0 ∧ I64 y.f1.f1.f1.f1 ∧ I64 y.f1.f1.f1.f2 ∧ I64 y.f1.f1.f1.f3 ∧ I64 y.f1.f1.f1.f4) ∧ I64 y.f1.f1.f2 ∧ I64 y.f1.f1.f3 ∧ I64 y.f1.f1.f4)) ∧ I64 y.f2)) → I64 a1_0 → I64 a1_1 → I64 a1_2 → I64 a1_3 → I64 a1_4 → I64 a1_5 → I64 a1_6 → I64 a1_7 → I64 a1_8 → I64 a1_9 → I64 a1_10 → I64 a1_11 → I64 a1_12 → I64 a1_13 → ∃ k, laws_FnExactTableDrop.f k a0_0 l0_1 a1_0 a1_1 a1_2 a1_3 a1_4 a1_5 a1_6 a1_7 a1_8 a1_9 a1_10 a1_11 a1_12 a1_13 = some true
-- IMPORT YtfnpodebjejhpaaT@K@
open Go.Proofs.Ytfnpodebjejhpaa.T
theorem pure : Pure := by
  unfold Pure
  rintro s l n k a b c d k' a' b' c' d' p sp dp
  intros
  rename_i hl _ _ _ _ _ _ _ _ _ _ _ _ _ _
  by_cases hz : l.length ≤ 1048576
  · obtain ⟨L, hM⟩ : ∃ L, L = l.map conv := ⟨_, rfl⟩
    have h1 : L.length = l.length := by rw [hM]; simp
    have hL : L.length ≤ 1048577 := by omega
    obtain ⟨q, hq⟩ : ∃ q : S33, q = ⟨n, ⟨⟨k, a, b, c, d⟩, ⟨k', a', b', c', d'⟩, p, sp, dp⟩⟩ := ⟨_, rfl⟩
    have hD := dropT_len s L q
    have fs := specDropT s L q hL (show L.length + 6001 < l.length + 7000 by omega)
    have fi := implDropT s L q hL (show L.length + 6001 < l.length + 7000 by omega)
    obtain ⟨Y1, m1⟩ := markTabF s L hL
    obtain ⟨Y2, m2, h2⟩ := markHeldT (dropT s L q).1 (dropT s L q).2.1 (by omega)
    have hE := eqTabF (dropT s L q).1 (dropT s L q).2.1 (by omega) (show (dropT s L q).2.1.length < l.length + 7000 by omega)
    refine ⟨l.length + 7000, ?_⟩
    unfold laws_FnExactTableDrop.f
    rw [sz_small hz, Option.bind_some, if_neg (by omega), toTabF s l (by omega) (by omega), ← hM]
    subst hq
    simp only [Option.bind_some, laws_toFlowKey.f, laws_toKey.f, laws_toAddr.f, fs, fi, eqTabF s _ hL (show L.length < l.length + 7000 by omega), hE, m1, m2, h2, if_true]
    rw [if_neg (by omega), if_neg (by omega), if_neg (by omega)]
  · refine ⟨1, ?_⟩
    unfold laws_FnExactTableDrop.f
    rw [sz_big hl.1 hz]
    simp
end Go.Proofs.Ytfnpodebjejhpaa.UFnExactTableDrop
