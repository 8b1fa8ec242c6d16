/- The plain law behind the row FnExactTableFind: what the law's function computes is true, whatever the arguments. No condition. -/
import Derived.Test.YtfnpodebjejhpaaPTfx8
import Derived.Test.YtfnpodebjejhpaaFr
import Derived.Test.YtfnpodebjejhpaaTTf
namespace Go.Proofs.Ytfnpodebjejhpaa.UFnExactTableFind
open Go.RowKit Go.Proofs.YtfnpodebjejhpaaW.PrintWords Go.Proofs.YtfnpodebjejhpaaW.PrintLast Go.Proofs.YtfnpodebjejhpaaW.PrintMore Go.Proofs.YtfnpodebjejhpaaFr Go.Proofs.Ytfnpodebjejhpaa.PTf
set_option linter.unusedVariables false
set_option linter.unusedSimpArgs false
def Pure : Prop := ∀ (a0_0 : Int) (l0_1 : List (S94)) (a1_0 : Int) (a1_1 : Int) (a1_2 : Int) (a1_3 : Int) (a1_4 : Int) (a1_5 : Int) (a1_6 : Int) (a1_7 : Int) (a1_8 : Int) (a1_9 : Int) (a1_10 : Int) (a1_11 : Int) (a1_12 : Int) (a1_13 : Int), I64 a0_0 → (l0_1.length ≤ maxLen ∧ ∀ y ∈ l0_1, (True ∧ (I64 y.f1.f0 ∧ ((I64 y.f1.f1.f0.f0 ∧ I64 y.f1.f1.f0.f1 ∧ I64 y.f1.f1.f0.f2 ∧ I64 y.f1.f1.f0.f3 ∧ I64 y.f1.f1.f0.f4) ∧ (I64 y.f1.f1.f1.f0 ∧ I64 y.f1.f1.f1.f1 ∧ I64 y.f1.f1.f1.f2 ∧ I64 y.f1.f1.f1.f3 ∧ I64 y.f1.f1.f1.f4) ∧ I64 y.f1.f1.f2 ∧ I64 y.f1.f1.f3 ∧ I64 y.f1.f1.f4)) ∧ I64 y.f2)) → I64 a1_0 → I64 a1_1 → I64 a1_2 → I64 a1_3 → I64 a1_4 → I64 a1_5 → I64 a1_6 → I64 a1_7 → I64 a1_8 → I64 a1_9 → I64 a1_10 → I64 a1_11 → I64 a1_12 → I64 a1_13 → ∃ k, laws_FnExactTableFind.f k a0_0 l0_1 a1_0 a1_1 a1_2 a1_3 a1_4 a1_5 a1_6 a1_7 a1_8 a1_9 a1_10 a1_11 a1_12 a1_13 = some true
-- IMPORT YtfnpodebjejhpaaT@K@
open Go.Proofs.Ytfnpodebjejhpaa.T
theorem pure : Pure := by
  unfold Pure
  rintro s l n k a b c d k' a' b' c' d' p sp dp
  intros
  rename_i hl _ _ _ _ _ _ _ _ _ _ _ _ _ _
  by_cases hz : l.length ≤ 1048576
  · have hL : (l.map conv).length ≤ 1048577 := by simp; omega
    have h1 : (l.map conv).length = l.length := by simp
    generalize hM : l.map conv = L at hL h1
    obtain ⟨q, hq⟩ : ∃ q : S33, q = ⟨n, ⟨⟨k, a, b, c, d⟩, ⟨k', a', b', c', d'⟩, p, sp, dp⟩⟩ := ⟨_, rfl⟩
    have hfk : flowKeyOk n k a b c d k' a' b' c' d' p sp dp = fko q := by rw [hq]; rfl
    have fs : spec_TableFind.f (l.length + 7000) s L n k a b c d k' a' b' c' d' p sp dp = some (if (tabOk s L && fko q) = true then findF L q else (0, false)) := by
      unfold spec_TableFind.f
      have hj : spec_TableFind.j0 (l.length + 7000) true s L n k a b c d k' a' b' c' d' p sp dp = some (0, false) := by
        rw [show l.length + 7000 = (l.length + 6999) + 1 from rfl]
        simp only [spec_TableFind.j0]
        rw [if_pos trivial]
      rw [specTab s L hL (by omega), Option.bind_some, specFlowKey, Option.bind_some, hfk]
      cases hT : tabOk s L with
      | false => rw [if_neg (by decide), hj]; rfl
      | true =>
        rw [if_pos rfl]
        cases hf : fko q with
        | false => rw [show (!false) = true from rfl, hj]; rfl
        | true =>
          have hp : spec_l11Place.f (l.length + 6999) s L n k a b c d k' a' b' c' d' p sp dp = some (placeF L q L.length 0) := by
            have := specPlace L s q hL (k := l.length + 6999) (by omega)
            rw [hq] at this
            rw [hq]
            exact this
          rw [show l.length + 7000 = (l.length + 6999) + 1 from rfl]
          simp only [spec_TableFind.j0]
          rw [if_neg (by decide), hp, Option.bind_some]
          exact findS L q
    have fi : impl_TableFind.f (l.length + 7000) s L n k a b c d k' a' b' c' d' p sp dp = some (if (tabOk s L && fko q) = true then findF L q else (0, false)) := by
      unfold impl_TableFind.f
      rw [implTab s L hL (by omega), Option.bind_some, implFlowKey _ _ _ _ _ _ _ _ _ _ _ _ _ _ (by omega), Option.bind_some, hfk]
      cases hT : tabOk s L with
      | false => rw [if_neg (by decide)]; rfl
      | true =>
        rw [if_pos rfl]
        cases hf : fko q with
        | false => rw [if_neg (by decide)]; rfl
        | true =>
          obtain ⟨t1, t2, t3⟩ := tabOk_facts hT
          have hp : impl_Table_probe.f (l.length + 7000) s L n k a b c d k' a' b' c' d' p sp dp = some (probeF L q (hm s L q) L.length 0) := by
            have := implProbe L q t1 t2 hL (k := l.length + 7000) (by omega) (by omega)
            rw [hq] at this
            rw [hq]
            exact this
          rw [if_pos rfl]
          unfold impl_Table_find.f
          rw [hp, Option.bind_some, findI t2 t3 q]
          rfl
    refine ⟨l.length + 7000, ?_⟩
    unfold laws_FnExactTableFind.f
    rw [sz_small hz, Option.bind_some, if_neg (by omega), toTabF s l (by omega) (by omega), hM]
    simp only [Option.bind_some, laws_toFlowKey.f, laws_toKey.f, laws_toAddr.f, fs, fi, eqTabF s _ hL (show L.length < l.length + 7000 by omega)]
    simp
  · refine ⟨1, ?_⟩
    unfold laws_FnExactTableFind.f
    rw [sz_big hl.1 hz]
    simp
end Go.Proofs.Ytfnpodebjejhpaa.UFnExactTableFind
