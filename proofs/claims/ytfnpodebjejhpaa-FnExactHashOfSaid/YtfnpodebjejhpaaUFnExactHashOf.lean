/- The plain law behind the row FnExactHashOf: what the law's function computes is true, whatever the arguments. No condition. -/
import Derived.Test.YtfnpodebjejhpaaPHax3
import Derived.Test.YtfnpodebjejhpaaFr
import Derived.Test.YtfnpodebjejhpaaTHa
namespace Go.Proofs.Ytfnpodebjejhpaa.UFnExactHashOf
open Go.RowKit Go.Proofs.YtfnpodebjejhpaaW.PrintWords Go.Proofs.YtfnpodebjejhpaaW.PrintLast Go.Proofs.YtfnpodebjejhpaaW.PrintMore Go.Proofs.YtfnpodebjejhpaaFr Go.Proofs.Ytfnpodebjejhpaa.PHa
set_option linter.unusedVariables false
set_option linter.unusedSimpArgs false
def Pure : Prop := ∀ (a0 : Int) (a1_0 : Int) (a1_1 : Int) (a1_2 : Int) (a1_3 : Int) (a1_4 : Int) (a1_5 : Int) (a1_6 : Int) (a1_7 : Int) (a1_8 : Int) (a1_9 : Int) (a1_10 : Int) (a1_11 : Int) (a1_12 : Int) (a1_13 : Int), I64 a0 → I64 a1_0 → I64 a1_1 → I64 a1_2 → I64 a1_3 → I64 a1_4 → I64 a1_5 → I64 a1_6 → I64 a1_7 → I64 a1_8 → I64 a1_9 → I64 a1_10 → I64 a1_11 → I64 a1_12 → I64 a1_13 → ∃ k, laws_FnExactHashOf.f k a0 a1_0 a1_1 a1_2 a1_3 a1_4 a1_5 a1_6 a1_7 a1_8 a1_9 a1_10 a1_11 a1_12 a1_13 = some true
-- IMPORT YtfnpodebjejhpaaT@K@
open Go.Proofs.Ytfnpodebjejhpaa.T
theorem pure : Pure := by
  unfold Pure
  intro seed n k a b c d k' a' b' c' d' p s t
  intros
  refine ⟨300, ?_⟩
  simp only [laws_FnExactHashOf.f, laws_toFlowKey.f, laws_toKey.f, laws_toAddr.f, Option.bind_some]
  have key : ∀ o : Bool, (o = false → flowKeyOk n k a b c d k' a' b' c' d' p s t = true) → spec_HashOf.j0 300 seed o n k a b c d k' a' b' c' d' p s t = some (if o = true then -1 else hash seed n k a b c d k' a' b' c' d' p s t) := by
    intro o ho
    cases o with
    | true => simp [spec_HashOf.j0]
    | false =>
      have hl := keyBytes_len n k a b c d k' a' b' c' d' p s t
      simp only [spec_HashOf.j0]
      rw [if_neg (by simp), specBytes (ho rfl), Option.bind_some]
      have := specHash (T.keyBytes n k a b c d k' a' b' c' d' p s t) (by omega) (T.keyBytes n k a b c d k' a' b' c' d' p s t).length 0 299 seed (by omega) (by omega)
      rw [show ((0 : Nat) : Int) = 0 from rfl] at this
      rw [this]
      rfl
  have hi : impl_HashOf.f 300 seed n k a b c d k' a' b' c' d' p s t = some (if (within seed 0 4294967295 && flowKeyOk n k a b c d k' a' b' c' d' p s t) = true then hash seed n k a b c d k' a' b' c' d' p s t else -1) := by
    unfold impl_HashOf.f
    rw [within_eq, Option.bind_some, implFlowKey _ _ _ _ _ _ _ _ _ _ _ _ _ _ (show 3 < 300 by omega), implHashOf _ _ _ _ _ _ _ _ _ _ _ _ _ _ _ (show 200 < 300 by omega)]
    cases within seed 0 4294967295 <;> cases flowKeyOk n k a b c d k' a' b' c' d' p s t <;> simp
  have hs : spec_HashOf.f 300 seed n k a b c d k' a' b' c' d' p s t = some (if (within seed 0 4294967295 && flowKeyOk n k a b c d k' a' b' c' d' p s t) = true then hash seed n k a b c d k' a' b' c' d' p s t else -1) := by
    unfold spec_HashOf.f
    by_cases h1 : seed < 0
    · rw [if_pos h1, key true (by simp)]
      simp [within, show ¬ 0 ≤ seed by omega]
    · rw [if_neg h1]
      by_cases h2 : seed > 4294967295
      · rw [if_pos h2, key true (by simp)]
        simp [within, show ¬ seed ≤ 4294967295 by omega]
      · rw [if_neg h2, specFlowKey, Option.bind_some, key _ (by cases flowKeyOk n k a b c d k' a' b' c' d' p s t <;> simp)]
        have : within seed 0 4294967295 = true := by rw [T.within_iff]; omega
        rw [this]
        cases flowKeyOk n k a b c d k' a' b' c' d' p s t <;> simp
  rw [hs, Option.bind_some, hi, Option.bind_some]
  simp
end Go.Proofs.Ytfnpodebjejhpaa.UFnExactHashOf
