/- The plain law behind the row FnExactNatAddr: what the law's function computes is true, whatever the arguments. No condition. -/
import Derived.Test.YtbpkmdghloapjaaPNax8
import Derived.Test.YtbpkmdghloapjaaFr
import Derived.Test.YtbpkmdghloapjaaTNa
namespace Go.Proofs.Ytbpkmdghloapjaa.UFnExactNatAddr
open Go.RowKit Go.Proofs.YtbpkmdghloapjaaW.PrintWords Go.Proofs.YtbpkmdghloapjaaW.PrintLast Go.Proofs.YtbpkmdghloapjaaW.PrintMore Go.Proofs.YtbpkmdghloapjaaFr Go.Proofs.Ytbpkmdghloapjaa.PNa
set_option linter.unusedVariables false
set_option linter.unusedSimpArgs false
def Pure : Prop := ∀ (a0_0 : Int) (a0_1 : Int) (a0_2 : Int) (a0_3 : Int) (a0_4 : Int) (a0_5 : Int) (a1_0 : Int) (a1_1 : Int) (a1_2 : Int) (a1_3 : Int) (a1_4 : Int) (a1_5 : Int) (a2_0 : Int) (a2_1 : Int) (a2_2 : Int) (a2_3 : Int) (a2_4 : Int), I64 a0_0 → I64 a0_1 → I64 a0_2 → I64 a0_3 → I64 a0_4 → I64 a0_5 → I64 a1_0 → I64 a1_1 → I64 a1_2 → I64 a1_3 → I64 a1_4 → I64 a1_5 → I64 a2_0 → I64 a2_1 → I64 a2_2 → I64 a2_3 → I64 a2_4 → ∃ k, laws_FnExactNatAddr.f k a0_0 a0_1 a0_2 a0_3 a0_4 a0_5 a1_0 a1_1 a1_2 a1_3 a1_4 a1_5 a2_0 a2_1 a2_2 a2_3 a2_4 = some true
-- IMPORT YtbpkmdghloapjaaT@K@
open Go.Proofs.Ytbpkmdghloapjaa.T
theorem pure : Pure := by
  unfold Pure
  intro k a b c d n k' a' b' c' d' n' k2 a2 b2 c2 d2
  intros
  have z1 : spec_NatAddr.j0 2000 true k a b c d n k' a' b' c' d' n' k2 a2 b2 c2 d2 = some (0, 0, 0, 0, 0) := by rw [spec_NatAddr.j0, if_pos rfl]
  have main : ∃ r, spec_NatAddr.f 2000 k a b c d n k' a' b' c' d' n' k2 a2 b2 c2 d2 = some r ∧ impl_NatAddr.f 2000 k a b c d n k' a' b' c' d' n' k2 a2 b2 c2 d2 = some r := by
    unfold spec_NatAddr.f impl_NatAddr.f
    rw [specTwins k a b c d n k' a' b' c' d' n' (by omega), Option.bind_some, implTwins k a b c d n k' a' b' c' d' n' (by omega), Option.bind_some, specHas k a b c d n k2 a2 b2 c2 d2 (by omega), Option.bind_some, implHasP k a b c d n k2 a2 b2 c2 d2 (by omega), Option.bind_some]
    cases ht : twins k a b c d n k' a' b' c' d' n' with
    | false => exact ⟨(0, 0, 0, 0, 0), by rw [if_neg (by decide), z1], by rw [if_neg (by decide)]⟩
    | true =>
      rw [if_pos rfl, if_pos rfl]
      cases hh : (prefOk k a b c d n && (addrOk k2 a2 b2 c2 d2 && prefHas k a b c d n k2 a2 b2 c2 d2)) with
      | false => exact ⟨(0, 0, 0, 0, 0), by rw [show (!false) = true from rfl, z1], by rw [if_neg (by decide)]⟩
      | true =>
        rw [show (!true) = false from rfl, if_pos rfl]
        unfold twins at ht
        simp only [Bool.and_eq_true, Bool.not_eq_true', decide_eq_true_eq, beq_iff_eq] at ht hh
        obtain ⟨t1, t2, t3, t4, rfl, rfl⟩ := ht
        obtain ⟨_, h2, h3⟩ := hh
        unfold prefHas at h3
        rw [t3, Bool.false_or, Bool.and_eq_true, decide_eq_true_eq] at h3
        obtain ⟨rfl, _⟩ := h3
        obtain ⟨r, r1, r2⟩ := natF t2 t4 h2 (m := 1999) (by omega)
        refine ⟨r, ?_, ?_⟩
        · rw [spec_NatAddr.j0, if_neg (by decide)]
          exact r2
        · obtain ⟨r', r1', r2'⟩ := natF t2 t4 h2 (m := 2000) (by omega)
          have hu : impl_nat.f 2000 k2 a' b' c' d' n k2 a2 b2 c2 d2 = some r := by
            rw [← r1]
            unfold impl_nat.f
            rw [implCut _ _ _ _ _ _ (by omega), implCut _ _ _ _ _ _ (by omega)]
          rw [hu, Option.bind_some]
  obtain ⟨r, hs, hi⟩ := main
  refine ⟨2000, ?_⟩
  simp only [laws_FnExactNatAddr.f, laws_toPrefix.f, laws_toAddr.f, Option.bind_some, hs, hi, laws_eqAddr.f, if_true]
end Go.Proofs.Ytbpkmdghloapjaa.UFnExactNatAddr
