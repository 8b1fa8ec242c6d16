/- The plain law behind the row FnExactWheelSet: what the law's function computes is true, whatever the arguments. No condition. -/
import Derived.Test.YtbfbfaoolkbodaaPWsx4
import Derived.Test.YtbfbfaoolkbodaaFr
import Derived.Test.YtbfbfaoolkbodaaTWs
namespace Go.Proofs.Ytbfbfaoolkbodaa.UFnExactWheelSet
open Go.RowKit Go.Proofs.YtbfbfaoolkbodaaW.PrintWords Go.Proofs.YtbfbfaoolkbodaaW.PrintLast Go.Proofs.YtbfbfaoolkbodaaW.PrintMore Go.Proofs.YtbfbfaoolkbodaaFr Go.Proofs.Ytbfbfaoolkbodaa.PWs
set_option linter.unusedVariables false
set_option linter.unusedSimpArgs false
def Pure : Prop := ∀ (a0_0 : Int) (l0_1 : List (S65)) (a1 : Int) (a2 : Int), I64 a0_0 → (l0_1.length ≤ maxLen ∧ ∀ y ∈ l0_1, ((y.f0.length ≤ maxLen ∧ ∀ y_ ∈ y.f0, (I64 y_.f0 ∧ I64 y_.f1)))) → I64 a1 → I64 a2 → ∃ k, laws_FnExactWheelSet.f k a0_0 l0_1 a1 a2 = some true
-- IMPORT YtbfbfaoolkbodaaT@K@
open Go.Proofs.Ytbfbfaoolkbodaa.T
theorem pure : Pure := by
  unfold Pure
  rintro s l id at_ hs ⟨hl, hm⟩ hid hat
  obtain ⟨k, hk⟩ : ∃ k, k = l.length + tot l + 7000 := ⟨_, rfl⟩
  rcases szW s l hl (fun y hy => (hm y hy).1) (show l.length < k by omega) with hz | ⟨t, hz, h0, hl2, ht⟩
  · refine ⟨k, ?_⟩
    unfold laws_FnExactWheelSet.f
    rw [hz]
    simp
  · obtain ⟨L, hL⟩ : ∃ L, L = l.map cP := ⟨_, rfl⟩
    have e1 : L.length = l.length := by rw [hL]; simp
    have e2 : totW L = tot l := by rw [hL]; exact tot_map l
    obtain ⟨d1, d2⟩ := setW_sz s L id at_
    refine ⟨k, ?_⟩
    unfold laws_FnExactWheelSet.f
    rw [hz, Option.bind_some, if_neg (by omega), toW s l hl2 ht (show l.length + tot l + 2 < k by omega), ← hL]
    simp only [Option.bind_some, specSetW s L id at_ (by omega) (by omega) (show 6010 ≤ k by omega) (show L.length + totW L + 22 ≤ k by omega), implSetW s L id at_ (by omega) (by omega) (show L.length + totW L + 22 ≤ k by omega), eqW s L (by omega) (by omega) (show L.length + totW L + 2 < k by omega), eqW (setW s L id at_).1 (setW s L id at_).2.1 (by omega) (by omega) (show (setW s L id at_).2.1.length + totW (setW s L id at_).2.1 + 2 < k by omega), heldP (setW s L id at_).1 (setW s L id at_).2.1 (by omega) (by omega) (show (setW s L id at_).2.1.length < k by omega)]
    rw [if_pos]
    refine ⟨trivial, trivial, trivial, ?_, by omega, ?_⟩
    · rw [markP2 L 1 (by omega) (by omega)]; omega
    · rw [markP2 (setW s L id at_).2.1 1 (by omega) (by omega)]
end Go.Proofs.Ytbfbfaoolkbodaa.UFnExactWheelSet
