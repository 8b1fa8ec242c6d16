/- What the printed functions on addresses and keys come to: plain lemmas on numbers. No condition. -/
import Derived.Test.YtfnpodebjejhpaaPFkx
import Derived.Test.YtfnpodebjejhpaaFr

namespace Go.Proofs.Ytfnpodebjejhpaa.T
open Go.RowKit Go.Proofs.YtfnpodebjejhpaaW.PrintWords Go.Proofs.YtfnpodebjejhpaaW.PrintLast Go.Proofs.YtfnpodebjejhpaaW.PrintMore Go.Proofs.YtfnpodebjejhpaaFr Go.Proofs.Ytfnpodebjejhpaa.PFk
set_option linter.unusedVariables false
set_option linter.unusedSimpArgs false
theorem wr {x : Int} (h : -9223372036854775808 ≤ x ∧ x ≤ 9223372036854775807) : wrap64 x = x := by unfold wrap64; omega
def within (a lo hi : Int) : Bool := decide (lo ≤ a ∧ a ≤ hi)
theorem within_eq (a lo hi : Int) : impl_within.f a lo hi = some (within a lo hi) := by
  unfold impl_within.f within
  by_cases h1 : lo ≤ a <;> simp [*]
theorem half_eq (a : Int) : spec_l03Half.f a = some (within a 0 4294967295) := by
  unfold spec_l03Half.f within
  by_cases h1 : 0 ≤ a <;> simp [*]
def addrOk (k a b c d : Int) : Bool := if k = 4 then decide (a = 0 ∧ b = 0 ∧ c = 0) && within d 0 4294967295 else if k = 6 then within a 0 4294967295 && within b 0 4294967295 && within c 0 4294967295 && within d 0 4294967295 else false
theorem specAddr (k a b c d : Int) : spec_AddrOk.f k a b c d = some (addrOk k a b c d) := by
  unfold spec_AddrOk.f addrOk
  simp only [half_eq, Option.bind_some]
  by_cases h4 : k = 4
  · simp only [if_pos h4]
    by_cases h1 : a = 0 <;> by_cases h2 : b = 0 <;> by_cases h3 : c = 0 <;> simp [*]
  · simp only [if_neg h4]
    by_cases h6 : k = 6
    · simp only [if_pos h6]
      cases within a 0 4294967295 <;> cases within b 0 4294967295 <;> cases within c 0 4294967295 <;> simp
    · simp only [if_neg h6]
theorem implAddr (k a b c d : Int) : impl_AddrOk.f k a b c d = some (addrOk k a b c d) := by
  unfold impl_AddrOk.f addrOk impl_isLong.f
  simp only [within_eq, Option.bind_some]
  by_cases h4 : k = 4
  · simp only [if_pos h4]
    by_cases h1 : a = 0 <;> by_cases h2 : b = 0 <;> by_cases h3 : c = 0 <;> simp [*]
  · simp only [if_neg h4]
    by_cases h6 : k = 6
    · simp only [if_pos h6]
      cases within a 0 4294967295 <;> cases within b 0 4294967295 <;> cases within c 0 4294967295 <;> simp
    · simp only [if_neg h6]
def keyOk (k a b c d k' a' b' c' d' p s t : Int) : Bool := addrOk k a b c d && addrOk k' a' b' c' d' && decide (k = k') && within p 0 255 && within s 0 65535 && within t 0 65535
theorem specKey (k a b c d k' a' b' c' d' p s t : Int) : spec_KeyOk.f k a b c d k' a' b' c' d' p s t = some (keyOk k a b c d k' a' b' c' d' p s t) := by
  unfold spec_KeyOk.f keyOk spec_l07Pair.f
  have hin : ∀ x hi : Int, spec_l05In.f x hi = some (within x 0 hi) := by
    intro x hi
    unfold spec_l05In.f within
    by_cases h1 : 0 ≤ x <;> simp [*]
  simp only [specAddr, hin, Option.bind_some]
  cases addrOk k a b c d <;> cases addrOk k' a' b' c' d' <;> by_cases e : k = k' <;> cases within p 0 255 <;> cases within s 0 65535 <;> simp [e]
theorem implKey (k a b c d k' a' b' c' d' p s t : Int) {n : Nat} (hn : 3 < n) : impl_KeyOk.f n k a b c d k' a' b' c' d' p s t = some (keyOk k a b c d k' a' b' c' d' p s t) := by
  obtain ⟨n, rfl⟩ : ∃ m, n = m + 4 := ⟨n - 4, by omega⟩
  unfold impl_KeyOk.f keyOk impl_areBoth.f impl_isByte.f impl_areWords.f
  have w1 : wrap64 1 = 1 := wr (by omega)
  have w2 : wrap64 2 = 2 := wr (by omega)
  simp only [implAddr, within_eq, Option.bind_some]
  cases addrOk k a b c d <;> cases addrOk k' a' b' c' d' <;> by_cases e : k = k' <;> cases within p 0 255 <;> cases h1 : within s 0 65535 <;> cases h2 : within t 0 65535 <;> simp [e, impl_areWords.l0, impl_isWord.f, within_eq, rd, w1, w2, h1, h2]
def flowKeyOk (n k a b c d k' a' b' c' d' p s t : Int) : Bool := within n 1 8 && keyOk k a b c d k' a' b' c' d' p s t
theorem specFlowKey (n k a b c d k' a' b' c' d' p s t : Int) : spec_FlowKeyOk.f n k a b c d k' a' b' c' d' p s t = some (flowKeyOk n k a b c d k' a' b' c' d' p s t) := by
  unfold spec_FlowKeyOk.f flowKeyOk within
  simp only [specKey, Option.bind_some]
  by_cases h1 : 1 ≤ n <;> by_cases h2 : n ≤ 8 <;> simp [*]
theorem implFlowKey (n k a b c d k' a' b' c' d' p s t : Int) {m : Nat} (hm : 3 < m) : impl_FlowKeyOk.f m n k a b c d k' a' b' c' d' p s t = some (flowKeyOk n k a b c d k' a' b' c' d' p s t) := by
  unfold impl_FlowKeyOk.f flowKeyOk
  simp only [implKey _ _ _ _ _ _ _ _ _ _ _ _ _ hm, within_eq, Option.bind_some]
  cases within n 1 8 <;> simp
end Go.Proofs.Ytfnpodebjejhpaa.T
