/- What the printed functions on addresses and keys come to: plain lemmas on numbers. No condition. -/
import Derived.Test.YtfnpodebjejhpaaPTdx
import Derived.Test.YtfnpodebjejhpaaFr

namespace Go.Proofs.Ytfnpodebjejhpaa.T
open Go.RowKit Go.Proofs.YtfnpodebjejhpaaW.PrintWords Go.Proofs.YtfnpodebjejhpaaW.PrintLast Go.Proofs.YtfnpodebjejhpaaW.PrintMore Go.Proofs.YtfnpodebjejhpaaFr Go.Proofs.Ytfnpodebjejhpaa.PTd
set_option linter.unusedVariables false
set_option linter.unusedSimpArgs false
theorem wr {x : Int} (h : -9223372036854775808 ≤ x ∧ x ≤ 9223372036854775807) : wrap64 x = x := by unfold wrap64; omega
def within (a lo hi : Int) : Bool := decide (lo ≤ a ∧ a ≤ hi)
theorem within_eq (a lo hi : Int) : impl_within.f a lo hi = some (within a lo hi) := by
  unfold impl_within.f within
  by_cases h1 : lo ≤ a <;> simp [*]
theorem half_eq (a : Int) : spec_l03Half.f a = some (within a 0 4294967295) := by
  unfold spec_l03Half.f within
  by_cases h1 : 0 ≤ a <;> simp [*]
def addrOk (k a b c d : Int) : Bool := if k = 4 then decide (a = 0 ∧ b = 0 ∧ c = 0) && within d 0 4294967295 else if k = 6 then within a 0 4294967295 && within b 0 4294967295 && within c 0 4294967295 && within d 0 4294967295 else false
theorem specAddr (k a b c d : Int) : spec_AddrOk.f k a b c d = some (addrOk k a b c d) := by
  unfold spec_AddrOk.f addrOk
  simp only [half_eq, Option.bind_some]
  by_cases h4 : k = 4
  · simp only [if_pos h4]
    by_cases h1 : a = 0 <;> by_cases h2 : b = 0 <;> by_cases h3 : c = 0 <;> simp [*]
  · simp only [if_neg h4]
    by_cases h6 : k = 6
    · simp only [if_pos h6]
      cases within a 0 4294967295 <;> cases within b 0 4294967295 <;> cases within c 0 4294967295 <;> simp
    · simp only [if_neg h6]
theorem implAddr (k a b c d : Int) : impl_AddrOk.f k a b c d = some (addrOk k a b c d) := by
  unfold impl_AddrOk.f addrOk impl_isLong.f
  simp only [within_eq, Option.bind_some]
  by_cases h4 : k = 4
  · simp only [if_pos h4]
    by_cases h1 : a = 0 <;> by_cases h2 : b = 0 <;> by_cases h3 : c = 0 <;> simp [*]
  · simp only [if_neg h4]
    by_cases h6 : k = 6
    · simp only [if_pos h6]
      cases within a 0 4294967295 <;> cases within b 0 4294967295 <;> cases within c 0 4294967295 <;> simp
    · simp only [if_neg h6]
def keyOk (k a b c d k' a' b' c' d' p s t : Int) : Bool := addrOk k a b c d && addrOk k' a' b' c' d' && decide (k = k') && within p 0 255 && within s 0 65535 && within t 0 65535
theorem specKey (k a b c d k' a' b' c' d' p s t : Int) : spec_KeyOk.f k a b c d k' a' b' c' d' p s t = some (keyOk k a b c d k' a' b' c' d' p s t) := by
  unfold spec_KeyOk.f keyOk spec_l07Pair.f
  have hin : ∀ x hi : Int, spec_l05In.f x hi = some (within x 0 hi) := by
    intro x hi
    unfold spec_l05In.f within
    by_cases h1 : 0 ≤ x <;> simp [*]
  simp only [specAddr, hin, Option.bind_some]
  cases addrOk k a b c d <;> cases addrOk k' a' b' c' d' <;> by_cases e : k = k' <;> cases within p 0 255 <;> cases within s 0 65535 <;> simp [e]
theorem implKey (k a b c d k' a' b' c' d' p s t : Int) {n : Nat} (hn : 3 < n) : impl_KeyOk.f n k a b c d k' a' b' c' d' p s t = some (keyOk k a b c d k' a' b' c' d' p s t) := by
  obtain ⟨n, rfl⟩ : ∃ m, n = m + 4 := ⟨n - 4, by omega⟩
  unfold impl_KeyOk.f keyOk impl_areBoth.f impl_isByte.f impl_areWords.f
  have w1 : wrap64 1 = 1 := wr (by omega)
  have w2 : wrap64 2 = 2 := wr (by omega)
  simp only [implAddr, within_eq, Option.bind_some]
  cases addrOk k a b c d <;> cases addrOk k' a' b' c' d' <;> by_cases e : k = k' <;> cases within p 0 255 <;> cases h1 : within s 0 65535 <;> cases h2 : within t 0 65535 <;> simp [e, impl_areWords.l0, impl_isWord.f, within_eq, rd, w1, w2, h1, h2]
def flowKeyOk (n k a b c d k' a' b' c' d' p s t : Int) : Bool := within n 1 8 && keyOk k a b c d k' a' b' c' d' p s t
theorem specFlowKey (n k a b c d k' a' b' c' d' p s t : Int) : spec_FlowKeyOk.f n k a b c d k' a' b' c' d' p s t = some (flowKeyOk n k a b c d k' a' b' c' d' p s t) := by
  unfold spec_FlowKeyOk.f flowKeyOk within
  simp only [specKey, Option.bind_some]
  by_cases h1 : 1 ≤ n <;> by_cases h2 : n ≤ 8 <;> simp [*]
theorem implFlowKey (n k a b c d k' a' b' c' d' p s t : Int) {m : Nat} (hm : 3 < m) : impl_FlowKeyOk.f m n k a b c d k' a' b' c' d' p s t = some (flowKeyOk n k a b c d k' a' b' c' d' p s t) := by
  unfold impl_FlowKeyOk.f flowKeyOk
  simp only [implKey _ _ _ _ _ _ _ _ _ _ _ _ _ hm, within_eq, Option.bind_some]
  cases within n 1 8 <;> simp
/-! ### bytes -/
def bytes2 (n : Int) : List Int := [n / 256 % 256, n % 256]
def bytes4 (n : Int) : List Int := [n / 16777216 % 256, n / 65536 % 256, n / 256 % 256, n % 256]
theorem specLow (a m : Int) (ha : 0 ≤ a) (hm : 0 < m) : spec_l01Low.f a m = some (a % m) := by
  unfold spec_l01Low.f
  have h1 : Int.tmod a m = a % m := Int.tmod_eq_emod_of_nonneg ha
  have h2 : 0 ≤ a % m := Int.emod_nonneg a (by omega)
  rw [if_neg (by omega), h1, if_neg (by omega)]
theorem specPut16 {n : Int} (h : 0 ≤ n ∧ n ≤ 65535) : spec_Put16.f n = some (bytes2 n) := by
  unfold spec_Put16.f bytes2
  rw [specLow n 65536 h.1 (by omega), Option.bind_some]
  have h1 : n % 65536 = n := by omega
  rw [h1, Int.tdiv_eq_ediv_of_nonneg h.1, Int.tmod_eq_emod_of_nonneg h.1, wr (by omega)]
  simp
theorem specPut32 {n : Int} (h : 0 ≤ n ∧ n ≤ 4294967295) : spec_Put32.f n = some (bytes4 n) := by
  unfold spec_Put32.f
  rw [specLow n 4294967296 h.1 (by omega), Option.bind_some]
  have h1 : n % 4294967296 = n := by omega
  rw [h1, Int.tdiv_eq_ediv_of_nonneg h.1, Int.tmod_eq_emod_of_nonneg h.1, wr (by omega), specPut16 (by omega), Option.bind_some, specPut16 (by omega), Option.bind_some, if_pos (by simp [bytes2])]
  have e1 : n / 65536 / 256 % 256 = n / 16777216 % 256 := by omega
  have e2 : n / 65536 % 256 = n / 65536 % 256 := rfl
  have e3 : n % 65536 / 256 % 256 = n / 256 % 256 := by omega
  have e4 : n % 65536 % 256 = n % 256 := by omega
  simp only [bytes2, bytes4, List.cons_append, List.nil_append, e1, e3, e4]
theorem implPut32 {n : Int} {k : Nat} (hk : 7 < k) : impl_Put32.f k n = some (bytes4 n) := by
  obtain ⟨k, rfl⟩ : ∃ j, k = j + 8 := ⟨k - 8, by omega⟩
  have e (x : Int) (h : -1000 ≤ x ∧ x ≤ 1000) : wrap64 x = x := wr (by omega)
  unfold impl_Put32.f impl_put.f bytes4
  simp [impl_put.l0, e, shr, IntKind.bits, List.replicate]
theorem inc {i : Nat} (h : i ≤ 4194304) : wrap64 ((i : Int) + 1) = ((i + 1 : Nat) : Int) := by rw [wr (by omega)]; rfl
theorem rdL (ls : List (List Int)) (i : Nat) : rd_L11 ls (i : Int) = ls.getD i [] := by simp [rd_L11]
theorem drop_getD (ls : List (List Int)) (i : Nat) (h : i < ls.length) : ls.drop i = ls.getD i [] :: ls.drop (i + 1) := by
  rw [List.drop_eq_getElem_cons h, List.getD_eq_getElem?_getD, List.getElem?_eq_getElem h]
  rfl
theorem concat1 (ls : List (List Int)) (hn : ls.length ≤ 1000) : ∀ (d i k : Nat) (acc : List Int), i + d = ls.length → acc.length + (ls.drop i).flatten.length ≤ 1073741824 → d < k → slices_Concat_byte_byte.l1 k acc ls (ls.length : Int) (i : Int) = some (acc ++ (ls.drop i).flatten) := by
  intro d
  induction d with
  | zero =>
    intro i k acc h1 h2 h3
    obtain ⟨k, rfl⟩ : ∃ k', k = k' + 1 := ⟨k - 1, by omega⟩
    simp only [slices_Concat_byte_byte.l1]
    rw [if_neg (by omega), List.drop_of_length_le (by omega)]
    simp
  | succ d ih =>
    intro i k acc h1 h2 h3
    obtain ⟨k, rfl⟩ : ∃ k', k = k' + 1 := ⟨k - 1, by omega⟩
    rw [drop_getD ls i (by omega)] at h2 ⊢
    simp only [List.flatten_cons, List.length_append] at h2
    simp only [slices_Concat_byte_byte.l1]
    rw [if_pos (by omega), if_pos (by omega), if_pos (by omega), rdL, if_pos (by omega), inc (by omega), ih (i + 1) k _ (by omega) (by rw [List.length_append]; omega) (by omega)]
    simp
theorem concat0 (ls : List (List Int)) (hn : ls.length ≤ 1000) (ht : ls.flatten.length ≤ 1073741824) : ∀ (d i k s : Nat), i + d = ls.length → s + (ls.drop i).flatten.length ≤ 1073741824 → d + ls.length + 1 < k → slices_Concat_byte_byte.l0 k ls (s : Int) ls (ls.length : Int) (i : Int) = some ls.flatten := by
  intro d
  induction d with
  | zero =>
    intro i k s h1 h2 h3
    obtain ⟨k, rfl⟩ : ∃ k', k = k' + 1 := ⟨k - 1, by omega⟩
    simp only [slices_Concat_byte_byte.l0]
    rw [if_neg (by omega)]
    unfold slices_Grow_byte_byte.f
    rw [if_pos (by omega), Option.bind_some]
    have := concat1 ls hn ls.length 0 k [] (by omega) (by simpa using ht) (by omega)
    simpa using this
  | succ d ih =>
    intro i k s h1 h2 h3
    obtain ⟨k, rfl⟩ : ∃ k', k = k' + 1 := ⟨k - 1, by omega⟩
    rw [drop_getD ls i (by omega)] at h2
    simp only [List.flatten_cons, List.length_append] at h2
    simp only [slices_Concat_byte_byte.l0]
    rw [if_pos (by omega), if_pos (by omega), if_pos (by omega), rdL, wr (by omega), if_neg (by omega), inc (by omega)]
    have := ih (i + 1) k (s + (ls.getD i []).length) (by omega) (by omega) (by omega)
    rw [← this]
    simp
theorem concatF (ls : List (List Int)) (hn : ls.length ≤ 1000) (ht : ls.flatten.length ≤ 1073741824) {k : Nat} (hk : 2 * ls.length + 1 < k) : slices_Concat_byte_byte.f k ls = some ls.flatten := by
  unfold slices_Concat_byte_byte.f
  exact concat0 ls hn ht ls.length 0 k 0 (by omega) (by simpa using ht) (by omega)
def addrBytes (k a b c d : Int) : List Int := if addrOk k a b c d then if k = 4 then bytes4 d else bytes4 a ++ bytes4 b ++ bytes4 c ++ bytes4 d else []
theorem addrBytes_len (k a b c d : Int) : (addrBytes k a b c d).length ≤ 16 := by
  unfold addrBytes
  split
  · split <;> simp [bytes4]
  · simp
theorem within_iff {a lo hi : Int} : within a lo hi = true ↔ lo ≤ a ∧ a ≤ hi := by simp [within]
theorem specAddrBytes (k a b c d : Int) : spec_AddrBytes.f k a b c d = some (addrBytes k a b c d) := by
  unfold spec_AddrBytes.f addrBytes
  rw [specAddr, Option.bind_some]
  cases h : addrOk k a b c d with
  | false => simp
  | true =>
    rw [if_pos rfl, if_pos rfl]
    unfold addrOk at h
    by_cases h4 : k = 4
    · rw [if_pos h4] at h ⊢
      simp only [Bool.and_eq_true, within_iff] at h
      rw [if_pos h4, specPut32 h.2]
      rfl
    · rw [if_neg h4] at h ⊢
      by_cases h6 : k = 6
      · rw [if_pos h6] at h
        simp only [Bool.and_eq_true, within_iff] at h
        rw [if_neg h4]
        simp [specPut32 h.1.1.1, specPut32 h.1.1.2, specPut32 h.1.2, specPut32 h.2, bytes4]
      · rw [if_neg h6] at h
        cases h
theorem implAddrBytes (k a b c d : Int) {n : Nat} (hn : 20 < n) : impl_AddrBytes.f n k a b c d = some (addrBytes k a b c d) := by
  unfold impl_AddrBytes.f addrBytes
  rw [implAddr, Option.bind_some]
  cases h : addrOk k a b c d with
  | false => simp
  | true =>
    rw [if_pos rfl, if_pos rfl]
    by_cases h4 : k = 4
    · rw [if_pos h4, if_pos h4, implPut32 (by omega)]
      rfl
    · rw [if_neg h4, if_neg h4]
      simp only [implPut32 (show 7 < n by omega), Option.bind_some]
      rw [concatF _ (by simp) (by simp [bytes4]) (by simp; omega)]
      simp [bytes4]
theorem implPut16 {n : Int} {k : Nat} (hk : 5 < k) : impl_Put16.f k n = some (bytes2 n) := by
  obtain ⟨k, rfl⟩ : ∃ j, k = j + 6 := ⟨k - 6, by omega⟩
  have e (x : Int) (h : -1000 ≤ x ∧ x ≤ 1000) : wrap64 x = x := wr (by omega)
  unfold impl_Put16.f impl_put.f bytes2
  simp [impl_put.l0, e, shr, IntKind.bits, List.replicate]
/-! ### the hash -/
def step (h b : Int) : Int := Int.tmod (wrap64 ((Go.bits .xor .i64 h (wrap64 b)) * 16777619)) 4294967296
def fin (h : Int) : Int := Go.bits .xor .i64 h (wrap64 (Int.tdiv h 65536))
theorem rdn (L : List Int) (i : Nat) (h : i < L.length) : L.drop i = rd L (i : Int) :: L.drop (i + 1) := by
  rw [List.drop_eq_getElem_cons h]
  simp [rd, List.getD_eq_getElem?_getD, List.getElem?_eq_getElem h]
theorem specHash (L : List Int) (hL : L.length ≤ 1000) : ∀ (d i k : Nat) (h : Int), i + d = L.length → d < k → spec_HashOf.l0 k h L (i : Int) = some (fin ((L.drop i).foldl step h)) := by
  intro d
  induction d with
  | zero =>
    intro i k h h1 h2
    obtain ⟨k, rfl⟩ : ∃ k', k = k' + 1 := ⟨k - 1, by omega⟩
    simp only [spec_HashOf.l0]
    rw [if_neg (by omega), List.drop_of_length_le (by omega)]
    rfl
  | succ d ih =>
    intro i k h h1 h2
    obtain ⟨k, rfl⟩ : ∃ k', k = k' + 1 := ⟨k - 1, by omega⟩
    simp only [spec_HashOf.l0]
    rw [if_pos (by omega), if_pos (by omega), inc (by omega), rdn L i (by omega), List.foldl_cons]
    exact ih (i + 1) k _ (by omega) (by omega)
theorem implHash (L : List Int) (hL : L.length ≤ 1000) : ∀ (d i k : Nat) (h : Int), i + d = L.length → d < k → impl_hashOf.l0 k h L (L.length : Int) (i : Int) = some (fin ((L.drop i).foldl step h)) := by
  intro d
  induction d with
  | zero =>
    intro i k h h1 h2
    obtain ⟨k, rfl⟩ : ∃ k', k = k' + 1 := ⟨k - 1, by omega⟩
    simp only [impl_hashOf.l0]
    rw [if_neg (by omega), List.drop_of_length_le (by omega)]
    rfl
  | succ d ih =>
    intro i k h h1 h2
    obtain ⟨k, rfl⟩ : ∃ k', k = k' + 1 := ⟨k - 1, by omega⟩
    simp only [impl_hashOf.l0]
    rw [if_pos (by omega), if_pos (by omega), if_pos (by omega), inc (by omega), rdn L i (by omega), List.foldl_cons]
    exact ih (i + 1) k _ (by omega) (by omega)
def keyBytes (n k a b c d k' a' b' c' d' p s t : Int) : List Int := [n % 256, k % 256] ++ addrBytes k a b c d ++ addrBytes k' a' b' c' d' ++ [p % 256] ++ bytes2 s ++ bytes2 t
theorem keyBytes_len (n k a b c d k' a' b' c' d' p s t : Int) : (keyBytes n k a b c d k' a' b' c' d' p s t).length ≤ 100 := by
  have h1 := addrBytes_len k a b c d
  have h2 := addrBytes_len k' a' b' c' d'
  simp [keyBytes, bytes2]
  omega
def hash (seed n k a b c d k' a' b' c' d' p s t : Int) : Int := fin ((keyBytes n k a b c d k' a' b' c' d' p s t).foldl step seed)
theorem implHashOf (seed n k a b c d k' a' b' c' d' p s t : Int) {m : Nat} (hm : 200 < m) : impl_hashOf.f m seed n k a b c d k' a' b' c' d' p s t = some (hash seed n k a b c d k' a' b' c' d' p s t) := by
  unfold impl_hashOf.f
  have h1 := addrBytes_len k a b c d
  have h2 := addrBytes_len k' a' b' c' d'
  simp only [implAddrBytes _ _ _ _ _ (show 20 < m by omega), implPut16 (show 5 < m by omega), Option.bind_some]
  rw [concatF _ (by simp) (by simp [bytes2]; omega) (by simp; omega), Option.bind_some]
  have he : [[n % 256, k % 256], addrBytes k a b c d, addrBytes k' a' b' c' d', [p % 256], bytes2 s, bytes2 t].flatten = keyBytes n k a b c d k' a' b' c' d' p s t := by simp [keyBytes]
  have hl := keyBytes_len n k a b c d k' a' b' c' d' p s t
  rw [he]
  have := implHash (keyBytes n k a b c d k' a' b' c' d' p s t) (by omega) (keyBytes n k a b c d k' a' b' c' d' p s t).length 0 m seed (by omega) (by omega)
  exact this
theorem specBytes {n k a b c d k' a' b' c' d' p s t : Int} (h : flowKeyOk n k a b c d k' a' b' c' d' p s t = true) : spec_l11Bytes.f n k a b c d k' a' b' c' d' p s t = some (keyBytes n k a b c d k' a' b' c' d' p s t) := by
  unfold flowKeyOk keyOk at h
  simp only [Bool.and_eq_true, within_iff] at h
  have h1 := addrBytes_len k a b c d
  have h2 := addrBytes_len k' a' b' c' d'
  unfold spec_l11Bytes.f keyBytes
  simp only [specAddrBytes, specPut16 h.2.1.2, specPut16 h.2.2, Option.bind_some]
  rw [if_pos (by simp; omega)]
  repeat rw [if_pos (by simp [bytes2]; omega)]
/-! ### tables -/
theorem bytes2_B {n : Int} : ∀ x ∈ bytes2 n, 0 ≤ x ∧ x < 256 := by
  intro x hx
  simp only [bytes2, List.mem_cons, List.not_mem_nil, or_false] at hx
  rcases hx with rfl | rfl <;> omega
theorem bytes4_R {n : Int} : ∀ x ∈ bytes4 n, 0 ≤ x ∧ x < 256 := by
  intro x hx
  simp only [bytes4, List.mem_cons, List.not_mem_nil, or_false] at hx
  rcases hx with rfl | rfl | rfl | rfl <;> omega
theorem addrBytes_R (k a b c d : Int) : ∀ x ∈ addrBytes k a b c d, 0 ≤ x ∧ x < 256 := by
  unfold addrBytes
  split
  · split
    · exact bytes4_R
    · intro x hx
      simp only [List.mem_append] at hx
      rcases hx with ((hx | hx) | hx) | hx <;> exact bytes4_R x hx
  · intro x hx
    cases hx
theorem keyBytes_R (n k a b c d k' a' b' c' d' p s t : Int) : ∀ x ∈ keyBytes n k a b c d k' a' b' c' d' p s t, 0 ≤ x ∧ x < 256 := by
  intro x hx
  unfold keyBytes at hx
  simp only [List.mem_append, List.mem_cons, List.not_mem_nil, or_false] at hx
  rcases hx with ((((((rfl | rfl) | hx) | hx) | rfl) | hx) | hx)
  · omega
  · omega
  · exact addrBytes_R _ _ _ _ _ x hx
  · exact addrBytes_R _ _ _ _ _ x hx
  · omega
  · exact bytes2_B x hx
  · exact bytes2_B x hx
theorem xor_R {a b : Int} (ha : 0 ≤ a ∧ a < 4294967296) (hb : 0 ≤ b ∧ b < 4294967296) : 0 ≤ Go.bits .xor .i64 a b ∧ Go.bits .xor .i64 a b < 4294967296 := by
  obtain ⟨m, rfl⟩ : ∃ m : Nat, a = m := ⟨a.toNat, by omega⟩
  obtain ⟨n, rfl⟩ : ∃ n : Nat, b = n := ⟨b.toNat, by omega⟩
  have hx : m ^^^ n < 2 ^ 32 := Nat.xor_lt_two_pow (by omega) (by omega)
  have hm : m % 2 ^ IntKind.i64.bits = m := Nat.mod_eq_of_lt (by show m < 2 ^ 64; omega)
  have hn : n % 2 ^ IntKind.i64.bits = n := Nat.mod_eq_of_lt (by show n < 2 ^ 64; omega)
  have e : Go.bits .xor .i64 (m : Int) (n : Int) = ((m ^^^ n : Nat) : Int) := by
    simp only [Go.bits, BitVec.ofInt_natCast, BitVec.toNat_xor, BitVec.toNat_ofNat, hm, hn]
    rw [IntKind.wrap_i64]
    omega
  rw [e]
  omega
theorem step_R {h b : Int} (hh : 0 ≤ h ∧ h < 4294967296) (hb : 0 ≤ b ∧ b < 256) : 0 ≤ step h b ∧ step h b < 4294967296 := by
  unfold step
  rw [wr (x := b) (by omega)]
  have hx := xor_R hh (b := b) (by omega)
  generalize Go.bits .xor .i64 h b = z at hx
  rw [wr (by omega), Int.tmod_eq_emod_of_nonneg (by omega)]
  omega
theorem fold_R : ∀ (L : List Int) (h : Int), (∀ x ∈ L, 0 ≤ x ∧ x < 256) → 0 ≤ h ∧ h < 4294967296 → 0 ≤ L.foldl step h ∧ L.foldl step h < 4294967296 := by
  intro L
  induction L with
  | nil => intro h _ hh; exact hh
  | cons x L ih =>
    intro h hx hh
    exact ih (step h x) (fun y hy => hx y (List.mem_cons_of_mem _ hy)) (step_R hh (hx x List.mem_cons_self))
theorem hash_R {seed : Int} (hs : within seed 0 4294967295 = true) (n k a b c d k' a' b' c' d' p s t : Int) : 0 ≤ hash seed n k a b c d k' a' b' c' d' p s t := by
  have h0 := within_iff.1 hs
  have h := fold_R (keyBytes n k a b c d k' a' b' c' d' p s t) seed (keyBytes_R _ _ _ _ _ _ _ _ _ _ _ _ _ _) (by omega)
  unfold hash fin
  generalize (keyBytes n k a b c d k' a' b' c' d' p s t).foldl step seed = z at h
  rw [Int.tdiv_eq_ediv_of_nonneg h.1, wr (by omega)]
  exact (xor_R h (b := z / 65536) (by omega)).1
theorem specHashF {seed n k a b c d k' a' b' c' d' p s t : Int} (hs : within seed 0 4294967295 = true) (hk : flowKeyOk n k a b c d k' a' b' c' d' p s t = true) {m : Nat} (hm : 200 < m) : spec_HashOf.f m seed n k a b c d k' a' b' c' d' p s t = some (hash seed n k a b c d k' a' b' c' d' p s t) := by
  obtain ⟨m, rfl⟩ : ∃ j, m = j + 1 := ⟨m - 1, by omega⟩
  have h0 := within_iff.1 hs
  unfold spec_HashOf.f
  rw [if_neg (by omega), if_neg (by omega), specFlowKey, Option.bind_some, hk]
  simp only [spec_HashOf.j0]
  rw [if_neg (by decide), specBytes hk, Option.bind_some]
  have hl := keyBytes_len n k a b c d k' a' b' c' d' p s t
  have := specHash (keyBytes n k a b c d k' a' b' c' d' p s t) (by omega) (keyBytes n k a b c d k' a' b' c' d' p s t).length 0 m seed (by omega) (by omega)
  rw [show ((0 : Nat) : Int) = 0 from rfl] at this
  rw [this]
  rfl
def cell (L : List S75) (i : Nat) : S75 := L.getD i z75
def u (L : List S75) (i : Nat) : Bool := (cell L i).f0
def key (L : List S75) (i : Nat) : S33 := (cell L i).f1
def val (L : List S75) (i : Nat) : Int := (cell L i).f2
def eqK (x q : S33) : Bool := ((x.f0) == q.f0 && ((((x.f1.f0.f0) == q.f1.f0.f0 && ((x.f1.f0.f1) == q.f1.f0.f1 && ((x.f1.f0.f2) == q.f1.f0.f2 && ((x.f1.f0.f3) == q.f1.f0.f3 && ((x.f1.f0.f4) == q.f1.f0.f4))))) && (((x.f1.f1.f0) == q.f1.f1.f0 && ((x.f1.f1.f1) == q.f1.f1.f1 && ((x.f1.f1.f2) == q.f1.f1.f2 && ((x.f1.f1.f3) == q.f1.f1.f3 && ((x.f1.f1.f4) == q.f1.f1.f4))))) && ((x.f1.f2) == q.f1.f2 && ((x.f1.f3) == q.f1.f3 && ((x.f1.f4) == q.f1.f4)))))))
def nz (c : S75) : Bool := ((c.f0) || ((!((c.f1.f0) == 0) || (((!((c.f1.f1.f0.f0) == 0) || (!((c.f1.f1.f0.f1) == 0) || (!((c.f1.f1.f0.f2) == 0) || (!((c.f1.f1.f0.f3) == 0) || (!((c.f1.f1.f0.f4) == 0)))))) || ((!((c.f1.f1.f1.f0) == 0) || (!((c.f1.f1.f1.f1) == 0) || (!((c.f1.f1.f1.f2) == 0) || (!((c.f1.f1.f1.f3) == 0) || (!((c.f1.f1.f1.f4) == 0)))))) || (!((c.f1.f1.f2) == 0) || (!((c.f1.f1.f3) == 0) || (!((c.f1.f1.f4) == 0)))))))) || (!((c.f2) == 0))))
theorem eqK_iff {x q : S33} : eqK x q = true ↔ x = q := by
  obtain ⟨x0, ⟨⟨x1, x2, x3, x4, x5⟩, ⟨x6, x7, x8, x9, x10⟩, x11, x12, x13⟩⟩ := x
  obtain ⟨q0, ⟨⟨q1, q2, q3, q4, q5⟩, ⟨q6, q7, q8, q9, q10⟩, q11, q12, q13⟩⟩ := q
  simp only [eqK, Bool.and_eq_true, beq_iff_eq, S33.mk.injEq, S31.mk.injEq, S29.mk.injEq, and_assoc]
theorem rdc (L : List S75) (i : Nat) : rd_T75 L (i : Int) = cell L i := by simp [rd_T75, cell]
def fko (q : S33) : Bool := flowKeyOk q.f0 q.f1.f0.f0 q.f1.f0.f1 q.f1.f0.f2 q.f1.f0.f3 q.f1.f0.f4 q.f1.f1.f0 q.f1.f1.f1 q.f1.f1.f2 q.f1.f1.f3 q.f1.f1.f4 q.f1.f2 q.f1.f3 q.f1.f4
def hq (s : Int) (q : S33) : Int := hash s q.f0 q.f1.f0.f0 q.f1.f0.f1 q.f1.f0.f2 q.f1.f0.f3 q.f1.f0.f4 q.f1.f1.f0 q.f1.f1.f1 q.f1.f1.f2 q.f1.f1.f3 q.f1.f1.f4 q.f1.f2 q.f1.f3 q.f1.f4
def hm (s : Int) (L : List S75) (q : S33) : Nat := (hq s q).toNat % L.length
def at_ (n h j : Nat) : Nat := if h + j < n then h + j else h + j - n
def dist (n h i : Nat) : Nat := if h ≤ i then i - h else i + n - h
theorem at_lt {n h j : Nat} (hh : h < n) (hj : j < n) : at_ n h j < n := by unfold at_; split <;> omega
theorem dist_lt {n h i : Nat} (hh : h < n) (hi : i < n) : dist n h i < n := by unfold dist; split <;> omega
theorem at_dist {n h i : Nat} (hh : h < n) (hi : i < n) : at_ n h (dist n h i) = i := by unfold at_ dist; split <;> split <;> omega
theorem dist_at {n h j : Nat} (hh : h < n) (hj : j < n) : dist n h (at_ n h j) = j := by unfold at_ dist; split <;> split <;> omega
theorem tmod2 {a n : Nat} (h : a < 2 * n) (hn : n ≤ 1048577) : Int.tmod (wrap64 (a : Int)) (n : Int) = ((if a < n then a else a - n : Nat) : Int) := by
  rw [wr (by omega), Int.tmod_eq_emod_of_nonneg (by omega)]
  have : ((a : Int) % (n : Int)) = ((a % n : Nat) : Int) := rfl
  rw [this]
  congr 1
  split
  · exact Nat.mod_eq_of_lt (by omega)
  · rw [Nat.mod_eq_sub_mod (by omega)]
    exact Nat.mod_eq_of_lt (by omega)
theorem tmod_at {n h j : Nat} (hh : h < n) (hj : j < n) (hn : n ≤ 1048577) : Int.tmod (wrap64 ((h : Int) + (j : Int))) (n : Int) = ((at_ n h j : Nat) : Int) := by
  have := tmod2 (a := h + j) (n := n) (by omega) hn
  exact this
theorem tmod_next {n h j : Nat} (hh : h < n) (hj : j + 1 < n) (hn : n ≤ 1048577) : Int.tmod (wrap64 (((at_ n h j : Nat) : Int) + 1)) (n : Int) = ((at_ n h (j + 1) : Nat) : Int) := by
  have h1 := at_lt hh (show j < n by omega)
  have := tmod2 (a := at_ n h j + 1) (n := n) (by omega) hn
  rw [show (((at_ n h j : Nat) : Int) + 1) = ((at_ n h j + 1 : Nat) : Int) from rfl, this]
  congr 1
  unfold at_
  split <;> split <;> split <;> omega
def placeF (L : List S75) (q : S33) : Nat → Nat → Int
  | 0, _ => -1
  | d + 1, i => if (u L i && eqK (key L i) q) = true then (i : Int) else placeF L q d (i + 1)
theorem specPlace_ (L : List S75) (s : Int) (q : S33) (hL : L.length ≤ 1048577) : ∀ (d i k : Nat), i + d = L.length → d < k → spec_l11Place.l0 k (i : Int) s L q.f0 q.f1.f0.f0 q.f1.f0.f1 q.f1.f0.f2 q.f1.f0.f3 q.f1.f0.f4 q.f1.f1.f0 q.f1.f1.f1 q.f1.f1.f2 q.f1.f1.f3 q.f1.f1.f4 q.f1.f2 q.f1.f3 q.f1.f4 = some (placeF L q d i) := by
  intro d
  induction d with
  | zero =>
    intro i k h1 h2
    obtain ⟨k, rfl⟩ : ∃ k', k = k' + 1 := ⟨k - 1, by omega⟩
    simp only [spec_l11Place.l0]
    rw [if_neg (by omega)]
    rfl
  | succ d ih =>
    intro i k h1 h2
    obtain ⟨k, rfl⟩ : ∃ k', k = k' + 1 := ⟨k - 1, by omega⟩
    simp only [spec_l11Place.l0]
    rw [if_pos (by omega), if_pos (by omega), inc (by omega), ih (i + 1) k (by omega) (by omega)]
    simp only [rdc]
    show (if u L i = true then (if eqK (key L i) q = true then some (i : Int) else some (placeF L q d (i + 1))) else some (placeF L q d (i + 1))) = _
    simp only [placeF]
    cases u L i <;> cases eqK (key L i) q <;> rfl
theorem specPlace (L : List S75) (s : Int) (q : S33) (hL : L.length ≤ 1048577) {k : Nat} (hk : L.length < k) : spec_l11Place.f k s L q.f0 q.f1.f0.f0 q.f1.f0.f1 q.f1.f0.f2 q.f1.f0.f3 q.f1.f0.f4 q.f1.f1.f0 q.f1.f1.f1 q.f1.f1.f2 q.f1.f1.f3 q.f1.f1.f4 q.f1.f2 q.f1.f3 q.f1.f4 = some (placeF L q L.length 0) := by
  unfold spec_l11Place.f
  exact specPlace_ L s q hL L.length 0 k (by omega) hk
theorem placeF_spec (L : List S75) (q : S33) : ∀ d i, ((∀ j, i ≤ j → j < i + d → ¬ (u L j = true ∧ key L j = q)) ∧ placeF L q d i = -1) ∨ ∃ j, i ≤ j ∧ j < i + d ∧ (u L j = true ∧ key L j = q) ∧ (∀ m, i ≤ m → m < j → ¬ (u L m = true ∧ key L m = q)) ∧ placeF L q d i = (j : Int) := by
  intro d
  induction d with
  | zero => intro i; exact .inl ⟨fun j h1 h2 => by omega, rfl⟩
  | succ d ih =>
    intro i
    simp only [placeF]
    by_cases h : (u L i && eqK (key L i) q) = true
    · rw [if_pos h]
      rw [Bool.and_eq_true, eqK_iff] at h
      exact .inr ⟨i, by omega, by omega, h, fun m h1 h2 => by omega, rfl⟩
    · rw [if_neg h]
      rw [Bool.and_eq_true, eqK_iff] at h
      rcases ih (i + 1) with ⟨h1, h2⟩ | ⟨j, h1, h2, h3, h4, h5⟩
      · refine .inl ⟨fun j j1 j2 => ?_, h2⟩
        by_cases e : j = i
        · rw [e]; exact h
        · exact h1 j (by omega) (by omega)
      · refine .inr ⟨j, by omega, by omega, h3, fun m m1 m2 => ?_, h5⟩
        by_cases e : m = i
        · rw [e]; exact h
        · exact h4 m (by omega) m2
def probeF (L : List S75) (q : S33) (h : Nat) : Nat → Nat → Int
  | 0, _ => -1
  | d + 1, i => if (!u L (at_ L.length h i) || eqK (key L (at_ L.length h i)) q) = true then ((at_ L.length h i : Nat) : Int) else probeF L q h d (i + 1)
theorem implProbe_ (L : List S75) (s : Int) (q : S33) (h : Nat) (hh : h < L.length) (hL : L.length ≤ 1048577) : ∀ (d i k : Nat), i + d = L.length → d < k → impl_Table_probe.l0 k (L.length : Int) (h : Int) (L.length : Int) (i : Int) s L q.f0 q.f1.f0.f0 q.f1.f0.f1 q.f1.f0.f2 q.f1.f0.f3 q.f1.f0.f4 q.f1.f1.f0 q.f1.f1.f1 q.f1.f1.f2 q.f1.f1.f3 q.f1.f1.f4 q.f1.f2 q.f1.f3 q.f1.f4 = some (probeF L q h d i) := by
  intro d
  induction d with
  | zero =>
    intro i k h1 h2
    obtain ⟨k, rfl⟩ : ∃ k', k = k' + 1 := ⟨k - 1, by omega⟩
    simp only [impl_Table_probe.l0]
    rw [if_neg (by omega)]
    rfl
  | succ d ih =>
    intro i k h1 h2
    obtain ⟨k, rfl⟩ : ∃ k', k = k' + 1 := ⟨k - 1, by omega⟩
    have hi : i < L.length := by omega
    have e := tmod_at hh hi hL
    have hlt := at_lt hh hi
    simp only [impl_Table_probe.l0, e]
    rw [if_pos (by omega), if_neg (by omega), if_pos (by omega), if_pos (by omega), inc (by omega), ih (i + 1) k (by omega) (by omega)]
    simp only [rdc]
    show (if u L (at_ L.length h i) = true then (if eqK (key L (at_ L.length h i)) q = true then some ((at_ L.length h i : Nat) : Int) else some (probeF L q h d (i + 1))) else some ((at_ L.length h i : Nat) : Int)) = _
    simp only [probeF]
    cases u L (at_ L.length h i) <;> cases eqK (key L (at_ L.length h i)) q <;> rfl
theorem probeF_spec (L : List S75) (q : S33) (h : Nat) : ∀ d i, ((∀ j, i ≤ j → j < i + d → u L (at_ L.length h j) = true ∧ key L (at_ L.length h j) ≠ q) ∧ probeF L q h d i = -1) ∨ ∃ j, i ≤ j ∧ j < i + d ∧ (u L (at_ L.length h j) = false ∨ key L (at_ L.length h j) = q) ∧ (∀ m, i ≤ m → m < j → u L (at_ L.length h m) = true ∧ key L (at_ L.length h m) ≠ q) ∧ probeF L q h d i = ((at_ L.length h j : Nat) : Int) := by
  intro d
  induction d with
  | zero => intro i; exact .inl ⟨fun j h1 h2 => by omega, rfl⟩
  | succ d ih =>
    intro i
    simp only [probeF]
    by_cases hc : (!u L (at_ L.length h i) || eqK (key L (at_ L.length h i)) q) = true
    · rw [if_pos hc]
      rw [Bool.or_eq_true, Bool.not_eq_true', eqK_iff] at hc
      exact .inr ⟨i, by omega, by omega, hc, fun m h1 h2 => by omega, rfl⟩
    · rw [if_neg hc]
      rw [Bool.or_eq_true, Bool.not_eq_true', eqK_iff, not_or, Bool.not_eq_false] at hc
      rcases ih (i + 1) with ⟨h1, h2⟩ | ⟨j, h1, h2, h3, h4, h5⟩
      · refine .inl ⟨fun j j1 j2 => ?_, h2⟩
        by_cases e : j = i
        · rw [e]; exact hc
        · exact h1 j (by omega) (by omega)
      · refine .inr ⟨j, by omega, by omega, h3, fun m m1 m2 => ?_, h5⟩
        by_cases e : m = i
        · rw [e]; exact hc
        · exact h4 m (by omega) m2
theorem hm_lt (s : Int) (L : List S75) (q : S33) (h : 0 < L.length) : hm s L q < L.length := Nat.mod_lt _ h
theorem hm_eq {s : Int} (L : List S75) (q : S33) (hs : within s 0 4294967295 = true) : Int.tmod (hq s q) (L.length : Int) = ((hm s L q : Nat) : Int) := by
  have h : 0 ≤ hq s q := hash_R hs _ _ _ _ _ _ _ _ _ _ _ _ _ _
  unfold hm
  generalize hq s q = z at h
  obtain ⟨m, rfl⟩ : ∃ m : Nat, z = m := ⟨z.toNat, by omega⟩
  rw [Int.tmod_eq_emod_of_nonneg h]
  rfl
theorem specHome {s : Int} (L : List S75) (q : S33) (hs : within s 0 4294967295 = true) (hf : fko q = true) (hn : 0 < L.length) {k : Nat} (hk : 200 < k) : spec_l11Home.f k s L q.f0 q.f1.f0.f0 q.f1.f0.f1 q.f1.f0.f2 q.f1.f0.f3 q.f1.f0.f4 q.f1.f1.f0 q.f1.f1.f1 q.f1.f1.f2 q.f1.f1.f3 q.f1.f1.f4 q.f1.f2 q.f1.f3 q.f1.f4 = some ((hm s L q : Nat) : Int) := by
  unfold spec_l11Home.f
  rw [specHashF hs hf hk, Option.bind_some, if_neg (by omega)]
  exact congrArg some (hm_eq L q hs)
theorem implProbe {s : Int} (L : List S75) (q : S33) (hs : within s 0 4294967295 = true) (hn : 0 < L.length) (hL : L.length ≤ 1048577) {k : Nat} (hk : 200 < k) (hk2 : L.length < k) : impl_Table_probe.f k s L q.f0 q.f1.f0.f0 q.f1.f0.f1 q.f1.f0.f2 q.f1.f0.f3 q.f1.f0.f4 q.f1.f1.f0 q.f1.f1.f1 q.f1.f1.f2 q.f1.f1.f3 q.f1.f1.f4 q.f1.f2 q.f1.f3 q.f1.f4 = some (probeF L q (hm s L q) L.length 0) := by
  unfold impl_Table_probe.f
  rw [implHashOf _ _ _ _ _ _ _ _ _ _ _ _ _ _ _ hk, Option.bind_some, if_neg (by omega)]
  have e := hm_eq L q hs
  unfold hq at e
  rw [e]
  exact implProbe_ L s q (hm s L q) (hm_lt s L q hn) hL L.length 0 k (by omega) hk2
def walkF (L : List S75) (h : Nat) : Nat → Nat → Bool
  | 0, _ => true
  | r + 1, j => u L (at_ L.length h j) && walkF L h r (j + 1)
theorem walkF_iff (L : List S75) (h : Nat) : ∀ r j, walkF L h r j = true ↔ ∀ m, j ≤ m → m < j + r → u L (at_ L.length h m) = true := by
  intro r
  induction r with
  | zero => intro j; simp only [walkF, true_iff]; intro m h1 h2; omega
  | succ r ih =>
    intro j
    simp only [walkF, Bool.and_eq_true]
    rw [ih (j + 1)]
    constructor
    · rintro ⟨h1, h2⟩ m m1 m2
      by_cases e : m = j
      · rw [e]; exact h1
      · exact h2 m (by omega) (by omega)
    · intro hm
      exact ⟨hm j (by omega) (by omega), fun m m1 m2 => hm m (by omega) (by omega)⟩
theorem specWalk (L : List S75) (s : Int) (h i : Nat) (hh : h < L.length) (hi : i < L.length) (hL : L.length ≤ 1048577) (b : Bool) (K : Nat) (hb : ∀ k, K ≤ k → spec_TableOk.l0 k (L.length : Int) ((i + 1 : Nat) : Int) s L = some b) : ∀ (r j k : Nat), j + r = dist L.length h i → K + r + 1 ≤ k → spec_TableOk.l1 k (L.length : Int) (i : Int) ((at_ L.length h j : Nat) : Int) s L = some (walkF L h r j && b) := by
  intro r
  induction r with
  | zero =>
    intro j k h1 h2
    obtain ⟨k, rfl⟩ : ∃ k', k = k' + 1 := ⟨k - 1, by omega⟩
    have hj : at_ L.length h j = i := by rw [show j = dist L.length h i by omega]; exact at_dist hh hi
    simp only [spec_TableOk.l1]
    rw [hj, if_pos rfl, inc (by omega), hb k (by omega)]
    rfl
  | succ r ih =>
    intro j k h1 h2
    obtain ⟨k, rfl⟩ : ∃ k', k = k' + 1 := ⟨k - 1, by omega⟩
    have hd := dist_lt hh hi
    have hlt := at_lt hh (show j < L.length by omega)
    have hne : at_ L.length h j ≠ i := by
      intro e
      have := dist_at hh (show j < L.length by omega)
      rw [e] at this
      omega
    have e := tmod_next hh (show j + 1 < L.length by omega) hL
    have hx0 : ¬ ((L.length : Int) = 0) := by omega
    simp only [spec_TableOk.l1, e, if_neg hx0]
    rw [if_neg (by omega), if_pos (by omega), if_pos (by omega), ih (j + 1) k (by omega) (by omega)]
    simp only [rdc]
    show (if u L (at_ L.length h j) = true then some (walkF L h r (j + 1) && b) else some false) = some (walkF L h (r + 1) j && b)
    simp only [walkF]
    cases u L (at_ L.length h j) <;> rfl
def specChk (L : List S75) (s : Int) (i : Nat) : Bool := if u L i = true then fko (key L i) && (within (val L i) 0 1000000000000 && ((placeF L (key L i) L.length 0 == (i : Int)) && walkF L (hm s L (key L i)) (dist L.length (hm s L (key L i)) i) 0)) else !nz (cell L i)
def implChk (L : List S75) (s : Int) (i : Nat) : Bool := if u L i = true then fko (key L i) && (within (val L i) 0 1000000000000 && (probeF L (key L i) (hm s L (key L i)) L.length 0 == (i : Int))) else !nz (cell L i)
def allF (c : Nat → Bool) : Nat → Nat → Bool
  | 0, _ => true
  | d + 1, i => c i && allF c d (i + 1)
theorem allF_iff (c : Nat → Bool) : ∀ d i, allF c d i = true ↔ ∀ j, i ≤ j → j < i + d → c j = true := by
  intro d
  induction d with
  | zero => intro i; simp only [allF, true_iff]; intro m h1 h2; omega
  | succ d ih =>
    intro i
    simp only [allF, Bool.and_eq_true]
    rw [ih (i + 1)]
    constructor
    · rintro ⟨h1, h2⟩ m m1 m2
      by_cases e : m = i
      · rw [e]; exact h1
      · exact h2 m (by omega) (by omega)
    · intro hm
      exact ⟨hm i (by omega) (by omega), fun m m1 m2 => hm m (by omega) (by omega)⟩
theorem chk_all (L : List S75) (s : Int) (hn : 0 < L.length) : allF (specChk L s) L.length 0 = allF (implChk L s) L.length 0 := by
  have hlt : ∀ q, hm s L q < L.length := fun q => hm_lt s L q hn
  rw [Bool.eq_iff_iff, allF_iff, allF_iff]
  constructor
  · intro hp i hi0 hi1
    have hi : i < L.length := by omega
    have hs := hp i hi0 hi1
    unfold specChk at hs
    unfold implChk
    cases hu : u L i with
    | false => rw [hu, if_neg (by decide)] at hs; rw [if_neg (by decide)]; exact hs
    | true =>
      rw [hu, if_pos rfl, Bool.and_eq_true, Bool.and_eq_true, Bool.and_eq_true, beq_iff_eq, walkF_iff] at hs
      obtain ⟨h1, h2, h3, h4⟩ := hs
      rw [if_pos rfl, Bool.and_eq_true, Bool.and_eq_true, beq_iff_eq]
      refine ⟨h1, h2, ?_⟩
      have hd := dist_lt (hlt (key L i)) hi
      have had := at_dist (hlt (key L i)) hi
      have hone : ∀ m, m < L.length → u L m = true → key L m = key L i → m = i := by
        intro m hm1 hm2 hm3
        have hs2 := hp m (by omega) (by omega)
        unfold specChk at hs2
        rw [hm2, if_pos rfl, Bool.and_eq_true, Bool.and_eq_true, Bool.and_eq_true, beq_iff_eq] at hs2
        have e1 := hs2.2.2.1
        rw [hm3, h3] at e1
        omega
      rcases probeF_spec L (key L i) (hm s L (key L i)) L.length 0 with ⟨g1, g2⟩ | ⟨j, g1, g2, g3, g4, g5⟩
      · exact absurd (by rw [had]) (g1 (dist L.length (hm s L (key L i)) i) (by omega) (by omega)).2
      · rw [g5]
        rcases Nat.lt_trichotomy j (dist L.length (hm s L (key L i)) i) with hj | hj | hj
        · have hat := at_lt (hlt (key L i)) (show j < L.length by omega)
          have hu2 := h4 j (by omega) (by omega)
          rcases g3 with g3 | g3
          · rw [hu2] at g3
            cases g3
          · rw [hone _ hat hu2 g3]
        · rw [hj, had]
        · exact absurd (by rw [had]) (g4 (dist L.length (hm s L (key L i)) i) (by omega) hj).2
  · intro hp i hi0 hi1
    have hi : i < L.length := by omega
    have hs := hp i hi0 hi1
    unfold implChk at hs
    unfold specChk
    have step_ : ∀ m, m < L.length → u L m = true → ∀ t, t < dist L.length (hm s L (key L m)) m → u L (at_ L.length (hm s L (key L m)) t) = true ∧ key L (at_ L.length (hm s L (key L m)) t) ≠ key L m := by
      intro m hm1 hm2 t ht
      have hs2 := hp m (by omega) (by omega)
      unfold implChk at hs2
      rw [hm2, if_pos rfl, Bool.and_eq_true, Bool.and_eq_true, beq_iff_eq] at hs2
      have e1 := hs2.2.2
      have hd := dist_lt (hlt (key L m)) hm1
      rcases probeF_spec L (key L m) (hm s L (key L m)) L.length 0 with ⟨g1, g2⟩ | ⟨j, g1, g2, g3, g4, g5⟩
      · omega
      · rw [g5] at e1
        have e2 : at_ L.length (hm s L (key L m)) j = m := by omega
        have e3 := dist_at (hlt (key L m)) (show j < L.length by omega)
        rw [e2] at e3
        exact g4 t (by omega) (by omega)
    cases hu : u L i with
    | false => rw [hu, if_neg (by decide)] at hs; rw [if_neg (by decide)]; exact hs
    | true =>
      rw [hu, if_pos rfl, Bool.and_eq_true, Bool.and_eq_true, beq_iff_eq] at hs
      obtain ⟨h1, h2, h3⟩ := hs
      rw [if_pos rfl, Bool.and_eq_true, Bool.and_eq_true, Bool.and_eq_true, beq_iff_eq, walkF_iff]
      refine ⟨h1, h2, ?_, fun m m1 m2 => (step_ i hi hu m (by omega)).1⟩
      rcases placeF_spec L (key L i) L.length 0 with ⟨g1, g2⟩ | ⟨j, g1, g2, ⟨g3, g3'⟩, g4, g5⟩
      · exact absurd ⟨hu, rfl⟩ (g1 i (by omega) (by omega))
      · rw [g5]
        congr 1
        have hjn : j < L.length := by omega
        have a1 := at_dist (hlt (key L i)) hi
        have a2 := at_dist (hlt (key L i)) hjn
        rcases Nat.lt_trichotomy (dist L.length (hm s L (key L i)) j) (dist L.length (hm s L (key L i)) i) with hd | hd | hd
        · exact absurd (by rw [a2, g3']) (step_ i hi hu _ hd).2
        · rw [hd, a1] at a2
          exact a2.symm
        · have := (step_ j hjn g3 (dist L.length (hm s L (key L i)) i) (by rw [g3']; exact hd)).2
          rw [g3', a1] at this
          exact absurd rfl this
theorem j2_true (m : Nat) (n i s : Int) (L : List S75) (x0 : Bool) (x1 x2 x3 x4 x5 x6 x7 x8 x9 x10 x11 x12 x13 x14 x15 : Int) : spec_TableOk.j2 (m + 1) n i true s L x0 x1 x2 x3 x4 x5 x6 x7 x8 x9 x10 x11 x12 x13 x14 x15 = some false := by
  simp only [spec_TableOk.j2]
  rfl
theorem j2_false (m : Nat) (n i s : Int) (L : List S75) (x0 : Bool) (x1 x2 x3 x4 x5 x6 x7 x8 x9 x10 x11 x12 x13 x14 x15 : Int) : spec_TableOk.j2 (m + 1) n i false s L x0 x1 x2 x3 x4 x5 x6 x7 x8 x9 x10 x11 x12 x13 x14 x15 = ((spec_l11Home.f m s L x1 x2 x3 x4 x5 x6 x7 x8 x9 x10 x11 x12 x13 x14).bind fun t306 => (spec_TableOk.l1 m n i t306 s L)) := by
  simp only [spec_TableOk.j2]
  rfl
theorem specOk_ (L : List S75) (s : Int) (hs : within s 0 4294967295 = true) (hn : 0 < L.length) (hL : L.length ≤ 64) : ∀ (d i k : Nat), i + d = L.length → 80 * d + 400 ≤ k → spec_TableOk.l0 k (L.length : Int) (i : Int) s L = some (allF (specChk L s) d i) := by
  intro d
  induction d with
  | zero =>
    intro i k h1 h2
    obtain ⟨k, rfl⟩ : ∃ k', k = k' + 1 := ⟨k - 1, by omega⟩
    simp only [spec_TableOk.l0]
    rw [if_neg (by omega)]
    rfl
  | succ d ih =>
    intro i k h1 h2
    obtain ⟨k, rfl⟩ : ∃ k', k = k' + 1 := ⟨k - 1, by omega⟩
    have hi : i < L.length := by omega
    have hj : ∀ (b : Bool) (x0 : Bool) (x1 x2 x3 x4 x5 x6 x7 x8 x9 x10 x11 x12 x13 x14 x15 : Int), b = true → spec_TableOk.j2 k (L.length : Int) (i : Int) b s L x0 x1 x2 x3 x4 x5 x6 x7 x8 x9 x10 x11 x12 x13 x14 x15 = some false := by
      intro b x0 x1 x2 x3 x4 x5 x6 x7 x8 x9 x10 x11 x12 x13 x14 x15 hb
      obtain ⟨m, rfl⟩ : ∃ m, k = m + 1 := ⟨k - 1, by omega⟩
      rw [hb, j2_true]
    simp only [spec_TableOk.l0]
    rw [if_pos (by omega), if_pos (by omega), if_pos (by omega)]
    simp only [rdc]
    simp only [allF, specChk]
    cases hu : u L i with
    | false =>
      rw [if_neg (show ¬ (cell L i).f0 = true from by rw [show (cell L i).f0 = false from hu]; decide), if_neg (show ¬ (false = true) by decide), inc (by omega), ih (i + 1) k (by omega) (by omega)]
      show (if nz (cell L i) = true then some false else some (allF (specChk L s) d (i + 1))) = _
      cases nz (cell L i) <;> rfl
    | true =>
      rw [if_pos (show (cell L i).f0 = true from hu), if_pos rfl, specFlowKey, Option.bind_some]
      show (if fko (key L i) = true then (if val L i < 0 then _ else _) else _) = _
      cases hf : fko (key L i) with
      | false => rw [if_neg (by decide), hj _ _ _ _ _ _ _ _ _ _ _ _ _ _ _ _ _ rfl]; rfl
      | true =>
        rw [if_pos rfl]
        by_cases hv0 : val L i < 0
        · rw [if_pos hv0, hj _ _ _ _ _ _ _ _ _ _ _ _ _ _ _ _ _ rfl]
          rw [show within (val L i) 0 1000000000000 = false from decide_eq_false (by omega)]
          rfl
        · rw [if_neg hv0]
          show (if val L i > 1000000000000 then _ else _) = _
          by_cases hv1 : val L i > 1000000000000
          · rw [if_pos hv1, hj _ _ _ _ _ _ _ _ _ _ _ _ _ _ _ _ _ rfl]
            rw [show within (val L i) 0 1000000000000 = false from decide_eq_false (by omega)]
            rfl
          · rw [if_neg hv1, show within (val L i) 0 1000000000000 = true from decide_eq_true (by omega)]
            have hp := specPlace L s (key L i) (by omega) (k := k) (by omega)
            have hp' : spec_l11Place.f k s L ((cell L i).f1.f0) ((cell L i).f1.f1.f0.f0) ((cell L i).f1.f1.f0.f1) ((cell L i).f1.f1.f0.f2) ((cell L i).f1.f1.f0.f3) ((cell L i).f1.f1.f0.f4) ((cell L i).f1.f1.f1.f0) ((cell L i).f1.f1.f1.f1) ((cell L i).f1.f1.f1.f2) ((cell L i).f1.f1.f1.f3) ((cell L i).f1.f1.f1.f4) ((cell L i).f1.f1.f2) ((cell L i).f1.f1.f3) ((cell L i).f1.f1.f4) = some (placeF L (key L i) L.length 0) := hp
            rw [hp', Option.bind_some]
            by_cases he : placeF L (key L i) L.length 0 = (i : Int)
            · obtain ⟨m, rfl⟩ : ∃ m, k = m + 1 := ⟨k - 1, by omega⟩
              rw [he]
              have hhome : spec_l11Home.f m s L ((cell L i).f1.f0) ((cell L i).f1.f1.f0.f0) ((cell L i).f1.f1.f0.f1) ((cell L i).f1.f1.f0.f2) ((cell L i).f1.f1.f0.f3) ((cell L i).f1.f1.f0.f4) ((cell L i).f1.f1.f1.f0) ((cell L i).f1.f1.f1.f1) ((cell L i).f1.f1.f1.f2) ((cell L i).f1.f1.f1.f3) ((cell L i).f1.f1.f1.f4) ((cell L i).f1.f1.f2) ((cell L i).f1.f1.f3) ((cell L i).f1.f1.f4) = some ((hm s L (key L i) : Nat) : Int) := specHome L (key L i) hs hf hn (by omega)
              have hat : at_ L.length (hm s L (key L i)) 0 = hm s L (key L i) := by
                have := hm_lt s L (key L i) hn
                unfold at_
                rw [if_pos (by omega)]
                rfl
              have hw := specWalk L s (hm s L (key L i)) i (hm_lt s L _ hn) hi (by omega) (allF (specChk L s) d (i + 1)) (80 * d + 400) (fun k' hk' => ih (i + 1) k' (by omega) hk') (dist L.length (hm s L (key L i)) i) 0 m (by omega) (by
                have := dist_lt (hm_lt s L (key L i) hn) hi
                omega)
              rw [hat] at hw
              rw [show ((i : Int) != (i : Int)) = false by simp, j2_false, hhome, Option.bind_some, hw]
              simp
            · rw [hj _ _ _ _ _ _ _ _ _ _ _ _ _ _ _ _ _ (by simpa using he), show (placeF L (key L i) L.length 0 == (i : Int)) = false by simpa using he]
              rfl
theorem implOk_ (L : List S75) (s : Int) (hs : within s 0 4294967295 = true) (hn : 0 < L.length) (hL : L.length ≤ 64) : ∀ (d i k : Nat), i + d = L.length → d + 400 ≤ k → impl_TableOk.l0 k L (L.length : Int) (i : Int) s L = some (allF (implChk L s) d i) := by
  intro d
  induction d with
  | zero =>
    intro i k h1 h2
    obtain ⟨k, rfl⟩ : ∃ k', k = k' + 1 := ⟨k - 1, by omega⟩
    simp only [impl_TableOk.l0]
    rw [if_neg (by omega)]
    rfl
  | succ d ih =>
    intro i k h1 h2
    obtain ⟨k, rfl⟩ : ∃ k', k = k' + 1 := ⟨k - 1, by omega⟩
    have hi : i < L.length := by omega
    simp only [impl_TableOk.l0]
    rw [if_pos (by omega), if_pos (by omega), if_pos (by omega), inc (by omega), ih (i + 1) k (by omega) (by omega)]
    simp only [rdc]
    simp only [allF, implChk]
    cases hu : u L i with
    | false =>
      rw [if_neg (show ¬ (cell L i).f0 = true from by rw [show (cell L i).f0 = false from hu]; decide), if_neg (show ¬ (false = true) by decide)]
      show (if nz (cell L i) = true then some false else some (allF (implChk L s) d (i + 1))) = _
      cases nz (cell L i) <;> rfl
    | true =>
      have hp : impl_Table_probe.f k s L ((cell L i).f1.f0) ((cell L i).f1.f1.f0.f0) ((cell L i).f1.f1.f0.f1) ((cell L i).f1.f1.f0.f2) ((cell L i).f1.f1.f0.f3) ((cell L i).f1.f1.f0.f4) ((cell L i).f1.f1.f1.f0) ((cell L i).f1.f1.f1.f1) ((cell L i).f1.f1.f1.f2) ((cell L i).f1.f1.f1.f3) ((cell L i).f1.f1.f1.f4) ((cell L i).f1.f1.f2) ((cell L i).f1.f1.f3) ((cell L i).f1.f1.f4) = some (probeF L (key L i) (hm s L (key L i)) L.length 0) := implProbe L (key L i) hs hn (by omega) (by omega) (by omega)
      have hfk : impl_FlowKeyOk.f k ((cell L i).f1.f0) ((cell L i).f1.f1.f0.f0) ((cell L i).f1.f1.f0.f1) ((cell L i).f1.f1.f0.f2) ((cell L i).f1.f1.f0.f3) ((cell L i).f1.f1.f0.f4) ((cell L i).f1.f1.f1.f0) ((cell L i).f1.f1.f1.f1) ((cell L i).f1.f1.f1.f2) ((cell L i).f1.f1.f1.f3) ((cell L i).f1.f1.f1.f4) ((cell L i).f1.f1.f2) ((cell L i).f1.f1.f3) ((cell L i).f1.f1.f4) = some (fko (key L i)) := implFlowKey _ _ _ _ _ _ _ _ _ _ _ _ _ _ (by omega)
      rw [if_pos (show (cell L i).f0 = true from hu), if_pos rfl, hfk, Option.bind_some, within_eq, Option.bind_some, hp, Option.bind_some]
      show (if fko (key L i) = true then (if within (val L i) 0 1000000000000 = true then (if probeF L (key L i) (hm s L (key L i)) L.length 0 = (i : Int) then _ else _) else _) else _) = _
      cases fko (key L i) <;> cases within (val L i) 0 1000000000000 <;> by_cases he : probeF L (key L i) (hm s L (key L i)) L.length 0 = (i : Int) <;> simp [he]
def cntF (L : List S75) : Nat → Nat → Int → Int
  | 0, _, x => x
  | d + 1, i, x => cntF L d (i + 1) (if u L i = true then wrap64 (x + 1) else x)
theorem specCnt_ (L : List S75) (s : Int) (hL : L.length ≤ 1048577) : ∀ (d i k : Nat) (x : Int), i + d = L.length → d < k → spec_l11Count.l0 k x (i : Int) s L = some (cntF L d i x) := by
  intro d
  induction d with
  | zero =>
    intro i k x h1 h2
    obtain ⟨k, rfl⟩ : ∃ k', k = k' + 1 := ⟨k - 1, by omega⟩
    simp only [spec_l11Count.l0]
    rw [if_neg (by omega)]
    rfl
  | succ d ih =>
    intro i k x h1 h2
    obtain ⟨k, rfl⟩ : ∃ k', k = k' + 1 := ⟨k - 1, by omega⟩
    simp only [spec_l11Count.l0]
    rw [if_pos (by omega), if_pos (by omega), inc (by omega), ih (i + 1) k _ (by omega) (by omega), ih (i + 1) k _ (by omega) (by omega)]
    simp only [rdc]
    show (if u L i = true then _ else _) = _
    simp only [cntF]
    cases u L i <;> rfl
theorem implCnt_ (L : List S75) (hL : L.length ≤ 1048577) : ∀ (d i k : Nat) (x : Int), i + d = L.length → d < k → impl_Table_used.l0 k x L (L.length : Int) (i : Int) = some (cntF L d i x) := by
  intro d
  induction d with
  | zero =>
    intro i k x h1 h2
    obtain ⟨k, rfl⟩ : ∃ k', k = k' + 1 := ⟨k - 1, by omega⟩
    simp only [impl_Table_used.l0]
    rw [if_neg (by omega)]
    rfl
  | succ d ih =>
    intro i k x h1 h2
    obtain ⟨k, rfl⟩ : ∃ k', k = k' + 1 := ⟨k - 1, by omega⟩
    simp only [impl_Table_used.l0]
    rw [if_pos (by omega), if_pos (by omega), if_pos (by omega), inc (by omega), ih (i + 1) k _ (by omega) (by omega), ih (i + 1) k _ (by omega) (by omega)]
    simp only [rdc]
    show (if u L i = true then _ else _) = _
    simp only [cntF]
    cases u L i <;> rfl
def cnt (L : List S75) : Int := cntF L L.length 0 0
theorem specCnt (L : List S75) (s : Int) (hL : L.length ≤ 1048577) {k : Nat} (hk : L.length < k) : spec_l11Count.f k s L = some (cnt L) := by
  unfold spec_l11Count.f
  exact specCnt_ L s hL L.length 0 k 0 (by omega) hk
theorem implCnt (L : List S75) (s : Int) (hL : L.length ≤ 1048577) {k : Nat} (hk : L.length < k) : impl_Table_used.f k s L = some (cnt L) := by
  unfold impl_Table_used.f
  exact implCnt_ L hL L.length 0 k 0 (by omega) hk
def sizeOk (n : Nat) : Bool := decide (n = 4 ∨ n = 8 ∨ n = 16 ∨ n = 32 ∨ n = 64)
def tabOk (s : Int) (L : List S75) : Bool := within s 0 4294967295 && (sizeOk L.length && (!decide (wrap64 (4 * cnt L) > wrap64 (3 * (L.length : Int))) && allF (implChk L s) L.length 0))
theorem implTab (s : Int) (L : List S75) (hL : L.length ≤ 1048577) {k : Nat} (hk : L.length + 500 < k) : impl_TableOk.f k s L = some (tabOk s L) := by
  obtain ⟨k, rfl⟩ : ∃ k', k = k' + 1 := ⟨k - 1, by omega⟩
  have hj : impl_TableOk.j0 (k + 1) true s L = some false := by
    simp only [impl_TableOk.j0]
    rfl
  unfold impl_TableOk.f tabOk
  rw [within_eq, Option.bind_some]
  cases hs : within s 0 4294967295 with
  | false => rw [if_neg (by decide), hj]; rfl
  | true =>
    have hc : impl_isCells.f (L.length : Int) = some (sizeOk L.length) := by
      unfold impl_isCells.f sizeOk
      by_cases h1 : (L.length : Int) = 4
      · rw [if_pos h1, decide_eq_true (by omega)]
      · rw [if_neg h1]
        by_cases h2 : (L.length : Int) = 8
        · rw [if_pos h2, decide_eq_true (by omega)]
        · rw [if_neg h2]
          by_cases h3 : (L.length : Int) = 16
          · rw [if_pos h3, decide_eq_true (by omega)]
          · rw [if_neg h3]
            by_cases h4 : (L.length : Int) = 32
            · rw [if_pos h4, decide_eq_true (by omega)]
            · rw [if_neg h4]
              by_cases h5 : (L.length : Int) = 64
              · rw [decide_eq_true (by omega), h5]; rfl
              · rw [decide_eq_false (by omega)]
                exact congrArg some (beq_eq_false_iff_ne.2 h5)
    rw [if_pos rfl, hc, Option.bind_some]
    cases hz : sizeOk L.length with
    | false => rw [if_neg (by decide), hj]; rfl
    | true =>
      have hz' := of_decide_eq_true hz
      rw [if_pos rfl, implCnt L s hL (by omega), Option.bind_some]
      cases hd : decide (wrap64 (4 * cnt L) > wrap64 (3 * (L.length : Int))) with
      | true => rw [hj]; rfl
      | false =>
        simp only [impl_TableOk.j0]
        rw [if_neg (by decide)]
        exact (implOk_ L s hs (by omega) (by omega) L.length 0 k (by omega) (by omega)).trans (by rfl)
theorem specTab (s : Int) (L : List S75) (hL : L.length ≤ 1048577) {k : Nat} (hk : L.length + 6000 < k) : spec_TableOk.f k s L = some (tabOk s L) := by
  obtain ⟨k, rfl⟩ : ∃ k', k = k' + 1 := ⟨k - 1, by omega⟩
  have hj : spec_TableOk.j0 (k + 1) (L.length : Int) true s L = some false := by
    simp only [spec_TableOk.j0]
    rfl
  unfold spec_TableOk.f tabOk
  by_cases h0 : s < 0
  · rw [if_pos h0, hj, show within s 0 4294967295 = false from decide_eq_false (by omega)]; rfl
  · rw [if_neg h0]
    by_cases h1 : s > 4294967295
    · rw [if_pos h1, hj, show within s 0 4294967295 = false from decide_eq_false (by omega)]; rfl
    · have hs : within s 0 4294967295 = true := decide_eq_true (by omega)
      rw [if_neg h1, hs]
      have hf : sizeOk L.length = true → spec_TableOk.j0 (k + 1) (L.length : Int) false s L = some (true && (sizeOk L.length && (!decide (wrap64 (4 * cnt L) > wrap64 (3 * (L.length : Int))) && allF (implChk L s) L.length 0))) := by
        intro hz
        have hz' := of_decide_eq_true hz
        simp only [spec_TableOk.j0]
        rw [if_neg (by decide), specCnt L s hL (by omega), Option.bind_some, hz]
        by_cases hd : wrap64 (4 * cnt L) > wrap64 (3 * (L.length : Int))
        · rw [if_pos hd, decide_eq_true hd]; rfl
        · rw [if_neg hd, decide_eq_false hd, ← chk_all L s (by omega)]
          exact (specOk_ L s hs (by omega) (by omega) L.length 0 k (by omega) (by omega)).trans (by rfl)
      by_cases h4 : (L.length : Int) = 4
      · rw [if_pos h4, hf (decide_eq_true (by omega))]
      · rw [if_neg h4]
        by_cases h8 : (L.length : Int) = 8
        · rw [if_pos h8, hf (decide_eq_true (by omega))]
        · rw [if_neg h8]
          by_cases h16 : (L.length : Int) = 16
          · rw [if_pos h16, hf (decide_eq_true (by omega))]
          · rw [if_neg h16]
            by_cases h32 : (L.length : Int) = 32
            · rw [if_pos h32, hf (decide_eq_true (by omega))]
            · rw [if_neg h32]
              by_cases h64 : (L.length : Int) = 64
              · rw [show ((L.length : Int) != 64) = false by rw [h64]; rfl, hf (decide_eq_true (by omega))]
              · rw [show ((L.length : Int) != 64) = true from bne_iff_ne.2 h64, hj, show sizeOk L.length = false from decide_eq_false (by omega)]
                rfl
theorem tabOk_facts {s : Int} {L : List S75} (h : tabOk s L = true) : within s 0 4294967295 = true ∧ 0 < L.length ∧ ∀ i, i < L.length → implChk L s i = true := by
  unfold tabOk at h
  rw [Bool.and_eq_true, Bool.and_eq_true, Bool.and_eq_true, allF_iff] at h
  obtain ⟨h1, h2, _, h4⟩ := h
  have h2' := of_decide_eq_true h2
  exact ⟨h1, by omega, fun i hi => h4 i (by omega) (by omega)⟩
def findF (L : List S75) (q : S33) : Int × Bool := if placeF L q L.length 0 < 0 then (0, false) else ((cell L (placeF L q L.length 0).toNat).f2, true)
theorem findI {s : Int} {L : List S75} (hn : 0 < L.length) (hc : ∀ i, i < L.length → implChk L s i = true) (q : S33) : (if probeF L q (hm s L q) L.length 0 < 0 then (some ((0 : Int), false)) else (if 0 ≤ probeF L q (hm s L q) L.length 0 then (if probeF L q (hm s L q) L.length 0 < (L.length : Int) then (if ((rd_T75 L (probeF L q (hm s L q) L.length 0)).f0 = true) then (some ((rd_T75 L (probeF L q (hm s L q) L.length 0)).f2, true)) else (some (0, false))) else (none)) else (none))) = some (findF L q) := by
  unfold findF
  rcases placeF_spec L q L.length 0 with ⟨g1, g2⟩ | ⟨j, g1, g2, ⟨g3, g3'⟩, g4, g5⟩
  · rw [g2, if_pos (show (-1 : Int) < 0 by omega)]
    rcases probeF_spec L q (hm s L q) L.length 0 with ⟨p1, p2⟩ | ⟨i, p1, p2, p3, p4, p5⟩
    · rw [p2, if_pos (by omega)]
    · have hlt := at_lt (hm_lt s L q hn) (show i < L.length by omega)
      rw [p5, if_neg (by omega), if_pos (by omega), if_pos (by omega), rdc]
      rw [if_neg]
      intro hu
      rcases p3 with p3 | p3
      · rw [show u L (at_ L.length (hm s L q) i) = true from hu] at p3
        cases p3
      · exact g1 _ (by omega) (by omega) ⟨hu, p3⟩
  · have hj : j < L.length := by omega
    have hcj := hc j hj
    unfold implChk at hcj
    rw [g3, if_pos rfl, Bool.and_eq_true, Bool.and_eq_true, beq_iff_eq, g3'] at hcj
    rw [hcj.2.2, g5, if_neg (by omega), if_pos (by omega), if_pos (by omega), rdc, if_pos (show (cell L j).f0 = true from g3), if_neg (by omega), Int.toNat_natCast]
/-! #### what the law's own functions do -/
def conv (y : S94) : S75 := ⟨y.f0, ⟨y.f1.f0, ⟨⟨y.f1.f1.f0.f0, y.f1.f1.f0.f1, y.f1.f1.f0.f2, y.f1.f1.f0.f3, y.f1.f1.f0.f4⟩, ⟨y.f1.f1.f1.f0, y.f1.f1.f1.f1, y.f1.f1.f1.f2, y.f1.f1.f1.f3, y.f1.f1.f1.f4⟩, y.f1.f1.f2, y.f1.f1.f3, y.f1.f1.f4⟩⟩, y.f2⟩
theorem toS_ (l : List S94) (hl : l.length ≤ 1048577) : ∀ (d i k : Nat) (x : List S75), i + d = l.length → d < k → x.length = l.length → x.take i = (l.map conv).take i → laws_toCellS.l0 k l x (i : Int) = some (l.map conv) := by
  intro d
  induction d with
  | zero =>
    intro i k x h1 h2 h3 h4
    obtain ⟨k, rfl⟩ : ∃ k', k = k' + 1 := ⟨k - 1, by omega⟩
    simp only [laws_toCellS.l0]
    rw [if_neg (by omega)]
    rw [List.take_of_length_le (by omega), List.take_of_length_le (by simp; omega)] at h4
    rw [h4]
  | succ d ih =>
    intro i k x h1 h2 h3 h4
    obtain ⟨k, rfl⟩ : ∃ k', k = k' + 1 := ⟨k - 1, by omega⟩
    have hi : i < l.length := by omega
    have hc : rd_T94 l (i : Int) = l[i] := by simp [rd_T94, hi]
    simp only [laws_toCellS.l0, hc, laws_toCell.f, laws_toFlowKey.f, laws_toKey.f, laws_toAddr.f, Option.bind_some]
    rw [if_pos (by omega), if_pos (by omega), if_pos (by omega), inc (by omega), Int.toNat_natCast]
    refine ih (i + 1) k _ (by omega) (by omega) (by simp [h3]) ?_
    rw [List.take_add_one, List.take_add_one, List.take_set_of_le (Nat.le_refl i), h4]
    congr 1
    rw [List.getElem?_set_self (by omega), List.getElem?_map, List.getElem?_eq_getElem hi]
    rfl
theorem toTabF (s : Int) (l : List S94) (hl : l.length ≤ 1048577) {k : Nat} (hk : l.length < k) : laws_toTable.f k s l = some (s, l.map conv) := by
  unfold laws_toTable.f laws_toCellS.f
  rw [if_pos (by omega), if_pos (by omega)]
  have := toS_ l hl l.length 0 k (List.replicate ((l.length : Int) : Int).toNat z75) (by omega) hk (by simp) (by simp)
  rw [show ((0 : Nat) : Int) = 0 from rfl] at this
  rw [this]
  rfl
theorem eqCellR (b : Bool) (x1 x2 x3 x4 x5 x6 x7 x8 x9 x10 x11 x12 x13 x14 x15 : Int) : laws_eqCell.f b x1 x2 x3 x4 x5 x6 x7 x8 x9 x10 x11 x12 x13 x14 x15 b x1 x2 x3 x4 x5 x6 x7 x8 x9 x10 x11 x12 x13 x14 x15 = some true := by
  have e : (b != b) = false := by cases b <;> rfl
  simp only [laws_eqCell.f, laws_eqFlowKey.f, laws_eqKey.f, laws_eqAddr.f, if_true, Option.bind_some, e, Bool.false_eq_true, if_false]
theorem eqS_ (L : List S75) (hL : L.length ≤ 1048577) : ∀ (d i k : Nat), i + d = L.length → d < k → laws_eqCellS.l0 k L L (i : Int) = some true := by
  intro d
  induction d with
  | zero =>
    intro i k h1 h2
    obtain ⟨k, rfl⟩ : ∃ k', k = k' + 1 := ⟨k - 1, by omega⟩
    simp only [laws_eqCellS.l0]
    rw [if_neg (by omega)]
  | succ d ih =>
    intro i k h1 h2
    obtain ⟨k, rfl⟩ : ∃ k', k = k' + 1 := ⟨k - 1, by omega⟩
    simp only [laws_eqCellS.l0]
    rw [if_pos (by omega), if_pos (by omega), if_pos (by omega), eqCellR, Option.bind_some, if_pos rfl, inc (by omega)]
    exact ih (i + 1) k (by omega) (by omega)
theorem eqTabF (s : Int) (L : List S75) (hL : L.length ≤ 1048577) {k : Nat} (hk : L.length < k) : laws_eqTable.f k s L s L = some true := by
  unfold laws_eqTable.f laws_eqCellS.f
  rw [if_pos rfl, if_pos rfl]
  have := eqS_ L hL L.length 0 k (by omega) hk
  rw [show ((0 : Nat) : Int) = 0 from rfl] at this
  rw [this]
  rfl
theorem sz_small {s : Int} {l : List S94} (h : l.length ≤ 1048576) : laws_szTable.f s l 1048576 = some (1048576 - (l.length : Int)) := by
  unfold laws_szTable.f laws_szCellS.f
  rw [wr (by omega), if_neg (by omega), Option.bind_some, if_neg (by omega)]
theorem sz_big {s : Int} {l : List S94} (h : l.length ≤ maxLen) (h' : ¬ l.length ≤ 1048576) : laws_szTable.f s l 1048576 = some (-1) := by
  unfold maxLen at h
  unfold laws_szTable.f laws_szCellS.f
  rw [wr (by omega), if_pos (by omega), Option.bind_some, if_pos (by omega)]
theorem stepN_nx (m : Nat) {a : Int} (h0 : -9223372036854775808 ≤ a) (h : a + m ≤ 9223372036854775807) : Gv.stepN Gv.nx m a = a + m := by
  induction m with
  | zero => simp [Gv.stepN]
  | succ m ih =>
    rw [Gv.stepN, ih (by omega), Gv.nx, wr (by omega)]
    omega
theorem stepN_nn (c n : Nat) {a : Int} (h0 : -9223372036854775808 ≤ a) (h : a + c * n ≤ 9223372036854775807) : Gv.stepN (Gv.stepN Gv.nx c) n a = a + c * n := by
  induction n with
  | zero => simp [Gv.stepN]
  | succ n ih =>
    have e : (c : Int) * ((n + 1 : Nat) : Int) = c * n + c := by rw [Int.natCast_succ, Int.mul_add, Int.mul_one]
    have hc : 0 ≤ (c : Int) * n := Int.mul_nonneg (by omega) (by omega)
    rw [e] at h
    rw [Gv.stepN, ih (by omega), stepN_nx c (by omega) (by omega), e]
    omega
theorem heldL_append {α : Type} (q : α → Int → Bool) (f : Int → Int) : ∀ (A : List α) (x : α) (a : Int), Gv.heldL q f (A ++ [x]) a = (Gv.heldL q f A a).bind fun b => if q x b = true then some (f b) else none
  | [], x, a => by simp [Gv.heldL]
  | y :: A, x, a => by
    simp only [List.cons_append, Gv.heldL]
    split
    · exact heldL_append q f A x (f a)
    · rfl
theorem heldL_mk {α : Type} (q : α → Int → Bool) (f : Int → Int) (mk : Int → α) (h : ∀ b, q (mk b) b = true) (a : Int) : ∀ n, Gv.heldL q f (Gv.mkL mk f n a) a = some (Gv.stepN f n a)
  | 0 => rfl
  | n + 1 => by
    rw [Gv.mkL, heldL_append, heldL_mk q f mk h a n, Option.bind_some, if_pos (h _)]
    rfl
/-! ### tables: the first free cell -/
theorem cell_set {L : List S75} {i : Nat} {c : S75} (h : i < L.length) (j : Nat) : cell (L.set i c) j = if j = i then c else cell L j := by
  unfold cell
  rw [List.getD_eq_getElem?_getD, List.getD_eq_getElem?_getD, List.getElem?_set]
  by_cases e : i = j
  · subst e
    rw [if_pos rfl, if_pos h, if_pos rfl]
    rfl
  · rw [if_neg e, if_neg (fun h => e h.symm)]
theorem u_set {L : List S75} {i : Nat} {c : S75} (h : i < L.length) (j : Nat) : u (L.set i c) j = if j = i then c.f0 else u L j := by
  unfold u
  rw [cell_set h]
  split <;> rfl
theorem key_set {L : List S75} {i : Nat} {c : S75} (h : i < L.length) (j : Nat) : key (L.set i c) j = if j = i then c.f1 else key L j := by
  unfold key
  rw [cell_set h]
  split <;> rfl
def freeF (L : List S75) (h : Nat) : Nat → Nat → Nat
  | 0, i => i
  | d + 1, i => if u L (at_ L.length h i) = true then freeF L h d (i + 1) else i
theorem freeF_spec (L : List S75) (h : Nat) : ∀ d i, (∃ m, i ≤ m ∧ m < i + d ∧ u L (at_ L.length h m) = false) → i ≤ freeF L h d i ∧ freeF L h d i < i + d ∧ u L (at_ L.length h (freeF L h d i)) = false ∧ ∀ m, i ≤ m → m < freeF L h d i → u L (at_ L.length h m) = true := by
  intro d
  induction d with
  | zero => rintro i ⟨m, h1, h2, _⟩; omega
  | succ d ih =>
    rintro i ⟨m, h1, h2, h3⟩
    simp only [freeF]
    cases hu : u L (at_ L.length h i) with
    | false =>
      rw [if_neg (by decide)]
      exact ⟨Nat.le_refl _, by omega, hu, fun m h1 h2 => by omega⟩
    | true =>
      rw [if_pos rfl]
      have hne : m ≠ i := by
        intro e
        rw [e, hu] at h3
        cases h3
      obtain ⟨g1, g2, g3, g4⟩ := ih (i + 1) ⟨m, by omega, by omega, h3⟩
      refine ⟨by omega, by omega, g3, fun m' m1 m2 => ?_⟩
      by_cases e : m' = i
      · rw [e]; exact hu
      · exact g4 m' (by omega) m2
theorem free_at {L : List S75} {h : Nat} (hh : h < L.length) (hf : ∃ c, c < L.length ∧ u L c = false) : ∃ m, 0 ≤ m ∧ m < 0 + L.length ∧ u L (at_ L.length h m) = false := by
  obtain ⟨c, h1, h2⟩ := hf
  exact ⟨dist L.length h c, Nat.zero_le _, by have := dist_lt hh h1; omega, by rw [at_dist hh h1]; exact h2⟩
def slot (L : List S75) (s : Int) (q : S33) : Nat := at_ L.length (hm s L q) (freeF L (hm s L q) L.length 0)
theorem slot_spec {L : List S75} (s : Int) (q : S33) (hf : ∃ c, c < L.length ∧ u L c = false) : slot L s q < L.length ∧ u L (slot L s q) = false := by
  have hn : 0 < L.length := by obtain ⟨c, h, _⟩ := hf; omega
  obtain ⟨g1, g2, g3, g4⟩ := freeF_spec L (hm s L q) L.length 0 (free_at (hm_lt s L q hn) hf)
  exact ⟨at_lt (hm_lt s L q hn) (by omega), g3⟩
theorem probe_slot {L : List S75} (s : Int) (q : S33) (hf : ∃ c, c < L.length ∧ u L c = false) (hq : ∀ j, j < L.length → u L j = true → key L j ≠ q) : probeF L q (hm s L q) L.length 0 = ((slot L s q : Nat) : Int) := by
  have hn : 0 < L.length := by obtain ⟨c, h, _⟩ := hf; omega
  have hlt := hm_lt s L q hn
  have hx := free_at hlt hf
  obtain ⟨g1, g2, g3, g4⟩ := freeF_spec L (hm s L q) L.length 0 hx
  rcases probeF_spec L q (hm s L q) L.length 0 with ⟨p1, p2⟩ | ⟨j, p1, p2, p3, p4, p5⟩
  · obtain ⟨m, m1, m2, m3⟩ := hx
    rw [(p1 m m1 m2).1] at m3
    cases m3
  · have hj : j < L.length := by omega
    have hu : u L (at_ L.length (hm s L q) j) = false := by
      rcases p3 with p3 | p3
      · exact p3
      · cases e : u L (at_ L.length (hm s L q) j) with
        | false => rfl
        | true => exact absurd p3 (hq _ (at_lt hlt hj) e)
    have e : j = freeF L (hm s L q) L.length 0 := by
      rcases Nat.lt_trichotomy j (freeF L (hm s L q) L.length 0) with h | h | h
      · rw [g4 j p1 h] at hu
        cases hu
      · exact h
      · rw [(p4 _ g1 h).1] at g3
        cases g3
    rw [p5]
    unfold slot
    rw [← e]
theorem into_ (L : List S75) (s v : Int) (q : S33) (h : Nat) (hh : h < L.length) (hL : L.length ≤ 1048577) : ∀ (d i k : Nat), i + d = L.length → d < k → (∃ m, i ≤ m ∧ m < i + d ∧ u L (at_ L.length h m) = false) → spec_l11Into.l0 k v ((at_ L.length h i : Nat) : Int) (i : Int) s L q.f0 q.f1.f0.f0 q.f1.f0.f1 q.f1.f0.f2 q.f1.f0.f3 q.f1.f0.f4 q.f1.f1.f0 q.f1.f1.f1 q.f1.f1.f2 q.f1.f1.f3 q.f1.f1.f4 q.f1.f2 q.f1.f3 q.f1.f4 = some (L.set (at_ L.length h (freeF L h d i)) ⟨true, q, v⟩) := by
  intro d
  induction d with
  | zero => rintro i k h1 h2 ⟨m, m1, m2, _⟩; omega
  | succ d ih =>
    rintro i k h1 h2 ⟨m, m1, m2, m3⟩
    obtain ⟨k, rfl⟩ : ∃ k', k = k' + 1 := ⟨k - 1, by omega⟩
    have hi : i < L.length := by omega
    have hlt := at_lt hh hi
    simp only [spec_l11Into.l0]
    rw [if_pos (by omega), if_pos (by omega), if_pos (by omega)]
    simp only [rdc]
    show (if u L (at_ L.length h i) = true then _ else _) = _
    simp only [freeF]
    cases hu : u L (at_ L.length h i) with
    | false => rfl
    | true =>
      have hne : m ≠ i := by
        intro e
        rw [e, hu] at m3
        cases m3
      have e := tmod_next hh (show i + 1 < L.length by omega) hL
      rw [if_pos rfl, if_pos rfl, if_neg (by omega), e, inc (by omega)]
      exact ih (i + 1) k (by omega) (by omega) ⟨m, by omega, by omega, m3⟩
theorem specInto {s : Int} (L : List S75) (q : S33) (v : Int) (hs : within s 0 4294967295 = true) (hf : fko q = true) (hL : L.length ≤ 1048577) (hfree : ∃ c, c < L.length ∧ u L c = false) {k : Nat} (hk : L.length + 200 < k) : spec_l11Into.f k s L q.f0 q.f1.f0.f0 q.f1.f0.f1 q.f1.f0.f2 q.f1.f0.f3 q.f1.f0.f4 q.f1.f1.f0 q.f1.f1.f1 q.f1.f1.f2 q.f1.f1.f3 q.f1.f1.f4 q.f1.f2 q.f1.f3 q.f1.f4 v = some (L.set (slot L s q) ⟨true, q, v⟩) := by
  have hn : 0 < L.length := by obtain ⟨c, h, _⟩ := hfree; omega
  have hlt := hm_lt s L q hn
  unfold spec_l11Into.f
  rw [specHome L q hs hf hn (by omega), Option.bind_some]
  have := into_ L s v q (hm s L q) hlt hL L.length 0 k (by omega) (by omega) (free_at hlt hfree)
  rw [show at_ L.length (hm s L q) 0 = hm s L q from if_pos hlt, show ((0 : Nat) : Int) = 0 from rfl] at this
  exact this
def usd (L : List S75) : Nat := L.countP (fun c => c.f0)
theorem cntF_eq (L : List S75) (hL : L.length ≤ 1048577) : ∀ (d i : Nat) (x : Int), i + d = L.length → 0 ≤ x → x ≤ i → cntF L d i x = x + (((L.drop i).countP (fun c => c.f0) : Nat) : Int) := by
  intro d
  induction d with
  | zero =>
    intro i x h1 h2 h3
    rw [List.drop_eq_nil_of_le (by omega)]
    simp [cntF]
  | succ d ih =>
    intro i x h1 h2 h3
    have hi : i < L.length := by omega
    have hu : u L i = L[i].f0 := by unfold u cell; rw [List.getD_eq_getElem?_getD, List.getElem?_eq_getElem hi]; rfl
    rw [List.drop_eq_getElem_cons hi, List.countP_cons, ← hu]
    simp only [cntF]
    rw [ih (i + 1) _ (by omega) (by split <;> first | (rw [wr (by omega)]; omega) | omega) (by split <;> first | (rw [wr (by omega)]; omega) | omega)]
    split
    · rw [wr (by omega)]; omega
    · omega
theorem cnt_usd (L : List S75) (hL : L.length ≤ 1048577) : cnt L = (usd L : Nat) := by
  unfold cnt usd
  rw [cntF_eq L hL L.length 0 0 (by omega) (by omega) (by omega), List.drop_zero, Int.zero_add]
theorem usd_le (L : List S75) : usd L ≤ L.length := List.countP_le_length
theorem free_of_lt {L : List S75} (h : usd L < L.length) : ∃ c, c < L.length ∧ u L c = false := by
  apply Classical.byContradiction
  intro hn
  apply Nat.ne_of_lt h
  refine List.countP_eq_length.2 fun a ha => ?_
  obtain ⟨i, hi, rfl⟩ := List.mem_iff_getElem.1 ha
  cases e : L[i].f0 with
  | true => rfl
  | false => exact absurd ⟨i, hi, by unfold u cell; rw [List.getD_eq_getElem?_getD, List.getElem?_eq_getElem hi]; exact e⟩ hn
theorem usd_set {L : List S75} {i : Nat} (h : i < L.length) (c : S75) : usd (L.set i c) + (if u L i = true then 1 else 0) = usd L + (if c.f0 = true then 1 else 0) := by
  have hu : u L i = L[i].f0 := by unfold u cell; rw [List.getD_eq_getElem?_getD, List.getElem?_eq_getElem h]; rfl
  have hp : L[i].f0 = true → 0 < L.countP (fun c => c.f0) := fun hx => List.countP_pos_iff.2 ⟨L[i], List.getElem_mem h, hx⟩
  unfold usd
  rw [List.countP_set h, hu]
  split
  · have := hp (by assumption)
    omega
  · omega
theorem tab_size {s : Int} {L : List S75} (h : tabOk s L = true) : (L.length = 4 ∨ L.length = 8 ∨ L.length = 16 ∨ L.length = 32 ∨ L.length = 64) ∧ 4 * usd L ≤ 3 * L.length := by
  unfold tabOk at h
  rw [Bool.and_eq_true, Bool.and_eq_true, Bool.and_eq_true] at h
  obtain ⟨_, h2, h3, _⟩ := h
  have h2' := of_decide_eq_true h2
  have hu := usd_le L
  rw [cnt_usd L (by omega), Bool.not_eq_true', decide_eq_false_iff_not, wr (by omega), wr (by omega)] at h3
  exact ⟨h2', by omega⟩
theorem tab_dist {s : Int} {L : List S75} (hc : ∀ i, i < L.length → implChk L s i = true) {i j : Nat} (hi : i < L.length) (hj : j < L.length) (ui : u L i = true) (uj : u L j = true) (e : key L i = key L j) : i = j := by
  have h1 := hc i hi
  have h2 := hc j hj
  unfold implChk at h1 h2
  rw [ui, if_pos rfl, Bool.and_eq_true, Bool.and_eq_true, beq_iff_eq, e] at h1
  rw [uj, if_pos rfl, Bool.and_eq_true, Bool.and_eq_true, beq_iff_eq] at h2
  have := h1.2.2.symm.trans h2.2.2
  omega
theorem tab_fko {s : Int} {L : List S75} (hc : ∀ i, i < L.length → implChk L s i = true) {i : Nat} (hi : i < L.length) (ui : u L i = true) : fko (key L i) = true := by
  have h1 := hc i hi
  unfold implChk at h1
  rw [ui, if_pos rfl, Bool.and_eq_true] at h1
  exact h1.1
theorem copyF (s : Int) (L : List S75) (hL : L.length ≤ 1048577) : spec_l11Copy.f s L = some (s, L) := by
  unfold spec_l11Copy.f
  simp only [Option.bind_some, List.nil_append, List.length_nil]
  rw [if_pos (by omega)]
theorem copyI (s : Int) (L : List S75) (hL : L.length ≤ 1048577) : impl_copyTable.f s L = some (s, L) := by
  unfold impl_copyTable.f impl_Cell.f
  simp only [Option.bind_some, List.nil_append, List.length_nil]
  rw [if_pos (by omega)]
  rfl
theorem markTabF (s : Int) (X : List S75) (h : X.length ≤ 1048577) : ∃ Y, laws_markTable.f s X 1 = some (1 + ((16 : Nat) : Int) * (X.length : Int), Y) := by
  have e := stepN_nn 16 X.length (a := 1) (by omega) (by omega)
  rw [← e]
  exact ⟨_, rfl⟩
theorem markHeldC (X : List S75) (h : X.length ≤ 1048577) : ∃ Y, laws_markCellS.f X 1 = some (1 + ((16 : Nat) : Int) * (X.length : Int), Y) ∧ laws_heldCellS.f Y 1 = some (1 + ((16 : Nat) : Int) * (X.length : Int)) := by
  have e := stepN_nn 16 X.length (a := 1) (by omega) (by omega)
  rw [← e]
  exact ⟨_, rfl, heldL_mk _ _ _ (fun b => by simp) 1 X.length⟩
theorem markHeldT (s : Int) (X : List S75) (h : X.length ≤ 1048577) : ∃ Y, laws_markTable.f s X 1 = some (1 + ((16 : Nat) : Int) * (X.length : Int), Y) ∧ ∀ s', laws_heldTable.f s' Y 1 = some (1 + ((16 : Nat) : Int) * (X.length : Int)) := by
  obtain ⟨Y, h1, h2⟩ := markHeldC X h
  refine ⟨Y, by unfold laws_markTable.f; rw [h1]; rfl, fun s' => ?_⟩
  unfold laws_heldTable.f
  rw [h2, Option.bind_some, if_neg (by omega)]
/-! ### TableNew -/
/-! ### TableDrop -/
def runL (L : List S75) (h : Nat) : Nat → Nat → List S75
  | 0, _ => []
  | d + 1, j => cell L (at_ L.length h j) :: runL L h d (j + 1)
def clr (n h : Nat) : Nat → Nat → List S75 → List S75
  | 0, _, M => M
  | d + 1, j, M => clr n h d (j + 1) (M.set (at_ n h j) z75)
theorem runL_len (L : List S75) (h : Nat) : ∀ d j, (runL L h d j).length = d
  | 0, _ => rfl
  | d + 1, j => by rw [runL, List.length_cons, runL_len L h d (j + 1)]
theorem clr_len (n h : Nat) : ∀ d j M, (clr n h d j M).length = M.length
  | 0, _, _ => rfl
  | d + 1, j, M => by rw [clr, clr_len n h d (j + 1), List.length_set]
theorem at_inj {n h a b : Nat} (hh : h < n) (ha : a < n) (hb : b < n) (e : at_ n h a = at_ n h b) : a = b := by
  have h1 := dist_at hh ha
  have h2 := dist_at hh hb
  rw [e] at h1
  omega
theorem run_mem (L : List S75) (h : Nat) : ∀ d j b, b ∈ runL L h d j → ∃ t, j ≤ t ∧ t < j + d ∧ b = cell L (at_ L.length h t)
  | 0, _, b, hb => by cases hb
  | d + 1, j, b, hb => by
    rw [runL, List.mem_cons] at hb
    rcases hb with rfl | hb
    · exact ⟨j, Nat.le_refl _, by omega, rfl⟩
    · obtain ⟨t, h1, h2, h3⟩ := run_mem L h d (j + 1) b hb
      exact ⟨t, by omega, by omega, h3⟩
theorem specRun_ (s : Int) (L : List S75) (h m : Nat) (hh : h < L.length) (hL : L.length ≤ 64) (hm : m < L.length) (hu : ∀ t, t < m → u L (at_ L.length h t) = true) (hv : u L (at_ L.length h m) = false) : ∀ (d j k : Nat) (acc M : List S75), j + d = m → M.length = L.length → acc.length ≤ j → spec_TableDrop.l0 (k + d + 1) acc ((at_ L.length h j : Nat) : Int) s L s M = spec_TableDrop.l1 k (acc ++ runL L h d j) 0 s (clr L.length h d j M) := by
  intro d
  induction d with
  | zero =>
    intro j k acc M h1 h2 h3
    obtain rfl : j = m := by omega
    have hlt := at_lt hh hm
    simp only [spec_TableDrop.l0, rdc]
    rw [if_pos (by omega), if_pos (by omega)]
    show (if u L (at_ L.length h j) = true then _ else _) = _
    rw [hv, if_neg (by decide), runL, List.append_nil]
    rfl
  | succ d ih =>
    intro j k acc M h1 h2 h3
    have hlt := at_lt hh (show j < L.length by omega)
    rw [show k + (d + 1) + 1 = (k + d + 1) + 1 from rfl]
    simp only [spec_TableDrop.l0, rdc]
    rw [if_pos (by omega), if_pos (by omega)]
    show (if u L (at_ L.length h j) = true then _ else _) = _
    rw [hu j (by omega), if_pos rfl, if_pos (by omega), if_pos (by omega), if_neg (by omega), tmod_next hh (show j + 1 < L.length by omega) (by omega), Int.toNat_natCast]
    have := ih (j + 1) k (acc ++ [cell L (at_ L.length h j)]) (M.set (at_ L.length h j) z75) (by omega) (by rw [List.length_set]; exact h2) (by simp; omega)
    rw [List.append_assoc, List.singleton_append] at this
    exact this
theorem implRun_ (s : Int) (L : List S75) (h m : Nat) (hh : h < L.length) (hL : L.length ≤ 64) (hm : m < L.length) (hu : ∀ t, t < m → u L (at_ L.length h t) = true) (hv : u L (at_ L.length h m) = false) : ∀ (d j k : Nat) (acc M : List S75), 1 ≤ j → j + d = m → M.length = L.length → acc.length ≤ j → (∀ t, j ≤ t → t ≤ m → cell M (at_ L.length h t) = cell L (at_ L.length h t)) → impl_TableDrop.l0 (k + d + 1) acc (L.length : Int) (h : Int) ((at_ L.length h j : Nat) : Int) s M = impl_TableDrop.l1 k (acc ++ runL L h d j) ((acc ++ runL L h d j).length : Int) 0 s (clr L.length h d j M) := by
  intro d
  induction d with
  | zero =>
    intro j k acc M h0 h1 h2 h3 h4
    obtain rfl : j = m := by omega
    have hlt := at_lt hh hm
    simp only [impl_TableDrop.l0, rdc]
    rw [if_pos (by omega), if_pos (by omega), h4 j (Nat.le_refl _) (Nat.le_refl _)]
    show (if u L (at_ L.length h j) = true then _ else _) = _
    rw [hv, if_neg (by decide), runL, List.append_nil]
    rfl
  | succ d ih =>
    intro j k acc M h0 h1 h2 h3 h4
    have hlt := at_lt hh (show j < L.length by omega)
    have hne : at_ L.length h j ≠ h := by
      intro e
      have := at_inj hh (show j < L.length by omega) (show 0 < L.length by omega) (e.trans (show at_ L.length h 0 = h from if_pos hh).symm)
      omega
    rw [show k + (d + 1) + 1 = (k + d + 1) + 1 from rfl]
    simp only [impl_TableDrop.l0, rdc]
    rw [if_pos (by omega), if_pos (by omega), h4 j (Nat.le_refl _) (by omega)]
    show (if u L (at_ L.length h j) = true then _ else _) = _
    rw [hu j (by omega), if_pos rfl, if_neg (by omega), if_pos (by omega), if_neg (by omega), tmod_next hh (show j + 1 < L.length by omega) (by omega), Int.toNat_natCast]
    have := ih (j + 1) k (acc ++ [cell L (at_ L.length h j)]) (M.set (at_ L.length h j) z75) (by omega) (by omega) (by rw [List.length_set]; exact h2) (by simp; omega) (fun t t1 t2 => by
      rw [cell_set (by omega), if_neg (fun e => by have := at_inj hh (show t < L.length by omega) (show j < L.length by omega) e; omega)]
      exact h4 t (by omega) t2)
    rw [List.append_assoc, List.singleton_append] at this
    exact this
def insL (s : Int) : List S75 → List S75 → List S75
  | [], M => M
  | b :: B, M => insL s B (M.set (slot M s b.f1) ⟨true, b.f1, b.f2⟩)
theorem insL_len (s : Int) : ∀ B M, (insL s B M).length = M.length
  | [], _ => rfl
  | b :: B, M => by rw [insL, insL_len s B, List.length_set]
def InsI (B M : List S75) : Prop := (∀ b, b ∈ B → b.f0 = true ∧ fko b.f1 = true ∧ ∀ j, j < M.length → u M j = true → key M j ≠ b.f1) ∧ B.Pairwise (fun a b => a.f1 ≠ b.f1) ∧ usd M + B.length < M.length
theorem ins_step {s : Int} {b : S75} {B M : List S75} (h : InsI (b :: B) M) : (∃ c, c < M.length ∧ u M c = false) ∧ InsI B (M.set (slot M s b.f1) ⟨true, b.f1, b.f2⟩) := by
  obtain ⟨h1, h2, h3⟩ := h
  rw [List.length_cons] at h3
  have hf := free_of_lt (L := M) (by omega)
  obtain ⟨s1, s2⟩ := slot_spec s b.f1 hf
  rw [List.pairwise_cons] at h2
  refine ⟨hf, fun c hc => ⟨(h1 c (List.mem_cons_of_mem _ hc)).1, (h1 c (List.mem_cons_of_mem _ hc)).2.1, fun j hj ju => ?_⟩, h2.2, ?_⟩
  · rw [List.length_set] at hj
    rw [u_set s1] at ju
    rw [key_set s1]
    by_cases e : j = slot M s b.f1
    · rw [if_pos e]
      exact h2.1 c hc
    · rw [if_neg e] at ju
      rw [if_neg e]
      exact (h1 c (List.mem_cons_of_mem _ hc)).2.2 j hj ju
  · have := usd_set s1 (⟨true, b.f1, b.f2⟩ : S75)
    rw [s2, if_neg (by decide), if_pos rfl] at this
    rw [List.length_set]
    omega
theorem specIns_ (s : Int) (B : List S75) (n : Nat) (hs : within s 0 4294967295 = true) (hn : n ≤ 64) (hB : B.length ≤ 64) : ∀ (d i k : Nat) (M : List S75), i + d = B.length → d + 500 ≤ k → M.length = n → InsI (B.drop i) M → spec_TableDrop.l1 k B (i : Int) s M = some (s, insL s (B.drop i) M, 0) := by
  intro d
  induction d with
  | zero =>
    intro i k M h1 h2 h3 h4
    obtain ⟨k, rfl⟩ : ∃ k', k = k' + 1 := ⟨k - 1, by omega⟩
    simp only [spec_TableDrop.l1]
    rw [if_neg (by omega), List.drop_eq_nil_of_le (by omega)]
    rfl
  | succ d ih =>
    intro i k M h1 h2 h3 h4
    obtain ⟨k, rfl⟩ : ∃ k', k = k' + 1 := ⟨k - 1, by omega⟩
    have hi : i < B.length := by omega
    have hb : cell B i = B[i] := by unfold cell; rw [List.getD_eq_getElem?_getD, List.getElem?_eq_getElem hi]; rfl
    rw [List.drop_eq_getElem_cons hi, ← hb] at h4 ⊢
    obtain ⟨g1, g2⟩ := ins_step (s := s) h4
    have hc := h4.1 _ List.mem_cons_self
    have hin : spec_l11Into.f k s M ((cell B i).f1.f0) ((cell B i).f1.f1.f0.f0) ((cell B i).f1.f1.f0.f1) ((cell B i).f1.f1.f0.f2) ((cell B i).f1.f1.f0.f3) ((cell B i).f1.f1.f0.f4) ((cell B i).f1.f1.f1.f0) ((cell B i).f1.f1.f1.f1) ((cell B i).f1.f1.f1.f2) ((cell B i).f1.f1.f1.f3) ((cell B i).f1.f1.f1.f4) ((cell B i).f1.f1.f2) ((cell B i).f1.f1.f3) ((cell B i).f1.f1.f4) ((cell B i).f2) = some (M.set (slot M s (cell B i).f1) ⟨true, (cell B i).f1, (cell B i).f2⟩) := specInto M (cell B i).f1 (cell B i).f2 hs hc.2.1 (by omega) g1 (by omega)
    simp only [spec_TableDrop.l1, rdc]
    rw [if_pos (by omega), if_pos (by omega), inc (by omega), hin, Option.bind_some]
    exact ih (i + 1) k _ (by omega) (by omega) (by rw [List.length_set]; exact h3) g2
theorem implIns_ (s : Int) (B : List S75) (n : Nat) (hs : within s 0 4294967295 = true) (hn : n ≤ 64) (hB : B.length ≤ 64) : ∀ (d i k : Nat) (M : List S75), i + d = B.length → d + 500 ≤ k → M.length = n → InsI (B.drop i) M → impl_TableDrop.l1 k B (B.length : Int) (i : Int) s M = some (s, insL s (B.drop i) M, 0) := by
  intro d
  induction d with
  | zero =>
    intro i k M h1 h2 h3 h4
    obtain ⟨k, rfl⟩ : ∃ k', k = k' + 1 := ⟨k - 1, by omega⟩
    simp only [impl_TableDrop.l1]
    rw [if_neg (by omega), List.drop_eq_nil_of_le (by omega)]
    rfl
  | succ d ih =>
    intro i k M h1 h2 h3 h4
    obtain ⟨k, rfl⟩ : ∃ k', k = k' + 1 := ⟨k - 1, by omega⟩
    have hi : i < B.length := by omega
    have hb : cell B i = B[i] := by unfold cell; rw [List.getD_eq_getElem?_getD, List.getElem?_eq_getElem hi]; rfl
    rw [List.drop_eq_getElem_cons hi, ← hb] at h4 ⊢
    obtain ⟨g1, g2⟩ := ins_step (s := s) h4
    have hc := h4.1 _ List.mem_cons_self
    obtain ⟨s1, s2⟩ := slot_spec s (cell B i).f1 g1
    have hp : impl_Table_probe.f k s M ((cell B i).f1.f0) ((cell B i).f1.f1.f0.f0) ((cell B i).f1.f1.f0.f1) ((cell B i).f1.f1.f0.f2) ((cell B i).f1.f1.f0.f3) ((cell B i).f1.f1.f0.f4) ((cell B i).f1.f1.f1.f0) ((cell B i).f1.f1.f1.f1) ((cell B i).f1.f1.f1.f2) ((cell B i).f1.f1.f1.f3) ((cell B i).f1.f1.f1.f4) ((cell B i).f1.f1.f2) ((cell B i).f1.f1.f3) ((cell B i).f1.f1.f4) = some ((slot M s (cell B i).f1 : Nat) : Int) := (implProbe M (cell B i).f1 hs (by omega) (by omega) (by omega) (by omega)).trans (congrArg some (probe_slot s (cell B i).f1 g1 hc.2.2))
    simp only [impl_TableDrop.l1, rdc]
    rw [if_pos (by omega), if_pos (by omega), if_pos (by omega), inc (by omega), hp, Option.bind_some, if_pos (by omega), if_pos (by omega), Int.toNat_natCast]
    rw [hc.1]
    exact ih (i + 1) k _ (by omega) (by omega) (by rw [List.length_set]; exact h3) g2
theorem clr_u (n h : Nat) (hh : h < n) : ∀ d j M, j + d ≤ n → M.length = n → ∀ p, u (clr n h d j M) p = true → cell (clr n h d j M) p = cell M p ∧ ∀ t, j ≤ t → t < j + d → p ≠ at_ n h t
  | 0, _, M, _, _, p, _ => ⟨rfl, fun t h1 h2 => by omega⟩
  | d + 1, j, M, hj, hM, p, hu => by
    rw [clr] at hu ⊢
    have hlt := at_lt hh (show j < n by omega)
    obtain ⟨h1, h2⟩ := clr_u n h hh d (j + 1) _ (by omega) (by rw [List.length_set]; exact hM) p hu
    rw [cell_set (by omega)] at h1
    have hne : p ≠ at_ n h j := by
      intro e
      rw [if_pos e] at h1
      unfold u at hu
      rw [h1] at hu
      cases hu
    rw [if_neg hne] at h1
    refine ⟨h1, fun t t1 t2 => ?_⟩
    by_cases e : t = j
    · rw [e]; exact hne
    · exact h2 t (by omega) (by omega)
theorem clr_usd (n h : Nat) (hh : h < n) : ∀ d j M, j + d ≤ n → M.length = n → (∀ t, j ≤ t → t < j + d → u M (at_ n h t) = true) → usd (clr n h d j M) + d = usd M
  | 0, _, M, _, _, _ => rfl
  | d + 1, j, M, hj, hM, hu => by
    have hlt := at_lt hh (show j < n by omega)
    have hset := usd_set (L := M) (i := at_ n h j) (by omega) z75
    rw [hu j (Nat.le_refl _) (by omega), if_pos rfl, show (z75.f0) = false from rfl, if_neg (by decide)] at hset
    have := clr_usd n h hh d (j + 1) (M.set (at_ n h j) z75) (by omega) (by rw [List.length_set]; exact hM) (fun t t1 t2 => by
      rw [u_set (by omega), if_neg (fun e => by have := at_inj hh (show t < n by omega) (show j < n by omega) e; omega)]
      exact hu t (by omega) (by omega))
    rw [clr]
    omega
theorem run_pair {s : Int} (L : List S75) (hc : ∀ i, i < L.length → implChk L s i = true) (h : Nat) (hh : h < L.length) : ∀ d j, j + d ≤ L.length → (∀ t, j ≤ t → t < j + d → u L (at_ L.length h t) = true) → (runL L h d j).Pairwise (fun a b => a.f1 ≠ b.f1)
  | 0, _, _, _ => List.Pairwise.nil
  | d + 1, j, hj, hu => by
    rw [runL, List.pairwise_cons]
    refine ⟨fun b hb e => ?_, run_pair L hc h hh d (j + 1) (by omega) (fun t t1 t2 => hu t (by omega) (by omega))⟩
    obtain ⟨t, t1, t2, rfl⟩ := run_mem L h d (j + 1) b hb
    have := tab_dist hc (at_lt hh (show j < L.length by omega)) (at_lt hh (show t < L.length by omega)) (hu j (Nat.le_refl _) (by omega)) (hu t (by omega) (by omega)) e
    have := at_inj hh (show j < L.length by omega) (show t < L.length by omega) this
    omega
def gap (L : List S75) (h : Nat) : Nat := freeF L h L.length 0
theorem gap_spec {s : Int} {L : List S75} (hT : tabOk s L = true) {h : Nat} (hh : h < L.length) (hu : u L h = true) : 1 ≤ gap L h ∧ gap L h < L.length ∧ (∀ t, t < gap L h → u L (at_ L.length h t) = true) ∧ u L (at_ L.length h (gap L h)) = false := by
  obtain ⟨t4, t5⟩ := tab_size hT
  obtain ⟨g1, g2, g3, g4⟩ := freeF_spec L h L.length 0 (free_at hh (free_of_lt (by omega)))
  unfold gap
  refine ⟨?_, by omega, fun t ht => g4 t (Nat.zero_le _) ht, g3⟩
  rcases Nat.eq_zero_or_pos (freeF L h L.length 0) with e | e
  · rw [e, show at_ L.length h 0 = h from if_pos hh, hu] at g3
    cases g3
  · exact e
theorem drop_ins {s : Int} {L : List S75} (hT : tabOk s L = true) {h : Nat} (hh : h < L.length) (hu : u L h = true) : InsI (runL L h (gap L h - 1) 1) (clr L.length h (gap L h - 1) 1 (L.set h z75)) := by
  obtain ⟨_, _, hc⟩ := tabOk_facts hT
  obtain ⟨t4, t5⟩ := tab_size hT
  obtain ⟨g1, g2, g3, g4⟩ := gap_spec hT hh hu
  have h0 : at_ L.length h 0 = h := if_pos hh
  refine ⟨fun b hb => ?_, run_pair L hc h hh _ 1 (by omega) (fun t t1 t2 => g3 t (by omega)), ?_⟩
  · obtain ⟨t, t1, t2, rfl⟩ := run_mem L h _ 1 b hb
    have hat := at_lt hh (show t < L.length by omega)
    have hut := g3 t (by omega)
    refine ⟨hut, tab_fko hc hat hut, fun j hj ju => ?_⟩
    obtain ⟨e1, e2⟩ := clr_u L.length h hh _ 1 (L.set h z75) (by omega) (by rw [List.length_set]) j ju
    rw [clr_len, List.length_set] at hj
    rw [cell_set hh] at e1
    by_cases ej : j = h
    · rw [if_pos ej] at e1
      unfold u at ju
      rw [e1] at ju
      cases ju
    · rw [if_neg ej] at e1
      unfold u at ju
      unfold key
      rw [e1] at ju ⊢
      intro e
      exact e2 t t1 t2 (tab_dist hc hj hat ju hut e)
  · have h1 := clr_usd L.length h hh (gap L h - 1) 1 (L.set h z75) (by omega) (by rw [List.length_set]) (fun t t1 t2 => by
      rw [u_set hh, if_neg (fun e => by have := at_inj hh (show t < L.length by omega) (show 0 < L.length by omega) (e.trans h0.symm); omega)]
      exact g3 t (by omega))
    have h2 := usd_set hh z75
    rw [hu, if_pos rfl, show (z75.f0) = false from rfl, if_neg (by decide)] at h2
    rw [clr_len, List.length_set, runL_len]
    omega
def dropT (s : Int) (L : List S75) (q : S33) : Int × List S75 × Int := if (tabOk s L && fko q) = true then (if placeF L q L.length 0 < 0 then (0, [], 3) else (s, insL s (runL L (placeF L q L.length 0).toNat (gap L (placeF L q L.length 0).toNat - 1) 1) (clr L.length (placeF L q L.length 0).toNat (gap L (placeF L q L.length 0).toNat - 1) 1 (L.set (placeF L q L.length 0).toNat z75)), 0)) else (0, [], 1)
theorem dropT_len (s : Int) (L : List S75) (q : S33) : (dropT s L q).2.1.length ≤ L.length := by
  unfold dropT
  split
  · split
    · simp
    · rw [insL_len, clr_len, List.length_set]; exact Nat.le_refl _
  · simp
theorem specDropT (s : Int) (L : List S75) (q : S33) (hL : L.length ≤ 1048577) {k : Nat} (hk : L.length + 6001 < k) : spec_TableDrop.f k s L q.f0 q.f1.f0.f0 q.f1.f0.f1 q.f1.f0.f2 q.f1.f0.f3 q.f1.f0.f4 q.f1.f1.f0 q.f1.f1.f1 q.f1.f1.f2 q.f1.f1.f3 q.f1.f1.f4 q.f1.f2 q.f1.f3 q.f1.f4 = some (dropT s L q) := by
  obtain ⟨k, rfl⟩ : ∃ k', k = k' + 1 := ⟨k - 1, by omega⟩
  have hj : spec_TableDrop.j0 (k + 1) true s L q.f0 q.f1.f0.f0 q.f1.f0.f1 q.f1.f0.f2 q.f1.f0.f3 q.f1.f0.f4 q.f1.f1.f0 q.f1.f1.f1 q.f1.f1.f2 q.f1.f1.f3 q.f1.f1.f4 q.f1.f2 q.f1.f3 q.f1.f4 = some (0, [], 1) := by
    simp only [spec_TableDrop.j0]
    rfl
  unfold spec_TableDrop.f dropT
  rw [specTab s L hL (by omega), Option.bind_some, specFlowKey, Option.bind_some, show flowKeyOk q.f0 q.f1.f0.f0 q.f1.f0.f1 q.f1.f0.f2 q.f1.f0.f3 q.f1.f0.f4 q.f1.f1.f0 q.f1.f1.f1 q.f1.f1.f2 q.f1.f1.f3 q.f1.f1.f4 q.f1.f2 q.f1.f3 q.f1.f4 = fko q from rfl]
  cases hT : tabOk s L with
  | false => rw [if_neg (by decide), hj]; rfl
  | true =>
    rw [if_pos rfl]
    cases hf : fko q with
    | false => rw [show (!false) = true from rfl, hj]; rfl
    | true =>
      obtain ⟨t1, t2, t3⟩ := tabOk_facts hT
      obtain ⟨t4, t5⟩ := tab_size hT
      refine Eq.trans ?_ (congrArg some (if_pos rfl).symm)
      simp only [spec_TableDrop.j0]
      rw [if_neg (by decide), specPlace L s q hL (by omega), Option.bind_some]
      rcases placeF_spec L q L.length 0 with ⟨g1, g2⟩ | ⟨j, g1, g2, ⟨g3, g3'⟩, g4, g5⟩
      · rw [g2, if_pos (by omega), if_pos (by omega)]
      · have hjl : j < L.length := by omega
        obtain ⟨p1, p2, p3, p4⟩ := gap_spec hT hjl g3
        have h0 : at_ L.length j 0 = j := if_pos hjl
        have e1 := tmod_next hjl (show 0 + 1 < L.length by omega) hL
        rw [h0] at e1
        rw [g5, if_neg (by omega), if_neg (by omega), copyF s L hL, Option.bind_some]
        dsimp only
        rw [if_pos (by omega), if_pos (by omega), if_neg (by omega), e1, Int.toNat_natCast]
        obtain ⟨k', hk'⟩ : ∃ k', k = k' + (gap L j - 1) + 1 := ⟨k - gap L j, by omega⟩
        have hr := specRun_ s L j (gap L j) hjl (by omega) p2 p3 p4 (gap L j - 1) 1 k' [] (L.set j z75) (by omega) (by rw [List.length_set]) (Nat.zero_le _)
        rw [← hk', List.nil_append] at hr
        have hi := specIns_ s (runL L j (gap L j - 1) 1) L.length t1 (by omega) (by rw [runL_len]; omega) (gap L j - 1) 0 k' (clr L.length j (gap L j - 1) 1 (L.set j z75)) (by rw [runL_len]; omega) (by omega) (by rw [clr_len, List.length_set]) (drop_ins hT hjl g3)
        exact hr.trans hi
theorem implDropT (s : Int) (L : List S75) (q : S33) (hL : L.length ≤ 1048577) {k : Nat} (hk : L.length + 6001 < k) : impl_TableDrop.f k s L q.f0 q.f1.f0.f0 q.f1.f0.f1 q.f1.f0.f2 q.f1.f0.f3 q.f1.f0.f4 q.f1.f1.f0 q.f1.f1.f1 q.f1.f1.f2 q.f1.f1.f3 q.f1.f1.f4 q.f1.f2 q.f1.f3 q.f1.f4 = some (dropT s L q) := by
  obtain ⟨k, rfl⟩ : ∃ k', k = k' + 1 := ⟨k - 1, by omega⟩
  have hj : impl_TableDrop.j0 (k + 1) true s L q.f0 q.f1.f0.f0 q.f1.f0.f1 q.f1.f0.f2 q.f1.f0.f3 q.f1.f0.f4 q.f1.f1.f0 q.f1.f1.f1 q.f1.f1.f2 q.f1.f1.f3 q.f1.f1.f4 q.f1.f2 q.f1.f3 q.f1.f4 = some (0, [], 1) := by
    simp only [impl_TableDrop.j0]
    rfl
  unfold impl_TableDrop.f dropT
  rw [implTab s L hL (by omega), Option.bind_some, implFlowKey _ _ _ _ _ _ _ _ _ _ _ _ _ _ (by omega), Option.bind_some, show flowKeyOk q.f0 q.f1.f0.f0 q.f1.f0.f1 q.f1.f0.f2 q.f1.f0.f3 q.f1.f0.f4 q.f1.f1.f0 q.f1.f1.f1 q.f1.f1.f2 q.f1.f1.f3 q.f1.f1.f4 q.f1.f2 q.f1.f3 q.f1.f4 = fko q from rfl]
  cases hT : tabOk s L with
  | false => rw [if_neg (by decide), hj]; rfl
  | true =>
    rw [if_pos rfl]
    cases hf : fko q with
    | false => rw [show (!false) = true from rfl, hj]; rfl
    | true =>
      obtain ⟨t1, t2, t3⟩ := tabOk_facts hT
      obtain ⟨t4, t5⟩ := tab_size hT
      refine Eq.trans ?_ (congrArg some (if_pos rfl).symm)
      simp only [impl_TableDrop.j0]
      have hfind : impl_Table_find.f k s L q.f0 q.f1.f0.f0 q.f1.f0.f1 q.f1.f0.f2 q.f1.f0.f3 q.f1.f0.f4 q.f1.f1.f0 q.f1.f1.f1 q.f1.f1.f2 q.f1.f1.f3 q.f1.f1.f4 q.f1.f2 q.f1.f3 q.f1.f4 = some (findF L q) := by
        unfold impl_Table_find.f
        rw [implProbe L q t1 t2 hL (by omega) (by omega), Option.bind_some]
        exact findI t2 t3 q
      rw [if_neg (by decide), hfind, Option.bind_some]
      rcases placeF_spec L q L.length 0 with ⟨g1, g2⟩ | ⟨j, g1, g2, ⟨g3, g3'⟩, g4, g5⟩
      · have hF : findF L q = (0, false) := by unfold findF; rw [g2, if_pos (by omega)]
        rw [hF]
        refine Eq.trans (if_neg (by decide)) ?_
        rw [g2, if_pos (by omega)]
      · have hF : findF L q = ((cell L j).f2, true) := by unfold findF; rw [g5, if_neg (by omega), Int.toNat_natCast]
        have hjl : j < L.length := by omega
        have hcj := t3 j hjl
        unfold implChk at hcj
        rw [g3, if_pos rfl, Bool.and_eq_true, Bool.and_eq_true, beq_iff_eq, g3'] at hcj
        obtain ⟨p1, p2, p3, p4⟩ := gap_spec hT hjl g3
        have h0 : at_ L.length j 0 = j := if_pos hjl
        have e1 := tmod_next hjl (show 0 + 1 < L.length by omega) hL
        rw [h0] at e1
        rw [hF]
        refine Eq.trans (if_pos rfl) ?_
        rw [copyI s L hL, Option.bind_some]
        dsimp only
        rw [implProbe L q t1 t2 hL (by omega) (by omega), Option.bind_some, hcj.2.2, g5, if_neg (by omega)]
        obtain ⟨k', hk'⟩ : ∃ k', k = (k' + (gap L j - 1) + 1) + 1 := ⟨k - gap L j - 1, by omega⟩
        have hr := implRun_ s L j (gap L j) hjl (by omega) p2 p3 p4 (gap L j - 1) 1 k' [] (L.set j z75) (Nat.le_refl _) (by omega) (by rw [List.length_set]) (Nat.zero_le _) (fun t h1 h2 => by
          rw [cell_set hjl, if_neg (fun e => by have := at_inj hjl (show t < L.length by omega) (show 0 < L.length by omega) (e.trans h0.symm); omega)])
        rw [List.nil_append] at hr
        have hi := implIns_ s (runL L j (gap L j - 1) 1) L.length t1 (by omega) (by rw [runL_len]; omega) (gap L j - 1) 0 k' (clr L.length j (gap L j - 1) 1 (L.set j z75)) (by rw [runL_len]; omega) (by omega) (by rw [clr_len, List.length_set]) (drop_ins hT hjl g3)
        rw [hk']
        simp only [impl_TableDrop.l0, rdc]
        rw [if_pos (by omega), if_pos (by omega)]
        show (if u L j = true then _ else _) = _
        rw [g3, if_pos rfl, if_pos trivial, if_neg (by omega), e1, Int.toNat_natCast]
        exact hr.trans hi
end Go.Proofs.Ytfnpodebjejhpaa.T
