/- What the printed functions on addresses and keys come to: plain lemmas on numbers. No condition. -/
import Derived.Test.YtfnpodebjejhpaaPHax
import Derived.Test.YtfnpodebjejhpaaFr

namespace Go.Proofs.Ytfnpodebjejhpaa.T
open Go.RowKit Go.Proofs.YtfnpodebjejhpaaW.PrintWords Go.Proofs.YtfnpodebjejhpaaW.PrintLast Go.Proofs.YtfnpodebjejhpaaW.PrintMore Go.Proofs.YtfnpodebjejhpaaFr Go.Proofs.Ytfnpodebjejhpaa.PHa
set_option linter.unusedVariables false
set_option linter.unusedSimpArgs false
theorem wr {x : Int} (h : -9223372036854775808 ≤ x ∧ x ≤ 9223372036854775807) : wrap64 x = x := by unfold wrap64; omega
def within (a lo hi : Int) : Bool := decide (lo ≤ a ∧ a ≤ hi)
theorem within_eq (a lo hi : Int) : impl_within.f a lo hi = some (within a lo hi) := by
  unfold impl_within.f within
  by_cases h1 : lo ≤ a <;> simp [*]
theorem half_eq (a : Int) : spec_l03Half.f a = some (within a 0 4294967295) := by
  unfold spec_l03Half.f within
  by_cases h1 : 0 ≤ a <;> simp [*]
def addrOk (k a b c d : Int) : Bool := if k = 4 then decide (a = 0 ∧ b = 0 ∧ c = 0) && within d 0 4294967295 else if k = 6 then within a 0 4294967295 && within b 0 4294967295 && within c 0 4294967295 && within d 0 4294967295 else false
theorem specAddr (k a b c d : Int) : spec_AddrOk.f k a b c d = some (addrOk k a b c d) := by
  unfold spec_AddrOk.f addrOk
  simp only [half_eq, Option.bind_some]
  by_cases h4 : k = 4
  · simp only [if_pos h4]
    by_cases h1 : a = 0 <;> by_cases h2 : b = 0 <;> by_cases h3 : c = 0 <;> simp [*]
  · simp only [if_neg h4]
    by_cases h6 : k = 6
    · simp only [if_pos h6]
      cases within a 0 4294967295 <;> cases within b 0 4294967295 <;> cases within c 0 4294967295 <;> simp
    · simp only [if_neg h6]
theorem implAddr (k a b c d : Int) : impl_AddrOk.f k a b c d = some (addrOk k a b c d) := by
  unfold impl_AddrOk.f addrOk impl_isLong.f
  simp only [within_eq, Option.bind_some]
  by_cases h4 : k = 4
  · simp only [if_pos h4]
    by_cases h1 : a = 0 <;> by_cases h2 : b = 0 <;> by_cases h3 : c = 0 <;> simp [*]
  · simp only [if_neg h4]
    by_cases h6 : k = 6
    · simp only [if_pos h6]
      cases within a 0 4294967295 <;> cases within b 0 4294967295 <;> cases within c 0 4294967295 <;> simp
    · simp only [if_neg h6]
def keyOk (k a b c d k' a' b' c' d' p s t : Int) : Bool := addrOk k a b c d && addrOk k' a' b' c' d' && decide (k = k') && within p 0 255 && within s 0 65535 && within t 0 65535
theorem specKey (k a b c d k' a' b' c' d' p s t : Int) : spec_KeyOk.f k a b c d k' a' b' c' d' p s t = some (keyOk k a b c d k' a' b' c' d' p s t) := by
  unfold spec_KeyOk.f keyOk spec_l07Pair.f
  have hin : ∀ x hi : Int, spec_l05In.f x hi = some (within x 0 hi) := by
    intro x hi
    unfold spec_l05In.f within
    by_cases h1 : 0 ≤ x <;> simp [*]
  simp only [specAddr, hin, Option.bind_some]
  cases addrOk k a b c d <;> cases addrOk k' a' b' c' d' <;> by_cases e : k = k' <;> cases within p 0 255 <;> cases within s 0 65535 <;> simp [e]
theorem implKey (k a b c d k' a' b' c' d' p s t : Int) {n : Nat} (hn : 3 < n) : impl_KeyOk.f n k a b c d k' a' b' c' d' p s t = some (keyOk k a b c d k' a' b' c' d' p s t) := by
  obtain ⟨n, rfl⟩ : ∃ m, n = m + 4 := ⟨n - 4, by omega⟩
  unfold impl_KeyOk.f keyOk impl_areBoth.f impl_isByte.f impl_areWords.f
  have w1 : wrap64 1 = 1 := wr (by omega)
  have w2 : wrap64 2 = 2 := wr (by omega)
  simp only [implAddr, within_eq, Option.bind_some]
  cases addrOk k a b c d <;> cases addrOk k' a' b' c' d' <;> by_cases e : k = k' <;> cases within p 0 255 <;> cases h1 : within s 0 65535 <;> cases h2 : within t 0 65535 <;> simp [e, impl_areWords.l0, impl_isWord.f, within_eq, rd, w1, w2, h1, h2]
def flowKeyOk (n k a b c d k' a' b' c' d' p s t : Int) : Bool := within n 1 8 && keyOk k a b c d k' a' b' c' d' p s t
theorem specFlowKey (n k a b c d k' a' b' c' d' p s t : Int) : spec_FlowKeyOk.f n k a b c d k' a' b' c' d' p s t = some (flowKeyOk n k a b c d k' a' b' c' d' p s t) := by
  unfold spec_FlowKeyOk.f flowKeyOk within
  simp only [specKey, Option.bind_some]
  by_cases h1 : 1 ≤ n <;> by_cases h2 : n ≤ 8 <;> simp [*]
theorem implFlowKey (n k a b c d k' a' b' c' d' p s t : Int) {m : Nat} (hm : 3 < m) : impl_FlowKeyOk.f m n k a b c d k' a' b' c' d' p s t = some (flowKeyOk n k a b c d k' a' b' c' d' p s t) := by
  unfold impl_FlowKeyOk.f flowKeyOk
  simp only [implKey _ _ _ _ _ _ _ _ _ _ _ _ _ hm, within_eq, Option.bind_some]
  cases within n 1 8 <;> simp
/-! ### bytes -/
def bytes2 (n : Int) : List Int := [n / 256 % 256, n % 256]
def bytes4 (n : Int) : List Int := [n / 16777216 % 256, n / 65536 % 256, n / 256 % 256, n % 256]
theorem specLow (a m : Int) (ha : 0 ≤ a) (hm : 0 < m) : spec_l01Low.f a m = some (a % m) := by
  unfold spec_l01Low.f
  have h1 : Int.tmod a m = a % m := Int.tmod_eq_emod_of_nonneg ha
  have h2 : 0 ≤ a % m := Int.emod_nonneg a (by omega)
  rw [if_neg (by omega), h1, if_neg (by omega)]
theorem specPut16 {n : Int} (h : 0 ≤ n ∧ n ≤ 65535) : spec_Put16.f n = some (bytes2 n) := by
  unfold spec_Put16.f bytes2
  rw [specLow n 65536 h.1 (by omega), Option.bind_some]
  have h1 : n % 65536 = n := by omega
  rw [h1, Int.tdiv_eq_ediv_of_nonneg h.1, Int.tmod_eq_emod_of_nonneg h.1, wr (by omega)]
  simp
theorem specPut32 {n : Int} (h : 0 ≤ n ∧ n ≤ 4294967295) : spec_Put32.f n = some (bytes4 n) := by
  unfold spec_Put32.f
  rw [specLow n 4294967296 h.1 (by omega), Option.bind_some]
  have h1 : n % 4294967296 = n := by omega
  rw [h1, Int.tdiv_eq_ediv_of_nonneg h.1, Int.tmod_eq_emod_of_nonneg h.1, wr (by omega), specPut16 (by omega), Option.bind_some, specPut16 (by omega), Option.bind_some, if_pos (by simp [bytes2])]
  have e1 : n / 65536 / 256 % 256 = n / 16777216 % 256 := by omega
  have e2 : n / 65536 % 256 = n / 65536 % 256 := rfl
  have e3 : n % 65536 / 256 % 256 = n / 256 % 256 := by omega
  have e4 : n % 65536 % 256 = n % 256 := by omega
  simp only [bytes2, bytes4, List.cons_append, List.nil_append, e1, e3, e4]
theorem implPut16 {n : Int} {k : Nat} (hk : 5 < k) : impl_Put16.f k n = some (bytes2 n) := by
  obtain ⟨k, rfl⟩ : ∃ j, k = j + 6 := ⟨k - 6, by omega⟩
  have e (x : Int) (h : -1000 ≤ x ∧ x ≤ 1000) : wrap64 x = x := wr (by omega)
  unfold impl_Put16.f impl_put.f bytes2
  simp [impl_put.l0, e, shr, IntKind.bits, List.replicate]
theorem implPut32 {n : Int} {k : Nat} (hk : 7 < k) : impl_Put32.f k n = some (bytes4 n) := by
  obtain ⟨k, rfl⟩ : ∃ j, k = j + 8 := ⟨k - 8, by omega⟩
  have e (x : Int) (h : -1000 ≤ x ∧ x ≤ 1000) : wrap64 x = x := wr (by omega)
  unfold impl_Put32.f impl_put.f bytes4
  simp [impl_put.l0, e, shr, IntKind.bits, List.replicate]
theorem inc {i : Nat} (h : i ≤ 4194304) : wrap64 ((i : Int) + 1) = ((i + 1 : Nat) : Int) := by rw [wr (by omega)]; rfl
theorem rdL (ls : List (List Int)) (i : Nat) : rd_L2 ls (i : Int) = ls.getD i [] := by simp [rd_L2]
theorem drop_getD (ls : List (List Int)) (i : Nat) (h : i < ls.length) : ls.drop i = ls.getD i [] :: ls.drop (i + 1) := by
  rw [List.drop_eq_getElem_cons h, List.getD_eq_getElem?_getD, List.getElem?_eq_getElem h]
  rfl
theorem concat1 (ls : List (List Int)) (hn : ls.length ≤ 1000) : ∀ (d i k : Nat) (acc : List Int), i + d = ls.length → acc.length + (ls.drop i).flatten.length ≤ 1073741824 → d < k → slices_Concat_byte_byte.l1 k acc ls (ls.length : Int) (i : Int) = some (acc ++ (ls.drop i).flatten) := by
  intro d
  induction d with
  | zero =>
    intro i k acc h1 h2 h3
    obtain ⟨k, rfl⟩ : ∃ k', k = k' + 1 := ⟨k - 1, by omega⟩
    simp only [slices_Concat_byte_byte.l1]
    rw [if_neg (by omega), List.drop_of_length_le (by omega)]
    simp
  | succ d ih =>
    intro i k acc h1 h2 h3
    obtain ⟨k, rfl⟩ : ∃ k', k = k' + 1 := ⟨k - 1, by omega⟩
    rw [drop_getD ls i (by omega)] at h2 ⊢
    simp only [List.flatten_cons, List.length_append] at h2
    simp only [slices_Concat_byte_byte.l1]
    rw [if_pos (by omega), if_pos (by omega), if_pos (by omega), rdL, if_pos (by omega), inc (by omega), ih (i + 1) k _ (by omega) (by rw [List.length_append]; omega) (by omega)]
    simp
theorem concat0 (ls : List (List Int)) (hn : ls.length ≤ 1000) (ht : ls.flatten.length ≤ 1073741824) : ∀ (d i k s : Nat), i + d = ls.length → s + (ls.drop i).flatten.length ≤ 1073741824 → d + ls.length + 1 < k → slices_Concat_byte_byte.l0 k ls (s : Int) ls (ls.length : Int) (i : Int) = some ls.flatten := by
  intro d
  induction d with
  | zero =>
    intro i k s h1 h2 h3
    obtain ⟨k, rfl⟩ : ∃ k', k = k' + 1 := ⟨k - 1, by omega⟩
    simp only [slices_Concat_byte_byte.l0]
    rw [if_neg (by omega)]
    unfold slices_Grow_byte_byte.f
    rw [if_pos (by omega), Option.bind_some]
    have := concat1 ls hn ls.length 0 k [] (by omega) (by simpa using ht) (by omega)
    simpa using this
  | succ d ih =>
    intro i k s h1 h2 h3
    obtain ⟨k, rfl⟩ : ∃ k', k = k' + 1 := ⟨k - 1, by omega⟩
    rw [drop_getD ls i (by omega)] at h2
    simp only [List.flatten_cons, List.length_append] at h2
    simp only [slices_Concat_byte_byte.l0]
    rw [if_pos (by omega), if_pos (by omega), if_pos (by omega), rdL, wr (by omega), if_neg (by omega), inc (by omega)]
    have := ih (i + 1) k (s + (ls.getD i []).length) (by omega) (by omega) (by omega)
    rw [← this]
    simp
theorem concatF (ls : List (List Int)) (hn : ls.length ≤ 1000) (ht : ls.flatten.length ≤ 1073741824) {k : Nat} (hk : 2 * ls.length + 1 < k) : slices_Concat_byte_byte.f k ls = some ls.flatten := by
  unfold slices_Concat_byte_byte.f
  exact concat0 ls hn ht ls.length 0 k 0 (by omega) (by simpa using ht) (by omega)
def addrBytes (k a b c d : Int) : List Int := if addrOk k a b c d then if k = 4 then bytes4 d else bytes4 a ++ bytes4 b ++ bytes4 c ++ bytes4 d else []
theorem addrBytes_len (k a b c d : Int) : (addrBytes k a b c d).length ≤ 16 := by
  unfold addrBytes
  split
  · split <;> simp [bytes4]
  · simp
theorem within_iff {a lo hi : Int} : within a lo hi = true ↔ lo ≤ a ∧ a ≤ hi := by simp [within]
theorem specAddrBytes (k a b c d : Int) : spec_AddrBytes.f k a b c d = some (addrBytes k a b c d) := by
  unfold spec_AddrBytes.f addrBytes
  rw [specAddr, Option.bind_some]
  cases h : addrOk k a b c d with
  | false => simp
  | true =>
    rw [if_pos rfl, if_pos rfl]
    unfold addrOk at h
    by_cases h4 : k = 4
    · rw [if_pos h4] at h ⊢
      simp only [Bool.and_eq_true, within_iff] at h
      rw [if_pos h4, specPut32 h.2]
      rfl
    · rw [if_neg h4] at h ⊢
      by_cases h6 : k = 6
      · rw [if_pos h6] at h
        simp only [Bool.and_eq_true, within_iff] at h
        rw [if_neg h4]
        simp [specPut32 h.1.1.1, specPut32 h.1.1.2, specPut32 h.1.2, specPut32 h.2, bytes4]
      · rw [if_neg h6] at h
        cases h
theorem implAddrBytes (k a b c d : Int) {n : Nat} (hn : 20 < n) : impl_AddrBytes.f n k a b c d = some (addrBytes k a b c d) := by
  unfold impl_AddrBytes.f addrBytes
  rw [implAddr, Option.bind_some]
  cases h : addrOk k a b c d with
  | false => simp
  | true =>
    rw [if_pos rfl, if_pos rfl]
    by_cases h4 : k = 4
    · rw [if_pos h4, if_pos h4, implPut32 (by omega)]
      rfl
    · rw [if_neg h4, if_neg h4]
      simp only [implPut32 (show 7 < n by omega), Option.bind_some]
      rw [concatF _ (by simp) (by simp [bytes4]) (by simp; omega)]
      simp [bytes4]
/-! ### the hash -/
def step (h b : Int) : Int := Int.tmod (wrap64 ((Go.bits .xor .i64 h (wrap64 b)) * 16777619)) 4294967296
def fin (h : Int) : Int := Go.bits .xor .i64 h (wrap64 (Int.tdiv h 65536))
theorem rdn (L : List Int) (i : Nat) (h : i < L.length) : L.drop i = rd L (i : Int) :: L.drop (i + 1) := by
  rw [List.drop_eq_getElem_cons h]
  simp [rd, List.getD_eq_getElem?_getD, List.getElem?_eq_getElem h]
theorem specHash (L : List Int) (hL : L.length ≤ 1000) : ∀ (d i k : Nat) (h : Int), i + d = L.length → d < k → spec_HashOf.l0 k h L (i : Int) = some (fin ((L.drop i).foldl step h)) := by
  intro d
  induction d with
  | zero =>
    intro i k h h1 h2
    obtain ⟨k, rfl⟩ : ∃ k', k = k' + 1 := ⟨k - 1, by omega⟩
    simp only [spec_HashOf.l0]
    rw [if_neg (by omega), List.drop_of_length_le (by omega)]
    rfl
  | succ d ih =>
    intro i k h h1 h2
    obtain ⟨k, rfl⟩ : ∃ k', k = k' + 1 := ⟨k - 1, by omega⟩
    simp only [spec_HashOf.l0]
    rw [if_pos (by omega), if_pos (by omega), inc (by omega), rdn L i (by omega), List.foldl_cons]
    exact ih (i + 1) k _ (by omega) (by omega)
theorem implHash (L : List Int) (hL : L.length ≤ 1000) : ∀ (d i k : Nat) (h : Int), i + d = L.length → d < k → impl_hashOf.l0 k h L (L.length : Int) (i : Int) = some (fin ((L.drop i).foldl step h)) := by
  intro d
  induction d with
  | zero =>
    intro i k h h1 h2
    obtain ⟨k, rfl⟩ : ∃ k', k = k' + 1 := ⟨k - 1, by omega⟩
    simp only [impl_hashOf.l0]
    rw [if_neg (by omega), List.drop_of_length_le (by omega)]
    rfl
  | succ d ih =>
    intro i k h h1 h2
    obtain ⟨k, rfl⟩ : ∃ k', k = k' + 1 := ⟨k - 1, by omega⟩
    simp only [impl_hashOf.l0]
    rw [if_pos (by omega), if_pos (by omega), if_pos (by omega), inc (by omega), rdn L i (by omega), List.foldl_cons]
    exact ih (i + 1) k _ (by omega) (by omega)
def keyBytes (n k a b c d k' a' b' c' d' p s t : Int) : List Int := [n % 256, k % 256] ++ addrBytes k a b c d ++ addrBytes k' a' b' c' d' ++ [p % 256] ++ bytes2 s ++ bytes2 t
theorem keyBytes_len (n k a b c d k' a' b' c' d' p s t : Int) : (keyBytes n k a b c d k' a' b' c' d' p s t).length ≤ 100 := by
  have h1 := addrBytes_len k a b c d
  have h2 := addrBytes_len k' a' b' c' d'
  simp [keyBytes, bytes2]
  omega
def hash (seed n k a b c d k' a' b' c' d' p s t : Int) : Int := fin ((keyBytes n k a b c d k' a' b' c' d' p s t).foldl step seed)
theorem implHashOf (seed n k a b c d k' a' b' c' d' p s t : Int) {m : Nat} (hm : 200 < m) : impl_hashOf.f m seed n k a b c d k' a' b' c' d' p s t = some (hash seed n k a b c d k' a' b' c' d' p s t) := by
  unfold impl_hashOf.f
  have h1 := addrBytes_len k a b c d
  have h2 := addrBytes_len k' a' b' c' d'
  simp only [implAddrBytes _ _ _ _ _ (show 20 < m by omega), implPut16 (show 5 < m by omega), Option.bind_some]
  rw [concatF _ (by simp) (by simp [bytes2]; omega) (by simp; omega), Option.bind_some]
  have he : [[n % 256, k % 256], addrBytes k a b c d, addrBytes k' a' b' c' d', [p % 256], bytes2 s, bytes2 t].flatten = keyBytes n k a b c d k' a' b' c' d' p s t := by simp [keyBytes]
  have hl := keyBytes_len n k a b c d k' a' b' c' d' p s t
  rw [he]
  have := implHash (keyBytes n k a b c d k' a' b' c' d' p s t) (by omega) (keyBytes n k a b c d k' a' b' c' d' p s t).length 0 m seed (by omega) (by omega)
  exact this
theorem specBytes {n k a b c d k' a' b' c' d' p s t : Int} (h : flowKeyOk n k a b c d k' a' b' c' d' p s t = true) : spec_l11Bytes.f n k a b c d k' a' b' c' d' p s t = some (keyBytes n k a b c d k' a' b' c' d' p s t) := by
  unfold flowKeyOk keyOk at h
  simp only [Bool.and_eq_true, within_iff] at h
  have h1 := addrBytes_len k a b c d
  have h2 := addrBytes_len k' a' b' c' d'
  unfold spec_l11Bytes.f keyBytes
  simp only [specAddrBytes, specPut16 h.2.1.2, specPut16 h.2.2, Option.bind_some]
  rw [if_pos (by simp; omega)]
  repeat rw [if_pos (by simp [bytes2]; omega)]
end Go.Proofs.Ytfnpodebjejhpaa.T
