/- What the printed functions on addresses and keys come to: plain lemmas on numbers. No condition. -/
import Derived.Test.YtbihbbkdciebhaaGreatDoorPRrx

namespace Go.Proofs.YtbihbbkdciebhaaGreatDoor.T
open Go.RowKit Go.Proofs.YtbihbbkdciebhaaGreatDoorW.PrintWords Go.Proofs.YtbihbbkdciebhaaGreatDoorW.PrintLast Go.Proofs.YtbihbbkdciebhaaGreatDoorW.PrintMore Go.Proofs.YtbihbbkdciebhaaGreatDoor.PRr
set_option linter.unusedVariables false
set_option linter.unusedSimpArgs false
theorem wr {x : Int} (h : -9223372036854775808 ≤ x ∧ x ≤ 9223372036854775807) : wrap64 x = x := by unfold wrap64; omega
def within (a lo hi : Int) : Bool := decide (lo ≤ a ∧ a ≤ hi)
theorem within_eq (a lo hi : Int) : impl_within.f a lo hi = some (within a lo hi) := by
  unfold impl_within.f within
  by_cases h1 : lo ≤ a <;> simp [*]
theorem half_eq (a : Int) : spec_l03Half.f a = some (within a 0 4294967295) := by
  unfold spec_l03Half.f within
  by_cases h1 : 0 ≤ a <;> simp [*]
def addrOk (k a b c d : Int) : Bool := if k = 4 then decide (a = 0 ∧ b = 0 ∧ c = 0) && within d 0 4294967295 else if k = 6 then within a 0 4294967295 && within b 0 4294967295 && within c 0 4294967295 && within d 0 4294967295 else false
theorem specAddr (k a b c d : Int) : spec_AddrOk.f k a b c d = some (addrOk k a b c d) := by
  unfold spec_AddrOk.f addrOk
  simp only [half_eq, Option.bind_some]
  by_cases h4 : k = 4
  · simp only [if_pos h4]
    by_cases h1 : a = 0 <;> by_cases h2 : b = 0 <;> by_cases h3 : c = 0 <;> simp [*]
  · simp only [if_neg h4]
    by_cases h6 : k = 6
    · simp only [if_pos h6]
      cases within a 0 4294967295 <;> cases within b 0 4294967295 <;> cases within c 0 4294967295 <;> simp
    · simp only [if_neg h6]
theorem implAddr (k a b c d : Int) : impl_AddrOk.f k a b c d = some (addrOk k a b c d) := by
  unfold impl_AddrOk.f addrOk impl_isLong.f
  simp only [within_eq, Option.bind_some]
  by_cases h4 : k = 4
  · simp only [if_pos h4]
    by_cases h1 : a = 0 <;> by_cases h2 : b = 0 <;> by_cases h3 : c = 0 <;> simp [*]
  · simp only [if_neg h4]
    by_cases h6 : k = 6
    · simp only [if_pos h6]
      cases within a 0 4294967295 <;> cases within b 0 4294967295 <;> cases within c 0 4294967295 <;> simp
    · simp only [if_neg h6]
/-! ### bytes -/
def bytes2 (n : Int) : List Int := [n / 256 % 256, n % 256]
def bytes4 (n : Int) : List Int := [n / 16777216 % 256, n / 65536 % 256, n / 256 % 256, n % 256]
theorem specLow (a m : Int) (ha : 0 ≤ a) (hm : 0 < m) : spec_l01Low.f a m = some (a % m) := by
  unfold spec_l01Low.f
  have h1 : Int.tmod a m = a % m := Int.tmod_eq_emod_of_nonneg ha
  have h2 : 0 ≤ a % m := Int.emod_nonneg a (by omega)
  rw [if_neg (by omega), h1, if_neg (by omega)]
theorem specPut16 {n : Int} (h : 0 ≤ n ∧ n ≤ 65535) : spec_Put16.f n = some (bytes2 n) := by
  unfold spec_Put16.f bytes2
  rw [specLow n 65536 h.1 (by omega), Option.bind_some]
  have h1 : n % 65536 = n := by omega
  rw [h1, Int.tdiv_eq_ediv_of_nonneg h.1, Int.tmod_eq_emod_of_nonneg h.1, wr (by omega)]
  simp
theorem specPut32 {n : Int} (h : 0 ≤ n ∧ n ≤ 4294967295) : spec_Put32.f n = some (bytes4 n) := by
  unfold spec_Put32.f
  rw [specLow n 4294967296 h.1 (by omega), Option.bind_some]
  have h1 : n % 4294967296 = n := by omega
  rw [h1, Int.tdiv_eq_ediv_of_nonneg h.1, Int.tmod_eq_emod_of_nonneg h.1, wr (by omega), specPut16 (by omega), Option.bind_some, specPut16 (by omega), Option.bind_some, if_pos (by simp [bytes2])]
  have e1 : n / 65536 / 256 % 256 = n / 16777216 % 256 := by omega
  have e2 : n / 65536 % 256 = n / 65536 % 256 := rfl
  have e3 : n % 65536 / 256 % 256 = n / 256 % 256 := by omega
  have e4 : n % 65536 % 256 = n % 256 := by omega
  simp only [bytes2, bytes4, List.cons_append, List.nil_append, e1, e3, e4]
theorem implPut32 {n : Int} {k : Nat} (hk : 7 < k) : impl_Put32.f k n = some (bytes4 n) := by
  obtain ⟨k, rfl⟩ : ∃ j, k = j + 8 := ⟨k - 8, by omega⟩
  have e (x : Int) (h : -1000 ≤ x ∧ x ≤ 1000) : wrap64 x = x := wr (by omega)
  unfold impl_Put32.f impl_put.f bytes4
  simp [impl_put.l0, e, shr, IntKind.bits, List.replicate]
theorem inc {i : Nat} (h : i ≤ 4194304) : wrap64 ((i : Int) + 1) = ((i + 1 : Nat) : Int) := by rw [wr (by omega)]; rfl
theorem rdL (ls : List (List Int)) (i : Nat) : rd_L2 ls (i : Int) = ls.getD i [] := by simp [rd_L2]
theorem drop_getD (ls : List (List Int)) (i : Nat) (h : i < ls.length) : ls.drop i = ls.getD i [] :: ls.drop (i + 1) := by
  rw [List.drop_eq_getElem_cons h, List.getD_eq_getElem?_getD, List.getElem?_eq_getElem h]
  rfl
theorem concat1 (ls : List (List Int)) (hn : ls.length ≤ 1000) : ∀ (d i k : Nat) (acc : List Int), i + d = ls.length → acc.length + (ls.drop i).flatten.length ≤ 1073741824 → d < k → slices_Concat_byte_byte.l1 k acc ls (ls.length : Int) (i : Int) = some (acc ++ (ls.drop i).flatten) := by
  intro d
  induction d with
  | zero =>
    intro i k acc h1 h2 h3
    obtain ⟨k, rfl⟩ : ∃ k', k = k' + 1 := ⟨k - 1, by omega⟩
    simp only [slices_Concat_byte_byte.l1]
    rw [if_neg (by omega), List.drop_of_length_le (by omega)]
    simp
  | succ d ih =>
    intro i k acc h1 h2 h3
    obtain ⟨k, rfl⟩ : ∃ k', k = k' + 1 := ⟨k - 1, by omega⟩
    rw [drop_getD ls i (by omega)] at h2 ⊢
    simp only [List.flatten_cons, List.length_append] at h2
    simp only [slices_Concat_byte_byte.l1]
    rw [if_pos (by omega), if_pos (by omega), if_pos (by omega), rdL, if_pos (by omega), inc (by omega), ih (i + 1) k _ (by omega) (by rw [List.length_append]; omega) (by omega)]
    simp
theorem concat0 (ls : List (List Int)) (hn : ls.length ≤ 1000) (ht : ls.flatten.length ≤ 1073741824) : ∀ (d i k s : Nat), i + d = ls.length → s + (ls.drop i).flatten.length ≤ 1073741824 → d + ls.length + 1 < k → slices_Concat_byte_byte.l0 k ls (s : Int) ls (ls.length : Int) (i : Int) = some ls.flatten := by
  intro d
  induction d with
  | zero =>
    intro i k s h1 h2 h3
    obtain ⟨k, rfl⟩ : ∃ k', k = k' + 1 := ⟨k - 1, by omega⟩
    simp only [slices_Concat_byte_byte.l0]
    rw [if_neg (by omega)]
    unfold slices_Grow_byte_byte.f
    rw [if_pos (by omega), Option.bind_some]
    have := concat1 ls hn ls.length 0 k [] (by omega) (by simpa using ht) (by omega)
    simpa using this
  | succ d ih =>
    intro i k s h1 h2 h3
    obtain ⟨k, rfl⟩ : ∃ k', k = k' + 1 := ⟨k - 1, by omega⟩
    rw [drop_getD ls i (by omega)] at h2
    simp only [List.flatten_cons, List.length_append] at h2
    simp only [slices_Concat_byte_byte.l0]
    rw [if_pos (by omega), if_pos (by omega), if_pos (by omega), rdL, wr (by omega), if_neg (by omega), inc (by omega)]
    have := ih (i + 1) k (s + (ls.getD i []).length) (by omega) (by omega) (by omega)
    rw [← this]
    simp
theorem concatF (ls : List (List Int)) (hn : ls.length ≤ 1000) (ht : ls.flatten.length ≤ 1073741824) {k : Nat} (hk : 2 * ls.length + 1 < k) : slices_Concat_byte_byte.f k ls = some ls.flatten := by
  unfold slices_Concat_byte_byte.f
  exact concat0 ls hn ht ls.length 0 k 0 (by omega) (by simpa using ht) (by omega)
def addrBytes (k a b c d : Int) : List Int := if addrOk k a b c d then if k = 4 then bytes4 d else bytes4 a ++ bytes4 b ++ bytes4 c ++ bytes4 d else []
theorem addrBytes_len (k a b c d : Int) : (addrBytes k a b c d).length ≤ 16 := by
  unfold addrBytes
  split
  · split <;> simp [bytes4]
  · simp
theorem within_iff {a lo hi : Int} : within a lo hi = true ↔ lo ≤ a ∧ a ≤ hi := by simp [within]
theorem specAddrBytes (k a b c d : Int) : spec_AddrBytes.f k a b c d = some (addrBytes k a b c d) := by
  unfold spec_AddrBytes.f addrBytes
  rw [specAddr, Option.bind_some]
  cases h : addrOk k a b c d with
  | false => simp
  | true =>
    rw [if_pos rfl, if_pos rfl]
    unfold addrOk at h
    by_cases h4 : k = 4
    · rw [if_pos h4] at h ⊢
      simp only [Bool.and_eq_true, within_iff] at h
      rw [if_pos h4, specPut32 h.2]
      rfl
    · rw [if_neg h4] at h ⊢
      by_cases h6 : k = 6
      · rw [if_pos h6] at h
        simp only [Bool.and_eq_true, within_iff] at h
        rw [if_neg h4]
        simp [specPut32 h.1.1.1, specPut32 h.1.1.2, specPut32 h.1.2, specPut32 h.2, bytes4]
      · rw [if_neg h6] at h
        cases h
theorem implAddrBytes (k a b c d : Int) {n : Nat} (hn : 20 < n) : impl_AddrBytes.f n k a b c d = some (addrBytes k a b c d) := by
  unfold impl_AddrBytes.f addrBytes
  rw [implAddr, Option.bind_some]
  cases h : addrOk k a b c d with
  | false => simp
  | true =>
    rw [if_pos rfl, if_pos rfl]
    by_cases h4 : k = 4
    · rw [if_pos h4, if_pos h4, implPut32 (by omega)]
      rfl
    · rw [if_neg h4, if_neg h4]
      simp only [implPut32 (show 7 < n by omega), Option.bind_some]
      rw [concatF _ (by simp) (by simp [bytes4]) (by simp; omega)]
      simp [bytes4]
/-! ### the first bits of an address -/
def maskByte (b keep : Nat) : Nat := b / 2 ^ (8 - keep) * 2 ^ (8 - keep)
def clr (b p : Nat) : Nat := if b / 2 ^ (7 - p) % 2 = 1 then b - 2 ^ (7 - p) else b
def clrTo (b lo : Nat) : Nat → Nat
  | 0 => b
  | hi + 1 => if lo ≤ hi then clr (clrTo b lo hi) hi else b
theorem clr_all : (List.range 256).all (fun b => (List.range 9).all (fun k => decide (clrTo b k 8 = maskByte b k) && decide (b &&& ((65280 / 2 ^ k) % 256) = maskByte b k) && (List.range 9).all (fun h => decide (clrTo b k h ≤ 255)))) = true := by kernel_rfl
theorem clr_mask {b k : Nat} (hb : b < 256) (hk : k ≤ 8) : clrTo b k 8 = maskByte b k ∧ b &&& ((65280 / 2 ^ k) % 256) = maskByte b k ∧ (∀ h ≤ 8, clrTo b k h ≤ 255) := by
  have h := clr_all
  rw [List.all_eq_true] at h
  have h1 := h b (by simpa using hb)
  rw [List.all_eq_true] at h1
  have h2 := h1 k (by simp; omega)
  simp only [Bool.and_eq_true, decide_eq_true_eq, List.all_eq_true] at h2
  exact ⟨h2.1.1, h2.1.2, fun j hj => by simpa using h2.2 j (by simp; omega)⟩
theorem mask_lt {b k : Nat} (hb : b < 256) : maskByte b k < 256 := by
  unfold maskByte
  exact Nat.lt_of_le_of_lt (Nat.div_mul_le_self _ _) hb
theorem and_mask {b k : Nat} (hb : b < 256) (hk : k ≤ 8) : Go.bits .and .u8 (b : Int) ((shr .u16 65280 (k : Int)) % 256) = (maskByte b k : Int) := by
  have hs : shr .u16 65280 (k : Int) = ((65280 / 2 ^ k : Nat) : Int) := by
    unfold shr
    rw [Int.toNat_natCast, Nat.min_eq_left (by simp [IntKind.bits]; omega)]
    simp
  rw [hs, show (((65280 / 2 ^ k : Nat) : Int) % 256) = (((65280 / 2 ^ k) % 256 : Nat) : Int) by simp]
  rw [(bits_nat .u8 8 (by decide) wraps_u8 b ((65280 / 2 ^ k) % 256) (by simpa using hb) (by omega)).1, (clr_mask hb hk).2.1]
theorem or_byte {n b : Int} (hn : 0 ≤ n ∧ n ≤ 16777215) (hb : 0 ≤ b ∧ b ≤ 255) : Go.bits .or .i64 (wrap64 (n * 256)) (wrap64 b) = 256 * n + b := by
  rw [wr (by omega), wr (by omega), bits_join .i64 40 (by decide) (fun m h0 h1 => by rw [IntKind.wrap_i64]; omega) 8 (n * 256) b (by omega) (by omega) (by omega) (by omega) (by omega) (by omega)]
  omega
def v4 (a b c d : Int) : Int := 256 * (256 * (256 * a + b) + c) + d
def B (x : Int) : Prop := 0 ≤ x ∧ x ≤ 255
theorem beOf4 {a b c d : Int} (ha : B a) (hb : B b) (hc : B c) (hd : B d) {k : Nat} (hk : 5 < k) : impl_beOf.f k [a, b, c, d] = some (v4 a b c d) := by
  obtain ⟨k, rfl⟩ : ∃ j, k = j + 6 := ⟨k - 6, by omega⟩
  unfold B at ha hb hc hd
  have e1 : wrap64 1 = 1 := wr (by omega)
  have e2 : wrap64 2 = 2 := wr (by omega)
  have e3 : wrap64 3 = 3 := wr (by omega)
  have e4 : wrap64 4 = 4 := wr (by omega)
  have s1 := or_byte (n := 0) (b := a) (by omega) ha
  have s2 := or_byte (n := a) (b := b) (by omega) hb
  have s3 := or_byte (n := 256 * a + b) (b := c) (by omega) hc
  have s4 := or_byte (n := 256 * (256 * a + b) + c) (b := d) (by omega) hd
  have s1' : Go.bits .or .i64 (wrap64 0) (wrap64 a) = a := by simpa using s1
  unfold impl_beOf.f
  simp [impl_beOf.l0, rd, e1, e2, e3, e4, s1', s2, s3, s4, v4]
theorem be_step {n b : Int} (hn : 0 ≤ n ∧ n ≤ 16777215) (hb : 0 ≤ b ∧ b ≤ 255) : wrap64 (wrap64 (256 * n) + wrap64 b) = 256 * n + b := by
  rw [wr (x := 256 * n) (by omega), wr (x := b) (by omega), wr (by omega)]
theorem implOf4 {a b c d : Int} (ha : B a) (hb : B b) (hc : B c) (hd : B d) {k : Nat} (hk : 5 < k) : impl_AddrOf.f k [a, b, c, d] = some (4, 0, 0, 0, v4 a b c d, true) := by
  unfold impl_AddrOf.f
  rw [if_pos (show (([a, b, c, d] : List Int).length : Int) = 4 from rfl), beOf4 ha hb hc hd hk]
  rfl
theorem specOf4 {a b c d : Int} (ha : B a) (hb : B b) (hc : B c) (hd : B d) {k : Nat} (hk : 8 < k) : spec_AddrOf.f k [a, b, c, d] = some (4, 0, 0, 0, v4 a b c d, true) := by
  obtain ⟨k, rfl⟩ : ∃ j, k = j + 9 := ⟨k - 9, by omega⟩
  unfold B at ha hb hc hd
  have e (x : Int) (h : 0 ≤ x ∧ x ≤ 1000) : wrap64 x = x := wr (by omega)
  have s1 := be_step (n := 0) (b := a) (by omega) ha
  have s2 := be_step (n := a) (b := b) (by omega) hb
  have s3 := be_step (n := 256 * a + b) (b := c) (by omega) hc
  have s4 := be_step (n := 256 * (256 * a + b) + c) (b := d) (by omega) hd
  have s0 : wrap64 (wrap64 a) = a := by rw [wr (x := a) (by omega), wr (by omega)]
  unfold spec_AddrOf.f spec_Be32.f
  simp [spec_Be32.j0, spec_Be32.l0, rd, e, s0, s2, s3, s4, v4]
def keepN (n : Int) (i : Nat) : Nat := (min (max (n - 8 * i) 0) 8).toNat
theorem clip_eq (n : Int) (hn : 0 ≤ n ∧ n ≤ 128) (i : Nat) (hi : i ≤ 16) : impl_Clip.f (wrap64 (n - wrap64 (8 * (i : Int)))) 0 8 = some ((keepN n i : Nat) : Int) := by
  rw [wr (x := 8 * (i : Int)) (by omega), wr (by omega)]
  unfold impl_Clip.f keepN
  by_cases h1 : n - 8 * (i : Int) < 0
  · rw [if_pos h1]
    congr 1
    omega
  · rw [if_neg h1]
    by_cases h2 : n - 8 * (i : Int) > 8
    · rw [if_pos h2]
      congr 1
      omega
    · rw [if_neg h2]
      congr 1
      omega
theorem keepN_le (n : Int) (i : Nat) : keepN n i ≤ 8 := by unfold keepN; omega
def maskAll (n : Int) (D : List Int) : List Int := (List.range D.length).map (fun i => (maskByte (D.getD i 0).toNat (keepN n i) : Int))
theorem maskAll_len (n : Int) (D : List Int) : (maskAll n D).length = D.length := by simp [maskAll]
theorem implCutLoop (n : Int) (hn : 0 ≤ n ∧ n ≤ 128) (D : List Int) (hD : D.length ≤ 16) (hB : ∀ i, i < D.length → B (D.getD i 0)) (k : Nat) : ∀ (d i : Nat) (x : List Int), i + d = D.length → x.length = D.length → x.take i = (maskAll n D).take i → (∀ j, i ≤ j → x.getD j 0 = D.getD j 0) →
    impl_Cut.l0 (k + d + 1) n x (D.length : Int) (i : Int) = (impl_AddrOf.f k (maskAll n D)).bind fun bt => some (bt.1, bt.2.1, bt.2.2.1, bt.2.2.2.1, bt.2.2.2.2.1) := by
  intro d
  induction d with
  | zero =>
    intro i x h1 h2 h3 h4
    have hx : x = maskAll n D := by
      rw [List.take_of_length_le (by omega), List.take_of_length_le (by rw [maskAll_len]; omega)] at h3
      exact h3
    simp only [impl_Cut.l0]
    rw [if_neg (by omega), hx]
  | succ d ih =>
    intro i x h1 h2 h3 h4
    have hi : i < D.length := by omega
    have hb := hB i hi
    unfold B at hb
    have hr : rd x (i : Int) = ((D.getD i 0).toNat : Int) := by
      unfold rd
      rw [Int.toNat_natCast, h4 i (Nat.le_refl _)]
      omega
    rw [show k + (d + 1) + 1 = (k + d + 1) + 1 by omega]
    simp only [impl_Cut.l0]
    rw [if_pos (by omega), clip_eq n hn i (by omega), Option.bind_some, if_pos (by omega), if_pos (by omega), if_pos (by omega), hr, and_mask (by omega) (keepN_le n i), inc (by omega), Int.toNat_natCast]
    refine ih (i + 1) _ (by omega) (by simp [h2]) ?_ ?_
    · rw [List.take_add_one, List.take_add_one, List.take_set_of_le (Nat.le_refl i), h3]
      congr 1
      rw [List.getElem?_set_self (by omega)]
      simp [maskAll, hi]
    · intro j hj
      rw [List.getD_eq_getElem?_getD, List.getElem?_set_ne (by omega), ← List.getD_eq_getElem?_getD]
      exact h4 j (by omega)
/-! ### prefixes -/
def g (l : List Int) (i : Nat) : Int := l.getD i 0
def ofB (l : List Int) : Int × Int × Int × Int × Int × Bool :=
  if l.length = 4 then (4, 0, 0, 0, v4 (g l 0) (g l 1) (g l 2) (g l 3), true)
  else (6, v4 (g l 0) (g l 1) (g l 2) (g l 3), v4 (g l 4) (g l 5) (g l 6) (g l 7), v4 (g l 8) (g l 9) (g l 10) (g l 11), v4 (g l 12) (g l 13) (g l 14) (g l 15), true)
theorem list4 (l : List Int) (h : l.length = 4) : l = [g l 0, g l 1, g l 2, g l 3] := by
  match l, h with
  | [a, b, c, d], _ => rfl
theorem list16 (l : List Int) (h : l.length = 16) : l = [g l 0, g l 1, g l 2, g l 3, g l 4, g l 5, g l 6, g l 7, g l 8, g l 9, g l 10, g l 11, g l 12, g l 13, g l 14, g l 15] := by
  match l, h with
  | [a0, a1, a2, a3, a4, a5, a6, a7, a8, a9, b0, b1, b2, b3, b4, b5], _ => rfl
theorem implOf (l : List Int) (hl : l.length = 4 ∨ l.length = 16) (hB : ∀ i, i < l.length → B (g l i)) {k : Nat} (hk : 5 < k) : impl_AddrOf.f k l = some (ofB l) := by
  rcases hl with h | h
  · unfold ofB
    rw [if_pos h]
    conv => lhs; rw [list4 l h]
    exact implOf4 (hB 0 (by omega)) (hB 1 (by omega)) (hB 2 (by omega)) (hB 3 (by omega)) hk
  · have q1 := beOf4 (hB 0 (by omega)) (hB 1 (by omega)) (hB 2 (by omega)) (hB 3 (by omega)) hk
    have q2 := beOf4 (hB 4 (by omega)) (hB 5 (by omega)) (hB 6 (by omega)) (hB 7 (by omega)) hk
    have q3 := beOf4 (hB 8 (by omega)) (hB 9 (by omega)) (hB 10 (by omega)) (hB 11 (by omega)) hk
    have q4 := beOf4 (hB 12 (by omega)) (hB 13 (by omega)) (hB 14 (by omega)) (hB 15 (by omega)) hk
    have t1 : l.take 4 = [g l 0, g l 1, g l 2, g l 3] := by (conv => lhs; rw [list16 l h]); rfl
    have t2 : (l.take 8).drop 4 = [g l 4, g l 5, g l 6, g l 7] := by (conv => lhs; rw [list16 l h]); rfl
    have t3 : (l.take 12).drop 8 = [g l 8, g l 9, g l 10, g l 11] := by (conv => lhs; rw [list16 l h]); rfl
    have t4 : l.drop 12 = [g l 12, g l 13, g l 14, g l 15] := by (conv => lhs; rw [list16 l h]); rfl
    unfold impl_AddrOf.f ofB
    rw [h, if_neg (by decide), if_pos (by decide), if_pos (by decide), t1, q1, Option.bind_some, if_pos (by decide), if_pos (by decide), t2, q2, Option.bind_some, if_pos (by decide), if_pos (by decide), t3, q3, Option.bind_some, t4, q4, Option.bind_some, if_neg (by decide)]
theorem be_l0 (l : List Int) (i j k : Nat) (n : Int) (hl : l.length ≤ 16) (hj : j < 4) (hi : i + j < l.length) (hn : 0 ≤ n ∧ n ≤ 16777215) (hB : B (g l (i + j))) : spec_Be32.l0 (k + 1) l (i : Int) n (j : Int) = spec_Be32.l0 k l (i : Int) (256 * n + g l (i + j)) ((j + 1 : Nat) : Int) := by
  unfold B at hB
  have e : wrap64 ((i : Int) + (j : Int)) = ((i + j : Nat) : Int) := by rw [wr (by omega)]; omega
  have r : rd l ((i + j : Nat) : Int) = g l (i + j) := by unfold rd g; rw [Int.toNat_natCast]
  have s := be_step (n := n) (b := g l (i + j)) hn hB
  have u : wrap64 ((j : Int) + 1) = ((j + 1 : Nat) : Int) := inc (by omega)
  simp only [spec_Be32.l0, e]
  rw [if_pos (by omega), if_pos (by omega), if_pos (by omega), r]
  exact congr (congrArg (spec_Be32.l0 k l (i : Int)) s) u
theorem specBe (l : List Int) (hl : l.length = 16) (hB : ∀ i, i < l.length → B (g l i)) (i : Nat) (hi : i + 4 ≤ 16) {k : Nat} (hk : 8 < k) : spec_Be32.f k l (i : Int) = some (v4 (g l i) (g l (i + 1)) (g l (i + 2)) (g l (i + 3)), true) := by
  obtain ⟨k, rfl⟩ : ∃ j, k = j + 9 := ⟨k - 9, by omega⟩
  have ha := hB (i + 0) (by omega)
  have hb := hB (i + 1) (by omega)
  have hc := hB (i + 2) (by omega)
  have hd := hB (i + 3) (by omega)
  have s0 := be_l0 l i 0 (k + 7) 0 (by omega) (by omega) (by omega) (by omega) ha
  have s1 := be_l0 l i 1 (k + 6) (256 * 0 + g l (i + 0)) (by omega) (by omega) (by omega) (by unfold B at ha; omega) hb
  have s2 := be_l0 l i 2 (k + 5) (256 * (256 * 0 + g l (i + 0)) + g l (i + 1)) (by omega) (by omega) (by omega) (by unfold B at ha hb; omega) hc
  have s3 := be_l0 l i 3 (k + 4) (256 * (256 * (256 * 0 + g l (i + 0)) + g l (i + 1)) + g l (i + 2)) (by omega) (by omega) (by omega) (by unfold B at ha hb hc; omega) hd
  have s4 : spec_Be32.l0 (k + 4) l (i : Int) (256 * (256 * (256 * (256 * 0 + g l (i + 0)) + g l (i + 1)) + g l (i + 2)) + g l (i + 3)) ((3 + 1 : Nat) : Int) = some (v4 (g l i) (g l (i + 1)) (g l (i + 2)) (g l (i + 3)), true) := by
    simp only [spec_Be32.l0]
    rw [if_neg (by omega)]
    unfold v4
    simp only [Nat.add_zero, Int.mul_zero, Int.zero_add]
  have j0 : spec_Be32.j0 (k + 9) l (i : Int) false = spec_Be32.l0 (k + 8) l (i : Int) 0 ((0 : Nat) : Int) := by
    simp only [spec_Be32.j0]
    rw [if_neg (by decide)]
    rfl
  have w : wrap64 ((l.length : Int) - 4) = (l.length : Int) - 4 := wr (by omega)
  have d : decide ((i : Int) > (l.length : Int) - 4) = false := decide_eq_false (by omega)
  unfold spec_Be32.f
  rw [if_neg (by omega), w, d, j0, s0, s1, s2, s3, s4]
theorem specOf (l : List Int) (hl : l.length = 4 ∨ l.length = 16) (hB : ∀ i, i < l.length → B (g l i)) {k : Nat} (hk : 8 < k) : spec_AddrOf.f k l = some (ofB l) := by
  rcases hl with h | h
  · unfold ofB
    rw [if_pos h]
    conv => lhs; rw [list4 l h]
    exact specOf4 (hB 0 (by omega)) (hB 1 (by omega)) (hB 2 (by omega)) (hB 3 (by omega)) hk
  · have q0 : spec_Be32.f k l 0 = _ := specBe l h hB 0 (by omega) hk
    have q1 : spec_Be32.f k l 4 = _ := specBe l h hB 4 (by omega) hk
    have q2 : spec_Be32.f k l 8 = _ := specBe l h hB 8 (by omega) hk
    have q3 : spec_Be32.f k l 12 = _ := specBe l h hB 12 (by omega) hk
    unfold spec_AddrOf.f ofB
    rw [h, if_neg (by decide), if_pos (by decide), q0, Option.bind_some, q1, Option.bind_some, q2, Option.bind_some, q3, Option.bind_some, if_neg (by decide)]
theorem clrTo_self (b lo : Nat) : clrTo b lo lo = b := by
  cases lo with
  | zero => rfl
  | succ m => simp only [clrTo]; rw [if_neg (by omega)]
theorem clrTo_low (b lo hi : Nat) (h : hi ≤ lo) : clrTo b lo hi = b := by
  cases hi with
  | zero => rfl
  | succ m => simp only [clrTo]; rw [if_neg (by omega)]
def stB (n : Int) (D : List Int) (I j : Nat) : Nat := clrTo (D.getD j 0).toNat (keepN n j) (keepN (I : Int) j)
def st (n : Int) (D : List Int) (I : Nat) : List Int := (List.range D.length).map (fun j => (stB n D I j : Int))
theorem st_len (n : Int) (D : List Int) (I : Nat) : (st n D I).length = D.length := by simp [st]
theorem st_get (n : Int) (D : List Int) (I j : Nat) (h : j < D.length) : (st n D I).getD j 0 = (stB n D I j : Int) := by
  rw [List.getD_eq_getElem?_getD, List.getElem?_eq_getElem (by rw [st_len]; exact h)]
  simp [st]
theorem maskAll_get (n : Int) (D : List Int) (j : Nat) (h : j < D.length) : (maskAll n D).getD j 0 = (maskByte (D.getD j 0).toNat (keepN n j) : Int) := by
  rw [List.getD_eq_getElem?_getD, List.getElem?_eq_getElem (by rw [maskAll_len]; exact h)]
  simp [maskAll]
theorem ext_getD {x y : List Int} (hl : x.length = y.length) (h : ∀ j, j < x.length → x.getD j 0 = y.getD j 0) : x = y := by
  refine List.ext_getElem hl (fun j h1 h2 => ?_)
  have := h j h1
  rw [List.getD_eq_getElem?_getD, List.getD_eq_getElem?_getD, List.getElem?_eq_getElem h1, List.getElem?_eq_getElem h2] at this
  exact this
theorem st_start (n : Nat) (D : List Int) (hB : ∀ i, i < D.length → B (D.getD i 0)) : st (n : Int) D n = D := by
  refine ext_getD (st_len _ _ _) (fun j hj => ?_)
  rw [st_len] at hj
  rw [st_get _ _ _ _ hj, stB, clrTo_self]
  have := (hB j hj).1
  omega
theorem st_end (n : Int) (D : List Int) (hB : ∀ i, i < D.length → B (D.getD i 0)) : st n D (8 * D.length) = maskAll n D := by
  refine ext_getD (by rw [st_len, maskAll_len]) (fun j hj => ?_)
  rw [st_len] at hj
  rw [st_get _ _ _ _ hj, maskAll_get _ _ _ hj, stB]
  have hb := hB j hj
  unfold B at hb
  rw [show keepN ((8 * D.length : Nat) : Int) j = 8 by unfold keepN; omega, (clr_mask (b := (D.getD j 0).toNat) (k := keepN n j) (by omega) (keepN_le n j)).1]
theorem st_cur (n : Int) (D : List Int) (I : Nat) : stB n D I (I / 8) = clrTo (D.getD (I / 8) 0).toNat (keepN n (I / 8)) (I % 8) := by
  unfold stB
  rw [show keepN (I : Int) (I / 8) = I % 8 by unfold keepN; omega]
theorem st_lt (n : Int) (D : List Int) (I j : Nat) (hj : j < D.length) (hB : ∀ i, i < D.length → B (D.getD i 0)) : stB n D I j ≤ 255 := by
  have hb := hB j hj
  unfold B at hb
  exact (clr_mask (b := (D.getD j 0).toNat) (k := keepN n j) (by omega) (keepN_le n j)).2.2 _ (keepN_le _ _)
theorem st_step (n : Int) (D : List Int) (I : Nat) (hn : n ≤ (I : Int)) (hI : I < 8 * D.length) : st n D (I + 1) = (st n D I).set (I / 8) ((clr (stB n D I (I / 8)) (I % 8) : Nat) : Int) := by
  refine ext_getD (by simp [st_len]) (fun j hj => ?_)
  rw [st_len] at hj
  rw [st_get _ _ _ _ hj]
  by_cases e : j = I / 8
  · subst e
    rw [List.getD_eq_getElem?_getD, List.getElem?_set_self (by rw [st_len]; exact hj), Option.getD_some, st_cur]
    unfold stB
    rw [show keepN ((I + 1 : Nat) : Int) (I / 8) = I % 8 + 1 by unfold keepN; omega]
    simp only [clrTo]
    rw [if_pos (by unfold keepN; omega)]
  · rw [List.getD_eq_getElem?_getD, List.getElem?_set_ne (by omega), ← List.getD_eq_getElem?_getD, st_get _ _ _ _ hj]
    unfold stB
    rw [show keepN ((I + 1 : Nat) : Int) j = keepN (I : Int) j by unfold keepN; omega]
theorem v4_B {a b c d : Int} (ha : B a) (hb : B b) (hc : B c) (hd : B d) : 0 ≤ v4 a b c d ∧ v4 a b c d ≤ 4294967295 := by
  unfold B at *
  unfold v4
  omega
theorem bytes4_v4 {a b c d : Int} (ha : B a) (hb : B b) (hc : B c) (hd : B d) : bytes4 (v4 a b c d) = [a, b, c, d] := by
  unfold B at *
  unfold v4 bytes4
  rw [show (256 * (256 * (256 * a + b) + c) + d) / 16777216 % 256 = a by omega, show (256 * (256 * (256 * a + b) + c) + d) / 65536 % 256 = b by omega, show (256 * (256 * (256 * a + b) + c) + d) / 256 % 256 = c by omega, show (256 * (256 * (256 * a + b) + c) + d) % 256 = d by omega]
theorem v4_bytes4 {n : Int} (h : 0 ≤ n ∧ n ≤ 4294967295) : v4 (n / 16777216 % 256) (n / 65536 % 256) (n / 256 % 256) (n % 256) = n := by
  unfold v4
  omega
theorem no_carry {t b k : Nat} (ht : t < 256) (hb : b < 256) (hk : k ≤ 8) : maskByte t k + (b - maskByte b k) < 256 ∧ maskByte b k ≤ b := by
  unfold maskByte
  have : k = 0 ∨ k = 1 ∨ k = 2 ∨ k = 3 ∨ k = 4 ∨ k = 5 ∨ k = 6 ∨ k = 7 ∨ k = 8 := by omega
  rcases this with rfl | rfl | rfl | rfl | rfl | rfl | rfl | rfl | rfl <;> simp only [Nat.sub_self, Nat.reduceSub, Nat.reducePow] <;> omega
/-! ### cutting, prefixes, translation -/
def five (r : Int × Int × Int × Int × Int × Bool) : Int × Int × Int × Int × Int := (r.1, r.2.1, r.2.2.1, r.2.2.2.1, r.2.2.2.2.1)
def bitsN (k : Int) : Int := if k = 4 then 32 else 128
theorem implBits (k a b c d : Int) : impl_bitsOf.f k a b c d = some (bitsN k) := by
  unfold impl_bitsOf.f bitsN
  split <;> rfl
theorem specBits (k a b c d : Int) : spec_l03Bits.f k a b c d = some (bitsN k) := by
  unfold spec_l03Bits.f bitsN
  split <;> rfl
theorem bytes4_B (n : Int) : ∀ x ∈ bytes4 n, B x := by
  intro x hx
  simp only [bytes4, List.mem_cons, List.not_mem_nil, or_false] at hx
  unfold B
  rcases hx with rfl | rfl | rfl | rfl <;> omega
theorem addrOk_kind {k a b c d : Int} (h : addrOk k a b c d = true) : k = 4 ∨ k = 6 := by
  unfold addrOk at h
  by_cases h4 : k = 4
  · exact .inl h4
  · rw [if_neg h4] at h
    by_cases h6 : k = 6
    · exact .inr h6
    · rw [if_neg h6] at h
      cases h
theorem g_mem {l : List Int} {i : Nat} (h : i < l.length) : g l i ∈ l := by
  unfold g
  rw [List.getD_eq_getElem?_getD, List.getElem?_eq_getElem h]
  exact List.getElem_mem h
theorem addrBytes_ok {k a b c d : Int} (h : addrOk k a b c d = true) : (8 * (addrBytes k a b c d).length : Int) = bitsN k ∧ ((addrBytes k a b c d).length = 4 ∨ (addrBytes k a b c d).length = 16) ∧ (∀ i, i < (addrBytes k a b c d).length → B (g (addrBytes k a b c d) i)) := by
  have hm : ∀ x ∈ addrBytes k a b c d, B x := by
    unfold addrBytes
    rw [if_pos h]
    by_cases h4 : k = 4
    · rw [if_pos h4]
      exact bytes4_B d
    · rw [if_neg h4]
      intro x hx
      simp only [List.mem_append] at hx
      rcases hx with ((hx | hx) | hx) | hx <;> exact bytes4_B _ x hx
  refine ⟨?_, ?_, fun i hi => hm _ (g_mem hi)⟩
  · unfold addrBytes bitsN
    rw [if_pos h]
    by_cases h4 : k = 4
    · rw [if_pos h4, if_pos h4]
      rfl
    · rw [if_neg h4, if_neg h4]
      rfl
  · unfold addrBytes
    rw [if_pos h]
    by_cases h4 : k = 4
    · rw [if_pos h4]
      exact .inl rfl
    · rw [if_neg h4]
      exact .inr rfl
theorem ofB_addrBytes {k a b c d : Int} (h : addrOk k a b c d = true) : five (ofB (addrBytes k a b c d)) = (k, a, b, c, d) := by
  have h' := h
  unfold addrOk at h
  unfold addrBytes
  rw [if_pos h']
  by_cases h4 : k = 4
  · rw [if_pos h4] at h
    simp only [Bool.and_eq_true, within_iff, decide_eq_true_eq] at h
    rw [if_pos h4, h4, h.1.1, h.1.2.1, h.1.2.2]
    have e := v4_bytes4 h.2
    unfold five ofB
    rw [if_pos (by rfl)]
    exact congrArg (fun z => ((4 : Int), (0 : Int), (0 : Int), (0 : Int), z)) e
  · rw [if_neg h4] at h
    by_cases h6 : k = 6
    · rw [if_pos h6] at h
      simp only [Bool.and_eq_true, within_iff] at h
      have e1 := v4_bytes4 h.1.1.1
      have e2 := v4_bytes4 h.1.1.2
      have e3 := v4_bytes4 h.1.2
      have e4 := v4_bytes4 h.2
      rw [if_neg h4, h6]
      have hh : five (ofB (bytes4 a ++ bytes4 b ++ bytes4 c ++ bytes4 d)) = (6, v4 (a / 16777216 % 256) (a / 65536 % 256) (a / 256 % 256) (a % 256), v4 (b / 16777216 % 256) (b / 65536 % 256) (b / 256 % 256) (b % 256), v4 (c / 16777216 % 256) (c / 65536 % 256) (c / 256 % 256) (c % 256), v4 (d / 16777216 % 256) (d / 65536 % 256) (d / 256 % 256) (d % 256)) := by
        unfold five ofB
        rw [if_neg (by simp [bytes4])]
        rfl
      rw [hh, e1, e2, e3, e4]
    · rw [if_neg h6] at h
      cases h
theorem ofB_ok {l : List Int} (hl : l.length = 4 ∨ l.length = 16) (hB : ∀ i, i < l.length → B (g l i)) : addrOk (five (ofB l)).1 (five (ofB l)).2.1 (five (ofB l)).2.2.1 (five (ofB l)).2.2.2.1 (five (ofB l)).2.2.2.2 = true ∧ addrBytes (five (ofB l)).1 (five (ofB l)).2.1 (five (ofB l)).2.2.1 (five (ofB l)).2.2.2.1 (five (ofB l)).2.2.2.2 = l := by
  rcases hl with h | h
  · have f : five (ofB l) = (4, 0, 0, 0, v4 (g l 0) (g l 1) (g l 2) (g l 3)) := by
      unfold five ofB
      rw [if_pos h]
    have r := v4_B (hB 0 (by omega)) (hB 1 (by omega)) (hB 2 (by omega)) (hB 3 (by omega))
    rw [f]
    have ok : addrOk 4 0 0 0 (v4 (g l 0) (g l 1) (g l 2) (g l 3)) = true := by
      unfold addrOk
      rw [if_pos rfl]
      simp only [Bool.and_eq_true, within_iff, decide_eq_true_eq]
      exact ⟨⟨trivial, trivial, trivial⟩, r⟩
    refine ⟨ok, ?_⟩
    show addrBytes 4 0 0 0 (v4 (g l 0) (g l 1) (g l 2) (g l 3)) = l
    unfold addrBytes
    rw [if_pos ok, if_pos rfl, bytes4_v4 (hB 0 (by omega)) (hB 1 (by omega)) (hB 2 (by omega)) (hB 3 (by omega))]
    exact (list4 l h).symm
  · have f : five (ofB l) = (6, v4 (g l 0) (g l 1) (g l 2) (g l 3), v4 (g l 4) (g l 5) (g l 6) (g l 7), v4 (g l 8) (g l 9) (g l 10) (g l 11), v4 (g l 12) (g l 13) (g l 14) (g l 15)) := by
      unfold five ofB
      rw [if_neg (by omega)]
    have r1 := v4_B (hB 0 (by omega)) (hB 1 (by omega)) (hB 2 (by omega)) (hB 3 (by omega))
    have r2 := v4_B (hB 4 (by omega)) (hB 5 (by omega)) (hB 6 (by omega)) (hB 7 (by omega))
    have r3 := v4_B (hB 8 (by omega)) (hB 9 (by omega)) (hB 10 (by omega)) (hB 11 (by omega))
    have r4 := v4_B (hB 12 (by omega)) (hB 13 (by omega)) (hB 14 (by omega)) (hB 15 (by omega))
    rw [f]
    have ok : addrOk 6 (v4 (g l 0) (g l 1) (g l 2) (g l 3)) (v4 (g l 4) (g l 5) (g l 6) (g l 7)) (v4 (g l 8) (g l 9) (g l 10) (g l 11)) (v4 (g l 12) (g l 13) (g l 14) (g l 15)) = true := by
      unfold addrOk
      rw [if_neg (by decide), if_pos rfl]
      simp only [Bool.and_eq_true, within_iff]
      exact ⟨⟨⟨r1, r2⟩, r3⟩, r4⟩
    refine ⟨ok, ?_⟩
    show addrBytes 6 (v4 (g l 0) (g l 1) (g l 2) (g l 3)) (v4 (g l 4) (g l 5) (g l 6) (g l 7)) (v4 (g l 8) (g l 9) (g l 10) (g l 11)) (v4 (g l 12) (g l 13) (g l 14) (g l 15)) = l
    unfold addrBytes
    rw [if_pos ok, if_neg (by decide), bytes4_v4 (hB 0 (by omega)) (hB 1 (by omega)) (hB 2 (by omega)) (hB 3 (by omega)), bytes4_v4 (hB 4 (by omega)) (hB 5 (by omega)) (hB 6 (by omega)) (hB 7 (by omega)), bytes4_v4 (hB 8 (by omega)) (hB 9 (by omega)) (hB 10 (by omega)) (hB 11 (by omega)), bytes4_v4 (hB 12 (by omega)) (hB 13 (by omega)) (hB 14 (by omega)) (hB 15 (by omega))]
    exact (list16 l h).symm
theorem maskAll_B (n : Int) (D : List Int) (hB : ∀ i, i < D.length → B (g D i)) : ∀ i, i < (maskAll n D).length → B (g (maskAll n D) i) := by
  intro i hi
  rw [maskAll_len] at hi
  have hb := hB i hi
  unfold B g at *
  rw [maskAll_get n D i hi]
  have := mask_lt (b := (D.getD i 0).toNat) (k := keepN n i) (by omega)
  omega
def cutF (n k a b c d : Int) : Int × Int × Int × Int × Int := if addrOk k a b c d = true ∧ 0 ≤ n ∧ n ≤ bitsN k then five (ofB (maskAll n (addrBytes k a b c d))) else (0, 0, 0, 0, 0)
theorem bitsN_le (k : Int) : bitsN k ≤ 128 := by unfold bitsN; split <;> omega
theorem implCut (n k a b c d : Int) {m : Nat} (hm : 60 < m) : impl_Cut.f m k a b c d n = some (cutF n k a b c d) := by
  obtain ⟨m, rfl⟩ : ∃ j, m = j + 1 := ⟨m - 1, by omega⟩
  have hj : impl_Cut.j0 (m + 1) n true k a b c d = some (0, 0, 0, 0, 0) := by
    simp only [impl_Cut.j0]
    rfl
  unfold impl_Cut.f cutF
  rw [implAddr, Option.bind_some]
  cases h : addrOk k a b c d with
  | false => rw [if_neg (by decide), if_neg (by simp), hj]
  | true =>
    rw [if_pos rfl, implBits, Option.bind_some, within_eq, Option.bind_some]
    by_cases hn : 0 ≤ n ∧ n ≤ bitsN k
    · rw [show within n 0 (bitsN k) = true from within_iff.2 hn, if_pos ⟨rfl, hn⟩]
      obtain ⟨h1, h2, h3⟩ := addrBytes_ok h
      have hb := bitsN_le k
      have hl : (addrBytes k a b c d).length ≤ 16 := addrBytes_len k a b c d
      simp only [impl_Cut.j0]
      rw [if_neg (by decide), implAddrBytes _ _ _ _ _ (by omega), Option.bind_some]
      have hk : m = (m - (addrBytes k a b c d).length - 1) + (addrBytes k a b c d).length + 1 := by omega
      rw [hk]
      have := implCutLoop n (by omega) (addrBytes k a b c d) hl h3 (m - (addrBytes k a b c d).length - 1) (addrBytes k a b c d).length 0 (addrBytes k a b c d) (by omega) rfl (by simp) (fun _ _ => rfl)
      rw [show ((0 : Nat) : Int) = 0 from rfl] at this
      rw [this, implOf (maskAll n (addrBytes k a b c d)) (by rw [maskAll_len]; exact h2) (maskAll_B n _ h3) (by omega)]
      rfl
    · rw [show within n 0 (bitsN k) = false by cases hw : within n 0 (bitsN k) with | false => rfl | true => exact absurd (within_iff.1 hw) hn, if_neg (by intro h; exact hn h.2)]
      exact hj
theorem half {m : Nat} (h : m ≤ 7) : wrap64 (Int.tdiv ((2 ^ (m + 1) : Nat) : Int) 2) = ((2 ^ m : Nat) : Int) := by
  have h1 : 2 ^ m ≤ 2 ^ 7 := Nat.pow_le_pow_right (by omega) h
  have h2 : 2 ^ (m + 1) = 2 ^ m * 2 := Nat.pow_succ 2 m
  rw [Int.tdiv_eq_ediv_of_nonneg (by omega), wr (by omega)]
  omega
theorem cut_l1 (x : List Int) (I : Int) (k a b c d : Int) (K e : Nat) : ∀ p : Nat, e + p ≤ 7 → spec_Cut.l1 (K + p) x I ((2 ^ (e + p) : Nat) : Int) (p : Int) k a b c d = spec_Cut.l1 K x I ((2 ^ e : Nat) : Int) 0 k a b c d := by
  intro p
  induction p with
  | zero => intro _; rfl
  | succ p ih =>
    intro h
    have h1 := half (m := e + p) (by omega)
    have h2 : wrap64 (((p + 1 : Nat) : Int) - 1) = (p : Int) := by rw [wr (by omega)]; omega
    rw [← ih (by omega), show K + (p + 1) = (K + p) + 1 by omega, show e + (p + 1) = (e + p) + 1 by omega]
    rw [spec_Cut.l1, if_pos (by omega), h1, h2]
theorem cut_bit (D : List Int) (n : Int) (I : Nat) (hn : n ≤ (I : Int)) (hD : D.length ≤ 16) (hI : I < 8 * D.length) (hB : ∀ i, i < D.length → B (D.getD i 0)) (k a b c d : Int) (K : Nat) : spec_Cut.l1 (K + 1 + I % 8) (st n D I) (I : Int) 128 (Int.tmod (I : Int) 8) k a b c d = spec_Cut.l0 K (st n D (I + 1)) ((I + 1 : Nat) : Int) k a b c d := by
  have hp : I % 8 < 8 := Nat.mod_lt _ (by omega)
  have e0 : Int.tmod (I : Int) 8 = ((I % 8 : Nat) : Int) := by rw [Int.tmod_eq_emod_of_nonneg (by omega)]; rfl
  have e2 : wrap64 (Int.tdiv (I : Int) 8) = ((I / 8 : Nat) : Int) := by
    rw [Int.tdiv_eq_ediv_of_nonneg (by omega), wr (by omega)]
    rfl
  have hj : I / 8 < D.length := by omega
  obtain ⟨v, hv⟩ : ∃ v, v = stB n D I (I / 8) := ⟨_, rfl⟩
  have hv2 : v ≤ 255 := by rw [hv]; exact st_lt n D I (I / 8) hj hB
  have e3 : rd (st n D I) ((I / 8 : Nat) : Int) = (v : Int) := by
    unfold rd
    rw [Int.toNat_natCast, st_get n D I _ hj, hv]
  obtain ⟨q, hq⟩ : ∃ q, q = 7 - I % 8 := ⟨_, rfl⟩
  have e1 : q + I % 8 = 7 := by omega
  have e9 := cut_l1 (st n D I) (I : Int) k a b c d (K + 1) q (I % 8) (Nat.le_of_eq e1)
  rw [e1] at e9
  have hcl : clr v (I % 8) = if v / 2 ^ q % 2 = 1 then v - 2 ^ q else v := by rw [hq]; rfl
  have hq7 : 2 ^ q ≤ 2 ^ 7 := Nat.pow_le_pow_right (by omega) (by omega)
  have hq0 : 0 < 2 ^ q := Nat.two_pow_pos q
  have e5 : wrap64 ((I : Int) + 1) = ((I + 1 : Nat) : Int) := inc (by omega)
  have hs := st_step n D I hn hI
  rw [← hv, hcl] at hs
  clear hcl e1 hq
  generalize 2 ^ q = Q at hq7 hq0 e9 hs
  have e4 : Int.tmod (wrap64 (Int.tdiv (wrap64 (v : Int)) (Q : Int))) 2 = ((v / Q % 2 : Nat) : Int) := by
    have hv3 : v / Q ≤ v := Nat.div_le_self _ _
    have hw : Int.tdiv (v : Int) (Q : Int) = ((v / Q : Nat) : Int) := (Int.ofNat_tdiv v Q).symm
    rw [wr (x := (v : Int)) (by omega), hw]
    generalize v / Q = z at hv3
    rw [wr (by omega), Int.tmod_eq_emod_of_nonneg (by omega)]
    rfl
  rw [e0, show (128 : Int) = ((2 ^ 7 : Nat) : Int) from rfl, e9, spec_Cut.l1, if_neg (by omega), e2, if_pos (by omega), if_pos (by rw [st_len]; omega), if_neg (by omega), e3, e4, e5, hs]
  by_cases hb : v / Q % 2 = 1
  · have hle : Q ≤ v := by
      rcases Nat.lt_or_ge v Q with h | h
      · rw [Nat.div_eq_of_lt h] at hb
        cases hb
      · exact h
    have e6 : ((v : Int) - (Q : Int) % 256) % 256 = ((v - Q : Nat) : Int) := by omega
    rw [if_pos (by omega), if_pos hb, Int.toNat_natCast, e6]
  · have e7 : st n D I = (st n D I).set (I / 8) (v : Int) := by
      refine ext_getD (by simp) (fun j hj' => ?_)
      by_cases e : j = I / 8
      · subst e
        rw [st_len] at hj'
        rw [List.getD_eq_getElem?_getD (l := (st n D I).set _ _), List.getElem?_set_self (by rw [st_len]; exact hj), Option.getD_some, st_get n D I _ hj, hv]
      · rw [List.getD_eq_getElem?_getD (l := (st n D I).set _ _), List.getElem?_set_ne (by omega), ← List.getD_eq_getElem?_getD]
    rw [if_neg (by omega), if_neg hb, ← e7]
theorem specCutLoop (n : Int) (D : List Int) (hD : D.length = 4 ∨ D.length = 16) (hB : ∀ i, i < D.length → B (D.getD i 0)) (k a b c d : Int) (hk : (8 * D.length : Int) = bitsN k) : ∀ (r I m : Nat), I + r = 8 * D.length → n ≤ (I : Int) → 10 * r + 20 ≤ m → spec_Cut.l0 m (st n D I) (I : Int) k a b c d = some (five (ofB (maskAll n D))) := by
  intro r
  induction r with
  | zero =>
    intro I m h1 h2 h3
    obtain ⟨m, rfl⟩ : ∃ j, m = j + 1 := ⟨m - 1, by omega⟩
    have hI : I = 8 * D.length := by omega
    rw [spec_Cut.l0, specBits, Option.bind_some, if_neg (by omega), hI, st_end n D hB, specOf (maskAll n D) (by rw [maskAll_len]; exact hD) (maskAll_B n D hB) (by omega)]
    rfl
  | succ r ih =>
    intro I m h1 h2 h3
    obtain ⟨m, rfl⟩ : ∃ j, m = (j + 1 + I % 8) + 1 := ⟨m - I % 8 - 2, by omega⟩
    rw [spec_Cut.l0, specBits, Option.bind_some, if_pos (by omega), cut_bit D n I h2 (by omega) (by omega) hB, ih (I + 1) m (by omega) (by omega) (by omega)]
theorem specCut (n k a b c d : Int) {m : Nat} (hm : 1400 < m) : spec_Cut.f m k a b c d n = some (cutF n k a b c d) := by
  obtain ⟨m, rfl⟩ : ∃ j, m = j + 1 := ⟨m - 1, by omega⟩
  have hj : spec_Cut.j0 (m + 1) n true k a b c d = some (0, 0, 0, 0, 0) := by
    rw [spec_Cut.j0, if_pos rfl]
  unfold spec_Cut.f cutF
  rw [specAddr, Option.bind_some]
  cases h : addrOk k a b c d with
  | false => rw [if_neg (by decide), if_neg (by simp), hj]
  | true =>
    rw [if_pos rfl]
    by_cases h0 : n < 0
    · rw [if_pos h0, hj, if_neg (by intro h; omega)]
    · rw [if_neg h0, specBits, Option.bind_some]
      by_cases hn : n ≤ bitsN k
      · obtain ⟨h1, h2, h3⟩ := addrBytes_ok h
        rw [if_pos ⟨rfl, by omega, hn⟩, decide_eq_false (by omega), spec_Cut.j0, if_neg (by decide), specAddrBytes, Option.bind_some]
        obtain ⟨i, rfl⟩ : ∃ i : Nat, n = i := ⟨n.toNat, by omega⟩
        have hl := bitsN_le k
        have := specCutLoop (i : Int) (addrBytes k a b c d) h2 h3 k a b c d h1 (8 * (addrBytes k a b c d).length - i) i m (by omega) (by omega) (by omega)
        rw [st_start i (addrBytes k a b c d) h3] at this
        exact this
      · rw [decide_eq_true (by omega), hj, if_neg (by intro h; exact hn h.2.2)]
def isAny (k a b c d n : Int) : Bool := (k == 0 && (a == 0 && (b == 0 && (c == 0 && (d == 0))))) && (n == 0)
theorem implAny (k a b c d n : Int) : impl_isAny.f k a b c d n = some (isAny k a b c d n) := rfl
theorem specAny (k a b c d n : Int) : spec_l03Any.f k a b c d n = some (isAny k a b c d n) := rfl
def eq5 (x : Int × Int × Int × Int × Int) (k a b c d : Int) : Bool := (x.1 == k && (x.2.1 == a && (x.2.2.1 == b && (x.2.2.2.1 == c && (x.2.2.2.2 == d)))))
theorem eq5_iff {x : Int × Int × Int × Int × Int} {k a b c d : Int} : eq5 x k a b c d = true ↔ x = (k, a, b, c, d) := by
  obtain ⟨x1, x2, x3, x4, x5⟩ := x
  unfold eq5
  simp only [Bool.and_eq_true, beq_iff_eq, Prod.mk.injEq]
def prefOk (k a b c d n : Int) : Bool := isAny k a b c d n || (addrOk k a b c d && (within n 0 (bitsN k) && eq5 (cutF n k a b c d) k a b c d))
theorem implPref (k a b c d n : Int) {m : Nat} (hm : 60 < m) : impl_PrefixOk.f m k a b c d n = some (prefOk k a b c d n) := by
  unfold impl_PrefixOk.f prefOk
  rw [implAny, Option.bind_some, implAddr, Option.bind_some, implBits, Option.bind_some, within_eq, Option.bind_some, implCut n k a b c d hm, Option.bind_some]
  cases isAny k a b c d n <;> cases addrOk k a b c d <;> cases within n 0 (bitsN k) <;> rfl
theorem specPref (k a b c d n : Int) {m : Nat} (hm : 1400 < m) : spec_PrefixOk.f m k a b c d n = some (prefOk k a b c d n) := by
  unfold spec_PrefixOk.f prefOk
  rw [specAny, Option.bind_some, specAddr, Option.bind_some, specBits, Option.bind_some, specCut n k a b c d hm, Option.bind_some]
  unfold within
  cases isAny k a b c d n <;> cases addrOk k a b c d <;> by_cases h1 : 0 ≤ n <;> by_cases h2 : n ≤ bitsN k <;> simp only [h1, h2, ge_iff_le, if_true, if_false, decide_true, decide_false, and_true, true_and, and_false, false_and, Bool.false_and, Bool.true_and, Bool.and_false, Bool.false_or, Bool.true_or, Bool.false_eq_true] <;> rfl
/-! ### modules -/
def rangeOk (lo hi : Int) : Bool := decide (0 ≤ lo ∧ lo ≤ hi ∧ hi ≤ 65535)
theorem implRange (lo hi : Int) : impl_isRange.f lo hi = some (rangeOk lo hi) := by
  unfold impl_isRange.f rangeOk
  by_cases h1 : 0 ≤ lo <;> by_cases h2 : lo ≤ hi <;> by_cases h3 : hi ≤ 65535 <;> simp [h1, h2, h3]
theorem specRange (lo hi : Int) : spec_l09Range.f lo hi = some (rangeOk lo hi) := by
  unfold spec_l09Range.f rangeOk
  by_cases h1 : 0 ≤ lo <;> by_cases h2 : lo ≤ hi <;> by_cases h3 : hi ≤ 65535 <;> simp [h1, h2, h3]
/-! ### rules -/
def ruleOk (p s0 s1 s2 s3 s4 s5 d0 d1 d2 d3 d4 d5 q sl sh dl dh t w c : Int) : Bool := within p 1 9999 && (prefOk s0 s1 s2 s3 s4 s5 && (prefOk d0 d1 d2 d3 d4 d5 && (within q (-1) 255 && (rangeOk sl sh && (rangeOk dl dh && (within t 1 8 && (within w 1 10 && within c 1 8)))))))
theorem implRule (p s0 s1 s2 s3 s4 s5 d0 d1 d2 d3 d4 d5 q sl sh dl dh t w c : Int) {m : Nat} (hm : 60 < m) : impl_RuleOk.f m p s0 s1 s2 s3 s4 s5 d0 d1 d2 d3 d4 d5 q sl sh dl dh t w c = some (ruleOk p s0 s1 s2 s3 s4 s5 d0 d1 d2 d3 d4 d5 q sl sh dl dh t w c) := by
  obtain ⟨m, rfl⟩ : ∃ j, m = j + 1 := ⟨m - 1, by omega⟩
  have hj : ∀ b, impl_RuleOk.j0 (m + 1) b p s0 s1 s2 s3 s4 s5 d0 d1 d2 d3 d4 d5 q sl sh dl dh t w c = some (!b && (within t 1 8 && (within w 1 10 && within c 1 8))) := by
    intro b
    simp only [impl_RuleOk.j0, within_eq, Option.bind_some]
    cases b <;> cases within t 1 8 <;> cases within w 1 10 <;> cases within c 1 8 <;> rfl
  unfold impl_RuleOk.f ruleOk
  rw [within_eq, Option.bind_some, implPref s0 s1 s2 s3 s4 s5 (by omega), Option.bind_some, implPref d0 d1 d2 d3 d4 d5 (by omega), Option.bind_some, within_eq, Option.bind_some, implRange, Option.bind_some, implRange, Option.bind_some, hj, hj]
  generalize within p 1 9999 = b1
  generalize prefOk s0 s1 s2 s3 s4 s5 = b2
  generalize prefOk d0 d1 d2 d3 d4 d5 = b3
  generalize within q (-1) 255 = b4
  generalize rangeOk sl sh = b5
  generalize rangeOk dl dh = b6
  generalize (within t 1 8 && (within w 1 10 && within c 1 8)) = b7
  cases b1 <;> cases b2 <;> cases b3 <;> cases b4 <;> cases b5 <;> cases b6 <;> cases b7 <;> rfl
theorem specRule (p s0 s1 s2 s3 s4 s5 d0 d1 d2 d3 d4 d5 q sl sh dl dh t w c : Int) {m : Nat} (hm : 1401 < m) : spec_RuleOk.f m p s0 s1 s2 s3 s4 s5 d0 d1 d2 d3 d4 d5 q sl sh dl dh t w c = some (ruleOk p s0 s1 s2 s3 s4 s5 d0 d1 d2 d3 d4 d5 q sl sh dl dh t w c) := by
  obtain ⟨m, rfl⟩ : ∃ j, m = j + 1 := ⟨m - 1, by omega⟩
  have hj : ∀ b, spec_RuleOk.j0 (m + 1) b p s0 s1 s2 s3 s4 s5 d0 d1 d2 d3 d4 d5 q sl sh dl dh t w c = some (!b && (rangeOk sl sh && (rangeOk dl dh && (within t 1 8 && (within w 1 10 && within c 1 8))))) := by
    intro b
    simp only [spec_RuleOk.j0, specRange, Option.bind_some]
    cases b with
    | true => rfl
    | false =>
      rw [if_neg (show ¬ (false = true) by decide)]
      cases rangeOk sl sh with
      | false => rfl
      | true =>
        rw [if_pos rfl]
        cases rangeOk dl dh with
        | false => rfl
        | true =>
          rw [if_pos rfl]
          unfold within
          by_cases h1 : t ≥ 1
          · rw [if_pos h1]
            by_cases h2 : t ≤ 8
            · rw [if_pos h2, decide_eq_true (show 1 ≤ t ∧ t ≤ 8 by omega)]
              by_cases h3 : w ≥ 1
              · rw [if_pos h3]
                by_cases h4 : w ≤ 10
                · rw [if_pos h4, decide_eq_true (show 1 ≤ w ∧ w ≤ 10 by omega)]
                  by_cases h5 : c ≥ 1
                  · rw [if_pos h5]
                    by_cases h6 : c ≤ 8
                    · rw [decide_eq_true h6, decide_eq_true (show 1 ≤ c ∧ c ≤ 8 by omega)]; rfl
                    · rw [decide_eq_false h6, decide_eq_false (show ¬ (1 ≤ c ∧ c ≤ 8) by omega)]; rfl
                  · rw [if_neg h5, decide_eq_false (show ¬ (1 ≤ c ∧ c ≤ 8) by omega)]; rfl
                · rw [if_neg h4, decide_eq_false (show ¬ (1 ≤ w ∧ w ≤ 10) by omega)]; rfl
              · rw [if_neg h3, decide_eq_false (show ¬ (1 ≤ w ∧ w ≤ 10) by omega)]; rfl
            · rw [if_neg h2, decide_eq_false (show ¬ (1 ≤ t ∧ t ≤ 8) by omega)]; rfl
          · rw [if_neg h1, decide_eq_false (show ¬ (1 ≤ t ∧ t ≤ 8) by omega)]; rfl
  unfold spec_RuleOk.f ruleOk
  by_cases h1 : p < 1
  · rw [if_pos h1, hj, show within p 1 9999 = false from decide_eq_false (by omega)]; rfl
  · rw [if_neg h1]
    by_cases h2 : p > 9999
    · rw [if_pos h2, hj, show within p 1 9999 = false from decide_eq_false (by omega)]; rfl
    · rw [if_neg h2, specPref s0 s1 s2 s3 s4 s5 (by omega), Option.bind_some, specPref d0 d1 d2 d3 d4 d5 (by omega), Option.bind_some, hj, hj, show within p 1 9999 = true from decide_eq_true (by omega)]
      cases prefOk s0 s1 s2 s3 s4 s5 with
      | false => rfl
      | true =>
        cases prefOk d0 d1 d2 d3 d4 d5 with
        | false => rfl
        | true =>
          rw [if_pos rfl, if_pos rfl]
          by_cases h3 : q < -1
          · rw [if_pos h3, show within q (-1) 255 = false from decide_eq_false (by omega)]; rfl
          · rw [if_neg h3]
            by_cases h4 : q > 255
            · rw [decide_eq_true h4, show within q (-1) 255 = false from decide_eq_false (by omega)]; rfl
            · rw [decide_eq_false h4, show within q (-1) 255 = true from decide_eq_true (by omega)]; rfl
end Go.Proofs.YtbihbbkdciebhaaGreatDoor.T
