/- What a rule's text is. -/
import Derived.Test.YtbihbbkdciebhaaGreatDoorTRr
import Derived.Test.YtbihbbkdciebhaaGreatDoorLb
import Derived.Lib.ItoaLen
import Derived.Lib.Join
namespace Go.Proofs.YtbihbbkdciebhaaGreatDoor.UA
open Go.RowKit Go.Proofs.YtbihbbkdciebhaaGreatDoorW.PrintWords Go.Proofs.YtbihbbkdciebhaaGreatDoor.PRr Go.Proofs.YtbihbbkdciebhaaGreatDoor.T Go.Proofs.YtbihbbkdciebhaaGreatDoor
set_option linter.unusedVariables false
set_option linter.unusedSimpArgs false
theorem wr1 {x : Int} (h0 : -9223372036854775808 ≤ x) (h1 : x ≤ 9223372036854775807) : wrap64 x = x := wr ⟨h0, h1⟩
def I64 (a : Int) : Prop := -9223372036854775808 ≤ a ∧ a ≤ 9223372036854775807
/-- The digits of u, none for 0. -/
def ds (u : Nat) : List Int := if u = 0 then [] else (Lib.decDigits u).map fun b => (b.toNat : Int)
theorem digit (d : Nat) (h : d < 10) : (((UInt8.ofNat (48 + d)).toNat : Nat) : Int) = 48 + (d : Int) := by
  have e : (UInt8.ofNat (48 + d)).toNat = (48 + d) % 256 := by simp
  rw [e]; omega
theorem ds_step {u : Nat} (h : u ≠ 0) : ds u = ds (u / 10) ++ [48 + ((u % 10 : Nat) : Int)] := by
  by_cases h10 : u < 10
  · have e1 : u / 10 = 0 := by omega
    have e2 : u % 10 = u := by omega
    simp only [ds, h, e1, e2, Lib.decDigits_one h10, if_true, if_false, List.map_cons, List.map_nil, digit u h10, List.nil_append]
  · have e1 : u / 10 ≠ 0 := by omega
    have e3 : Lib.decDigits u = Lib.decDigits (u / 10) ++ [UInt8.ofNat (48 + u % 10)] := by rw [Lib.decDigits, dif_neg h10]
    simp only [ds, h, e1, if_false, e3, List.map_append, List.map_cons, List.map_nil, digit (u % 10) (by omega)]
theorem tm (x : Int) : Int.tmod x 10 = if 0 ≤ x then ((x.natAbs % 10 : Nat) : Int) else -((x.natAbs % 10 : Nat) : Int) := by
  split
  · have : x = (x.natAbs : Int) := by omega
    rw [this, Int.natAbs_natCast]; rfl
  · have : x = -(x.natAbs : Int) := by omega
    rw [this, Int.neg_tmod, Int.natAbs_neg, Int.natAbs_natCast]; rfl
theorem td (x : Int) : (Int.tdiv x 10).natAbs = x.natAbs / 10 := by rw [Int.natAbs_tdiv]; rfl
theorem loop (x0 : Int) : ∀ (k K : Nat) (x4 : Int) (x3 : List Int), k < K → I64 x4 → x4.natAbs < 10 ^ k → x3.length + k ≤ 1000 →
    spec_NumText.l0 K x0 x3 x4 = some (strOfNums ((if x0 < 0 then [45] else []) ++ (ds x4.natAbs ++ x3)))
  | 0, K, x4, x3, hK, hr, hk, hl => by
    have h0 : x4 = 0 := by simp at hk; omega
    subst h0
    obtain ⟨K, rfl⟩ : ∃ j, K = j + 1 := ⟨K - 1, by omega⟩
    unfold spec_NumText.l0
    rw [if_pos rfl]
    by_cases hn : x0 < 0
    · rw [if_pos hn]
      simp only [Option.bind_some]
      rw [if_pos (by simp; omega)]
      simp [hn, ds]
    · rw [if_neg hn]
      simp [hn, ds]
  | k + 1, K, x4, x3, hK, hr, hk, hl => by
    obtain ⟨K, rfl⟩ : ∃ j, K = j + 1 := ⟨K - 1, by omega⟩
    by_cases h0 : x4 = 0
    · subst h0
      unfold spec_NumText.l0
      rw [if_pos rfl]
      by_cases hn : x0 < 0
      · rw [if_pos hn]
        simp only [Option.bind_some]
        rw [if_pos (by simp; omega)]
        simp [hn, ds]
      · rw [if_neg hn]
        simp [hn, ds]
    · have hna : x4.natAbs ≠ 0 := by omega
      obtain ⟨hr0, hr1⟩ := hr
      have hm := Nat.mod_lt x4.natAbs (show 0 < 10 by decide)
      have hd : I64 (Int.tdiv x4 10) := by
        have := td x4
        unfold I64
        omega
      have hw : wrap64 (Int.tdiv x4 10) = Int.tdiv x4 10 := wr hd
      have ih : spec_NumText.l0 K x0 ([48 + ((x4.natAbs % 10 : Nat) : Int)] ++ x3) (Int.tdiv x4 10) = _ :=
        loop x0 k K (Int.tdiv x4 10) _ (by omega) hd (by rw [td]; rw [Nat.pow_succ] at hk; omega) (by simp; omega)
      rw [td] at ih
      have e : ds (x4.natAbs / 10) ++ ([48 + ((x4.natAbs % 10 : Nat) : Int)] ++ x3) = ds x4.natAbs ++ x3 := by rw [ds_step hna]; simp
      rw [e] at ih
      conv => lhs; unfold spec_NumText.l0
      rw [if_neg h0]
      by_cases ht : Int.tmod x4 10 < 0
      · rw [if_pos ht]
        have hv : wrap64 (48 + wrap64 (-(Int.tmod x4 10))) % 256 = 48 + ((x4.natAbs % 10 : Nat) : Int) := by
          rw [tm] at ht ⊢
          split at ht
          · omega
          · rename_i hx
            rw [if_neg hx, wr (x := -(-((x4.natAbs % 10 : Nat) : Int))) (by omega), wr (by omega)]
            omega
        simp only [Option.bind_some, hv, hw]
        rw [if_pos (by simp; omega)]
        exact ih
      · rw [if_neg ht]
        have hv : wrap64 (48 + Int.tmod x4 10) % 256 = 48 + ((x4.natAbs % 10 : Nat) : Int) := by
          rw [tm] at ht ⊢
          split at ht
          · rename_i hx
            rw [if_pos hx, wr (by omega)]
            omega
          · rename_i hx
            rw [if_neg hx, wr (by omega)]
            omega
        simp only [Option.bind_some, hv, hw]
        rw [if_pos (by simp; omega)]
        exact ih
theorem bytes (l : List UInt8) : strOfNums (l.map fun b => (b.toNat : Int)) = ⟨l.toArray⟩ := by
  unfold strOfNums
  congr 2
  rw [List.map_map]
  conv => rhs; rw [← List.map_id l]
  refine List.map_congr_left fun b _ => ?_
  simp
/-- A text by its bytes. -/
def ba (l : List UInt8) : ByteArray := ⟨l.toArray⟩
theorem ba_app (a b : List UInt8) : ba a ++ ba b = ba (a ++ b) := by
  apply ByteArray.ext
  simp [ba]
theorem ba_size (a : List UInt8) : (ba a).size = a.length := by simp [ba, ByteArray.size]
theorem ba_data (a : List UInt8) : (ba a).data.toList = a := by simp [ba]
theorem specNum {a : Int} (h : I64 a) {K : Nat} (hK : 20 < K) : spec_NumText.f K a = some (ba (Lib.itoa a)) := by
  unfold spec_NumText.f
  by_cases h0 : a = 0
  · subst h0
    rw [if_pos rfl]
    simp [Lib.itoa, Lib.decDigits_one (show 0 < 10 by decide), ba]
  · rw [if_neg h0, loop a 20 K a [] hK h (by obtain ⟨h1, h2⟩ := h; omega) (by simp)]
    have hna : a.natAbs ≠ 0 := by omega
    congr 1
    unfold ba
    rw [← bytes]
    congr 1
    simp only [ds, hna, if_false, List.append_nil, Lib.itoa]
    by_cases hn : a < 0
    · simp [hn]
    · have : a.toNat = a.natAbs := by omega
      simp [hn, this]
theorem implNum {a : Int} (h : I64 a) : impl_NumText.f a = some (ba (Lib.itoa a)) := by
  unfold impl_NumText.f
  rw [if_pos ⟨h.1, h.2⟩]
  rfl
theorem itoa_len {a : Int} (h : I64 a) : (Lib.itoa a).length ≤ 21 := Lib.itoa_length_le a h.1 h.2
/-! ### base 16 -/
theorem hexL_len (u : Nat) : (Fb.hexL u).length ≤ 4 := by
  unfold Fb.hexL
  split
  · simp
  · split
    · simp
    · split <;> simp
theorem digit16 {u : Nat} (h : u < 16) : spec_l01Digit.f (u : Int) = some (((Fb.hd u).toNat : Nat) : Int) := by
  unfold spec_l01Digit.f Fb.hd
  have e : ∀ m : Nat, (UInt8.ofNat m).toNat = m % 256 := fun m => by simp
  by_cases h1 : u < 10
  · rw [if_pos (by omega), if_pos h1, e, wr (by omega)]
    congr 1
  · rw [if_neg (by omega), if_neg h1, e, wr (by omega)]
    congr 1
theorem str1 (b : UInt8) : strOfNums [((b.toNat : Nat) : Int)] = ba [b] := bytes [b]
theorem hex0 {u : Nat} (h : u < 16) {K : Nat} (hK : 0 < K) : spec_l03Hex.f K (u : Int) = some (ba [Fb.hd u]) := by
  obtain ⟨K, rfl⟩ : ∃ j, K = j + 1 := ⟨K - 1, by omega⟩
  simp only [spec_l03Hex.f]
  rw [if_pos (by omega), digit16 h, Option.bind_some, str1]
theorem hexS {u : Nat} (h0 : 16 ≤ u) (h : u < 65536) {K : Nat} {l : List UInt8} (hl : l.length ≤ 4) (ih : spec_l03Hex.f K ((u / 16 : Nat) : Int) = some (ba l)) : spec_l03Hex.f (K + 1) (u : Int) = some (ba (l ++ [Fb.hd (u % 16)])) := by
  simp only [spec_l03Hex.f]
  have e1 : Int.tdiv (u : Int) 16 = ((u / 16 : Nat) : Int) := by rw [Int.tdiv_eq_ediv_of_nonneg (by omega)]; omega
  have e2 : Int.tmod (u : Int) 16 = ((u % 16 : Nat) : Int) := by rw [Int.tmod_eq_emod_of_nonneg (by omega)]; omega
  rw [if_neg (by omega), e1, wr (by omega), ih, Option.bind_some, e2, digit16 (by omega), Option.bind_some, Option.bind_some, str1, if_pos (by rw [ba_size, ba_size]; simp; omega), ba_app]
theorem specHex {u : Nat} (h : u < 65536) {K : Nat} (hK : 4 < K) : spec_l03Hex.f K (u : Int) = some (ba (Fb.hexL u)) := by
  obtain ⟨K, rfl⟩ : ∃ j, K = j + 4 := ⟨K - 4, by omega⟩
  unfold Fb.hexL
  by_cases c0 : u < 16
  · rw [if_pos c0]; exact hex0 c0 (by omega)
  · rw [if_neg c0]
    by_cases c1 : u < 256
    · rw [if_pos c1]
      exact hexS (by omega) h (l := [Fb.hd (u / 16)]) (by simp) (hex0 (by omega) (by omega))
    · rw [if_neg c1]
      by_cases c2 : u < 4096
      · rw [if_pos c2]
        exact hexS (by omega) h (l := [Fb.hd (u / 16 / 16), Fb.hd (u / 16 % 16)]) (by simp) (hexS (by omega) (by omega) (l := [Fb.hd (u / 16 / 16)]) (by simp) (hex0 (by omega) (by omega)))
      · rw [if_neg c2]
        exact hexS (by omega) h (l := [Fb.hd (u / 16 / 16 / 16), Fb.hd (u / 16 / 16 % 16), Fb.hd (u / 16 % 16)]) (by simp) (hexS (by omega) (by omega) (l := [Fb.hd (u / 16 / 16 / 16), Fb.hd (u / 16 / 16 % 16)]) (by simp) (hexS (by omega) (by omega) (l := [Fb.hd (u / 16 / 16 / 16)]) (by simp) (hex0 (by omega) (by omega))))
theorem implHex {u : Nat} (h : u < 65536) : strconv_FormatInt.f (u : Int) 16 = some (ba (Fb.hexL u)) := by
  unfold strconv_FormatInt.f
  rw [if_pos ⟨by omega, by omega, rfl⟩, Int.toNat_natCast]
  rfl
/-! ### joins -/
theorem tail_cons (s x : List UInt8) (r : List (List UInt8)) : Lib.joinTail s (x :: r) = s ++ (x ++ Lib.joinTail s r) := by simp [Lib.joinTail]
theorem tail_nil (s : List UInt8) : Lib.joinTail s [] = [] := rfl
theorem tail_len (s : List UInt8) (m : Nat) : ∀ r : List (List UInt8), (∀ t ∈ r, t.length ≤ m) → (Lib.joinTail s r).length ≤ (s.length + m) * r.length
  | [], _ => by simp [Lib.joinTail]
  | x :: r, h => by
    have h1 := h x (by simp)
    have h2 := tail_len s m r (fun t ht => h t (by simp [ht]))
    rw [tail_cons, List.length_append, List.length_append, List.length_cons, Nat.mul_succ]
    omega
theorem join_len (s : List UInt8) (m : Nat) (r : List (List UInt8)) (h : ∀ t ∈ r, t.length ≤ m) : (Lib.join r s).length ≤ (s.length + m) * r.length := by
  cases r with
  | nil => simp [Lib.join_nil]
  | cons x r =>
    have h1 := h x (by simp)
    have h2 := tail_len s m r (fun t ht => h t (by simp [ht]))
    rw [Lib.join_cons, List.length_append, List.length_cons, Nat.mul_succ]
    omega
theorem ba_map (l : List (List UInt8)) : (l.map ba).map (·.data.toList) = l := by
  rw [List.map_map]
  conv => rhs; rw [← List.map_id l]
  exact List.map_congr_left fun b _ => ba_data b
theorem joinF (L : List (List UInt8)) (s : List UInt8) (m : Nat) (h0 : 1 ≤ L.length) (h1 : L.length ≤ 100) (hs : s.length ≤ 10) (hm : m ≤ 1000) (h : ∀ t ∈ L, t.length ≤ m) : strings_Join.f (L.map ba) (ba s) = some (ba (Lib.join L s)) := by
  unfold strings_Join.f
  have hj := join_len s m L h
  have hb : (s.length + m) * L.length ≤ 1010 * 100 := Nat.mul_le_mul (by omega) h1
  rw [ba_map, ba_data, if_pos ⟨by simpa using h0, by simp; omega, by omega⟩]
  rfl
/-! ### addresses -/
def ts (D : List Int) : List (List UInt8) := D.map Lib.itoa
def grp (D : List Int) (i : Nat) : Nat := (256 * g D (2 * i) + g D (2 * i + 1)).toNat
def hs (D : List Int) : List (List UInt8) := (List.range 8).map (fun i => Fb.hexL (grp D i))
theorem rdg (l : List Int) (i : Nat) : rd l (i : Int) = g l i := by simp [rd, g]
theorem drop_g {D : List Int} {i : Nat} (h : i < D.length) : D.drop i = g D i :: D.drop (i + 1) := by
  rw [List.drop_eq_getElem_cons h]
  simp [g, h]
theorem ts_drop {D : List Int} {i : Nat} (h : i < D.length) : (ts D).drop i = Lib.itoa (g D i) :: (ts D).drop (i + 1) := by
  unfold ts
  rw [← List.map_drop, ← List.map_drop, drop_g h, List.map_cons]
theorem ts_take {D : List Int} {i : Nat} (h : i < D.length) : (ts D).take (i + 1) = (ts D).take i ++ [Lib.itoa (g D i)] := by
  have e : (ts D)[i]'(by simpa [ts] using h) = Lib.itoa (g D i) := by simp [ts, g, h]
  rw [List.take_succ_eq_append_getElem (by simpa [ts] using h), e]
theorem hs_drop (D : List Int) {i : Nat} (h : i < 8) : (hs D).drop i = Fb.hexL (grp D i) :: (hs D).drop (i + 1) := by
  have hl : (hs D).length = 8 := by simp [hs]
  rw [List.drop_eq_getElem_cons (by omega)]
  simp [hs]
theorem hs_take (D : List Int) {i : Nat} (h : i < 8) : (hs D).take (i + 1) = (hs D).take i ++ [Fb.hexL (grp D i)] := by
  have hl : (hs D).length = 8 := by simp [hs]
  rw [List.take_succ_eq_append_getElem (by omega)]
  simp [hs]
theorem B_I64 {x : Int} (h : B x) : I64 x := ⟨by have := h.1; omega, by have := h.2; omega⟩
theorem lit (l : List UInt8) : (⟨l.toArray⟩ : ByteArray) = ba l := rfl
theorem dot : (⟨#[46]⟩ : ByteArray) = ba [46] := rfl
theorem colon : (⟨#[58]⟩ : ByteArray) = ba [58] := rfl
theorem slash : (⟨#[47]⟩ : ByteArray) = ba [47] := rfl
theorem empty : (⟨#[]⟩ : ByteArray) = ba [] := rfl
theorem spec4 (D : List Int) (hD : D.length = 4) (hB : ∀ i, i < D.length → B (g D i)) : ∀ (d i K : Nat) (acc : List UInt8), i + d = 4 → 0 < i → acc.length + 22 * d ≤ 1000 → d + 30 ≤ K → spec_AddrText.l0 K D (ba acc) (i : Int) = some (ba (acc ++ Lib.joinTail [46] ((ts D).drop i))) := by
  intro d
  induction d with
  | zero =>
    intro i K acc hd hi ha hK
    obtain ⟨K, rfl⟩ : ∃ j, K = j + 2 := ⟨K - 2, by omega⟩
    simp only [spec_AddrText.l0]
    rw [if_neg (by omega)]
    simp only [spec_AddrText.j1]
    rw [if_neg (by omega), List.drop_of_length_le (by simp [ts]; omega), tail_nil, List.append_nil]
  | succ d ih =>
    intro i K acc hd hi ha hK
    obtain ⟨K, rfl⟩ : ∃ j, K = j + 1 := ⟨K - 1, by omega⟩
    have hb := hB i (by omega)
    have hb1 := hb.1
    have hb2 := hb.2
    have hl := itoa_len (B_I64 hb)
    simp only [spec_AddrText.l0]
    have eD : (ts D).drop i = _ := ts_drop (by omega)
    rw [if_pos (by omega), if_pos (by omega), if_pos (by rw [ba_size]; omega), if_pos (by omega), if_pos (by omega), rdg, wr1 (x := g D i) (by omega) (by omega), specNum (B_I64 hb) (by omega), Option.bind_some, dot, ba_app, if_pos (by rw [ba_size, ba_size]; simp; omega), ba_app,
      show wrap64 ((i : Int) + 1) = ((i + 1 : Nat) : Int) by rw [wr (by omega)]; omega, ih (i + 1) K _ (by omega) (by omega) (by simp; omega) (by omega), eD, tail_cons]
    simp
theorem spec4F (D : List Int) (hD : D.length = 4) (hB : ∀ i, i < D.length → B (g D i)) {K : Nat} (hK : 50 ≤ K) : spec_AddrText.l0 K D (⟨#[]⟩ : ByteArray) 0 = some (ba (Lib.join (ts D) [46])) := by
  obtain ⟨K, rfl⟩ : ∃ j, K = j + 1 := ⟨K - 1, by omega⟩
  have hb := hB 0 (by omega)
  have hb1 := hb.1
  have hb2 := hb.2
  have hl := itoa_len (B_I64 hb)
  simp only [spec_AddrText.l0]
  rw [if_pos (by omega), if_neg (by omega), if_pos (by omega), if_pos (by omega), show (0 : Int) = ((0 : Nat) : Int) from rfl, rdg, wr1 (x := g D 0) (by omega) (by omega), specNum (B_I64 hb) (by omega), Option.bind_some, empty, if_pos (by rw [ba_size, ba_size]; simp; omega), ba_app, List.nil_append,
    show wrap64 (((0 : Nat) : Int) + 1) = ((1 : Nat) : Int) by rw [wr (by omega)]; rfl, spec4 D hD hB 3 1 K _ (by omega) (by omega) (by omega) (by omega)]
  have e := ts_drop (D := D) (i := 0) (by omega)
  rw [List.drop_zero] at e
  rw [show Lib.join (ts D) [46] = Lib.join (Lib.itoa (g D 0) :: (ts D).drop (0 + 1)) [46] from congrArg (Lib.join · [46]) e, Lib.join_cons]
theorem impl4 (D : List Int) (hD : D.length = 4) (hB : ∀ i, i < D.length → B (g D i)) : ∀ (d i K : Nat), i + d = 4 → d < K → impl_AddrText.l0 K (((ts D).take i).map ba) D (D.length : Int) (i : Int) = some (ba (Lib.join (ts D) [46])) := by
  intro d
  induction d with
  | zero =>
    intro i K hd hK
    obtain ⟨K, rfl⟩ : ∃ j, K = j + 1 := ⟨K - 1, by omega⟩
    simp only [impl_AddrText.l0]
    rw [if_neg (by omega), List.take_of_length_le (by simp [ts]; omega), dot, joinF (ts D) [46] 21 (by simp [ts]; omega) (by simp [ts]; omega) (by simp) (by omega) (fun t ht => by
      obtain ⟨x, hx, rfl⟩ := List.mem_map.mp ht
      obtain ⟨j, hj, rfl⟩ := List.getElem_of_mem hx
      have := hB j hj
      rw [show g D j = D[j] by simp [g, hj]] at this
      exact itoa_len (B_I64 this))]
    rfl
  | succ d ih =>
    intro i K hd hK
    obtain ⟨K, rfl⟩ : ∃ j, K = j + 1 := ⟨K - 1, by omega⟩
    have hb := hB i (by omega)
    have hb1 := hb.1
    have hb2 := hb.2
    simp only [impl_AddrText.l0]
    rw [if_pos (by omega), if_pos (by omega), if_pos (by omega), rdg, wr (by omega), implNum (B_I64 hb), Option.bind_some, if_pos (by simp [ts]; omega), show wrap64 ((i : Int) + 1) = ((i + 1 : Nat) : Int) by rw [wr (by omega)]; omega]
    have e : ((ts D).take i).map ba ++ [ba (Lib.itoa (g D i))] = ((ts D).take (i + 1)).map ba := by rw [ts_take (by omega), List.map_append]; rfl
    rw [e]
    exact ih (i + 1) K (by omega) (by omega)
theorem grp_lt {D : List Int} (hD : D.length = 16) (hB : ∀ i, i < D.length → B (g D i)) {i : Nat} (h : i < 8) : grp D i < 65536 ∧ ((grp D i : Nat) : Int) = 256 * g D (2 * i) + g D (2 * i + 1) := by
  have h1 := hB (2 * i) (by omega)
  have h2 := hB (2 * i + 1) (by omega)
  obtain ⟨a1, a2⟩ := h1
  obtain ⟨b1, b2⟩ := h2
  unfold grp
  omega
theorem spec16 (D : List Int) (hD : D.length = 16) (hB : ∀ i, i < D.length → B (g D i)) : ∀ (d i K : Nat) (acc : List UInt8), i + d = 8 → 0 < i → acc.length + 5 * d ≤ 1000 → d + 30 ≤ K → spec_AddrText.l1 K D (ba acc) (i : Int) = some (ba (acc ++ Lib.joinTail [58] ((hs D).drop i))) := by
  intro d
  induction d with
  | zero =>
    intro i K acc hd hi ha hK
    obtain ⟨K, rfl⟩ : ∃ j, K = j + 1 := ⟨K - 1, by omega⟩
    simp only [spec_AddrText.l1]
    rw [if_neg (by omega), List.drop_of_length_le (by simp [hs]; omega), tail_nil, List.append_nil]
  | succ d ih =>
    intro i K acc hd hi ha hK
    obtain ⟨K, rfl⟩ : ∃ j, K = j + 1 := ⟨K - 1, by omega⟩
    obtain ⟨hg, hge⟩ := grp_lt hD hB (i := i) (by omega)
    obtain ⟨a1, a2⟩ := hB (2 * i) (by omega)
    obtain ⟨b1, b2⟩ := hB (2 * i + 1) (by omega)
    have hl := hexL_len (grp D i)
    have eD : (hs D).drop i = _ := hs_drop D (by omega)
    have e1 : wrap64 (2 * (i : Int)) = ((2 * i : Nat) : Int) := by rw [wr (by omega)]; omega
    have e2 : wrap64 (((2 * i : Nat) : Int) + 1) = ((2 * i + 1 : Nat) : Int) := by rw [wr (by omega)]; omega
    have e3 : wrap64 (wrap64 (256 * wrap64 (g D (2 * i))) + wrap64 (g D (2 * i + 1))) = ((grp D i : Nat) : Int) := by rw [hge, wr1 (x := g D (2 * i)) (by omega) (by omega), wr1 (x := g D (2 * i + 1)) (by omega) (by omega), wr1 (x := 256 * g D (2 * i)) (by omega) (by omega), wr1 (by omega) (by omega)]
    simp only [spec_AddrText.l1, e1, e2, rdg, e3]
    rw [if_pos (by omega), if_pos (by omega), if_pos (by rw [ba_size]; omega), if_pos (by omega), if_pos (by omega), if_pos (by omega), if_pos (by omega), specHex hg (by omega), Option.bind_some, colon, ba_app, if_pos (by rw [ba_size, ba_size]; simp; omega), ba_app,
      show wrap64 ((i : Int) + 1) = ((i + 1 : Nat) : Int) by rw [wr (by omega)]; omega, ih (i + 1) K _ (by omega) (by omega) (by simp; omega) (by omega), eD, tail_cons]
    simp
theorem spec16F (D : List Int) (hD : D.length = 16) (hB : ∀ i, i < D.length → B (g D i)) {K : Nat} (hK : 50 ≤ K) : spec_AddrText.l1 K D (⟨#[]⟩ : ByteArray) 0 = some (ba (Lib.join (hs D) [58])) := by
  obtain ⟨K, rfl⟩ : ∃ j, K = j + 1 := ⟨K - 1, by omega⟩
  obtain ⟨hg, hge⟩ := grp_lt hD hB (i := 0) (by omega)
  obtain ⟨a1, a2⟩ := hB 0 (by omega)
  obtain ⟨b1, b2⟩ := hB 1 (by omega)
  have hl := hexL_len (grp D 0)
  have e1 : wrap64 (2 * 0) = ((0 : Nat) : Int) := by rw [wr (by omega)]; rfl
  have e2 : wrap64 (((0 : Nat) : Int) + 1) = ((1 : Nat) : Int) := by rw [wr (by omega)]; rfl
  have e3 : wrap64 (wrap64 (256 * wrap64 (g D 0)) + wrap64 (g D 1)) = ((grp D 0 : Nat) : Int) := by rw [hge, wr1 (x := g D 0) (by omega) (by omega), wr1 (x := g D 1) (by omega) (by omega), wr1 (x := 256 * g D 0) (by omega) (by omega), wr1 (by omega) (by omega)]
  simp only [spec_AddrText.l1, e1, e2, rdg, e3]
  rw [if_pos (by omega), if_neg (by omega), if_pos (by omega), if_pos (by omega), if_pos (by omega), if_pos (by omega), specHex hg (by omega), Option.bind_some, empty, if_pos (by rw [ba_size, ba_size]; simp; omega), ba_app, List.nil_append,
    show wrap64 ((0 : Int) + 1) = ((1 : Nat) : Int) by rw [wr (by omega)]; rfl, spec16 D hD hB 7 1 K _ (by omega) (by omega) (by omega) (by omega)]
  have e := hs_drop D (i := 0) (by omega)
  rw [List.drop_zero] at e
  rw [show Lib.join (hs D) [58] = Lib.join (Fb.hexL (grp D 0) :: (hs D).drop (0 + 1)) [58] from congrArg (Lib.join · [58]) e, Lib.join_cons]
theorem two (D : List Int) {n : Nat} (h : n + 1 < D.length) : (D.take (n + 2)).drop n = [g D n, g D (n + 1)] := by
  rw [List.drop_take, show n + 2 - n = 2 by omega, drop_g (by omega), drop_g h]
  rfl
theorem beOf2 {a b : Int} (ha : B a) (hb : B b) {k : Nat} (hk : 3 < k) : impl_beOf.f k [a, b] = some (256 * a + b) := by
  obtain ⟨k, rfl⟩ : ∃ j, k = j + 3 := ⟨k - 3, by omega⟩
  obtain ⟨a1, a2⟩ := ha
  obtain ⟨b1, b2⟩ := hb
  have w1 : wrap64 ((0 : Int) + 1) = 1 := by rw [wr (by omega)]; rfl
  have w2 : wrap64 ((1 : Int) + 1) = 2 := by rw [wr (by omega)]; rfl
  have r0 : rd [a, b] 0 = a := rfl
  have r1 : rd [a, b] 1 = b := rfl
  have o0 := or_byte (n := 0) (b := a) (by omega) (by omega)
  have o1 := or_byte (n := 256 * 0 + a) (b := b) (by omega) (by omega)
  simp only [impl_beOf.f, impl_beOf.l0, List.length_cons, List.length_nil]
  rw [if_pos (by omega), if_pos (by omega), if_pos (by omega), w1, if_pos (by omega), if_pos (by omega), if_pos (by omega), w2, if_neg (by omega), r0, r1, o0, o1]
  congr 1
  omega
theorem impl16 (D : List Int) (hD : D.length = 16) (hB : ∀ i, i < D.length → B (g D i)) : ∀ (d i K : Nat), i + d = 8 → d + 10 < K → impl_AddrText.l1 K D (((hs D).take i).map ba) ((2 * i : Nat) : Int) = some (ba (Lib.join (hs D) [58])) := by
  intro d
  induction d with
  | zero =>
    intro i K hd hK
    obtain ⟨K, rfl⟩ : ∃ j, K = j + 1 := ⟨K - 1, by omega⟩
    simp only [impl_AddrText.l1]
    rw [if_neg (by omega), List.take_of_length_le (by simp [hs]; omega), colon, joinF (hs D) [58] 4 (by simp [hs]) (by simp [hs]) (by simp) (by omega) (fun t ht => by
      obtain ⟨x, hx, rfl⟩ := List.mem_map.mp ht
      exact hexL_len _)]
    rfl
  | succ d ih =>
    intro i K hd hK
    obtain ⟨K, rfl⟩ : ∃ j, K = j + 1 := ⟨K - 1, by omega⟩
    obtain ⟨hg, hge⟩ := grp_lt hD hB (i := i) (by omega)
    have e1 : wrap64 (((2 * i : Nat) : Int) + 2) = ((2 * (i + 1) : Nat) : Int) := by rw [wr (by omega)]; omega
    simp only [impl_AddrText.l1, e1]
    rw [if_pos (by omega), if_pos (by omega), if_pos (by omega), if_pos (by omega), Int.toNat_natCast, Int.toNat_natCast, show 2 * (i + 1) = 2 * i + 2 by omega, two D (by omega), beOf2 (hB _ (by omega)) (hB _ (by omega)) (by omega), Option.bind_some, ← hge, implHex hg, Option.bind_some, if_pos (by simp [hs]; omega)]
    have e : ((hs D).take i).map ba ++ [ba (Fb.hexL (grp D i))] = ((hs D).take (i + 1)).map ba := by rw [hs_take D (by omega), List.map_append]; rfl
    rw [e]
    exact ih (i + 1) K (by omega) (by omega)
/-- An address's text. -/
def at_ (k a b c d : Int) : List UInt8 := if k = 4 then Lib.join (ts (addrBytes k a b c d)) [46] else Lib.join (hs (addrBytes k a b c d)) [58]
theorem at_len {k a b c d : Int} (h : addrOk k a b c d = true) : (at_ k a b c d).length ≤ 100 := by
  obtain ⟨h8, h1, hB⟩ := addrBytes_ok h
  unfold at_
  split
  · have hk : bitsN k = 32 := by rw [bitsN, if_pos ‹_›]
    have := join_len [46] 21 (ts (addrBytes k a b c d)) (fun t ht => by
      obtain ⟨x, hx, rfl⟩ := List.mem_map.mp ht
      obtain ⟨j, hj, rfl⟩ := List.getElem_of_mem hx
      have := hB j hj
      rw [show g (addrBytes k a b c d) j = (addrBytes k a b c d)[j] by simp [g, hj]] at this
      exact itoa_len (B_I64 this))
    have hl : (ts (addrBytes k a b c d)).length = 4 := by simp [ts]; omega
    rw [hl] at this
    simp at this
    omega
  · have := join_len [58] 4 (hs (addrBytes k a b c d)) (fun t ht => by
      obtain ⟨x, hx, rfl⟩ := List.mem_map.mp ht
      exact hexL_len _)
    have hl : (hs (addrBytes k a b c d)).length = 8 := by simp [hs]
    rw [hl] at this
    simp at this
    omega
theorem specAT {k a b c d : Int} (h : addrOk k a b c d = true) {K : Nat} (hK : 100 ≤ K) : spec_AddrText.f K k a b c d = some (ba (at_ k a b c d)) := by
  obtain ⟨h8, h1, hB⟩ := addrBytes_ok h
  unfold spec_AddrText.f at_
  rw [specAddrBytes, Option.bind_some]
  by_cases hk : k = 4
  · have hb : bitsN k = 32 := by rw [bitsN, if_pos hk]
    rw [if_pos (by omega), if_pos hk, spec4F _ (by omega) hB (by omega)]
  · have hb : bitsN k = 128 := by rw [bitsN, if_neg hk]
    obtain ⟨K, rfl⟩ : ∃ j, K = j + 1 := ⟨K - 1, by omega⟩
    rw [if_neg (by omega), if_neg hk]
    simp only [spec_AddrText.j1]
    rw [if_pos (by omega), spec16F _ (by omega) hB (by omega)]
theorem implAT {k a b c d : Int} (h : addrOk k a b c d = true) {K : Nat} (hK : 100 ≤ K) : impl_AddrText.f K k a b c d = some (ba (at_ k a b c d)) := by
  obtain ⟨h8, h1, hB⟩ := addrBytes_ok h
  unfold impl_AddrText.f at_
  rw [implAddrBytes _ _ _ _ _ (by omega), Option.bind_some, Option.bind_some]
  by_cases hk : k = 4
  · have hb : bitsN k = 32 := by rw [bitsN, if_pos hk]
    rw [if_pos hk, if_pos hk]
    exact impl4 _ (by omega) hB 4 0 K (by omega) (by omega)
  · have hb : bitsN k = 128 := by rw [bitsN, if_neg hk]
    rw [if_neg hk, if_neg hk]
    exact impl16 _ (by omega) hB 8 0 K (by omega) (by omega)
/-- A prefix's text. -/
def pt (k a b c d n : Int) : List UInt8 := if isAny k a b c d n = true then [97, 110, 121] else at_ k a b c d ++ [47] ++ Lib.itoa n
theorem pref_ok {k a b c d n : Int} (h : prefOk k a b c d n = true) (h' : ¬ isAny k a b c d n = true) : addrOk k a b c d = true ∧ I64 n := by
  unfold prefOk at h
  simp only [Bool.or_eq_true, Bool.and_eq_true] at h
  rcases h with h | ⟨h1, h2, _⟩
  · exact absurd h h'
  · have := T.within_iff.mp h2
    have := bitsN_le k
    exact ⟨h1, ⟨by omega, by omega⟩⟩
theorem pt_len {k a b c d n : Int} (h : prefOk k a b c d n = true) : (pt k a b c d n).length ≤ 130 := by
  unfold pt
  split
  · simp
  · rename_i hn
    obtain ⟨h1, h2⟩ := pref_ok h hn
    have := at_len h1
    have := itoa_len h2
    simp
    omega
theorem specPT {k a b c d n : Int} (h : prefOk k a b c d n = true) {K : Nat} (hK : 1450 ≤ K) : spec_PrefixText.f K k a b c d n = some (ba (pt k a b c d n)) := by
  unfold spec_PrefixText.f pt
  rw [specPref _ _ _ _ _ _ (by omega), Option.bind_some, if_pos h, specAny, Option.bind_some]
  by_cases hn : isAny k a b c d n = true
  · rw [if_pos hn, if_pos hn]
    rfl
  · obtain ⟨h1, h2⟩ := pref_ok h hn
    have l1 := at_len h1
    have l2 := itoa_len h2
    rw [if_neg hn, if_neg hn, specAT h1 (by omega), Option.bind_some, if_pos (by rw [ba_size]; omega), specNum h2 (by omega), Option.bind_some, slash, ba_app, if_pos (by rw [ba_size, ba_size]; simp; omega), ba_app]
theorem implPT {k a b c d n : Int} (h : prefOk k a b c d n = true) {K : Nat} (hK : 1450 ≤ K) : impl_PrefixText.f K k a b c d n = some (ba (pt k a b c d n)) := by
  unfold impl_PrefixText.f pt
  rw [implPref _ _ _ _ _ _ (by omega), Option.bind_some, if_pos h, implAny, Option.bind_some]
  by_cases hn : isAny k a b c d n = true
  · rw [if_pos hn, if_pos hn]
    rfl
  · obtain ⟨h1, h2⟩ := pref_ok h hn
    have l1 := at_len h1
    have l2 := itoa_len h2
    rw [if_neg hn, if_neg hn, implAT h1 (by omega), Option.bind_some, if_pos (by rw [ba_size]; omega), implNum h2, Option.bind_some, slash, ba_app, if_pos (by rw [ba_size, ba_size]; simp; omega), ba_app]
/-! ### a rule -/
def proto (q : Int) : List UInt8 := if q = -1 then [97, 110, 121] else Lib.itoa q
theorem proto_len {q : Int} (h : I64 q) : (proto q).length ≤ 21 := by
  unfold proto
  split
  · simp
  · exact itoa_len h
theorem l_from : (⟨#[32, 102, 114, 111, 109, 32]⟩ : ByteArray) = ba [32, 102, 114, 111, 109, 32] := rfl
theorem l_to : (⟨#[32, 116, 111, 32]⟩ : ByteArray) = ba [32, 116, 111, 32] := rfl
theorem l_proto : (⟨#[32, 112, 114, 111, 116, 111, 32]⟩ : ByteArray) = ba [32, 112, 114, 111, 116, 111, 32] := rfl
theorem l_sport : (⟨#[32, 115, 112, 111, 114, 116, 32]⟩ : ByteArray) = ba [32, 115, 112, 111, 114, 116, 32] := rfl
theorem l_dport : (⟨#[32, 100, 112, 111, 114, 116, 32]⟩ : ByteArray) = ba [32, 100, 112, 111, 114, 116, 32] := rfl
theorem l_dash : (⟨#[45]⟩ : ByteArray) = ba [45] := rfl
theorem l_tenant : (⟨#[32, 116, 101, 110, 97, 110, 116, 32]⟩ : ByteArray) = ba [32, 116, 101, 110, 97, 110, 116, 32] := rfl
theorem l_weight : (⟨#[32, 119, 101, 105, 103, 104, 116, 32]⟩ : ByteArray) = ba [32, 119, 101, 105, 103, 104, 116, 32] := rfl
theorem l_chain : (⟨#[32, 99, 104, 97, 105, 110, 32]⟩ : ByteArray) = ba [32, 99, 104, 97, 105, 110, 32] := rfl
def words (p s d q sl sh dl dh t w c : List UInt8) : List (List UInt8) := [p, [102, 114, 111, 109], s, [116, 111], d, [112, 114, 111, 116, 111], q, [115, 112, 111, 114, 116], sl ++ [45] ++ sh, [100, 112, 111, 114, 116], dl ++ [45] ++ dh, [116, 101, 110, 97, 110, 116], t, [119, 101, 105, 103, 104, 116], w, [99, 104, 97, 105, 110], c]
theorem ok_parts {p s0 s1 s2 s3 s4 s5 d0 d1 d2 d3 d4 d5 q sl sh dl dh t w c : Int} (h : ruleOk p s0 s1 s2 s3 s4 s5 d0 d1 d2 d3 d4 d5 q sl sh dl dh t w c = true) : prefOk s0 s1 s2 s3 s4 s5 = true ∧ prefOk d0 d1 d2 d3 d4 d5 = true ∧ -1 ≤ q := by
  unfold ruleOk at h
  simp only [Bool.and_eq_true] at h
  exact ⟨h.2.1, h.2.2.1, (T.within_iff.mp h.2.2.2.1).1⟩
def text (p s0 s1 s2 s3 s4 s5 d0 d1 d2 d3 d4 d5 q sl sh dl dh t w c : Int) : List UInt8 :=
  Lib.join (words (Lib.itoa p) (pt s0 s1 s2 s3 s4 s5) (pt d0 d1 d2 d3 d4 d5) (proto q) (Lib.itoa sl) (Lib.itoa sh) (Lib.itoa dl) (Lib.itoa dh) (Lib.itoa t) (Lib.itoa w) (Lib.itoa c)) [32]
theorem z_from : (⟨#[32, 102, 114, 111, 109, 32]⟩ : ByteArray).size = 6 := rfl
theorem z_to : (⟨#[32, 116, 111, 32]⟩ : ByteArray).size = 4 := rfl
theorem z_proto : (⟨#[32, 112, 114, 111, 116, 111, 32]⟩ : ByteArray).size = 7 := rfl
theorem z_sport : (⟨#[32, 115, 112, 111, 114, 116, 32]⟩ : ByteArray).size = 7 := rfl
theorem z_dport : (⟨#[32, 100, 112, 111, 114, 116, 32]⟩ : ByteArray).size = 7 := rfl
theorem z_dash : (⟨#[45]⟩ : ByteArray).size = 1 := rfl
theorem z_tenant : (⟨#[32, 116, 101, 110, 97, 110, 116, 32]⟩ : ByteArray).size = 8 := rfl
theorem z_weight : (⟨#[32, 119, 101, 105, 103, 104, 116, 32]⟩ : ByteArray).size = 8 := rfl
theorem z_chain : (⟨#[32, 99, 104, 97, 105, 110, 32]⟩ : ByteArray).size = 7 := rfl
theorem specJ {K : Nat} {p s0 s1 s2 s3 s4 s5 d0 d1 d2 d3 d4 d5 q sl sh dl dh t w c : Int} {P S D Q A1 A2 A3 A4 A5 A6 A7 : List UInt8} (b1 : P.length ≤ 200) (b2 : S.length ≤ 200) (b3 : D.length ≤ 200) (b4 : Q.length ≤ 200) (b5 : A1.length ≤ 200) (b6 : A2.length ≤ 200) (b7 : A3.length ≤ 200) (b8 : A4.length ≤ 200) (b9 : A5.length ≤ 200) (b10 : A6.length ≤ 200) (b11 : A7.length ≤ 200)
    (hP : spec_NumText.f K p = some (ba P)) (hS : spec_PrefixText.f K s0 s1 s2 s3 s4 s5 = some (ba S)) (hD : spec_PrefixText.f K d0 d1 d2 d3 d4 d5 = some (ba D)) (h1 : spec_NumText.f K sl = some (ba A1)) (h2 : spec_NumText.f K sh = some (ba A2)) (h3 : spec_NumText.f K dl = some (ba A3)) (h4 : spec_NumText.f K dh = some (ba A4)) (h5 : spec_NumText.f K t = some (ba A5)) (h6 : spec_NumText.f K w = some (ba A6)) (h7 : spec_NumText.f K c = some (ba A7)) :
    spec_RuleText.j0 (K + 1) (ba Q) p s0 s1 s2 s3 s4 s5 d0 d1 d2 d3 d4 d5 q sl sh dl dh t w c = some (ba (Lib.join (words P S D Q A1 A2 A3 A4 A5 A6 A7) [32])) := by
  simp only [spec_RuleText.j0]
  rw [hP, Option.bind_some, if_pos (by simp only [ByteArray.size_append, ba_size, z_from, z_to, z_proto, z_sport, z_dport, z_dash, z_tenant, z_weight, z_chain]; omega), hS]
  rw [Option.bind_some, if_pos (by simp only [ByteArray.size_append, ba_size, z_from, z_to, z_proto, z_sport, z_dport, z_dash, z_tenant, z_weight, z_chain]; omega), if_pos (by simp only [ByteArray.size_append, ba_size, z_from, z_to, z_proto, z_sport, z_dport, z_dash, z_tenant, z_weight, z_chain]; omega), hD]
  rw [Option.bind_some, if_pos (by simp only [ByteArray.size_append, ba_size, z_from, z_to, z_proto, z_sport, z_dport, z_dash, z_tenant, z_weight, z_chain]; omega), if_pos (by simp only [ByteArray.size_append, ba_size, z_from, z_to, z_proto, z_sport, z_dport, z_dash, z_tenant, z_weight, z_chain]; omega), if_pos (by simp only [ByteArray.size_append, ba_size, z_from, z_to, z_proto, z_sport, z_dport, z_dash, z_tenant, z_weight, z_chain]; omega)]
  rw [if_pos (by simp only [ByteArray.size_append, ba_size, z_from, z_to, z_proto, z_sport, z_dport, z_dash, z_tenant, z_weight, z_chain]; omega), h1, Option.bind_some, if_pos (by simp only [ByteArray.size_append, ba_size, z_from, z_to, z_proto, z_sport, z_dport, z_dash, z_tenant, z_weight, z_chain]; omega)]
  rw [if_pos (by simp only [ByteArray.size_append, ba_size, z_from, z_to, z_proto, z_sport, z_dport, z_dash, z_tenant, z_weight, z_chain]; omega), h2, Option.bind_some, if_pos (by simp only [ByteArray.size_append, ba_size, z_from, z_to, z_proto, z_sport, z_dport, z_dash, z_tenant, z_weight, z_chain]; omega)]
  rw [if_pos (by simp only [ByteArray.size_append, ba_size, z_from, z_to, z_proto, z_sport, z_dport, z_dash, z_tenant, z_weight, z_chain]; omega), h3, Option.bind_some, if_pos (by simp only [ByteArray.size_append, ba_size, z_from, z_to, z_proto, z_sport, z_dport, z_dash, z_tenant, z_weight, z_chain]; omega)]
  rw [if_pos (by simp only [ByteArray.size_append, ba_size, z_from, z_to, z_proto, z_sport, z_dport, z_dash, z_tenant, z_weight, z_chain]; omega), h4, Option.bind_some, if_pos (by simp only [ByteArray.size_append, ba_size, z_from, z_to, z_proto, z_sport, z_dport, z_dash, z_tenant, z_weight, z_chain]; omega)]
  rw [if_pos (by simp only [ByteArray.size_append, ba_size, z_from, z_to, z_proto, z_sport, z_dport, z_dash, z_tenant, z_weight, z_chain]; omega), h5, Option.bind_some, if_pos (by simp only [ByteArray.size_append, ba_size, z_from, z_to, z_proto, z_sport, z_dport, z_dash, z_tenant, z_weight, z_chain]; omega)]
  rw [if_pos (by simp only [ByteArray.size_append, ba_size, z_from, z_to, z_proto, z_sport, z_dport, z_dash, z_tenant, z_weight, z_chain]; omega), h6, Option.bind_some, if_pos (by simp only [ByteArray.size_append, ba_size, z_from, z_to, z_proto, z_sport, z_dport, z_dash, z_tenant, z_weight, z_chain]; omega)]
  rw [if_pos (by simp only [ByteArray.size_append, ba_size, z_from, z_to, z_proto, z_sport, z_dport, z_dash, z_tenant, z_weight, z_chain]; omega), h7, Option.bind_some, if_pos (by simp only [ByteArray.size_append, ba_size, z_from, z_to, z_proto, z_sport, z_dport, z_dash, z_tenant, z_weight, z_chain]; omega)]
  simp only [l_from, l_to, l_proto, l_sport, l_dport, l_dash, l_tenant, l_weight, l_chain, ba_app]
  simp only [words, Lib.join_cons, Lib.joinTail, List.map_cons, List.map_nil, List.flatten_cons, List.flatten_nil, List.append_assoc, List.cons_append, List.nil_append, List.append_nil]
theorem specRT {p s0 s1 s2 s3 s4 s5 d0 d1 d2 d3 d4 d5 q sl sh dl dh t w c : Int} (hp : I64 p) (hq : I64 q) (hsl : I64 sl) (hsh : I64 sh) (hdl : I64 dl) (hdh : I64 dh) (ht : I64 t) (hw : I64 w) (hc : I64 c)
    (h : ruleOk p s0 s1 s2 s3 s4 s5 d0 d1 d2 d3 d4 d5 q sl sh dl dh t w c = true) {K : Nat} (hK : 1500 < K) : spec_RuleText.f (K + 1) p s0 s1 s2 s3 s4 s5 d0 d1 d2 d3 d4 d5 q sl sh dl dh t w c = some (ba (text p s0 s1 s2 s3 s4 s5 d0 d1 d2 d3 d4 d5 q sl sh dl dh t w c)) := by
  obtain ⟨h1, h2, h3⟩ := ok_parts h
  have e : spec_RuleText.f (K + 1) p s0 s1 s2 s3 s4 s5 d0 d1 d2 d3 d4 d5 q sl sh dl dh t w c = spec_RuleText.j0 (K + 1) (ba (proto q)) p s0 s1 s2 s3 s4 s5 d0 d1 d2 d3 d4 d5 q sl sh dl dh t w c := by
    unfold spec_RuleText.f proto
    rw [specRule _ _ _ _ _ _ _ _ _ _ _ _ _ _ _ _ _ _ _ _ _ (by omega), Option.bind_some, if_pos h]
    by_cases hq0 : q ≥ 0
    · rw [if_pos hq0, specNum hq (by omega), Option.bind_some, if_neg (by omega)]
    · rw [if_neg hq0, if_pos (by omega)]
      rfl
  have b1 := itoa_len hp; have b2 := pt_len h1; have b3 := pt_len h2; have b4 := proto_len hq; have b5 := itoa_len hsl; have b6 := itoa_len hsh; have b7 := itoa_len hdl; have b8 := itoa_len hdh; have b9 := itoa_len ht; have b10 := itoa_len hw; have b11 := itoa_len hc
  rw [e]
  exact specJ (by omega) (by omega) (by omega) (by omega) (by omega) (by omega) (by omega) (by omega) (by omega) (by omega) (by omega) (specNum hp (by omega)) (specPT h1 (by omega)) (specPT h2 (by omega)) (specNum hsl (by omega)) (specNum hsh (by omega)) (specNum hdl (by omega)) (specNum hdh (by omega)) (specNum ht (by omega)) (specNum hw (by omega)) (specNum hc (by omega))
theorem implRT {p s0 s1 s2 s3 s4 s5 d0 d1 d2 d3 d4 d5 q sl sh dl dh t w c : Int} (hp : I64 p) (hq : I64 q) (hsl : I64 sl) (hsh : I64 sh) (hdl : I64 dl) (hdh : I64 dh) (ht : I64 t) (hw : I64 w) (hc : I64 c)
    (h : ruleOk p s0 s1 s2 s3 s4 s5 d0 d1 d2 d3 d4 d5 q sl sh dl dh t w c = true) {K : Nat} (hK : 1500 < K) : impl_RuleText.f K p s0 s1 s2 s3 s4 s5 d0 d1 d2 d3 d4 d5 q sl sh dl dh t w c = some (ba (text p s0 s1 s2 s3 s4 s5 d0 d1 d2 d3 d4 d5 q sl sh dl dh t w c)) := by
  obtain ⟨h1, h2, h3⟩ := ok_parts h
  have e : impl_protoText.f q = some (ba (proto q)) := by
    unfold impl_protoText.f proto
    by_cases hq0 : q = -1
    · rw [if_pos hq0, if_pos hq0]
      rfl
    · rw [if_neg hq0, if_neg hq0, implNum hq]
      rfl
  have b1 := itoa_len hp; have b2 := pt_len h1; have b3 := pt_len h2; have b4 := proto_len hq; have b5 := itoa_len hsl; have b6 := itoa_len hsh; have b7 := itoa_len hdl; have b8 := itoa_len hdh; have b9 := itoa_len ht; have b10 := itoa_len hw; have b11 := itoa_len hc
  unfold impl_RuleText.f
  rw [implRule _ _ _ _ _ _ _ _ _ _ _ _ _ _ _ _ _ _ _ _ _ (by omega), Option.bind_some, if_pos h, implNum hp, Option.bind_some, implPT h1 (by omega), Option.bind_some, implPT h2 (by omega), Option.bind_some, e, Option.bind_some, implNum hsl, Option.bind_some, if_pos (by simp only [ByteArray.size_append, ba_size, z_dash]; omega), implNum hsh, Option.bind_some, if_pos (by simp only [ByteArray.size_append, ba_size, z_dash]; omega), implNum hdl, Option.bind_some, if_pos (by simp only [ByteArray.size_append, ba_size, z_dash]; omega), implNum hdh, Option.bind_some, if_pos (by simp only [ByteArray.size_append, ba_size, z_dash]; omega), implNum ht, Option.bind_some, implNum hw, Option.bind_some, implNum hc, Option.bind_some, l_dash, ba_app, ba_app, ba_app, ba_app]
  have hj := joinF (words (Lib.itoa p) (pt s0 s1 s2 s3 s4 s5) (pt d0 d1 d2 d3 d4 d5) (proto q) (Lib.itoa sl) (Lib.itoa sh) (Lib.itoa dl) (Lib.itoa dh) (Lib.itoa t) (Lib.itoa w) (Lib.itoa c)) [32] 200 (by simp [words]) (by simp [words]) (by simp) (by omega) (fun x hx => by
    simp only [words, List.mem_cons, List.not_mem_nil, or_false] at hx
    rcases hx with rfl | rfl | rfl | rfl | rfl | rfl | rfl | rfl | rfl | rfl | rfl | rfl | rfl | rfl | rfl | rfl | rfl <;> (try simp only [List.length_append, List.length_cons, List.length_nil]) <;> omega)
  exact congrArg (fun o => Option.bind o fun t => some t) hj
end Go.Proofs.YtbihbbkdciebhaaGreatDoor.UA
