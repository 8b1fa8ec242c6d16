/- The heap's printed functions, told by plain definitions on lists. No condition. -/
import Derived.Test.YtjpmhbjbgooheaaPOkx
import Derived.Test.YtjpmhbjbgooheaaFr
import Derived.Test.YtjpmhbjbgooheaaFr
namespace Go.Proofs.Ytjpmhbjbgooheaa.H
open Go.RowKit Go.Proofs.YtjpmhbjbgooheaaW.PrintWords Go.Proofs.YtjpmhbjbgooheaaW.PrintLast Go.Proofs.YtjpmhbjbgooheaaW.PrintMore Go.Proofs.YtjpmhbjbgooheaaFr Go.Proofs.Ytjpmhbjbgooheaa.POk
set_option linter.unusedVariables false
set_option linter.unusedSimpArgs false
/-- Comes before: by tag, then by number. -/
def A (x y : S25) : Bool := decide (x.f0 < y.f0 ∨ x.f0 = y.f0 ∧ x.f1 < y.f1)
theorem specA (x y : S25) : spec_Ahead.f x.f0 x.f1 y.f0 y.f1 = some (A x y) := by
  unfold spec_Ahead.f A
  by_cases h : x.f0 < y.f0
  · simp [h]
  · by_cases h2 : x.f0 = y.f0 <;> simp [h, h2]
theorem implA (x y : S25) : impl_Ahead.f x.f0 x.f1 y.f0 y.f1 = some (A x y) := by
  unfold impl_Ahead.f A
  by_cases h : x.f0 < y.f0
  · simp [h]
  · by_cases h2 : x.f0 = y.f0 <;> simp [h, h2]
def itemOk (a b : Int) : Bool := decide (0 ≤ a ∧ a ≤ 1000000000000 ∧ 0 ≤ b ∧ b ≤ 9999)
theorem specItem (a b : Int) : spec_ItemOk.f a b = some (itemOk a b) := by
  unfold spec_ItemOk.f itemOk
  by_cases h1 : 0 ≤ a <;> by_cases h2 : a ≤ 1000000000000 <;> by_cases h3 : 0 ≤ b <;> simp [*]
theorem implItem (a b : Int) : impl_ItemOk.f a b = some (itemOk a b) := by
  unfold impl_ItemOk.f impl_within.f itemOk
  by_cases h1 : 0 ≤ a <;> by_cases h2 : a ≤ 1000000000000 <;> by_cases h3 : 0 ≤ b <;> simp [*]
theorem wr {x : Int} (h : -9223372036854775808 ≤ x ∧ x ≤ 9223372036854775807) : wrap64 x = x := by unfold wrap64; omega
theorem rdn (L : List S25) (i : Nat) : rd_T25 L (i : Int) = L.getD i z25 := by simp [rd_T25]
theorem getD_some {L : List S25} {i : Nat} (h : i < L.length) : L[i]? = some (L.getD i z25) := by
  rw [List.getD_eq_getElem?_getD, List.getElem?_eq_getElem h]
  rfl
theorem inc {i : Nat} (h : i ≤ 4194304) : wrap64 ((i : Int) + 1) = ((i + 1 : Nat) : Int) := by rw [wr (by omega)]; rfl
theorem par {i : Nat} (h : 0 < i) (hb : i ≤ 4194304) : wrap64 (Int.tdiv (wrap64 ((i : Int) - 1)) 2) = (((i - 1) / 2 : Nat) : Int) := by
  rw [wr (x := (i : Int) - 1) (by omega), Int.tdiv_eq_ediv_of_nonneg (by omega), wr (by omega)]
  omega
/-! ### where an id stands -/
def idx (L : List S25) (a : Int) : Int := Gv.idxOf (fun x => x.f1 == a) L
theorem at_ (L : List S25) (a : Int) (hL : L.length ≤ 1048577) : ∀ (d i k : Nat), L.length - i ≤ d → d < k → i ≤ L.length → (∀ j y, j < i → L[j]? = some y → (y.f1 == a) = false) → spec_l15At.l0 k L a (i : Int) = some (idx L a) := by
  intro d
  induction d with
  | zero =>
    intro i k h1 h2 h3 hn
    obtain ⟨k, rfl⟩ : ∃ k', k = k' + 1 := ⟨k - 1, by omega⟩
    have hi : i = L.length := by omega
    simp only [spec_l15At.l0]
    rw [if_neg (by omega)]
    unfold idx
    rw [Gv.idxOf_miss (fun j y hj => hn j y (by rw [hi]; exact (List.getElem?_eq_some_iff.1 hj).1) hj)]
  | succ d ih =>
    intro i k h1 h2 h3 hn
    obtain ⟨k, rfl⟩ : ∃ k', k = k' + 1 := ⟨k - 1, by omega⟩
    by_cases hi : i < L.length
    · simp only [spec_l15At.l0]
      rw [if_pos (by omega), if_pos (by omega), rdn]
      by_cases hh : (L.getD i z25).f1 = a
      · rw [if_pos hh]
        unfold idx
        rw [Gv.idxOf_hit (getD_some hi) (by simp only [hh, beq_self_eq_true]) hn]
      · rw [if_neg hh, inc (by omega)]
        refine ih (i + 1) k (by omega) (by omega) (by omega) (fun j y hj hy => ?_)
        by_cases e : j = i
        · subst e
          rw [getD_some hi] at hy
          injection hy with hy
          subst hy
          simpa using hh
        · exact hn j y (by omega) hy
    · have hi : i = L.length := by omega
      simp only [spec_l15At.l0]
      rw [if_neg (by omega)]
      unfold idx
      rw [Gv.idxOf_miss (fun j y hj => hn j y (by rw [hi]; exact (List.getElem?_eq_some_iff.1 hj).1) hj)]
theorem atF (L : List S25) (a : Int) (hL : L.length ≤ 1048577) {k : Nat} (hk : L.length < k) : spec_l15At.f k L a = some (idx L a) := by
  unfold spec_l15At.f
  exact at_ L a hL L.length 0 k (by omega) hk (by omega) (fun j y hj => absurd hj (by omega))
theorem placeF (L : List S25) (a : Int) : impl_Heap_place.f L a = some (idx L a) := rfl
theorem idx_lt (L : List S25) (a : Int) : idx L a < L.length := by
  unfold idx Gv.idxOf
  cases h : L.findIdx? (fun x => x.f1 == a) with
  | none => simp; omega
  | some i =>
    have := (List.findIdx?_eq_some_iff_getElem.1 h).1
    simpa using this
/-! ### a heap is in order -/
def chk (L : List S25) (i : Nat) : Bool := itemOk (L.getD i z25).f0 (L.getD i z25).f1 && (idx L (L.getD i z25).f1 == (i : Int)) && !(decide (0 < i) && A (L.getD i z25) (L.getD ((i - 1) / 2) z25))
def okFrom (L : List S25) : Nat → Nat → Bool
  | 0, _ => true
  | n + 1, i => chk L i && okFrom L n (i + 1)
def hok (L : List S25) : Bool := decide (L.length ≤ 64) && okFrom L L.length 0
theorem specOk (L : List S25) (hL : L.length ≤ 1048577) : ∀ (d i k : Nat), i + d = L.length → 2 * d + L.length + 3 < k → spec_HeapOk.l0 k (i : Int) L = some (okFrom L d i) := by
  intro d
  induction d with
  | zero =>
    intro i k h1 h2
    obtain ⟨k, rfl⟩ : ∃ k', k = k' + 1 := ⟨k - 1, by omega⟩
    simp only [spec_HeapOk.l0]
    rw [if_neg (by omega)]
    rfl
  | succ d ih =>
    intro i k h1 h2
    obtain ⟨k, rfl⟩ : ∃ k', k = k' + 2 := ⟨k - 2, by omega⟩
    have hr := ih (i + 1) k (by omega) (by omega)
    simp only [spec_HeapOk.l0, okFrom, chk]
    rw [if_pos (by omega), if_pos (by omega), rdn, specItem, Option.bind_some]
    cases hI : itemOk (L.getD i z25).f0 (L.getD i z25).f1 with
    | false => simp [spec_HeapOk.j1]
    | true =>
      rw [if_pos rfl, atF L _ hL (by omega), Option.bind_some]
      cases hX : idx L (L.getD i z25).f1 == (i : Int) with
      | false =>
        have : (idx L (L.getD i z25).f1 != (i : Int)) = true := by rw [bne, hX]; rfl
        rw [this]
        simp [spec_HeapOk.j1]
      | true =>
        have : (idx L (L.getD i z25).f1 != (i : Int)) = false := by rw [bne, hX]; rfl
        rw [this]
        simp only [spec_HeapOk.j1]
        rw [if_neg (by simp)]
        by_cases h0 : 0 < i
        · rw [if_pos (by omega), if_pos (by omega), if_pos (by omega), par h0 (by omega), if_pos (by omega), if_pos (by omega), rdn, rdn, specA, Option.bind_some, inc (by omega), hr]
          cases A (L.getD i z25) (L.getD ((i - 1) / 2) z25) <;> simp [h0]
        · rw [if_neg (by omega), inc (by omega), hr]
          simp [h0]
theorem implOk (L : List S25) (hL : L.length ≤ 1048577) : ∀ (d i k : Nat), i + d = L.length → d < k → impl_HeapOk.l0 k L (L.length : Int) (i : Int) L = some (okFrom L d i && decide (L.length ≤ 64)) := by
  intro d
  induction d with
  | zero =>
    intro i k h1 h2
    obtain ⟨k, rfl⟩ : ∃ k', k = k' + 1 := ⟨k - 1, by omega⟩
    simp only [impl_HeapOk.l0]
    rw [if_neg (by omega)]
    simp [okFrom]
    omega
  | succ d ih =>
    intro i k h1 h2
    obtain ⟨k, rfl⟩ : ∃ k', k = k' + 1 := ⟨k - 1, by omega⟩
    have hr := ih (i + 1) k (by omega) (by omega)
    simp only [impl_HeapOk.l0, okFrom, chk]
    rw [if_pos (by omega), if_pos (by omega), if_pos (by omega), rdn, implItem, Option.bind_some]
    cases hI : itemOk (L.getD i z25).f0 (L.getD i z25).f1 with
    | false => simp
    | true =>
      rw [if_pos rfl, placeF, Option.bind_some]
      cases hX : idx L (L.getD i z25).f1 == (i : Int) with
      | false =>
        rw [if_neg (by simpa using hX)]
        simp
      | true =>
        rw [if_pos (by simpa using hX)]
        by_cases h0 : 0 < i
        · rw [if_pos (by omega), par h0 (by omega), if_pos (by omega), if_pos (by omega), rdn, implA, Option.bind_some, inc (by omega), hr]
          cases A (L.getD i z25) (L.getD ((i - 1) / 2) z25) <;> simp [h0]
        · rw [if_neg (by omega), inc (by omega), hr]
          simp [h0]
theorem specOkF (L : List S25) (hL : L.length ≤ 1048577) {k : Nat} (hk : 3 * L.length + 3 < k) : spec_HeapOk.f k L = some (hok L) := by
  unfold spec_HeapOk.f hok
  by_cases h : (L.length : Int) > 64
  · rw [if_pos h]
    simp [show ¬ L.length ≤ 64 by omega]
  · rw [if_neg h]
    have := specOk L hL L.length 0 k (by omega) (by omega)
    rw [show ((0 : Nat) : Int) = 0 from rfl] at this
    rw [this]
    simp [show L.length ≤ 64 by omega]
theorem implOkF (L : List S25) (hL : L.length ≤ 1048577) {k : Nat} (hk : L.length < k) : impl_HeapOk.f k L = some (hok L) := by
  unfold impl_HeapOk.f hok
  have := implOk L hL L.length 0 k (by omega) (by omega)
  rw [show ((0 : Nat) : Int) = 0 from rfl] at this
  rw [this, Bool.and_comm]
theorem hok_len {L : List S25} (h : hok L = true) : L.length ≤ 64 := by
  unfold hok at h
  simp at h
  exact h.1
/-! ### conversions, equality, marks -/
def conv (y : S23) : S25 := ⟨y.f0, y.f1⟩
theorem rdn23 (L : List S23) (i : Nat) : rd_T23 L (i : Int) = L.getD i z23 := by simp [rd_T23]
theorem toS_ (l : List S23) (hl : l.length ≤ 1048577) : ∀ (d i k : Nat) (x : List S25), i + d = l.length → d < k → x.length = l.length → x.take i = (l.map conv).take i → laws_toItemS.l0 k l x (i : Int) = some (l.map conv) := by
  intro d
  induction d with
  | zero =>
    intro i k x h1 h2 h3 h4
    obtain ⟨k, rfl⟩ : ∃ k', k = k' + 1 := ⟨k - 1, by omega⟩
    simp only [laws_toItemS.l0]
    rw [if_neg (by omega)]
    rw [List.take_of_length_le (by omega), List.take_of_length_le (by simp; omega)] at h4
    rw [h4]
  | succ d ih =>
    intro i k x h1 h2 h3 h4
    obtain ⟨k, rfl⟩ : ∃ k', k = k' + 1 := ⟨k - 1, by omega⟩
    simp only [laws_toItemS.l0, laws_toItem.f, Option.bind_some]
    rw [if_pos (by omega), if_pos (by omega), if_pos (by omega), inc (by omega), rdn23]
    refine ih (i + 1) k _ (by omega) (by omega) (by simp [h3]) ?_
    have hi : i < l.length := by omega
    rw [List.take_add_one, List.take_add_one, Int.toNat_natCast]
    rw [List.take_set_of_le (Nat.le_refl i), h4]
    congr 1
    rw [List.getElem?_set_self (by omega), List.getElem?_map, List.getElem?_eq_getElem hi]
    simp [conv, List.getD_eq_getElem?_getD, List.getElem?_eq_getElem hi]
theorem toHeapF (l : List S23) (hl : l.length ≤ 1048577) {k : Nat} (hk : l.length < k) : laws_toHeap.f k l = some (l.map conv) := by
  unfold laws_toHeap.f laws_toItemS.f
  rw [if_pos (by omega), if_pos (by omega)]
  have := toS_ l hl l.length 0 k (List.replicate ((l.length : Int)).toNat z25) (by omega) hk (by simp) (by simp)
  rw [show ((0 : Nat) : Int) = 0 from rfl] at this
  rw [this]
  rfl
theorem eqS_ (L : List S25) (hL : L.length ≤ 1048577) : ∀ (d i k : Nat), i + d = L.length → d < k → laws_eqItemS.l0 k L L (i : Int) = some true := by
  intro d
  induction d with
  | zero =>
    intro i k h1 h2
    obtain ⟨k, rfl⟩ : ∃ k', k = k' + 1 := ⟨k - 1, by omega⟩
    simp only [laws_eqItemS.l0]
    rw [if_neg (by omega)]
  | succ d ih =>
    intro i k h1 h2
    obtain ⟨k, rfl⟩ : ∃ k', k = k' + 1 := ⟨k - 1, by omega⟩
    simp only [laws_eqItemS.l0, laws_eqItem.f]
    rw [if_pos (by omega), if_pos (by omega), if_pos (by omega), inc (by omega)]
    simp only [if_true, Option.bind_some]
    exact ih (i + 1) k (by omega) (by omega)
theorem eqHeapF (L : List S25) (hL : L.length ≤ 1048577) {k : Nat} (hk : L.length < k) : laws_eqHeap.f k L L = some true := by
  unfold laws_eqHeap.f laws_eqItemS.f
  have := eqS_ L hL L.length 0 k (by omega) hk
  rw [show ((0 : Nat) : Int) = 0 from rfl] at this
  rw [if_pos rfl, this]
  rfl
theorem eqItemF (a b : Int) : laws_eqItem.f a b a b = some true := by simp [laws_eqItem.f]
theorem sz_small {l : List S23} (h : l.length ≤ 1048576) : laws_szHeap.f l 1048576 = some (1048576 - (l.length : Int)) := by
  unfold laws_szHeap.f laws_szItemS.f
  rw [wr (by omega), if_neg (by omega), Option.bind_some, if_neg (by omega)]
theorem sz_big {l : List S23} (h : l.length ≤ maxLen) (h' : ¬ l.length ≤ 1048576) : laws_szHeap.f l 1048576 = some (-1) := by
  unfold maxLen at h
  unfold laws_szHeap.f laws_szItemS.f
  rw [wr (by omega), if_pos (by omega), Option.bind_some, if_pos (by omega)]
end Go.Proofs.Ytjpmhbjbgooheaa.H
