/- The heap's printed functions, told by plain definitions on lists. No condition. -/
import Derived.Test.YtjpmhbjbgooheaaPMvx
import Derived.Test.YtjpmhbjbgooheaaFr
import Derived.Test.YtjpmhbjbgooheaaFr
namespace Go.Proofs.Ytjpmhbjbgooheaa.H
open Go.RowKit Go.Proofs.YtjpmhbjbgooheaaW.PrintWords Go.Proofs.YtjpmhbjbgooheaaW.PrintLast Go.Proofs.YtjpmhbjbgooheaaFr Go.Proofs.Ytjpmhbjbgooheaa.PMv
set_option linter.unusedVariables false
set_option linter.unusedSimpArgs false
/-- Comes before: by tag, then by number. -/
def A (x y : S25) : Bool := decide (x.f0 < y.f0 ∨ x.f0 = y.f0 ∧ x.f1 < y.f1)
theorem specA (x y : S25) : spec_Ahead.f x.f0 x.f1 y.f0 y.f1 = some (A x y) := by
  unfold spec_Ahead.f A
  by_cases h : x.f0 < y.f0
  · simp [h]
  · by_cases h2 : x.f0 = y.f0 <;> simp [h, h2]
theorem implA (x y : S25) : impl_Ahead.f x.f0 x.f1 y.f0 y.f1 = some (A x y) := by
  unfold impl_Ahead.f A
  by_cases h : x.f0 < y.f0
  · simp [h]
  · by_cases h2 : x.f0 = y.f0 <;> simp [h, h2]
def itemOk (a b : Int) : Bool := decide (0 ≤ a ∧ a ≤ 1000000000000 ∧ 0 ≤ b ∧ b ≤ 9999)
theorem specItem (a b : Int) : spec_ItemOk.f a b = some (itemOk a b) := by
  unfold spec_ItemOk.f itemOk
  by_cases h1 : 0 ≤ a <;> by_cases h2 : a ≤ 1000000000000 <;> by_cases h3 : 0 ≤ b <;> simp [*]
theorem implItem (a b : Int) : impl_ItemOk.f a b = some (itemOk a b) := by
  unfold impl_ItemOk.f impl_within.f itemOk
  by_cases h1 : 0 ≤ a <;> by_cases h2 : a ≤ 1000000000000 <;> by_cases h3 : 0 ≤ b <;> simp [*]
theorem wr {x : Int} (h : -9223372036854775808 ≤ x ∧ x ≤ 9223372036854775807) : wrap64 x = x := by unfold wrap64; omega
theorem rdn (L : List S25) (i : Nat) : rd_T25 L (i : Int) = L.getD i z25 := by simp [rd_T25]
theorem getD_some {L : List S25} {i : Nat} (h : i < L.length) : L[i]? = some (L.getD i z25) := by
  rw [List.getD_eq_getElem?_getD, List.getElem?_eq_getElem h]
  rfl
theorem inc {i : Nat} (h : i ≤ 4194304) : wrap64 ((i : Int) + 1) = ((i + 1 : Nat) : Int) := by rw [wr (by omega)]; rfl
theorem par {i : Nat} (h : 0 < i) (hb : i ≤ 4194304) : wrap64 (Int.tdiv (wrap64 ((i : Int) - 1)) 2) = (((i - 1) / 2 : Nat) : Int) := by
  rw [wr (x := (i : Int) - 1) (by omega), Int.tdiv_eq_ediv_of_nonneg (by omega), wr (by omega)]
  omega
/-! ### where an id stands -/
def idx (L : List S25) (a : Int) : Int := Gv.idxOf (fun x => x.f1 == a) L
theorem at_ (L : List S25) (a : Int) (hL : L.length ≤ 1048577) : ∀ (d i k : Nat), L.length - i ≤ d → d < k → i ≤ L.length → (∀ j y, j < i → L[j]? = some y → (y.f1 == a) = false) → spec_l15At.l0 k L a (i : Int) = some (idx L a) := by
  intro d
  induction d with
  | zero =>
    intro i k h1 h2 h3 hn
    obtain ⟨k, rfl⟩ : ∃ k', k = k' + 1 := ⟨k - 1, by omega⟩
    have hi : i = L.length := by omega
    simp only [spec_l15At.l0]
    rw [if_neg (by omega)]
    unfold idx
    rw [Gv.idxOf_miss (fun j y hj => hn j y (by rw [hi]; exact (List.getElem?_eq_some_iff.1 hj).1) hj)]
  | succ d ih =>
    intro i k h1 h2 h3 hn
    obtain ⟨k, rfl⟩ : ∃ k', k = k' + 1 := ⟨k - 1, by omega⟩
    by_cases hi : i < L.length
    · simp only [spec_l15At.l0]
      rw [if_pos (by omega), if_pos (by omega), rdn]
      by_cases hh : (L.getD i z25).f1 = a
      · rw [if_pos hh]
        unfold idx
        rw [Gv.idxOf_hit (getD_some hi) (by simp only [hh, beq_self_eq_true]) hn]
      · rw [if_neg hh, inc (by omega)]
        refine ih (i + 1) k (by omega) (by omega) (by omega) (fun j y hj hy => ?_)
        by_cases e : j = i
        · subst e
          rw [getD_some hi] at hy
          injection hy with hy
          subst hy
          simpa using hh
        · exact hn j y (by omega) hy
    · have hi : i = L.length := by omega
      simp only [spec_l15At.l0]
      rw [if_neg (by omega)]
      unfold idx
      rw [Gv.idxOf_miss (fun j y hj => hn j y (by rw [hi]; exact (List.getElem?_eq_some_iff.1 hj).1) hj)]
theorem atF (L : List S25) (a : Int) (hL : L.length ≤ 1048577) {k : Nat} (hk : L.length < k) : spec_l15At.f k L a = some (idx L a) := by
  unfold spec_l15At.f
  exact at_ L a hL L.length 0 k (by omega) hk (by omega) (fun j y hj => absurd hj (by omega))
theorem placeF (L : List S25) (a : Int) : impl_Heap_place.f L a = some (idx L a) := rfl
theorem idx_lt (L : List S25) (a : Int) : idx L a < L.length := by
  unfold idx Gv.idxOf
  cases h : L.findIdx? (fun x => x.f1 == a) with
  | none => simp; omega
  | some i =>
    have := (List.findIdx?_eq_some_iff_getElem.1 h).1
    simpa using this
/-! ### a heap is in order -/
def chk (L : List S25) (i : Nat) : Bool := itemOk (L.getD i z25).f0 (L.getD i z25).f1 && (idx L (L.getD i z25).f1 == (i : Int)) && !(decide (0 < i) && A (L.getD i z25) (L.getD ((i - 1) / 2) z25))
def okFrom (L : List S25) : Nat → Nat → Bool
  | 0, _ => true
  | n + 1, i => chk L i && okFrom L n (i + 1)
def hok (L : List S25) : Bool := decide (L.length ≤ 64) && okFrom L L.length 0
theorem specOk (L : List S25) (hL : L.length ≤ 1048577) : ∀ (d i k : Nat), i + d = L.length → 2 * d + L.length + 3 < k → spec_HeapOk.l0 k (i : Int) L = some (okFrom L d i) := by
  intro d
  induction d with
  | zero =>
    intro i k h1 h2
    obtain ⟨k, rfl⟩ : ∃ k', k = k' + 1 := ⟨k - 1, by omega⟩
    simp only [spec_HeapOk.l0]
    rw [if_neg (by omega)]
    rfl
  | succ d ih =>
    intro i k h1 h2
    obtain ⟨k, rfl⟩ : ∃ k', k = k' + 2 := ⟨k - 2, by omega⟩
    have hr := ih (i + 1) k (by omega) (by omega)
    simp only [spec_HeapOk.l0, okFrom, chk]
    rw [if_pos (by omega), if_pos (by omega), rdn, specItem, Option.bind_some]
    cases hI : itemOk (L.getD i z25).f0 (L.getD i z25).f1 with
    | false => simp [spec_HeapOk.j1]
    | true =>
      rw [if_pos rfl, atF L _ hL (by omega), Option.bind_some]
      cases hX : idx L (L.getD i z25).f1 == (i : Int) with
      | false =>
        have : (idx L (L.getD i z25).f1 != (i : Int)) = true := by rw [bne, hX]; rfl
        rw [this]
        simp [spec_HeapOk.j1]
      | true =>
        have : (idx L (L.getD i z25).f1 != (i : Int)) = false := by rw [bne, hX]; rfl
        rw [this]
        simp only [spec_HeapOk.j1]
        rw [if_neg (by simp)]
        by_cases h0 : 0 < i
        · rw [if_pos (by omega), if_pos (by omega), if_pos (by omega), par h0 (by omega), if_pos (by omega), if_pos (by omega), rdn, rdn, specA, Option.bind_some, inc (by omega), hr]
          cases A (L.getD i z25) (L.getD ((i - 1) / 2) z25) <;> simp [h0]
        · rw [if_neg (by omega), inc (by omega), hr]
          simp [h0]
theorem implOk (L : List S25) (hL : L.length ≤ 1048577) : ∀ (d i k : Nat), i + d = L.length → d < k → impl_HeapOk.l0 k L (L.length : Int) (i : Int) L = some (okFrom L d i && decide (L.length ≤ 64)) := by
  intro d
  induction d with
  | zero =>
    intro i k h1 h2
    obtain ⟨k, rfl⟩ : ∃ k', k = k' + 1 := ⟨k - 1, by omega⟩
    simp only [impl_HeapOk.l0]
    rw [if_neg (by omega)]
    simp [okFrom]
    omega
  | succ d ih =>
    intro i k h1 h2
    obtain ⟨k, rfl⟩ : ∃ k', k = k' + 1 := ⟨k - 1, by omega⟩
    have hr := ih (i + 1) k (by omega) (by omega)
    simp only [impl_HeapOk.l0, okFrom, chk]
    rw [if_pos (by omega), if_pos (by omega), if_pos (by omega), rdn, implItem, Option.bind_some]
    cases hI : itemOk (L.getD i z25).f0 (L.getD i z25).f1 with
    | false => simp
    | true =>
      rw [if_pos rfl, placeF, Option.bind_some]
      cases hX : idx L (L.getD i z25).f1 == (i : Int) with
      | false =>
        rw [if_neg (by simpa using hX)]
        simp
      | true =>
        rw [if_pos (by simpa using hX)]
        by_cases h0 : 0 < i
        · rw [if_pos (by omega), par h0 (by omega), if_pos (by omega), if_pos (by omega), rdn, implA, Option.bind_some, inc (by omega), hr]
          cases A (L.getD i z25) (L.getD ((i - 1) / 2) z25) <;> simp [h0]
        · rw [if_neg (by omega), inc (by omega), hr]
          simp [h0]
theorem specOkF (L : List S25) (hL : L.length ≤ 1048577) {k : Nat} (hk : 3 * L.length + 3 < k) : spec_HeapOk.f k L = some (hok L) := by
  unfold spec_HeapOk.f hok
  by_cases h : (L.length : Int) > 64
  · rw [if_pos h]
    simp [show ¬ L.length ≤ 64 by omega]
  · rw [if_neg h]
    have := specOk L hL L.length 0 k (by omega) (by omega)
    rw [show ((0 : Nat) : Int) = 0 from rfl] at this
    rw [this]
    simp [show L.length ≤ 64 by omega]
theorem implOkF (L : List S25) (hL : L.length ≤ 1048577) {k : Nat} (hk : L.length < k) : impl_HeapOk.f k L = some (hok L) := by
  unfold impl_HeapOk.f hok
  have := implOk L hL L.length 0 k (by omega) (by omega)
  rw [show ((0 : Nat) : Int) = 0 from rfl] at this
  rw [this, Bool.and_comm]
theorem hok_len {L : List S25} (h : hok L = true) : L.length ≤ 64 := by
  unfold hok at h
  simp at h
  exact h.1
/-! ### conversions, equality, marks -/
def conv (y : S23) : S25 := ⟨y.f0, y.f1⟩
theorem rdn23 (L : List S23) (i : Nat) : rd_T23 L (i : Int) = L.getD i z23 := by simp [rd_T23]
theorem toS_ (l : List S23) (hl : l.length ≤ 1048577) : ∀ (d i k : Nat) (x : List S25), i + d = l.length → d < k → x.length = l.length → x.take i = (l.map conv).take i → laws_toItemS.l0 k l x (i : Int) = some (l.map conv) := by
  intro d
  induction d with
  | zero =>
    intro i k x h1 h2 h3 h4
    obtain ⟨k, rfl⟩ : ∃ k', k = k' + 1 := ⟨k - 1, by omega⟩
    simp only [laws_toItemS.l0]
    rw [if_neg (by omega)]
    rw [List.take_of_length_le (by omega), List.take_of_length_le (by simp; omega)] at h4
    rw [h4]
  | succ d ih =>
    intro i k x h1 h2 h3 h4
    obtain ⟨k, rfl⟩ : ∃ k', k = k' + 1 := ⟨k - 1, by omega⟩
    simp only [laws_toItemS.l0, laws_toItem.f, Option.bind_some]
    rw [if_pos (by omega), if_pos (by omega), if_pos (by omega), inc (by omega), rdn23]
    refine ih (i + 1) k _ (by omega) (by omega) (by simp [h3]) ?_
    have hi : i < l.length := by omega
    rw [List.take_add_one, List.take_add_one, Int.toNat_natCast]
    rw [List.take_set_of_le (Nat.le_refl i), h4]
    congr 1
    rw [List.getElem?_set_self (by omega), List.getElem?_map, List.getElem?_eq_getElem hi]
    simp [conv, List.getD_eq_getElem?_getD, List.getElem?_eq_getElem hi]
theorem toHeapF (l : List S23) (hl : l.length ≤ 1048577) {k : Nat} (hk : l.length < k) : laws_toHeap.f k l = some (l.map conv) := by
  unfold laws_toHeap.f laws_toItemS.f
  rw [if_pos (by omega), if_pos (by omega)]
  have := toS_ l hl l.length 0 k (List.replicate ((l.length : Int)).toNat z25) (by omega) hk (by simp) (by simp)
  rw [show ((0 : Nat) : Int) = 0 from rfl] at this
  rw [this]
  rfl
theorem eqS_ (L : List S25) (hL : L.length ≤ 1048577) : ∀ (d i k : Nat), i + d = L.length → d < k → laws_eqItemS.l0 k L L (i : Int) = some true := by
  intro d
  induction d with
  | zero =>
    intro i k h1 h2
    obtain ⟨k, rfl⟩ : ∃ k', k = k' + 1 := ⟨k - 1, by omega⟩
    simp only [laws_eqItemS.l0]
    rw [if_neg (by omega)]
  | succ d ih =>
    intro i k h1 h2
    obtain ⟨k, rfl⟩ : ∃ k', k = k' + 1 := ⟨k - 1, by omega⟩
    simp only [laws_eqItemS.l0, laws_eqItem.f]
    rw [if_pos (by omega), if_pos (by omega), if_pos (by omega), inc (by omega)]
    simp only [if_true, Option.bind_some]
    exact ih (i + 1) k (by omega) (by omega)
theorem eqHeapF (L : List S25) (hL : L.length ≤ 1048577) {k : Nat} (hk : L.length < k) : laws_eqHeap.f k L L = some true := by
  unfold laws_eqHeap.f laws_eqItemS.f
  have := eqS_ L hL L.length 0 k (by omega) hk
  rw [show ((0 : Nat) : Int) = 0 from rfl] at this
  rw [if_pos rfl, this]
  rfl
theorem eqItemF (a b : Int) : laws_eqItem.f a b a b = some true := by simp [laws_eqItem.f]
theorem sz_small {l : List S23} (h : l.length ≤ 1048576) : laws_szHeap.f l 1048576 = some (1048576 - (l.length : Int)) := by
  unfold laws_szHeap.f laws_szItemS.f
  rw [wr (by omega), if_neg (by omega), Option.bind_some, if_neg (by omega)]
theorem sz_big {l : List S23} (h : l.length ≤ maxLen) (h' : ¬ l.length ≤ 1048576) : laws_szHeap.f l 1048576 = some (-1) := by
  unfold maxLen at h
  unfold laws_szHeap.f laws_szItemS.f
  rw [wr (by omega), if_pos (by omega), Option.bind_some, if_pos (by omega)]
def mk (j : Nat) : S25 := ⟨((1 + 2 * j : Nat) : Int), ((2 + 2 * j : Nat) : Int)⟩
theorem mark_ (n : Nat) (hn : n ≤ 1048577) : ∀ (d i k : Nat) (x : List S25), x.length = n → i + d = n → d < k → x.take i = (List.range i).map mk → laws_markItemS.l0 k x ((1 + 2 * i : Nat) : Int) (i : Int) = some (((1 + 2 * n : Nat) : Int), (List.range n).map mk) := by
  intro d
  induction d with
  | zero =>
    intro i k x h0 h1 h2 h3
    obtain ⟨k, rfl⟩ : ∃ k', k = k' + 1 := ⟨k - 1, by omega⟩
    simp only [laws_markItemS.l0]
    rw [if_neg (by omega)]
    have : i = n := by omega
    subst this
    rw [List.take_of_length_le (by omega)] at h3
    rw [h3]
  | succ d ih =>
    intro i k x h0 h1 h2 h3
    obtain ⟨k, rfl⟩ : ∃ k', k = k' + 1 := ⟨k - 1, by omega⟩
    simp only [laws_markItemS.l0, Option.bind_some]
    rw [if_pos (by omega), if_pos (by omega), inc (by omega), inc (by omega), inc (by omega), Int.toNat_natCast]
    rw [show 1 + 2 * i + 1 + 1 = 1 + 2 * (i + 1) by omega]
    refine ih (i + 1) k _ (by simp [h0]) (by omega) (by omega) ?_
    have hi : i < x.length := by omega
    rw [List.take_add_one, List.range_succ, List.map_append, List.take_set_of_le (Nat.le_refl i), List.take_set_of_le (Nat.le_refl i), h3]
    congr 1
    rw [List.getElem?_set_self (by simpa using hi), rdn, List.getD_eq_getElem?_getD, List.getElem?_set_self hi]
    simp [mk]
    omega
theorem markF (L : List S25) (hL : L.length ≤ 1048577) {k : Nat} (hk : L.length < k) : laws_markHeap.f k L 1 = some (((1 + 2 * L.length : Nat) : Int), (List.range L.length).map mk) := by
  unfold laws_markHeap.f laws_markItemS.f
  have := mark_ L.length hL L.length 0 k L rfl (by omega) hk (by simp)
  rw [show ((1 + 2 * 0 : Nat) : Int) = 1 from rfl, show ((0 : Nat) : Int) = 0 from rfl] at this
  rw [this]
  rfl
theorem held_ (n : Nat) (hn : n ≤ 1048577) : ∀ (d i k : Nat), i + d = n → d < k → laws_heldItemS.l0 k ((List.range n).map mk) ((1 + 2 * i : Nat) : Int) (i : Int) = some ((1 + 2 * n : Nat) : Int) := by
  intro d
  induction d with
  | zero =>
    intro i k h1 h2
    obtain ⟨k, rfl⟩ : ∃ k', k = k' + 1 := ⟨k - 1, by omega⟩
    simp only [laws_heldItemS.l0]
    rw [if_neg (by simp; omega), show i = n by omega]
  | succ d ih =>
    intro i k h1 h2
    obtain ⟨k, rfl⟩ : ∃ k', k = k' + 1 := ⟨k - 1, by omega⟩
    have hg : ((List.range n).map mk).getD i z25 = mk i := by
      rw [List.getD_eq_getElem?_getD, List.getElem?_map, List.getElem?_range (by omega)]
      rfl
    simp only [laws_heldItemS.l0]
    rw [if_pos (by simp; omega), if_pos (by omega), rdn, hg, if_pos (show (mk i).f0 = ((1 + 2 * i : Nat) : Int) from rfl), inc (by omega), if_pos (by simp [mk]; omega), inc (by omega), inc (by omega)]
    rw [show 1 + 2 * i + 1 + 1 = 1 + 2 * (i + 1) by omega]
    exact ih (i + 1) k (by omega) (by omega)
theorem heldF (n : Nat) (hn : n ≤ 1048577) {k : Nat} (hk : n < k) : laws_heldHeap.f k ((List.range n).map mk) 1 = some ((1 + 2 * n : Nat) : Int) := by
  unfold laws_heldHeap.f laws_heldItemS.f
  have := held_ n hn n 0 k (by omega) hk
  rw [show ((1 + 2 * 0 : Nat) : Int) = 1 from rfl, show ((0 : Nat) : Int) = 0 from rfl] at this
  rw [this, Option.bind_some, if_neg (by omega)]
/-! ### up and down -/
def swp (L : List S25) (i j : Nat) : List S25 := (L.set i (L.getD j z25)).set j (L.getD i z25)
theorem swp_len (L : List S25) (i j : Nat) : (swp L i j).length = L.length := by simp [swp]
theorem swapF (L : List S25) (i j : Nat) (hi : i < L.length) (hj : j < L.length) (hL : L.length ≤ 1048577) : spec_l15Swap.f L (i : Int) (j : Int) = some (swp L i j) := by
  unfold spec_l15Swap.f swp
  simp only [Option.bind_some, List.nil_append, List.length_nil, Nat.zero_add]
  rw [if_pos (by omega), if_pos (by omega), if_pos (by omega), if_pos (by omega), if_pos (by omega), if_pos (by omega), if_pos (by omega), rdn, rdn]
  rfl
def up : Nat → List S25 → Nat → List S25 × Nat
  | 0, L, i => (L, i)
  | n + 1, L, i => if i = 0 then (L, i) else if A (L.getD i z25) (L.getD ((i - 1) / 2) z25) then up n (swp L i ((i - 1) / 2)) ((i - 1) / 2) else (L, i)
theorem up_len : ∀ (n : Nat) (L : List S25) (i : Nat), (up n L i).1.length = L.length ∧ (i < L.length → (up n L i).2 < L.length)
  | 0, L, i => ⟨rfl, fun h => h⟩
  | n + 1, L, i => by
    unfold up
    by_cases h0 : i = 0
    · rw [if_pos h0]
      exact ⟨rfl, fun h => h⟩
    · rw [if_neg h0]
      cases A (L.getD i z25) (L.getD ((i - 1) / 2) z25) with
      | false => exact ⟨rfl, fun h => h⟩
      | true =>
        have := up_len n (swp L i ((i - 1) / 2)) ((i - 1) / 2)
        rw [swp_len] at this
        exact ⟨this.1, fun h => this.2 (by omega)⟩
theorem specUp : ∀ (n : Nat) (L : List S25) (i k : Nat), L.length ≤ 1048577 → i < L.length → i ≤ n → 2 * n + 2 < k → spec_l15Up.f k L (i : Int) = some ((up n L i).1, ((up n L i).2 : Int)) := by
  intro n
  induction n with
  | zero =>
    intro L i k hL hi hn hk
    obtain ⟨k, rfl⟩ : ∃ k', k = k' + 2 := ⟨k - 2, by omega⟩
    simp only [spec_l15Up.f]
    rw [if_pos (by omega)]
    simp [spec_l15Up.j0, up]
  | succ n ih =>
    intro L i k hL hi hn hk
    obtain ⟨k, rfl⟩ : ∃ k', k = k' + 2 := ⟨k - 2, by omega⟩
    simp only [spec_l15Up.f, up]
    by_cases h0 : i = 0
    · rw [if_pos (by omega), if_pos h0]
      simp [spec_l15Up.j0]
    · rw [if_neg (by omega), if_neg h0, if_pos (by omega), if_pos (by omega), par (by omega) (by omega), if_pos (by omega), if_pos (by omega), rdn, rdn, specA, Option.bind_some]
      cases hA : A (L.getD i z25) (L.getD ((i - 1) / 2) z25) with
      | false => simp [spec_l15Up.j0]
      | true =>
        simp only [spec_l15Up.j0]
        rw [if_neg (by simp), par (by omega) (by omega), swapF L i _ hi (by omega) hL, Option.bind_some, ih _ _ k (by rw [swp_len]; exact hL) (by rw [swp_len]; omega) (by omega) (by omega)]
        rfl
theorem implUp : ∀ (n : Nat) (L : List S25) (i k : Nat), L.length ≤ 1048577 → i < L.length → i ≤ n → n < k → impl_Heap_up.l0 k (i : Int) L = some (((up n L i).2 : Int), (up n L i).1) := by
  intro n
  induction n with
  | zero =>
    intro L i k hL hi hn hk
    obtain ⟨k, rfl⟩ : ∃ k', k = k' + 1 := ⟨k - 1, by omega⟩
    simp only [impl_Heap_up.l0]
    rw [if_neg (by omega)]
    simp [up]
  | succ n ih =>
    intro L i k hL hi hn hk
    obtain ⟨k, rfl⟩ : ∃ k', k = k' + 1 := ⟨k - 1, by omega⟩
    simp only [impl_Heap_up.l0, up]
    by_cases h0 : i = 0
    · rw [if_neg (by omega), if_pos h0]
    · rw [if_pos (by omega), if_neg h0, if_pos (by omega), if_pos (by omega), par (by omega) (by omega), if_pos (by omega), if_pos (by omega), rdn, rdn, implA, Option.bind_some]
      cases hA : A (L.getD i z25) (L.getD ((i - 1) / 2) z25) with
      | false => simp
      | true =>
        rw [if_pos rfl, if_pos rfl]
        exact ih (swp L i ((i - 1) / 2)) ((i - 1) / 2) k (by rw [swp_len]; exact hL) (by rw [swp_len]; omega) (by omega) (by omega)
theorem upF (L : List S25) (i : Nat) (hL : L.length ≤ 1048577) (hi : i < L.length) {k : Nat} (hk : 2 * L.length + 2 < k) : spec_l15Up.f k L (i : Int) = some ((up L.length L i).1, ((up L.length L i).2 : Int)) ∧ impl_Heap_up.f k L (i : Int) = some (((up L.length L i).2 : Int), (up L.length L i).1) :=
  ⟨specUp L.length L i k hL hi (by omega) hk, implUp L.length L i k hL hi (by omega) (by omega)⟩
/-- The place among i and its children that comes before the others. -/
def best (L : List S25) (i : Nat) : Nat :=
  let b1 := if 2 * i + 1 < L.length ∧ A (L.getD (2 * i + 1) z25) (L.getD i z25) = true then 2 * i + 1 else i
  if 2 * i + 2 < L.length ∧ A (L.getD (2 * i + 2) z25) (L.getD b1 z25) = true then 2 * i + 2 else b1
theorem best_or (L : List S25) (i : Nat) : best L i = i ∨ (i < best L i ∧ best L i < L.length) := by
  unfold best
  by_cases h1 : 2 * i + 1 < L.length ∧ A (L.getD (2 * i + 1) z25) (L.getD i z25) = true
  · simp only [if_pos h1]
    by_cases h2 : 2 * i + 2 < L.length ∧ A (L.getD (2 * i + 2) z25) (L.getD (2 * i + 1) z25) = true
    · rw [if_pos h2]; omega
    · rw [if_neg h2]; omega
  · simp only [if_neg h1]
    by_cases h2 : 2 * i + 2 < L.length ∧ A (L.getD (2 * i + 2) z25) (L.getD i z25) = true
    · rw [if_pos h2]; omega
    · rw [if_neg h2]; omega
def down : Nat → List S25 → Nat → List S25
  | 0, L, _ => L
  | n + 1, L, i => if best L i = i then L else down n (swp L i (best L i)) (best L i)
theorem down_len : ∀ (n : Nat) (L : List S25) (i : Nat), (down n L i).length = L.length
  | 0, L, i => rfl
  | n + 1, L, i => by
    unfold down
    by_cases h : best L i = i
    · rw [if_pos h]
    · rw [if_neg h, down_len n, swp_len]
theorem A_true {x y : S25} : A x y = true ↔ (x.f0 < y.f0 ∨ x.f0 = y.f0 ∧ x.f1 < y.f1) := by simp [A]
theorem A_false {x y : S25} : A x y = false ↔ ¬ (x.f0 < y.f0 ∨ x.f0 = y.f0 ∧ x.f1 < y.f1) := by simp [A]
theorem A_irr (x : S25) : A x x = false := by rw [A_false]; omega
theorem A_trans {x y z : S25} (h : A x y = true) (h' : A y z = true) : A x z = true := by rw [A_true] at *; omega
theorem A_nt {x y z : S25} (h : A x y = false) (h' : A y z = false) : A x z = false := by rw [A_false] at *; omega
theorem ch1 {i : Nat} (h : i ≤ 1048577) : wrap64 ((wrap64 (2 * (i : Int))) + 1) = ((2 * i + 1 : Nat) : Int) := by
  rw [wr (x := 2 * (i : Int)) (by omega), wr (by omega)]; omega
theorem ch2 {i : Nat} (h : i ≤ 1048577) : wrap64 ((wrap64 (2 * (i : Int))) + 2) = ((2 * i + 2 : Nat) : Int) := by
  rw [wr (x := 2 * (i : Int)) (by omega), wr (by omega)]; omega
/-- The step of the specification's down at the end of its look at the children. -/
theorem specDown : ∀ (n : Nat) (L : List S25) (i k : Nat), L.length ≤ 1048577 → i < L.length → L.length - i ≤ n → 8 * n + 8 < k → spec_l15Down.f k L (i : Int) = some (down n L i) := by
  intro n
  induction n with
  | zero => intro L i k hL hi hn; omega
  | succ n ih =>
    intro L i k hL hi hn hk
    obtain ⟨k, rfl⟩ : ∃ k', k = k' + 7 := ⟨k - 7, by omega⟩
    have fin : ∀ (b c : Nat) (k' : Nat), 8 * n + 8 < k' → b < L.length → (b = i ∨ i < b) → spec_l15Down.j1 (k' + 1) L (i : Int) (b : Int) (c : Int) false = some (if b = i then L else down n (swp L i b) b) := by
      intro b c k' hk' hb hbi
      simp only [spec_l15Down.j1]
      rw [if_neg (by simp)]
      by_cases h : b = i
      · rw [if_pos (by omega), if_pos h]
      · rw [if_neg (by omega), if_neg h, swapF L i b hi hb hL, Option.bind_some, ih _ _ k' (by rw [swp_len]; exact hL) (by rw [swp_len]; exact hb) (by rw [swp_len]; omega) hk', Option.bind_some]
    have look2 : ∀ (b k' : Nat), 8 * n + 8 < k' → b < L.length → (b = i ∨ i < b) → spec_l15Down.l0 (k' + 4) L (i : Int) (b : Int) ((2 * i + 2 : Nat) : Int) = some (if (if 2 * i + 2 < L.length ∧ A (L.getD (2 * i + 2) z25) (L.getD b z25) = true then 2 * i + 2 else b) = i then L else down n (swp L i (if 2 * i + 2 < L.length ∧ A (L.getD (2 * i + 2) z25) (L.getD b z25) = true then 2 * i + 2 else b)) (if 2 * i + 2 < L.length ∧ A (L.getD (2 * i + 2) z25) (L.getD b z25) = true then 2 * i + 2 else b)) := by
      intro b k' hk' hb hbi
      simp only [spec_l15Down.l0]
      rw [ch2 (by omega), if_pos (by omega)]
      by_cases hc : 2 * i + 2 < L.length
      · rw [decide_eq_true (show ((2 * i + 2 : Nat) : Int) < (L.length : Int) by omega)]
        have last : ∀ b' : Nat, b' < L.length → (b' = i ∨ i < b') → spec_l15Down.l0 (k' + 2) L (i : Int) (b' : Int) (wrap64 (((2 * i + 2 : Nat) : Int) + 1)) = some (if b' = i then L else down n (swp L i b') b') := by
          intro b' hb' hbi'
          rw [inc (by omega)]
          simp only [spec_l15Down.l0]
          rw [ch2 (by omega), if_neg (by omega)]
          exact fin b' _ k' hk' hb' hbi'
        conv => lhs; unfold spec_l15Down.j1
        rw [if_pos rfl, if_pos (by omega), if_pos (by omega), if_pos (by omega), if_pos (by omega), rdn, rdn, specA, Option.bind_some]
        cases hA : A (L.getD (2 * i + 2) z25) (L.getD b z25) with
        | true => rw [if_pos rfl, last _ hc (by omega)]; simp [hc]
        | false => rw [if_neg (by simp), last _ hb hbi]; simp
      · rw [decide_eq_false (show ¬ ((2 * i + 2 : Nat) : Int) < (L.length : Int) by omega)]
        have hno : ¬ (2 * i + 2 < L.length ∧ A (L.getD (2 * i + 2) z25) (L.getD b z25) = true) := fun h => hc h.1
        simp only [if_neg hno]
        exact fin b _ (k' + 2) (by omega) hb hbi
    simp only [spec_l15Down.f, down]
    rw [ch1 (by omega)]
    simp only [spec_l15Down.l0]
    rw [ch2 (by omega), if_pos (by omega)]
    unfold best
    by_cases hc : 2 * i + 1 < L.length
    · rw [decide_eq_true (show ((2 * i + 1 : Nat) : Int) < (L.length : Int) by omega)]
      conv => lhs; unfold spec_l15Down.j1
      rw [if_pos rfl, if_pos (by omega), if_pos (by omega), if_pos (by omega), if_pos (by omega), rdn, rdn, specA, Option.bind_some, inc (by omega), show 2 * i + 1 + 1 = 2 * i + 2 by omega]
      cases hA : A (L.getD (2 * i + 1) z25) (L.getD i z25) with
      | true =>
        rw [if_pos rfl, look2 _ k (by omega) hc (by omega)]
        simp only [hc, hA, and_self, if_true]
      | false =>
        rw [if_neg (by simp), look2 _ k (by omega) hi (by omega)]
        simp only [hA, Bool.false_eq_true, and_false, if_false]
    · rw [decide_eq_false (show ¬ ((2 * i + 1 : Nat) : Int) < (L.length : Int) by omega)]
      rw [fin i _ (k + 4) (by omega) hi (by omega)]
      simp only [show ¬ 2 * i + 1 < L.length from hc, show ¬ 2 * i + 2 < L.length by omega, false_and, if_false, if_true]
theorem implDown : ∀ (n : Nat) (L : List S25) (i k : Nat), L.length ≤ 1048577 → i < L.length → L.length - i ≤ n → 2 * n + 2 < k → impl_Heap_down.l0 k (i : Int) L = some (down n L i) := by
  intro n
  induction n with
  | zero => intro L i k hL hi hn; omega
  | succ n ih =>
    intro L i k hL hi hn hk
    obtain ⟨k, rfl⟩ : ∃ k', k = k' + 2 := ⟨k - 2, by omega⟩
    have fin : ∀ (m : Nat), m < L.length → i < m → (A (L.getD m z25) (L.getD i z25) = true → best L i = m) → (A (L.getD m z25) (L.getD i z25) = false → best L i = i) → (if (m : Int) ≥ (L.length : Int) then some L else (if 0 ≤ (m : Int) then (if (m : Int) < (L.length : Int) then (if 0 ≤ (i : Int) then (if (i : Int) < (L.length : Int) then ((impl_Ahead.f ((rd_T25 L m).f0) ((rd_T25 L m).f1) ((rd_T25 L i).f0) ((rd_T25 L i).f1)).bind fun t => (if t = true then (impl_Heap_down.l0 k (m : Int) ((L.set (i : Int).toNat (⟨(rd_T25 L m).f0, (rd_T25 L m).f1⟩ : S25)).set (m : Int).toNat (⟨(rd_T25 L i).f0, (rd_T25 L i).f1⟩ : S25))) else (some L))) else none) else none) else none) else none)) = some (down (n + 1) L i) := by
      intro m hm him h1 h2
      rw [if_neg (by omega), if_pos (by omega), if_pos (by omega), if_pos (by omega), if_pos (by omega), rdn, rdn, implA, Option.bind_some]
      simp only [down]
      cases hA : A (L.getD m z25) (L.getD i z25) with
      | true =>
        rw [if_pos rfl, h1 hA, if_neg (by omega)]
        exact ih (swp L i m) m k (by rw [swp_len]; exact hL) (by rw [swp_len]; exact hm) (by rw [swp_len]; omega) (by omega)
      | false => rw [if_neg (by simp), h2 hA, if_pos rfl]
    simp only [impl_Heap_down.l0]
    rw [ch1 (by omega), inc (by omega), show 2 * i + 1 + 1 = 2 * i + 2 by omega]
    by_cases hc2 : 2 * i + 2 < L.length
    · rw [if_pos (by omega), if_pos (by omega), if_pos (by omega), if_pos (by omega), rdn, rdn, implA, Option.bind_some]
      cases hA : A (L.getD (2 * i + 2) z25) (L.getD (2 * i + 1) z25) with
      | true =>
        conv => lhs; unfold impl_Heap_down.j1
        rw [if_pos rfl, inc (by omega), show 2 * i + 1 + 1 = 2 * i + 2 by omega]
        refine fin _ hc2 (by omega) (fun hB => ?_) (fun hB => ?_)
        · unfold best
          cases hC : A (L.getD (2 * i + 1) z25) (L.getD i z25) <;> simp only [hc2, hA, hB, hC, show 2 * i + 1 < L.length by omega, and_self, if_true, Bool.false_eq_true, and_false, if_false]
        · have hC : A (L.getD (2 * i + 1) z25) (L.getD i z25) = false := by
            cases hC : A (L.getD (2 * i + 1) z25) (L.getD i z25) with
            | false => rfl
            | true => rw [A_trans hA hC] at hB; cases hB
          unfold best
          simp only [hc2, hA, hB, hC, show 2 * i + 1 < L.length by omega, and_self, if_true, Bool.false_eq_true, and_false, if_false]
      | false =>
        simp only [impl_Heap_down.j1]
        rw [if_neg (by simp)]
        refine fin _ (by omega) (by omega) (fun hB => ?_) (fun hB => ?_)
        · unfold best
          simp only [hc2, hA, hB, show 2 * i + 1 < L.length by omega, and_self, if_true, Bool.false_eq_true, and_false, if_false]
        · unfold best
          simp only [hc2, hA, hB, A_nt hA hB, show 2 * i + 1 < L.length by omega, and_self, if_true, Bool.false_eq_true, and_false, if_false]
    · rw [if_neg (by omega)]
      simp only [impl_Heap_down.j1]
      rw [if_neg (by simp)]
      by_cases hc1 : 2 * i + 1 < L.length
      · refine fin _ hc1 (by omega) (fun hB => ?_) (fun hB => ?_)
        · unfold best
          simp only [hc1, hc2, hB, and_self, if_true, false_and, if_false]
        · unfold best
          simp only [hc1, hc2, hB, and_self, if_true, false_and, if_false, Bool.false_eq_true, and_false]
      · rw [if_pos (by omega)]
        simp only [down]
        have : best L i = i := by
          unfold best
          simp only [hc1, hc2, false_and, if_false]
        rw [if_pos this]
theorem downF (L : List S25) (i : Nat) (hL : L.length ≤ 1048577) (hi : i < L.length) {k : Nat} (hk : 8 * L.length + 8 < k) : spec_l15Down.f k L (i : Int) = some (down L.length L i) ∧ impl_Heap_down.l0 k (i : Int) L = some (down L.length L i) :=
  ⟨specDown L.length L i k hL hi (by omega) hk, implDown L.length L i k hL hi (by omega) (by omega)⟩
end Go.Proofs.Ytjpmhbjbgooheaa.H
