/- The plain law behind the row FnExactHeapMove: what the law's function computes is true, whatever the arguments. No condition. -/
import Derived.Test.YtjpmhbjbgooheaaPMvx8
import Derived.Test.YtjpmhbjbgooheaaFr
import Derived.Test.YtjpmhbjbgooheaaHMv
namespace Go.Proofs.Ytjpmhbjbgooheaa.UFnExactHeapMove
open Go.RowKit Go.Proofs.YtjpmhbjbgooheaaW.PrintWords Go.Proofs.YtjpmhbjbgooheaaW.PrintLast Go.Proofs.YtjpmhbjbgooheaaFr Go.Proofs.Ytjpmhbjbgooheaa.PMv
set_option linter.unusedVariables false
set_option linter.unusedSimpArgs false
def Pure : Prop := ∀ (l0_0 : List (S23)) (a1_0 : Int) (a1_1 : Int), (l0_0.length ≤ maxLen ∧ ∀ y ∈ l0_0, (I64 y.f0 ∧ I64 y.f1)) → I64 a1_0 → I64 a1_1 → ∃ k, laws_FnExactHeapMove.f k l0_0 a1_0 a1_1 = some true
-- IMPORT YtjpmhbjbgooheaaH@K@
open Go.Proofs.Ytjpmhbjbgooheaa.H
def moved (L : List S25) (i : Nat) (x : S25) : List S25 := down (L.set i x).length (H.up (L.set i x).length (L.set i x) i).1 (H.up (L.set i x).length (L.set i x) i).2
def res (L : List S25) (a b : Int) : List S25 × Int :=
  if hok L = true then if itemOk a b = true then if idx L b < 0 then ([], 4) else (moved L (idx L b).toNat ⟨a, b⟩, 0) else ([], 1) else ([], 1)
theorem moved_len (L : List S25) (i : Nat) (x : S25) : (moved L i x).length = L.length := by
  unfold moved
  rw [down_len, (up_len _ _ _).1]
  simp
theorem res_len (L : List S25) (a b : Int) : (res L a b).1.length ≤ 65 := by
  unfold res
  cases h : hok L with
  | false => simp
  | true =>
    have := hok_len h
    rw [if_pos rfl]
    split
    · split
      · simp
      · show (moved _ _ _).length ≤ 65
        rw [moved_len]
        omega
    · simp
theorem two (L : List S25) (i : Nat) (x : S25) (hL : L.length ≤ 1048577) (hi : i < L.length) {k : Nat} (hk : 8 * L.length + 8 < k) :
    (∃ u j, spec_l15Up.f k (L.set i x) (i : Int) = some (u, j) ∧ spec_l15Down.f k u j = some (moved L i x)) ∧ (∃ u j, impl_Heap_up.f k (L.set i x) (i : Int) = some (j, u) ∧ impl_Heap_down.f k u j = some (moved L i x)) := by
  have hu := upF (L.set i x) i (by simpa using hL) (by simpa using hi) (k := k) (by simp; omega)
  have hl := up_len (L.set i x).length (L.set i x) i
  have hd := downF (H.up (L.set i x).length (L.set i x) i).1 (H.up (L.set i x).length (L.set i x) i).2 (by rw [hl.1]; simpa using hL) (by rw [hl.1]; exact hl.2 (by simpa using hi)) (k := k) (by rw [hl.1]; simp; omega)
  rw [hl.1] at hd
  exact ⟨⟨_, _, hu.1, hd.1⟩, ⟨_, _, hu.2, hd.2⟩⟩
theorem spec_ (L : List S25) (a b : Int) (hL : L.length ≤ 1048577) {k : Nat} (hk : 8 * L.length + 300 < k) : spec_HeapMove.f k L a b = some (res L a b) := by
  obtain ⟨k, rfl⟩ : ∃ k', k = k' + 1 := ⟨k - 1, by omega⟩
  unfold spec_HeapMove.f res
  rw [specOkF L hL (by omega), Option.bind_some]
  cases h : hok L with
  | false => simp [spec_HeapMove.j0]
  | true =>
    have hl := hok_len h
    rw [if_pos rfl, if_pos rfl, specItem, Option.bind_some]
    cases h2 : itemOk a b with
    | false => simp [spec_HeapMove.j0]
    | true =>
      simp only [spec_HeapMove.j0]
      rw [if_neg (by simp), if_pos trivial, atF L b hL (by omega), Option.bind_some]
      by_cases h3 : idx L b < 0
      · rw [if_pos h3, if_pos h3]
      · rw [if_neg h3, if_neg h3]
        obtain ⟨i, hi⟩ : ∃ i : Nat, idx L b = i := ⟨(idx L b).toNat, by omega⟩
        have hlt := idx_lt L b
        rw [hi] at hlt ⊢
        simp only [Option.bind_some, List.nil_append, List.length_nil, Nat.zero_add]
        rw [if_pos (by omega)]
        try simp only [Option.bind_some]
        rw [if_pos (by omega), if_pos (by omega), Int.toNat_natCast]
        obtain ⟨⟨u, j, e1, e2⟩, _⟩ := two L i ⟨a, b⟩ hL (by omega) (k := k) (by omega)
        rw [e1, Option.bind_some]
        try simp only []
        rw [e2]
        rfl
theorem impl_ (L : List S25) (a b : Int) (hL : L.length ≤ 1048577) {k : Nat} (hk : 8 * L.length + 300 < k) : impl_HeapMove.f k L a b = some (res L a b) := by
  obtain ⟨k, rfl⟩ : ∃ k', k = k' + 1 := ⟨k - 1, by omega⟩
  unfold impl_HeapMove.f res
  rw [placeF, Option.bind_some, implOkF L hL (by omega), Option.bind_some]
  cases h : hok L with
  | false => simp [impl_HeapMove.j0]
  | true =>
    have hl := hok_len h
    rw [if_pos rfl, if_pos rfl, implItem, Option.bind_some]
    cases h2 : itemOk a b with
    | false => simp [impl_HeapMove.j0]
    | true =>
      simp only [impl_HeapMove.j0]
      rw [if_neg (by simp), if_pos trivial]
      by_cases h3 : idx L b < 0
      · rw [if_pos h3, if_pos h3]
      · rw [if_neg h3, if_neg h3]
        obtain ⟨i, hi⟩ : ∃ i : Nat, idx L b = i := ⟨(idx L b).toNat, by omega⟩
        have hlt := idx_lt L b
        rw [hi] at hlt ⊢
        simp only [impl_copyHeap.f, impl_Item.f, Option.bind_some, List.nil_append, List.length_nil, Nat.zero_add]
        rw [if_pos (by omega)]
        try simp only [Option.bind_some]
        rw [if_pos (by omega), if_pos (by omega), Int.toNat_natCast]
        obtain ⟨_, ⟨u, j, e1, e2⟩⟩ := two L i ⟨a, b⟩ hL (by omega) (k := k) (by omega)
        rw [e1, Option.bind_some]
        try simp only []
        rw [e2]
        rfl
theorem pure : Pure := by
  unfold Pure
  rintro l a b ⟨hl, _⟩ _ _
  by_cases hs : l.length ≤ 1048576
  · have hL : (l.map conv).length ≤ 1048577 := by simp; omega
    have hml : (l.map conv).length = l.length := by simp
    refine ⟨8 * l.length + 400, ?_⟩
    have hr := res_len (l.map conv) a b
    unfold laws_FnExactHeapMove.f
    rw [sz_small hs, Option.bind_some, if_neg (by omega), toHeapF l (by omega) (by omega)]
    simp only [Option.bind_some, laws_toItem.f, spec_ (l.map conv) a b hL (k := 8 * l.length + 400) (by omega), impl_ (l.map conv) a b hL (k := 8 * l.length + 400) (by omega), eqHeapF (l.map conv) hL (k := 8 * l.length + 400) (by omega), eqHeapF (res (l.map conv) a b).1 (by omega) (k := 8 * l.length + 400) (by omega), markF (l.map conv) hL (k := 8 * l.length + 400) (by omega), markF (res (l.map conv) a b).1 (by omega) (k := 8 * l.length + 400) (by omega), heldF (res (l.map conv) a b).1.length (by omega) (k := 8 * l.length + 400) (by omega), if_true]
    repeat rw [if_neg (by omega)]
  · refine ⟨1, ?_⟩
    unfold laws_FnExactHeapMove.f
    rw [sz_big hl hs]
    simp
end Go.Proofs.Ytjpmhbjbgooheaa.UFnExactHeapMove
