/- The plain law behind the row FnExactHeapPop: what the law's function computes is true, whatever the arguments. No condition. -/
import Derived.Test.YtjpmhbjbgooheaaPPox7
import Derived.Test.YtjpmhbjbgooheaaFr
import Derived.Test.YtjpmhbjbgooheaaHPo
namespace Go.Proofs.Ytjpmhbjbgooheaa.UFnExactHeapPop
open Go.RowKit Go.Proofs.YtjpmhbjbgooheaaW.PrintWords Go.Proofs.YtjpmhbjbgooheaaW.PrintLast Go.Proofs.YtjpmhbjbgooheaaFr Go.Proofs.Ytjpmhbjbgooheaa.PPo
set_option linter.unusedVariables false
set_option linter.unusedSimpArgs false
def Pure : Prop := ∀ (l0_0 : List (S23)), (l0_0.length ≤ maxLen ∧ ∀ y ∈ l0_0, (I64 y.f0 ∧ I64 y.f1)) → ∃ k, laws_FnExactHeapPop.f k l0_0 = some true
-- IMPORT YtjpmhbjbgooheaaH@K@
open Go.Proofs.Ytjpmhbjbgooheaa.H
def rest (L : List S25) : List S25 := (L.take (L.length - 1)).set 0 (L.getD (L.length - 1) z25)
def outP (L : List S25) : List S25 := if L.length - 1 = 0 then L.take (L.length - 1) else down (rest L).length (H.up (rest L).length (rest L) 0).1 (H.up (rest L).length (rest L) 0).2
def res (L : List S25) : List S25 × Int × Int × Int :=
  if hok L = true then if (L.length : Int) = 0 then ([], 0, 0, 4) else (outP L, (L.getD 0 z25).f0, (L.getD 0 z25).f1, 0) else ([], 0, 0, 1)
theorem rest_len (L : List S25) : (rest L).length = L.length - 1 := by simp [rest]
theorem res_len (L : List S25) : (res L).1.length ≤ 65 := by
  unfold res
  cases h : hok L with
  | false => simp
  | true =>
    have := hok_len h
    rw [if_pos rfl]
    split
    · simp
    · show (outP L).length ≤ 65
      unfold outP
      split
      · simp
        omega
      · rw [down_len, (up_len _ _ _).1, rest_len]
        omega
theorem two (L : List S25) (hL : L.length ≤ 1048577) (hi : L.length - 1 ≠ 0) {k : Nat} (hk : 8 * L.length + 8 < k) :
    (∃ u j, spec_l15Up.f k (rest L) ((0 : Nat) : Int) = some (u, j) ∧ spec_l15Down.f k u j = some (outP L)) ∧ (∃ u j, impl_Heap_up.f k (rest L) ((0 : Nat) : Int) = some (j, u) ∧ impl_Heap_down.f k u j = some (outP L)) := by
  have hr := rest_len L
  have hu := upF (rest L) 0 (by omega) (by omega) (k := k) (by omega)
  have hl := up_len (rest L).length (rest L) 0
  have hd := downF (H.up (rest L).length (rest L) 0).1 (H.up (rest L).length (rest L) 0).2 (by rw [hl.1]; omega) (by rw [hl.1]; exact hl.2 (by omega)) (k := k) (by rw [hl.1]; omega)
  rw [hl.1] at hd
  unfold outP
  rw [if_neg hi]
  exact ⟨⟨_, _, hu.1, hd.1⟩, ⟨_, _, hu.2, hd.2⟩⟩
theorem spec_ (L : List S25) (hL : L.length ≤ 1048577) {k : Nat} (hk : 8 * L.length + 300 < k) : spec_HeapPop.f k L = some (res L) := by
  unfold spec_HeapPop.f res
  rw [specOkF L hL (by omega), Option.bind_some]
  cases h : hok L with
  | false => simp
  | true =>
    have hl := hok_len h
    rw [if_pos rfl, if_pos rfl]
    by_cases h0 : (L.length : Int) = 0
    · rw [if_pos h0, if_pos h0]
    · rw [if_neg h0, if_neg h0]
      have hout : spec_l15Out.f k L 0 = some (outP L) := by
        unfold spec_l15Out.f
        have hw : wrap64 ((L.length : Int) - 1) = ((L.length - 1 : Nat) : Int) := by rw [wr (by omega)]; omega
        simp only [Option.bind_some, hw, Int.toNat_natCast, List.nil_append, List.length_nil, Nat.zero_add]
        rw [if_pos (by omega), if_pos (by omega), if_pos (by simp; omega)]
        by_cases h1 : L.length - 1 = 0
        · rw [if_pos (by omega)]
          unfold outP
          rw [if_pos h1]
        · rw [if_neg (by omega), if_pos (by omega), if_pos (by omega), if_pos (by simp; omega), rdn]
          obtain ⟨⟨u, j, e1, e2⟩, _⟩ := two L hL h1 (k := k) (by omega)
          have e1' : spec_l15Up.f k ((L.take (L.length - 1)).set (0 : Int).toNat (⟨(L.getD (L.length - 1) z25).f0, (L.getD (L.length - 1) z25).f1⟩ : S25)) 0 = some (u, j) := e1
          rw [e1', Option.bind_some]
          simp only []
          rw [e2]
          rfl
      rw [hout, Option.bind_some, if_pos (by omega), show (0 : Int) = ((0 : Nat) : Int) from rfl, rdn]
      rfl
theorem impl_ (L : List S25) (hL : L.length ≤ 1048577) {k : Nat} (hk : 8 * L.length + 300 < k) : impl_HeapPop.f k L = some (res L) := by
  unfold impl_HeapPop.f res
  rw [implOkF L hL (by omega), Option.bind_some]
  cases h : hok L with
  | false => simp
  | true =>
    have hl := hok_len h
    rw [if_pos rfl, if_pos rfl]
    by_cases h0 : (L.length : Int) = 0
    · rw [if_pos h0, if_pos h0]
    · rw [if_neg h0, if_neg h0]
      have hout : impl_Heap_remove.f k L 0 = some (outP L) := by
        unfold impl_Heap_remove.f
        have hw : wrap64 ((L.length : Int) - 1) = ((L.length - 1 : Nat) : Int) := by rw [wr (by omega)]; omega
        simp only [Option.bind_some, hw, Int.toNat_natCast]
        rw [if_pos (by omega), if_pos (by omega), if_pos (by omega)]
        by_cases h1 : L.length - 1 = 0
        · rw [if_neg (by omega)]
          unfold outP
          rw [if_pos h1]
        · rw [if_pos (by omega), if_pos (by omega), if_pos (by simp; omega), rdn]
          obtain ⟨_, ⟨u, j, e1, e2⟩⟩ := two L hL h1 (k := k) (by omega)
          have e1' : impl_Heap_up.f k ((L.take (L.length - 1)).set (0 : Int).toNat (⟨(L.getD (L.length - 1) z25).f0, (L.getD (L.length - 1) z25).f1⟩ : S25)) 0 = some (j, u) := e1
          rw [e1', Option.bind_some]
          simp only []
          rw [e2]
          rfl
      simp only [impl_copyHeap.f, impl_Item.f, Option.bind_some, List.nil_append, List.length_nil, Nat.zero_add]
      rw [if_pos (by omega)]
      simp only [Option.bind_some]
      rw [hout, Option.bind_some, if_pos (by omega), show (0 : Int) = ((0 : Nat) : Int) from rfl, rdn]
      rfl
theorem pure : Pure := by
  unfold Pure
  rintro l ⟨hl, _⟩
  by_cases hs : l.length ≤ 1048576
  · have hL : (l.map conv).length ≤ 1048577 := by simp; omega
    have hml : (l.map conv).length = l.length := by simp
    refine ⟨8 * l.length + 400, ?_⟩
    have hr := res_len (l.map conv)
    unfold laws_FnExactHeapPop.f
    rw [sz_small hs, Option.bind_some, if_neg (by omega), toHeapF l (by omega) (by omega)]
    simp only [Option.bind_some, spec_ (l.map conv) hL (k := 8 * l.length + 400) (by omega), impl_ (l.map conv) hL (k := 8 * l.length + 400) (by omega), eqHeapF (l.map conv) hL (k := 8 * l.length + 400) (by omega), eqHeapF (res (l.map conv)).1 (by omega) (k := 8 * l.length + 400) (by omega), markF (l.map conv) hL (k := 8 * l.length + 400) (by omega), markF (res (l.map conv)).1 (by omega) (k := 8 * l.length + 400) (by omega), heldF (res (l.map conv)).1.length (by omega) (k := 8 * l.length + 400) (by omega), eqItemF, if_true]
    repeat rw [if_neg (by omega)]
  · refine ⟨1, ?_⟩
    unfold laws_FnExactHeapPop.f
    rw [sz_big hl hs]
    simp
end Go.Proofs.Ytjpmhbjbgooheaa.UFnExactHeapPop
