/- The plain law behind the row FnExactHeapPush: what the law's function computes is true, whatever the arguments. No condition. -/
import Derived.Test.YtjpmhbjbgooheaaPPux6
import Derived.Test.YtjpmhbjbgooheaaFr
import Derived.Test.YtjpmhbjbgooheaaHPu
namespace Go.Proofs.Ytjpmhbjbgooheaa.UFnExactHeapPush
open Go.RowKit Go.Proofs.YtjpmhbjbgooheaaW.PrintWords Go.Proofs.YtjpmhbjbgooheaaW.PrintLast Go.Proofs.YtjpmhbjbgooheaaW.PrintMore Go.Proofs.YtjpmhbjbgooheaaFr Go.Proofs.Ytjpmhbjbgooheaa.PPu
set_option linter.unusedVariables false
set_option linter.unusedSimpArgs false
def Pure : Prop := ∀ (l0_0 : List (S23)) (a1_0 : Int) (a1_1 : Int), (l0_0.length ≤ maxLen ∧ ∀ y ∈ l0_0, (I64 y.f0 ∧ I64 y.f1)) → I64 a1_0 → I64 a1_1 → ∃ k, laws_FnExactHeapPush.f k l0_0 a1_0 a1_1 = some true
-- IMPORT YtjpmhbjbgooheaaH@K@
open Go.Proofs.Ytjpmhbjbgooheaa.H
def res (L : List S25) (a b : Int) : List S25 × Int :=
  if hok L = true then if itemOk a b = true then if idx L b ≥ 0 then ([], 2) else if (L.length : Int) = 64 then ([], 3) else ((H.up (L.length + 1) (L ++ [⟨a, b⟩]) L.length).1, 0) else ([], 1) else ([], 1)
theorem res_len (L : List S25) (a b : Int) : (res L a b).1.length ≤ 65 := by
  unfold res
  cases h : hok L with
  | false => simp
  | true =>
    have := hok_len h
    rw [if_pos rfl]
    split
    · split
      · simp
      · split
        · simp
        · show (H.up _ _ _).1.length ≤ 65
          rw [(up_len _ _ _).1]
          simp
          omega
    · simp
theorem spec_ (L : List S25) (a b : Int) (hL : L.length ≤ 1048577) {k : Nat} (hk : 3 * L.length + 300 < k) : spec_HeapPush.f k L a b = some (res L a b) := by
  obtain ⟨k, rfl⟩ : ∃ k', k = k' + 1 := ⟨k - 1, by omega⟩
  unfold spec_HeapPush.f res
  rw [specOkF L hL (by omega), Option.bind_some]
  cases h : hok L with
  | false => simp [spec_HeapPush.j0]
  | true =>
    have hl := hok_len h
    rw [if_pos rfl, if_pos rfl, specItem, Option.bind_some]
    cases h2 : itemOk a b with
    | false => simp [spec_HeapPush.j0]
    | true =>
      simp only [spec_HeapPush.j0]
      rw [if_neg (by simp), if_pos trivial, atF L b hL (by omega), Option.bind_some]
      by_cases h3 : idx L b ≥ 0
      · rw [if_pos h3, if_pos h3]
      · rw [if_neg h3, if_neg h3]
        by_cases h4 : (L.length : Int) = 64
        · rw [if_pos h4, if_pos h4]
        · rw [if_neg h4, if_neg h4]
          simp only [Option.bind_some, List.nil_append, List.length_nil, Nat.zero_add]
          rw [if_pos (by omega), if_pos (by simp; omega)]
          have hu := (upF (L ++ [⟨a, b⟩]) L.length (by simp; omega) (by simp) (k := k) (by simp; omega)).1
          rw [show wrap64 (((L ++ [(⟨a, b⟩ : S25)]).length : Int) - 1) = (L.length : Int) by rw [wr (by simp; omega)]; simp, hu, Option.bind_some]
          simp
theorem impl_ (L : List S25) (a b : Int) (hL : L.length ≤ 1048577) {k : Nat} (hk : 3 * L.length + 300 < k) : impl_HeapPush.f k L a b = some (res L a b) := by
  obtain ⟨k, rfl⟩ : ∃ k', k = k' + 1 := ⟨k - 1, by omega⟩
  unfold impl_HeapPush.f res
  rw [implOkF L hL (by omega), Option.bind_some]
  cases h : hok L with
  | false => simp [impl_HeapPush.j0]
  | true =>
    have hl := hok_len h
    rw [if_pos rfl, if_pos rfl, implItem, Option.bind_some]
    cases h2 : itemOk a b with
    | false => simp [impl_HeapPush.j0]
    | true =>
      simp only [impl_HeapPush.j0]
      rw [if_neg (by simp), if_pos trivial, placeF, Option.bind_some]
      by_cases h3 : idx L b ≥ 0
      · rw [if_pos h3, if_pos h3]
      · rw [if_neg h3, if_neg h3]
        by_cases h4 : (L.length : Int) = 64
        · rw [if_pos h4, if_pos h4]
        · rw [if_neg h4, if_neg h4]
          simp only [impl_copyHeap.f, impl_Item.f, Option.bind_some, List.nil_append, List.length_nil, Nat.zero_add]
          rw [if_pos (by omega)]
          simp only [Option.bind_some]
          rw [if_pos (by omega)]
          have hu := (upF (L ++ [⟨a, b⟩]) L.length (by simp; omega) (by simp) (k := k) (by simp; omega)).2
          rw [hu, Option.bind_some]
          simp
theorem pure : Pure := by
  unfold Pure
  rintro l a b ⟨hl, _⟩ _ _
  by_cases hs : l.length ≤ 1048576
  · have hL : (l.map conv).length ≤ 1048577 := by simp; omega
    have hml : (l.map conv).length = l.length := by simp
    refine ⟨4 * l.length + 400, ?_⟩
    have hr := res_len (l.map conv) a b
    unfold laws_FnExactHeapPush.f
    rw [sz_small hs, Option.bind_some, if_neg (by omega), toHeapF l (by omega) (by omega)]
    simp only [Option.bind_some, laws_toItem.f, spec_ (l.map conv) a b hL (k := 4 * l.length + 400) (by omega), impl_ (l.map conv) a b hL (k := 4 * l.length + 400) (by omega), eqHeapF (l.map conv) hL (k := 4 * l.length + 400) (by omega), eqHeapF (res (l.map conv) a b).1 (by omega) (k := 4 * l.length + 400) (by omega), markF (l.map conv) hL (k := 4 * l.length + 400) (by omega), markF (res (l.map conv) a b).1 (by omega) (k := 4 * l.length + 400) (by omega), heldF (res (l.map conv) a b).1.length (by omega) (k := 4 * l.length + 400) (by omega), if_true]
    repeat rw [if_neg (by omega)]
  · refine ⟨1, ?_⟩
    unfold laws_FnExactHeapPush.f
    rw [sz_big hl hs]
    simp
end Go.Proofs.Ytjpmhbjbgooheaa.UFnExactHeapPush
