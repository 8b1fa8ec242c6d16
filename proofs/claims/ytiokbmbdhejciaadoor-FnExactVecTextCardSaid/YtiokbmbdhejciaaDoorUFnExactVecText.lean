/- The plain law behind the row FnExactVecText: the reference's text of three numbers is the program's, at every three ints. -/
import Derived.Test.YtiokbmbdhejciaaDoorI
import Derived.Lib.ItoaLen
namespace Go.Proofs.YtiokbmbdhejciaaDoor.UFnExactVecText
open Go.RowKit Go.Proofs.YtiokbmbdhejciaaDoorW.PrintWords Go.Proofs.YtiokbmbdhejciaaDoorFr Go.Proofs.YtiokbmbdhejciaaDoor.PFnExactVecText
set_option linter.unusedVariables false
set_option linter.unusedSimpArgs false
theorem wr {x : Int} (h : -9223372036854775808 ≤ x ∧ x ≤ 9223372036854775807) : wrap64 x = x := by unfold wrap64; omega
/-- The digits of u, none for 0. -/
def ds (u : Nat) : List Int := if u = 0 then [] else (Lib.decDigits u).map fun b => (b.toNat : Int)
theorem digit (d : Nat) (h : d < 10) : (((UInt8.ofNat (48 + d)).toNat : Nat) : Int) = 48 + (d : Int) := by
  have e : (UInt8.ofNat (48 + d)).toNat = (48 + d) % 256 := by simp
  rw [e]; omega
theorem ds_step {u : Nat} (h : u ≠ 0) : ds u = ds (u / 10) ++ [48 + ((u % 10 : Nat) : Int)] := by
  by_cases h10 : u < 10
  · have e1 : u / 10 = 0 := by omega
    have e2 : u % 10 = u := by omega
    simp only [ds, h, e1, e2, Lib.decDigits_one h10, if_true, if_false, List.map_cons, List.map_nil, digit u h10, List.nil_append]
  · have e1 : u / 10 ≠ 0 := by omega
    have e3 : Lib.decDigits u = Lib.decDigits (u / 10) ++ [UInt8.ofNat (48 + u % 10)] := by rw [Lib.decDigits, dif_neg h10]
    simp only [ds, h, e1, if_false, e3, List.map_append, List.map_cons, List.map_nil, digit (u % 10) (by omega)]
theorem tm (x : Int) : Int.tmod x 10 = if 0 ≤ x then ((x.natAbs % 10 : Nat) : Int) else -((x.natAbs % 10 : Nat) : Int) := by
  split
  · have : x = (x.natAbs : Int) := by omega
    rw [this, Int.natAbs_natCast]; rfl
  · have : x = -(x.natAbs : Int) := by omega
    rw [this, Int.neg_tmod, Int.natAbs_neg, Int.natAbs_natCast]; rfl
theorem td (x : Int) : (Int.tdiv x 10).natAbs = x.natAbs / 10 := by rw [Int.natAbs_tdiv]; rfl
theorem loop (x0 : Int) : ∀ (k : Nat) (x4 : Int) (x3 : List Int), I64 x4 → x4.natAbs < 10 ^ k → x3.length + k ≤ 1000 →
    spec_NumText.l0 (k + 1) x0 x3 x4 = some (strOfNums ((if x0 < 0 then [45] else []) ++ (ds x4.natAbs ++ x3)))
  | 0, x4, x3, hr, hk, hl => by
    have h0 : x4 = 0 := by simp at hk; omega
    subst h0
    unfold spec_NumText.l0
    rw [if_pos rfl]
    by_cases hn : x0 < 0
    · rw [if_pos hn]
      simp only [Option.bind_some]
      rw [if_pos (by simp; omega)]
      simp [hn, ds]
    · rw [if_neg hn]
      simp [hn, ds]
  | k + 1, x4, x3, hr, hk, hl => by
    by_cases h0 : x4 = 0
    · subst h0
      unfold spec_NumText.l0
      rw [if_pos rfl]
      by_cases hn : x0 < 0
      · rw [if_pos hn]
        simp only [Option.bind_some]
        rw [if_pos (by simp; omega)]
        simp [hn, ds]
      · rw [if_neg hn]
        simp [hn, ds]
    · have hna : x4.natAbs ≠ 0 := by omega
      obtain ⟨hr0, hr1⟩ := hr
      have hm := Nat.mod_lt x4.natAbs (show 0 < 10 by decide)
      have hd : I64 (Int.tdiv x4 10) := by
        have := td x4
        unfold I64
        omega
      have hw : wrap64 (Int.tdiv x4 10) = Int.tdiv x4 10 := wr hd
      have ih : spec_NumText.l0 (k + 1) x0 ([48 + ((x4.natAbs % 10 : Nat) : Int)] ++ x3) (Int.tdiv x4 10) = _ :=
        loop x0 k (Int.tdiv x4 10) _ hd (by rw [td]; rw [Nat.pow_succ] at hk; omega) (by simp; omega)
      rw [td] at ih
      have e : ds (x4.natAbs / 10) ++ ([48 + ((x4.natAbs % 10 : Nat) : Int)] ++ x3) = ds x4.natAbs ++ x3 := by rw [ds_step hna]; simp
      rw [e] at ih
      conv => lhs; unfold spec_NumText.l0
      rw [if_neg h0]
      by_cases ht : Int.tmod x4 10 < 0
      · rw [if_pos ht]
        have hv : wrap64 (48 + wrap64 (-(Int.tmod x4 10))) % 256 = 48 + ((x4.natAbs % 10 : Nat) : Int) := by
          rw [tm] at ht ⊢
          split at ht
          · omega
          · rename_i hx
            rw [if_neg hx, wr (x := -(-((x4.natAbs % 10 : Nat) : Int))) (by omega), wr (by omega)]
            omega
        simp only [Option.bind_some, hv, hw]
        rw [if_pos (by simp; omega)]
        exact ih
      · rw [if_neg ht]
        have hv : wrap64 (48 + Int.tmod x4 10) % 256 = 48 + ((x4.natAbs % 10 : Nat) : Int) := by
          rw [tm] at ht ⊢
          split at ht
          · rename_i hx
            rw [if_pos hx, wr (by omega)]
            omega
          · rename_i hx
            rw [if_neg hx, wr (by omega)]
            omega
        simp only [Option.bind_some, hv, hw]
        rw [if_pos (by simp; omega)]
        exact ih
theorem bytes (l : List UInt8) : strOfNums (l.map fun b => (b.toNat : Int)) = ⟨l.toArray⟩ := by
  unfold strOfNums
  congr 2
  rw [List.map_map]
  conv => rhs; rw [← List.map_id l]
  refine List.map_congr_left fun b _ => ?_
  simp
theorem num (a : Int) (h : I64 a) : spec_NumText.f 21 a = impl_NumText.f a := by
  unfold spec_NumText.f impl_NumText.f
  by_cases h0 : a = 0
  · subst h0
    rw [if_pos rfl]
    simp [Lib.itoa, Lib.decDigits_one (show 0 < 10 by decide)]
  · rw [if_neg h0, loop a 20 a [] h (by obtain ⟨h1, h2⟩ := h; omega) (by simp)]
    have hna : a.natAbs ≠ 0 := by omega
    congr 1
    rw [← bytes]
    congr 1
    simp only [ds, hna, if_false, List.append_nil, Lib.itoa]
    by_cases hn : a < 0
    · simp [hn]
    · have : a.toNat = a.natAbs := by omega
      simp [hn, this]
theorem size (a : Int) (h : I64 a) : (⟨(Lib.itoa a).toArray⟩ : ByteArray).size ≤ 21 := by
  have := Lib.itoa_length_le a h.1 h.2
  simpa [ByteArray.size] using this
theorem one : (⟨#[47]⟩ : ByteArray).size = 1 := rfl
theorem pure (a b c : Int) (ha : I64 a) (hb : I64 b) (hc : I64 c) : ∃ s, spec_VecText.f 21 a b c = some s ∧ impl_VecText.f a b c = some s := by
  have e : spec_VecText.f 21 a b c = impl_VecText.f a b c := by
    unfold spec_VecText.f impl_VecText.f
    rw [num a ha, num b hb, num c hc]
  rw [e]
  unfold impl_VecText.f impl_NumText.f
  have h1 := size a ha
  have h2 := size b hb
  have h3 := size c hc
  simp only [Option.bind_some]
  rw [if_pos (by omega), if_pos (by simp only [ByteArray.size_append, one]; omega), if_pos (by simp only [ByteArray.size_append, one]; omega), if_pos (by simp only [ByteArray.size_append, one]; omega)]
  exact ⟨_, rfl, rfl⟩
end Go.Proofs.YtiokbmbdhejciaaDoor.UFnExactVecText
