/- The plain law behind the row FnExactCarryRun: what the law's function computes is true, whatever the arguments. No condition. -/
import Derived.Test.YtiokbmbdhejciaaPCrx5
import Derived.Test.YtiokbmbdhejciaaFr
import Derived.Test.YtiokbmbdhejciaaVCr
namespace Go.Proofs.Ytiokbmbdhejciaa.UFnExactCarryRun
open Go.RowKit Go.Proofs.YtiokbmbdhejciaaW.PrintWords Go.Proofs.YtiokbmbdhejciaaW.PrintLast Go.Proofs.YtiokbmbdhejciaaW.PrintMore Go.Proofs.YtiokbmbdhejciaaFr Go.Proofs.Ytiokbmbdhejciaa.PCr
set_option linter.unusedVariables false
set_option linter.unusedSimpArgs false
def Pure : Prop := ∀ (l0 : List (S83)), (l0.length ≤ maxLen ∧ ∀ y ∈ l0, (True ∧ (I64 y.f1.f0 ∧ I64 y.f1.f1 ∧ I64 y.f1.f2))) → ∃ k, laws_FnExactCarryRun.f k l0 = some true
-- IMPORT YtiokbmbdhejciaaV@K@
open Go.Proofs.Ytiokbmbdhejciaa.V
def cl (x : Int) : Int := if x < 1 then 1 else if x > 2000 then 2000 else x
theorem specClip (x : Int) : spec_Clip.f x 1 2000 = some (cl x) := by unfold spec_Clip.f cl; by_cases h1 : x < 1 <;> by_cases h2 : x > 2000 <;> simp [h1, h2]
theorem implClip (x : Int) : impl_Clip.f x 1 2000 = some (cl x) := by unfold impl_Clip.f cl; by_cases h1 : x < 1 <;> by_cases h2 : x > 2000 <;> simp [h1, h2]
theorem cl_lo (x : Int) : 1 ≤ cl x := by unfold cl; split; · omega
                                         split <;> omega
theorem cl_hi (x : Int) : cl x ≤ 2000 := by unfold cl; split; · omega
                                            split <;> omega
theorem cl_next {g c n : Int} (h1 : 1 ≤ g) (h2 : g ≤ 1000) (h3 : -n ≤ c) (h4 : c ≤ n) : -n ≤ c + g - cl (g + c) ∧ c + g - cl (g + c) ≤ n := by
  unfold cl
  split
  · omega
  · split <;> omega
theorem wr {x : Int} (h0 : -9223372036854775808 ≤ x) (h1 : x ≤ 9223372036854775807) : wrap64 x = x := wrap_id (by unfold I64; omega)
theorem settleS (k : Nat) {a b c d e f g h i : Int} (h1 : All3 a b c (-1000000) 1000000 = true) (h2 : All3 d e f 1 1000 = true) (h3 : All3 g h i 1 1000 = true) (h4 : All3 (a + g - d) (b + h - e) (c + i - f) (-1000000) 1000000 = true) : spec_Settle.f (k + 1) a b c d e f g h i = some (a + g - d, b + h - e, c + i - f, true) := by
  simp only [spec_Settle.f, spec_CarryOk.f, spec_CostOk.f, l13All_eq, Option.bind_some, h1, h2, h3, if_true, spec_Settle.j0, Bool.not_true, Bool.false_eq_true, if_false]
  rw [all3] at h1 h2 h3
  simp only [wr (x := a + g) (by omega) (by omega), wr (x := b + h) (by omega) (by omega), wr (x := c + i) (by omega) (by omega), wr (x := a + g - d) (by omega) (by omega), wr (x := b + h - e) (by omega) (by omega), wr (x := c + i - f) (by omega) (by omega), h4, if_true]
theorem settleI (k : Nat) {a b c d e f g h i : Int} (h1 : All3 a b c (-1000000) 1000000 = true) (h2 : All3 d e f 1 1000 = true) (h3 : All3 g h i 1 1000 = true) (h4 : All3 (a + g - d) (b + h - e) (c + i - f) (-1000000) 1000000 = true) : impl_Settle.f (k + 1) a b c d e f g h i = some (a + g - d, b + h - e, c + i - f, true) := by
  simp only [impl_Settle.f, impl_CarryOk.f, impl_CostOk.f, isFrom_eq, Option.bind_some, h1, h2, h3, if_true, impl_Settle.j0, Bool.not_true, Bool.false_eq_true, if_false, impl_Vec_plus.f, impl_Vec_minus.f, impl_both_c79.f, impl_both_c80.f, impl_both.f]
  rw [all3] at h1 h2 h3
  simp only [wr (x := a + g) (by omega) (by omega), wr (x := b + h) (by omega) (by omega), wr (x := c + i) (by omega) (by omega), wr (x := a + g - d) (by omega) (by omega), wr (x := b + h - e) (by omega) (by omega), wr (x := c + i - f) (by omega) (by omega), h4, if_true]
theorem chargeS (k : Nat) {a b c d e f : Int} (h1 : All3 a b c 1 1000 = true) (h2 : All3 d e f (-1000000) 1000000 = true) : spec_Charge.f (k + 6) a b c d e f = some (cl (a + d), cl (b + e), cl (c + f), d + a - cl (a + d), e + b - cl (b + e), f + c - cl (c + f)) := by
  simp only [spec_Charge.f, spec_CarryOk.f, spec_CostOk.f, l13All_eq, Option.bind_some, h1, h2, if_true, spec_Charge.j0, Bool.not_true, Bool.false_eq_true, if_false, spec_l13List.f]
  rw [all3] at h1 h2
  have c1 := cl_lo (a + d); have c2 := cl_hi (a + d); have c3 := cl_lo (b + e); have c4 := cl_hi (b + e); have c5 := cl_lo (c + f); have c6 := cl_hi (c + f)
  simp [spec_Charge.l0, spec_l13Of.f, rd, w1, w2, w3, specClip, wr (x := a + d) (by omega) (by omega), wr (x := b + e) (by omega) (by omega), wr (x := c + f) (by omega) (by omega), wr (x := d + a) (by omega) (by omega), wr (x := e + b) (by omega) (by omega), wr (x := f + c) (by omega) (by omega), wr (x := d + a - cl (a + d)) (by omega) (by omega), wr (x := e + b - cl (b + e)) (by omega) (by omega), wr (x := f + c - cl (c + f)) (by omega) (by omega)]
theorem chargeI (k : Nat) {a b c d e f : Int} (h1 : All3 a b c 1 1000 = true) (h2 : All3 d e f (-1000000) 1000000 = true) : impl_Charge.f (k + 6) a b c d e f = some (cl (a + d), cl (b + e), cl (c + f), d + a - cl (a + d), e + b - cl (b + e), f + c - cl (c + f)) := by
  simp only [impl_Charge.f, impl_CarryOk.f, impl_CostOk.f, isFrom_eq, Option.bind_some, h1, h2, if_true, impl_Charge.j0, Bool.not_true, Bool.false_eq_true, if_false, impl_Vec_plus.f, impl_Vec_minus.f, impl_both_c79.f, impl_both_c80.f, impl_Vec_each_c70.f, impl_both.f, impl_Vec_each.f, implClip]
  rw [all3] at h1 h2
  have c1 := cl_lo (a + d); have c2 := cl_hi (a + d); have c3 := cl_lo (b + e); have c4 := cl_hi (b + e); have c5 := cl_lo (c + f); have c6 := cl_hi (c + f)
  simp only [wr (x := a + d) (by omega) (by omega), wr (x := b + e) (by omega) (by omega), wr (x := c + f) (by omega) (by omega), Int.add_comm d a, Int.add_comm e b, Int.add_comm f c, wr (x := a + d - cl (a + d)) (by omega) (by omega), wr (x := b + e - cl (b + e)) (by omega) (by omega), wr (x := c + f - cl (c + f)) (by omega) (by omega)]
/-- Deeds one by one, plainly. -/
def crr : List S80 → List S26 → List S26 → Int → Int → Int → Nat → List S26 × Int × Int × Int × Int
  | [], C, _, a, b, c, _ => (C, a, b, c, 0)
  | y :: l, C, S, a, b, c, i =>
    if All3 y.f1.f0 y.f1.f1 y.f1.f2 1 1000 = true then
      if y.f0 = true then
        match S with
        | [] => ([], 0, 0, 0, ((i + 1 : Nat) : Int))
        | s :: S' => crr l C S' (a + y.f1.f0 - s.f0) (b + y.f1.f1 - s.f1) (c + y.f1.f2 - s.f2) (i + 1)
      else crr l (C ++ [⟨cl (y.f1.f0 + a), cl (y.f1.f1 + b), cl (y.f1.f2 + c)⟩]) (S ++ [y.f1]) (a + y.f1.f0 - cl (y.f1.f0 + a)) (b + y.f1.f1 - cl (y.f1.f1 + b)) (c + y.f1.f2 - cl (y.f1.f2 + c)) (i + 1)
    else ([], 0, 0, 0, ((i + 1 : Nat) : Int))
theorem crr_len : ∀ (l : List S80) (C S : List S26) (a b c : Int) (i : Nat), (crr l C S a b c i).1.length ≤ C.length + l.length
  | [], C, _, a, b, c, _ => by simp [crr]
  | y :: l, C, S, a, b, c, i => by
    unfold crr
    split
    · split
      · split
        · simp
        · have := crr_len l C ‹_› (a + y.f1.f0 - S26.f0 ‹_›) (b + y.f1.f1 - S26.f1 ‹_›) (c + y.f1.f2 - S26.f2 ‹_›) (i + 1)
          simp only [List.length_cons]
          omega
      · have := crr_len l (C ++ [⟨cl (y.f1.f0 + a), cl (y.f1.f1 + b), cl (y.f1.f2 + c)⟩]) (S ++ [y.f1]) (a + y.f1.f0 - cl (y.f1.f0 + a)) (b + y.f1.f1 - cl (y.f1.f1 + b)) (c + y.f1.f2 - cl (y.f1.f2 + c)) (i + 1)
        simp only [List.length_cons, List.length_append, List.length_nil] at this ⊢
        omega
    · simp
theorem dropc {L : List S80} {i : Nat} (h : i < L.length) : L.drop i = rd_T80 L (i : Int) :: L.drop (i + 1) := by
  rw [List.drop_eq_getElem_cons h]
  simp [rd_T80, h]
theorem rd0 (s : S26) (S : List S26) : rd_T26 (s :: S) 0 = s := by simp [rd_T26]
theorem runS (L : List S80) (hL : L.length ≤ 1000) : ∀ (d i k : Nat) (C S : List S26) (a b c : Int), i + d = L.length → 2 * d + 10 ≤ k → (∀ s ∈ S, All3 s.f0 s.f1 s.f2 1 1000 = true) → S.length ≤ i → C.length ≤ i → -(999 * (i : Int)) ≤ a ∧ a ≤ 999 * (i : Int) ∧ -(999 * (i : Int)) ≤ b ∧ b ≤ 999 * (i : Int) ∧ -(999 * (i : Int)) ≤ c ∧ c ≤ 999 * (i : Int) → spec_CarryRun.l0 k L C S (i : Int) a b c = some (crr (L.drop i) C S a b c i) := by
  intro d
  induction d with
  | zero =>
    intro i k C S a b c hd hk hS hs hc hb
    obtain ⟨k, rfl⟩ : ∃ j, k = j + 1 := ⟨k - 1, by omega⟩
    rw [List.drop_of_length_le (by omega)]
    simp only [spec_CarryRun.l0]
    rw [if_neg (by omega)]
    rfl
  | succ d ih =>
    intro i k C S a b c hd hk hS hs hc hb
    obtain ⟨k, rfl⟩ : ∃ j, k = j + 8 := ⟨k - 8, by omega⟩
    rw [dropc (by omega)]
    simp only [spec_CarryRun.l0]
    rw [if_pos (by omega), if_pos (by omega)]
    generalize rd_T80 L (i : Int) = y
    simp only [spec_CostOk.f, l13All_eq, Option.bind_some, crr]
    have hi : wrap64 ((i : Int) + 1) = ((i + 1 : Nat) : Int) := by rw [wr (by omega) (by omega)]; omega
    cases hA : All3 y.f1.f0 y.f1.f1 y.f1.f2 1 1000 with
    | false => simp only [spec_CarryRun.j1, Bool.false_eq_true, if_false, if_true, hi]
    | true =>
      have hc1 : All3 a b c (-1000000) 1000000 = true := by rw [all3]; omega
      have hA' := all3.mp hA
      cases h0 : y.f0 with
      | false =>
        simp only [spec_CarryRun.j1, Bool.false_eq_true, if_false, if_true]
        rw [show k + 6 = k + 6 from rfl, chargeS k hA hc1, Option.bind_some, if_pos (by omega), if_pos (by omega), hi]
        have n1 := cl_next (g := y.f1.f0) (c := a) (n := 999 * (i : Int)) (by omega) (by omega) (by omega) (by omega)
        have n2 := cl_next (g := y.f1.f1) (c := b) (n := 999 * (i : Int)) (by omega) (by omega) (by omega) (by omega)
        have n3 := cl_next (g := y.f1.f2) (c := c) (n := 999 * (i : Int)) (by omega) (by omega) (by omega) (by omega)
        refine ih (i + 1) (k + 6) _ _ _ _ _ (by omega) (by omega) ?_ (by simp; omega) (by simp; omega) (by dsimp only; omega)
        intro s hs'
        rcases List.mem_append.mp hs' with h | h
        · exact hS s h
        · obtain rfl : s = y.f1 := by simpa using h
          exact hA
      | true =>
        cases S with
        | nil => simp [spec_CarryRun.j1, hi]
        | cons s S =>
          have hs1 := hS s (by simp)
          have hs2 := all3.mp hs1
          have hl : s.f0 = s.f0 := rfl
          simp only [List.length_cons] at hs
          have hz : (((s :: S).length : Int) == 0) = false := by simp only [List.length_cons, beq_eq_false_iff_ne, ne_eq]; omega
          simp only [spec_CarryRun.j1, hz, Bool.false_eq_true, if_false, if_true]
          rw [if_pos (by simp only [List.length_cons]; omega), rd0, settleS (k + 5) hc1 hs1 hA (by rw [all3]; omega), Option.bind_some, Option.bind_some, if_pos (by simp; omega), Option.bind_some, if_pos (by simp; omega), hi]
          exact ih (i + 1) (k + 6) _ _ _ _ _ (by omega) (by omega) (fun x hx => hS x (by simp at hx ⊢; exact Or.inr hx)) (by simp; omega) (by omega) (by (try dsimp only); omega)
theorem runI (L : List S80) (hL : L.length ≤ 1000) : ∀ (d i k : Nat) (C S : List S26) (a b c : Int), i + d = L.length → 2 * d + 10 ≤ k → (∀ s ∈ S, All3 s.f0 s.f1 s.f2 1 1000 = true) → S.length ≤ i → C.length ≤ i → -(999 * (i : Int)) ≤ a ∧ a ≤ 999 * (i : Int) ∧ -(999 * (i : Int)) ≤ b ∧ b ≤ 999 * (i : Int) ∧ -(999 * (i : Int)) ≤ c ∧ c ≤ 999 * (i : Int) → impl_CarryRun.l0 k C S L (L.length : Int) (i : Int) a b c = some (crr (L.drop i) C S a b c i) := by
  intro d
  induction d with
  | zero =>
    intro i k C S a b c hd hk hS hs hc hb
    obtain ⟨k, rfl⟩ : ∃ j, k = j + 1 := ⟨k - 1, by omega⟩
    rw [List.drop_of_length_le (by omega)]
    simp only [impl_CarryRun.l0]
    rw [if_neg (by omega)]
    rfl
  | succ d ih =>
    intro i k C S a b c hd hk hS hs hc hb
    obtain ⟨k, rfl⟩ : ∃ j, k = j + 8 := ⟨k - 8, by omega⟩
    rw [dropc (by omega)]
    simp only [impl_CarryRun.l0]
    rw [if_pos (by omega), if_pos (by omega), if_pos (by omega)]
    generalize rd_T80 L (i : Int) = y
    simp only [impl_CostOk.f, isFrom_eq, Option.bind_some, crr]
    have hi : wrap64 ((i : Int) + 1) = ((i + 1 : Nat) : Int) := by rw [wr (by omega) (by omega)]; omega
    cases hA : All3 y.f1.f0 y.f1.f1 y.f1.f2 1 1000 with
    | false => simp only [impl_CarryRun.j1, Bool.false_eq_true, if_false, if_true, hi]
    | true =>
      have hc1 : All3 a b c (-1000000) 1000000 = true := by rw [all3]; omega
      have hA' := all3.mp hA
      cases h0 : y.f0 with
      | false =>
        simp only [impl_CarryRun.j1, Bool.false_eq_true, if_false, if_true]
        rw [chargeI k hA hc1, Option.bind_some, Option.bind_some, if_pos (by simp; omega), Option.bind_some, if_pos (by simp; omega), hi]
        have n1 := cl_next (g := y.f1.f0) (c := a) (n := 999 * (i : Int)) (by omega) (by omega) (by omega) (by omega)
        have n2 := cl_next (g := y.f1.f1) (c := b) (n := 999 * (i : Int)) (by omega) (by omega) (by omega) (by omega)
        have n3 := cl_next (g := y.f1.f2) (c := c) (n := 999 * (i : Int)) (by omega) (by omega) (by omega) (by omega)
        refine ih (i + 1) (k + 6) _ _ _ _ _ (by omega) (by omega) ?_ (by simp; omega) (by simp; omega) (by dsimp only; omega)
        intro s hs'
        rcases List.mem_append.mp hs' with h | h
        · exact hS s h
        · obtain rfl : s = y.f1 := by simpa using h
          exact hA
      | true =>
        cases S with
        | nil => simp [impl_CarryRun.j1, hi]
        | cons s S =>
          have hs1 := hS s (by simp)
          have hs2 := all3.mp hs1
          simp only [List.length_cons] at hs
          have hz : (((s :: S).length : Int) == 0) = false := by simp only [List.length_cons, beq_eq_false_iff_ne, ne_eq]; omega
          simp only [impl_CarryRun.j1, hz, Bool.false_eq_true, if_false, if_true]
          rw [if_pos (by simp only [List.length_cons]; omega), rd0, settleI (k + 5) hc1 hs1 hA (by rw [all3]; omega), Option.bind_some]
          simp only [if_true]
          rw [if_pos (by simp; omega), hi]
          exact ih (i + 1) (k + 6) _ _ _ _ _ (by omega) (by omega) (fun x hx => hS x (by simp at hx ⊢; exact Or.inr hx)) (by simp; omega) (by omega) (by (try dsimp only); omega)
def ref (L : List S80) : List S26 × Int × Int × Int × Int := if (L.length : Int) > 1000 then ([], 0, 0, 0, -1) else crr L [] [] 0 0 0 0
theorem ref_len (L : List S80) : (ref L).1.length ≤ L.length := by
  unfold ref
  split
  · simp
  · have := crr_len L [] [] 0 0 0 0
    simpa using this
theorem specRun (L : List S80) {k : Nat} (hk : 2 * L.length + 10 ≤ k) : spec_CarryRun.f k L = some (ref L) := by
  unfold spec_CarryRun.f ref
  split
  · rfl
  · have := runS L (by omega) L.length 0 k [] [] 0 0 0 (by omega) hk (by simp) (by simp) (by simp) (by simp)
    simpa using this
theorem implRun (L : List S80) {k : Nat} (hk : 2 * L.length + 10 ≤ k) : impl_CarryRun.f k L = some (ref L) := by
  unfold impl_CarryRun.f ref
  split
  · rfl
  · have := runI L (by omega) L.length 0 k [] [] 0 0 0 (by omega) hk (by simp) (by simp) (by simp) (by simp)
    simpa using this
def cv (y : S83) : S80 := ⟨y.f0, ⟨y.f1.f0, y.f1.f1, y.f1.f2⟩⟩
theorem toD_ (l : List S83) (hn : l.length ≤ 1048576) : ∀ (d i k : Nat), i + d = l.length → d < k → laws_toDeedS.l0 k l ((l.take i).map cv ++ List.replicate d z80) (i : Int) = some (l.map cv) := by
  intro d
  induction d with
  | zero =>
    intro i k hd hk
    obtain ⟨k, rfl⟩ : ∃ j, k = j + 1 := ⟨k - 1, by omega⟩
    simp only [laws_toDeedS.l0]
    rw [if_neg (by omega), List.take_of_length_le (by omega)]
    simp
  | succ d ih =>
    intro i k hd hk
    obtain ⟨k, rfl⟩ : ∃ j, k = j + 1 := ⟨k - 1, by omega⟩
    simp only [laws_toDeedS.l0]
    rw [if_pos (by omega), if_pos (by omega), laws_toDeed.f, laws_toVec.f, Option.bind_some, Option.bind_some, if_pos (by simp; omega), show wrap64 ((i : Int) + 1) = ((i + 1 : Nat) : Int) by rw [wr (by omega) (by omega)]; omega]
    have e : ((l.take i).map cv ++ List.replicate (d + 1) z80).set ((i : Int).toNat) (⟨(rd_T83 l (i : Int)).f0, ⟨(rd_T83 l (i : Int)).f1.f0, (rd_T83 l (i : Int)).f1.f1, (rd_T83 l (i : Int)).f1.f2⟩⟩ : S80) = (l.take (i + 1)).map cv ++ List.replicate d z80 := by
      have hlt : i < l.length := by omega
      have hr : rd_T83 l (i : Int) = l[i] := by simp [rd_T83, hlt]
      rw [Int.toNat_natCast, List.set_append_right _ _ (by simp; omega), hr, List.take_succ_eq_append_getElem hlt, List.map_append, List.append_assoc]
      rw [show i - ((l.take i).map cv).length = 0 by simp; omega, List.replicate_succ, List.set_cons_zero]
      rfl
    rw [e]
    exact ih (i + 1) k (by omega) (by omega)
theorem toDF (l : List S83) (hn : l.length ≤ 1048576) {k : Nat} (hk : l.length < k) : laws_toDeedS.f k l = some (l.map cv) := by
  unfold laws_toDeedS.f
  rw [if_pos (by omega), if_pos (by omega), Int.toNat_natCast]
  have := toD_ l hn l.length 0 k (by omega) hk
  simpa using this
theorem eqV (a b c : Int) : laws_eqVec.f a b c a b c = some true := by simp [laws_eqVec.f]
theorem eqV_ (X : List S26) (hn : X.length ≤ 1048576) : ∀ (d i k : Nat), i + d = X.length → d < k → laws_eqVecS.l0 k X X (i : Int) = some true := by
  intro d
  induction d with
  | zero =>
    intro i k hd hk
    obtain ⟨k, rfl⟩ : ∃ j, k = j + 1 := ⟨k - 1, by omega⟩
    simp only [laws_eqVecS.l0]
    rw [if_neg (by omega)]
  | succ d ih =>
    intro i k hd hk
    obtain ⟨k, rfl⟩ : ∃ j, k = j + 1 := ⟨k - 1, by omega⟩
    simp only [laws_eqVecS.l0, eqV, Option.bind_some, if_true]
    rw [if_pos (by omega), if_pos (by omega), if_pos (by omega), show wrap64 ((i : Int) + 1) = ((i + 1 : Nat) : Int) by rw [wr (by omega) (by omega)]; omega]
    exact ih (i + 1) k (by omega) (by omega)
theorem eqVF (X : List S26) (hn : X.length ≤ 1048576) {k : Nat} (hk : X.length < k) : laws_eqVecS.f k X X = some true := by
  unfold laws_eqVecS.f
  rw [if_pos rfl]
  exact eqV_ X hn X.length 0 k (by omega) hk
theorem eqD_ (X : List S80) (hn : X.length ≤ 1048576) : ∀ (d i k : Nat), i + d = X.length → d < k → laws_eqDeedS.l0 k X X (i : Int) = some true := by
  intro d
  induction d with
  | zero =>
    intro i k hd hk
    obtain ⟨k, rfl⟩ : ∃ j, k = j + 1 := ⟨k - 1, by omega⟩
    simp only [laws_eqDeedS.l0]
    rw [if_neg (by omega)]
  | succ d ih =>
    intro i k hd hk
    obtain ⟨k, rfl⟩ : ∃ j, k = j + 1 := ⟨k - 1, by omega⟩
    simp only [laws_eqDeedS.l0, laws_eqDeed.f, eqV, Option.bind_some, if_true, bne_self_eq_false, Bool.false_eq_true, if_false]
    rw [if_pos (by omega), if_pos (by omega), if_pos (by omega), show wrap64 ((i : Int) + 1) = ((i + 1 : Nat) : Int) by rw [wr (by omega) (by omega)]; omega]
    exact ih (i + 1) k (by omega) (by omega)
theorem eqDF (X : List S80) (hn : X.length ≤ 1048576) {k : Nat} (hk : X.length < k) : laws_eqDeedS.f k X X = some true := by
  unfold laws_eqDeedS.f
  rw [if_pos rfl]
  exact eqD_ X hn X.length 0 k (by omega) hk
theorem stepN_nx (m : Nat) {a : Int} (h0 : -9223372036854775808 ≤ a) (h : a + m ≤ 9223372036854775807) : Gv.stepN Gv.nx m a = a + m := by
  induction m with
  | zero => simp [Gv.stepN]
  | succ m ih =>
    rw [Gv.stepN, ih (by omega), Gv.nx, wr (by omega) (by omega)]
    omega
theorem stepN_nn (c n : Nat) {a : Int} (h0 : -9223372036854775808 ≤ a) (h : a + c * n ≤ 9223372036854775807) : Gv.stepN (Gv.stepN Gv.nx c) n a = a + c * n := by
  induction n with
  | zero => simp [Gv.stepN]
  | succ n ih =>
    have e : (c : Int) * ((n + 1 : Nat) : Int) = c * n + c := by rw [Int.natCast_succ, Int.mul_add, Int.mul_one]
    have hc : 0 ≤ (c : Int) * n := Int.mul_nonneg (by omega) (by omega)
    rw [e] at h
    rw [Gv.stepN, ih (by omega), stepN_nx c (by omega) (by omega), e]
    omega
theorem heldL_append {α : Type} (q : α → Int → Bool) (f : Int → Int) : ∀ (A : List α) (x : α) (a : Int), Gv.heldL q f (A ++ [x]) a = (Gv.heldL q f A a).bind fun b => if q x b = true then some (f b) else none
  | [], x, a => by simp [Gv.heldL]
  | y :: A, x, a => by
    simp only [List.cons_append, Gv.heldL]
    split
    · exact heldL_append q f A x (f a)
    · rfl
theorem heldL_mk {α : Type} (q : α → Int → Bool) (f : Int → Int) (mk : Int → α) (h : ∀ b, q (mk b) b = true) (a : Int) : ∀ n, Gv.heldL q f (Gv.mkL mk f n a) a = some (Gv.stepN f n a)
  | 0 => rfl
  | n + 1 => by
    rw [Gv.mkL, heldL_append, heldL_mk q f mk h a n, Option.bind_some, if_pos (h _)]
    rfl
theorem markHeldV (X : List S26) (h : X.length ≤ 1048576) : ∃ Y, laws_markVecS.f X 1 = some (1 + ((3 : Nat) : Int) * (X.length : Int), Y) ∧ laws_heldVecS.f Y 1 = some (1 + ((3 : Nat) : Int) * (X.length : Int)) := by
  have e := stepN_nn 3 X.length (a := 1) (by omega) (by omega)
  rw [← e]
  exact ⟨_, rfl, heldL_mk _ _ _ (fun b => by simp) 1 X.length⟩
theorem markD (X : List S80) (h : X.length ≤ 1048576) : ∃ Y, laws_markDeedS.f X 1 = some (1 + ((4 : Nat) : Int) * (X.length : Int), Y) := by
  have e := stepN_nn 4 X.length (a := 1) (by omega) (by omega)
  rw [← e]
  exact ⟨_, rfl⟩
theorem pure : Pure := by
  unfold Pure
  intro l hl
  have hm := hl.1
  unfold maxLen at hm
  by_cases hz : l.length ≤ 1048576
  · obtain ⟨L, hM⟩ : ∃ L, L = l.map cv := ⟨_, rfl⟩
    have h1 : L.length = l.length := by rw [hM]; simp
    have hr := ref_len L
    obtain ⟨Y1, m1⟩ := markD L (by omega)
    obtain ⟨Y2, m2, h2⟩ := markHeldV (ref L).1 (by omega)
    refine ⟨2 * l.length + 20, ?_⟩
    unfold laws_FnExactCarryRun.f laws_szDeedS.f
    rw [wr (by omega) (by omega), if_neg (by omega), Option.bind_some, if_neg (by omega), toDF l (by omega) (by omega), ← hM]
    simp only [Option.bind_some, specRun L (show 2 * L.length + 10 ≤ 2 * l.length + 20 by omega), implRun L (show 2 * L.length + 10 ≤ 2 * l.length + 20 by omega), eqVF (ref L).1 (by omega) (show (ref L).1.length < 2 * l.length + 20 by omega), eqDF L (by omega) (show L.length < 2 * l.length + 20 by omega), eqV, m1, m2, h2, if_true]
    rw [if_neg (by omega), if_neg (by omega), if_neg (by omega)]
  · refine ⟨1, ?_⟩
    unfold laws_FnExactCarryRun.f laws_szDeedS.f
    rw [wr (by omega) (by omega), if_pos (by omega)]
    simp
end Go.Proofs.Ytiokbmbdhejciaa.UFnExactCarryRun
