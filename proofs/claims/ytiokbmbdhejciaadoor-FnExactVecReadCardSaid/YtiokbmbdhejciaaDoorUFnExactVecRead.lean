/- The plain law behind the row FnExactVecRead: what the reference reads out of a text is what the program reads, at every text of at most 1048576 bytes. -/
import Derived.Test.YtiokbmbdhejciaaDoorPVrx1
import Derived.Test.YtiokbmbdhejciaaDoorLa
import Derived.Lib.ItoaLen
import Derived.Lib.SplitLaws
import Derived.Lib.SmallJoins
import Derived.Lib.AtoiAllCases
namespace Go.Proofs.YtiokbmbdhejciaaDoor.UFnExactVecRead
open Go.RowKit Go.Proofs.YtiokbmbdhejciaaDoorW.PrintWords Go.Proofs.YtiokbmbdhejciaaDoor.PVr Go.Proofs.YtiokbmbdhejciaaDoor.La
set_option linter.unusedVariables false
set_option linter.unusedSimpArgs false
theorem wr {x : Int} (h : -9223372036854775808 ≤ x ∧ x ≤ 9223372036854775807) : wrap64 x = x := by unfold wrap64; omega
/-- The digits of u, none for 0. -/
def ds (u : Nat) : List Int := if u = 0 then [] else (Lib.decDigits u).map fun b => (b.toNat : Int)
theorem digit (d : Nat) (h : d < 10) : (((UInt8.ofNat (48 + d)).toNat : Nat) : Int) = 48 + (d : Int) := by
  have e : (UInt8.ofNat (48 + d)).toNat = (48 + d) % 256 := by simp
  rw [e]; omega
theorem ds_step {u : Nat} (h : u ≠ 0) : ds u = ds (u / 10) ++ [48 + ((u % 10 : Nat) : Int)] := by
  by_cases h10 : u < 10
  · have e1 : u / 10 = 0 := by omega
    have e2 : u % 10 = u := by omega
    simp only [ds, h, e1, e2, Lib.decDigits_one h10, if_true, if_false, List.map_cons, List.map_nil, digit u h10, List.nil_append]
  · have e1 : u / 10 ≠ 0 := by omega
    have e3 : Lib.decDigits u = Lib.decDigits (u / 10) ++ [UInt8.ofNat (48 + u % 10)] := by rw [Lib.decDigits, dif_neg h10]
    simp only [ds, h, e1, if_false, e3, List.map_append, List.map_cons, List.map_nil, digit (u % 10) (by omega)]
theorem tm (x : Int) : Int.tmod x 10 = if 0 ≤ x then ((x.natAbs % 10 : Nat) : Int) else -((x.natAbs % 10 : Nat) : Int) := by
  split
  · have : x = (x.natAbs : Int) := by omega
    rw [this, Int.natAbs_natCast]; rfl
  · have : x = -(x.natAbs : Int) := by omega
    rw [this, Int.neg_tmod, Int.natAbs_neg, Int.natAbs_natCast]; rfl
theorem td (x : Int) : (Int.tdiv x 10).natAbs = x.natAbs / 10 := by rw [Int.natAbs_tdiv]; rfl
theorem loop (x0 : Int) : ∀ (k : Nat) (x4 : Int) (x3 : List Int), I64 x4 → x4.natAbs < 10 ^ k → x3.length + k ≤ 1000 →
    spec_NumText.l0 (k + 1) x0 x3 x4 = some (strOfNums ((if x0 < 0 then [45] else []) ++ (ds x4.natAbs ++ x3)))
  | 0, x4, x3, hr, hk, hl => by
    have h0 : x4 = 0 := by simp at hk; omega
    subst h0
    unfold spec_NumText.l0
    rw [if_pos rfl]
    by_cases hn : x0 < 0
    · rw [if_pos hn]
      simp only [Option.bind_some]
      rw [if_pos (by simp; omega)]
      simp [hn, ds]
    · rw [if_neg hn]
      simp [hn, ds]
  | k + 1, x4, x3, hr, hk, hl => by
    by_cases h0 : x4 = 0
    · subst h0
      unfold spec_NumText.l0
      rw [if_pos rfl]
      by_cases hn : x0 < 0
      · rw [if_pos hn]
        simp only [Option.bind_some]
        rw [if_pos (by simp; omega)]
        simp [hn, ds]
      · rw [if_neg hn]
        simp [hn, ds]
    · have hna : x4.natAbs ≠ 0 := by omega
      obtain ⟨hr0, hr1⟩ := hr
      have hm := Nat.mod_lt x4.natAbs (show 0 < 10 by decide)
      have hd : I64 (Int.tdiv x4 10) := by
        have := td x4
        unfold I64
        omega
      have hw : wrap64 (Int.tdiv x4 10) = Int.tdiv x4 10 := wr hd
      have ih : spec_NumText.l0 (k + 1) x0 ([48 + ((x4.natAbs % 10 : Nat) : Int)] ++ x3) (Int.tdiv x4 10) = _ :=
        loop x0 k (Int.tdiv x4 10) _ hd (by rw [td]; rw [Nat.pow_succ] at hk; omega) (by simp; omega)
      rw [td] at ih
      have e : ds (x4.natAbs / 10) ++ ([48 + ((x4.natAbs % 10 : Nat) : Int)] ++ x3) = ds x4.natAbs ++ x3 := by rw [ds_step hna]; simp
      rw [e] at ih
      conv => lhs; unfold spec_NumText.l0
      rw [if_neg h0]
      by_cases ht : Int.tmod x4 10 < 0
      · rw [if_pos ht]
        have hv : wrap64 (48 + wrap64 (-(Int.tmod x4 10))) % 256 = 48 + ((x4.natAbs % 10 : Nat) : Int) := by
          rw [tm] at ht ⊢
          split at ht
          · omega
          · rename_i hx
            rw [if_neg hx, wr (x := -(-((x4.natAbs % 10 : Nat) : Int))) (by omega), wr (by omega)]
            omega
        simp only [Option.bind_some, hv, hw]
        rw [if_pos (by simp; omega)]
        exact ih
      · rw [if_neg ht]
        have hv : wrap64 (48 + Int.tmod x4 10) % 256 = 48 + ((x4.natAbs % 10 : Nat) : Int) := by
          rw [tm] at ht ⊢
          split at ht
          · rename_i hx
            rw [if_pos hx, wr (by omega)]
            omega
          · rename_i hx
            rw [if_neg hx, wr (by omega)]
            omega
        simp only [Option.bind_some, hv, hw]
        rw [if_pos (by simp; omega)]
        exact ih
theorem bytes (l : List UInt8) : strOfNums (l.map fun b => (b.toNat : Int)) = ⟨l.toArray⟩ := by
  unfold strOfNums
  congr 2
  rw [List.map_map]
  conv => rhs; rw [← List.map_id l]
  refine List.map_congr_left fun b _ => ?_
  simp
theorem num (a : Int) (h : I64 a) : spec_NumText.f 21 a = some ⟨(Lib.itoa a).toArray⟩ := by
  unfold spec_NumText.f
  by_cases h0 : a = 0
  · subst h0
    rw [if_pos rfl]
    simp [Lib.itoa, Lib.decDigits_one (show 0 < 10 by decide)]
  · rw [if_neg h0, loop a 20 a [] h (by obtain ⟨h1, h2⟩ := h; omega) (by simp)]
    have hna : a.natAbs ≠ 0 := by omega
    congr 1
    rw [← bytes]
    congr 1
    simp only [ds, hna, if_false, List.append_nil, Lib.itoa]
    by_cases hn : a < 0
    · simp [hn]
    · have : a.toNat = a.natAbs := by omega
      simp [hn, this]
theorem size (a : Int) (h : I64 a) : (⟨(Lib.itoa a).toArray⟩ : ByteArray).size ≤ 21 := by
  have := Lib.itoa_length_le a h.1 h.2
  simpa [ByteArray.size] using this
theorem num_up (a : Int) (h : I64 a) : ∀ d, spec_NumText.f (21 + d) a = some ⟨(Lib.itoa a).toArray⟩
  | 0 => num a h
  | d + 1 => spec_NumText.mono a (21 + d) _ (num_up a h d)
/-! ### numbers read -/
def Dig (c : UInt8) : Prop := 48 ≤ c.toNat ∧ c.toNat ≤ 57
instance (c : UInt8) : Decidable (Dig c) := by unfold Dig; infer_instance
def val : Nat → List UInt8 → Nat
  | acc, [] => acc
  | acc, c :: r => val (acc * 10 + (c.toNat - 48)) r
theorem val_lt (l : List UInt8) : ∀ (acc m : Nat), (∀ c ∈ l, Dig c) → acc < 10 ^ m → val acc l < 10 ^ (m + l.length) := by
  induction l with
  | nil => intro acc m _ h; exact h
  | cons c r ih =>
    intro acc m hd h
    have hc := hd c (.head _)
    unfold Dig at hc
    have := ih (acc * 10 + (c.toNat - 48)) (m + 1) (fun x hx => hd x (.tail _ hx)) (by rw [Nat.pow_succ]; omega)
    rw [show m + 1 + r.length = m + (c :: r).length by simp; omega] at this
    exact this
theorem parse : ∀ (l : List UInt8) (acc m : Nat), (∀ c ∈ l, Dig c) → acc < 10 ^ m → m + l.length ≤ 12 → Lib.parseUint10 acc l = .ok (val acc l)
  | [], acc, m, _, h, _ => rfl
  | c :: r, acc, m, hd, h, hm => by
    have hc := hd c (.head _)
    have hp : 10 ^ m ≤ 1000000000000 := Nat.le_trans (Nat.pow_le_pow_right (by decide) (show _ ≤ 12 from (by simp at hm; omega))) (Nat.le_of_eq rfl)
    have ih := parse r (acc * 10 + (c.toNat - 48)) (m + 1) (fun x hx => hd x (.tail _ hx)) (by unfold Dig at hc; rw [Nat.pow_succ]; omega) (by simp at hm; omega)
    unfold Lib.parseUint10
    unfold Dig at hc
    rw [if_pos hc, if_neg (by omega), if_neg (by omega), ih]
    rfl
theorem atoi_digits (l : List UInt8) (hd : ∀ c ∈ l, Dig c) (h0 : l ≠ []) (h1 : l.length ≤ 12) : Lib.atoiAll l = .ok (val 0 l) := by
  cases l with
  | nil => exact absurd rfl h0
  | cons c r =>
    have hc := hd c (.head _)
    unfold Dig at hc
    have hv := val_lt (c :: r) 0 0 hd (by decide)
    have hp : 10 ^ (0 + (c :: r).length) ≤ 1000000000000 := Nat.le_trans (Nat.pow_le_pow_right (by decide) (show _ ≤ 12 from (by simp at h1 ⊢; omega))) (Nat.le_of_eq rfl)
    have e : Lib.parseMag (c :: r) = .ok (val 0 (c :: r)) := by
      unfold Lib.parseMag
      rw [if_neg (by simp), parse (c :: r) 0 0 hd (by decide) (by simpa using h1)]
    unfold Lib.atoiAll
    simp only
    rw [if_neg (by omega), e]
    simp only
    rw [if_neg (by omega), if_neg (by omega), if_neg (by omega)]
theorem dec_digits (u : Nat) : ∀ c ∈ Lib.decDigits u, Dig c := by
  induction u using Nat.strongRecOn with
  | _ u ih =>
    intro c hc
    by_cases h : u < 10
    · rw [Lib.decDigits_one h] at hc
      simp only [List.mem_singleton] at hc
      subst hc
      have := digit u h
      unfold Dig
      omega
    · rw [Lib.decDigits, dif_neg h, List.mem_append] at hc
      rcases hc with hc | hc
      · exact ih (u / 10) (by omega) c hc
      · simp only [List.mem_singleton] at hc
        subst hc
        have := digit (u % 10) (by omega)
        unfold Dig
        omega
theorem toList_data (s : ByteArray) : s.toList = s.data.toList := ByteArray.toList_eq s
/-- What the reference reads, told of the bytes. -/
def nr (p : ByteArray) : Int × Bool :=
  if 1 ≤ p.size ∧ p.size ≤ 12 ∧ (∀ c ∈ p.data.toList, Dig c) ∧ (⟨(Lib.itoa (val 0 p.data.toList)).toArray⟩ : ByteArray).toList = p.toList then ((val 0 p.data.toList : Nat), true) else (0, false)
theorem numRead_eq (p : ByteArray) : numRead p = nr p := by
  have hsz : p.data.toList.length = p.size := rfl
  by_cases h12 : p.size ≤ 12
  · by_cases hd : ∀ c ∈ p.data.toList, Dig c
    · by_cases h0 : p.data.toList = []
      · have : ¬ 1 ≤ p.size := by rw [← hsz, h0]; simp
        unfold numRead nr
        rw [if_neg (fun h => this h.1), h0]
        rfl
      · have h1 : 1 ≤ p.size := by
          rw [← hsz]; cases hl : p.data.toList with
          | nil => exact absurd hl h0
          | cons _ _ => simp
        unfold numRead nr
        rw [atoi_digits _ hd h0 (by omega)]
        simp only
        rw [if_neg (by omega), if_neg (by omega)]
        by_cases he : (⟨(Lib.itoa (val 0 p.data.toList)).toArray⟩ : ByteArray).toList = p.toList
        · rw [if_pos he, if_pos ⟨h1, h12, hd, he⟩]
        · rw [if_neg he, if_neg (fun h => he h.2.2.2)]
    · unfold nr
      rw [if_neg (fun h => hd h.2.2.1)]
      unfold numRead
      cases hA : Lib.atoiAll p.data.toList with
      | ok v =>
        simp only
        by_cases hv : v < 0
        · rw [if_pos hv]
        · rw [if_neg hv, if_neg (by omega)]
          rw [if_neg]
          intro he
          apply hd
          rw [toList_data, toList_data] at he
          rw [← he]
          simp only [Lib.itoa, hv, if_false]
          exact dec_digits _
      | range => rfl
      | _ => rfl
  · unfold nr
    rw [if_neg (fun h => h12 h.2.1)]
    unfold numRead
    cases hA : Lib.atoiAll p.data.toList with
    | ok v =>
      simp only
      by_cases hv : v < 0
      · rw [if_pos hv]
      · rw [if_neg hv, if_pos (by omega)]
    | range => rfl
    | _ => rfl
theorem bt_of (p : ByteArray) (i : Nat) (c : UInt8) (m : List UInt8) (pre : List UInt8) (h : p.data.toList = pre ++ c :: m) (hi : i = pre.length) : bt p i = (c.toNat : Int) := by
  have hs : i < p.size := by
    have : p.data.toList.length = p.size := rfl
    rw [h] at this; simp at this; omega
  rw [← bt_at p i (by simpa using hs)]
  have : p.data.toList[i]? = some c := by rw [h, hi]; simp
  have h2 : p.data[i]? = some c := by simpa using this
  obtain ⟨h3, h4⟩ := Array.getElem?_eq_some_iff.1 h2
  show ((p.data[(i : Int).toNat]'_).toNat : Int) = _
  simp only [Int.toNat_natCast, h4]
theorem ifc {α : Type} {p q : Prop} [Decidable p] [Decidable q] {a b : α} (h : p ↔ q) : (if p then a else b) = if q then a else b := by
  by_cases hp : p
  · rw [if_pos hp, if_pos (h.1 hp)]
  · rw [if_neg hp, if_neg (fun hq => hp (h.2 hq))]
theorem nr_end (p : ByteArray) (hp : p.size ≤ 12) (d : Nat) (pre : List UInt8) (n : Nat) (h : p.data.toList = pre ++ []) (hn : n < 10 ^ pre.length) :
    spec_NumRead.l0 (21 + d + 1) p n pre.length = if (∀ c ∈ ([] : List UInt8), Dig c) ∧ (⟨(Lib.itoa (n : Int)).toArray⟩ : ByteArray).toList = p.toList then some ((n : Int), true) else some (0, false) := by
  have hsz : p.data.toList.length = p.size := rfl
  have hl : pre.length = p.size := by rw [← hsz, h]; simp
  have h10 : 10 ^ pre.length ≤ 1000000000000 := Nat.le_trans (Nat.pow_le_pow_right (by decide) (show _ ≤ 12 from (by omega))) (Nat.le_of_eq rfl)
  have hI : I64 (n : Int) := by
    generalize 10 ^ pre.length = q at hn h10
    exact ⟨by omega, by omega⟩
  have e := num_up n hI d
  rw [spec_NumRead.l0, if_neg (by omega), e]
  generalize (⟨(Lib.itoa (n : Int)).toArray⟩ : ByteArray) = z
  simp only [Option.bind_some]
  by_cases he : z.toList = p.toList
  · rw [if_pos he, if_pos ⟨by simp, he⟩]
  · rw [if_neg he, if_neg (fun h => he h.2)]
set_option maxHeartbeats 4000000 in
theorem nr_loop (p : ByteArray) (hp : p.size ≤ 12) (d : Nat) (m : List UInt8) : ∀ (pre : List UInt8) (n : Nat), p.data.toList = pre ++ m → n < 10 ^ pre.length →
    spec_NumRead.l0 (21 + d + 1 + m.length) p n pre.length = if (∀ c ∈ m, Dig c) ∧ (⟨(Lib.itoa (val n m)).toArray⟩ : ByteArray).toList = p.toList then some ((val n m : Int), true) else some (0, false) := by
  induction m with
  | nil =>
    intro pre n h hn
    exact nr_end p hp d pre n h hn
  | cons c m ihm =>
    intro pre n h hn
    have hsz : p.data.toList.length = p.size := rfl
    have hl : pre.length + 1 + m.length = p.size := by rw [← hsz, h]; simp; omega
    have h10 : 10 ^ pre.length ≤ 100000000000 := Nat.le_trans (Nat.pow_le_pow_right (by decide) (show _ ≤ 11 from (by omega))) (Nat.le_of_eq rfl)
    have hb := bt_of p pre.length c m pre h rfl
    have hn2 : n < 100000000000 := Nat.lt_of_lt_of_le hn h10
    have hn3 : ∀ x, x < 10 → n * 10 + x < 10 ^ (pre ++ [c]).length := by
      intro x hx
      rw [List.length_append, List.length_singleton, Nat.pow_succ]
      generalize 10 ^ pre.length = q at hn
      omega
    clear h10 hn
    show spec_NumRead.l0 (21 + d + 1 + m.length + 1) p n pre.length = _
    rw [spec_NumRead.l0]
    rw [if_pos (by omega), if_pos (by omega), hb]
    by_cases h1 : (c.toNat : Int) < 48
    · rw [if_pos h1, if_neg]
      intro hx
      have := hx.1 c (.head _)
      unfold Dig at this
      omega
    · rw [if_neg h1]
      by_cases h2 : (c.toNat : Int) > 57
      · rw [if_pos h2, if_neg]
        intro hx
        have := hx.1 c (.head _)
        unfold Dig at this
        omega
      · rw [if_neg h2]
        have hc : Dig c := by unfold Dig; omega
        have e1 : wrap64 (wrap64 (10 * (n : Int)) + (((c.toNat : Int) - 48) % 256)) = ((n * 10 + (c.toNat - 48) : Nat) : Int) := by
          rw [wr (x := 10 * (n : Int)) (by omega), wr (by omega)]; omega
        have e2 : wrap64 ((pre.length : Int) + 1) = ((pre ++ [c]).length : Int) := by rw [wr (by omega)]; simp
        rw [e1, e2, ihm (pre ++ [c]) (n * 10 + (c.toNat - 48)) (by rw [h]; simp) (hn3 _ (by unfold Dig at hc; omega))]
        have e3 : (∀ x ∈ c :: m, Dig x) ↔ ∀ x ∈ m, Dig x := ⟨fun h x hx => h x (.tail _ hx), fun h x hx => by
          rcases List.mem_cons.1 hx with rfl | hx
          · exact hc
          · exact h x hx⟩
        exact ifc (and_congr e3.symm Iff.rfl)
theorem nr_spec (p : ByteArray) (d : Nat) : spec_NumRead.f (40 + d) p = some (nr p) := by
  have hsz : p.data.toList.length = p.size := rfl
  unfold spec_NumRead.f
  by_cases h1 : (p.size : Int) < 1
  · rw [if_pos h1]
    rw [show 40 + d = (39 + d) + 1 by omega]
    unfold nr
    rw [spec_NumRead.j0, if_pos rfl, if_neg (by omega)]
  · rw [if_neg h1]
    rw [show 40 + d = (39 + d) + 1 by omega]
    rw [spec_NumRead.j0]
    by_cases h2 : (p.size : Int) > 12
    · rw [decide_eq_true h2, if_pos rfl]
      unfold nr
      rw [if_neg (by omega)]
    · rw [decide_eq_false h2, if_neg (by decide)]
      have := nr_loop p (by omega) (17 + d - p.size) p.data.toList [] 0 rfl (by decide)
      rw [hsz, show 21 + (17 + d - p.size) + 1 + p.size = 39 + d by omega] at this
      refine this.trans ?_
      unfold nr
      by_cases hx : (∀ c ∈ p.data.toList, Dig c) ∧ (⟨(Lib.itoa (val 0 p.data.toList)).toArray⟩ : ByteArray).toList = p.toList
      · rw [if_pos hx, if_pos ⟨by omega, by omega, hx.1, hx.2⟩]
      · rw [if_neg hx, if_neg (fun h => hx h.2.2)]
/-! ### the pieces -/
/-- What stands between the slashes. -/
def grp : List UInt8 → List (List UInt8)
  | [] => [[]]
  | b :: t => if b = 47 then [] :: grp t else match grp t with
    | h :: r => (b :: h) :: r
    | [] => [[b]]
theorem grp_cons (l : List UInt8) : ∃ h r, grp l = h :: r := by
  cases l with
  | nil => exact ⟨_, _, rfl⟩
  | cons b t =>
    unfold grp
    split
    · exact ⟨_, _, rfl⟩
    · split <;> exact ⟨_, _, rfl⟩
theorem grp_sum : ∀ l : List UInt8, ((grp l).map List.length).sum + (grp l).length = l.length + 1
  | [] => rfl
  | b :: t => by
    have ih := grp_sum t
    unfold grp
    split
    · simp only [List.map_cons, List.sum_cons, List.length_cons, List.length_nil] at ih ⊢; omega
    · obtain ⟨h, r, e⟩ := grp_cons t
      rw [e] at ih ⊢
      simp only [List.map_cons, List.sum_cons, List.length_cons] at ih ⊢; omega
theorem splitK_grp : ∀ l : List UInt8, Lib.splitK [47] 0 (Lib.count l [47]) l = grp l
  | [] => by rw [Lib.count_one]; rfl
  | b :: t => by
    have ih := splitK_grp t
    rw [Lib.count_one] at ih ⊢
    by_cases hb : b = 47
    · subst hb
      have hix : Lib.index (47 :: t) [47] = 0 := by rw [Lib.index]; simp [List.isPrefixOf]
      rw [List.count_cons_self, Lib.splitK, hix, if_neg (by decide)]
      unfold grp
      rw [if_pos rfl, ← ih]
      simp
    · rw [List.count_cons_of_ne (by simpa using hb)]
      have hp : ([47] : List UInt8).isPrefixOf (b :: t) = false := by simp [List.isPrefixOf, Ne.symm hb]
      have hix : Lib.index (b :: t) [47] = if Lib.index t [47] == -1 then -1 else Lib.index t [47] + 1 := by rw [Lib.index, hp]; simp
      unfold grp
      rw [if_neg hb, ← ih]
      cases hk : t.count 47 with
      | zero => rfl
      | succ k =>
        have hm : ¬ Lib.index t [47] = -1 := by
          intro e
          have := Lib.count_miss e
          rw [Lib.count_one] at this
          omega
        have hge := Lib.index_ge t [47]
        obtain ⟨j, hj⟩ : ∃ j : Nat, Lib.index t [47] = j := ⟨(Lib.index t [47]).toNat, by omega⟩
        have hix' : Lib.index (b :: t) [47] = ((j + 1 : Nat) : Int) := by rw [hix, if_neg (fun e => hm (beq_iff_eq.1 e)), hj]; omega
        rw [Lib.splitK, Lib.splitK, hix', hj, if_neg (fun e => by have := beq_iff_eq.1 e; omega), if_neg (fun e => by have := beq_iff_eq.1 e; omega)]
        simp
def ba (l : List UInt8) : ByteArray := ⟨l.toArray⟩
theorem ba_data (s : ByteArray) : ba s.data.toList = s := rfl
theorem ba_map (l : List ByteArray) : (l.map (·.data.toList)).map ba = l := by
  rw [List.map_map]
  conv => rhs; rw [← List.map_id l]
  rfl
theorem split_grp (s : ByteArray) : Lib.splitB ⟨#[47]⟩ 0 (Lib.countB s ⟨#[47]⟩) s = (grp s.data.toList).map ba := by
  rw [← ba_map (Lib.splitB _ _ _ _), Lib.splitB_data]
  congr 1
  exact splitK_grp s.data.toList
/-- What stands before is laid before the first piece. -/
def glue (x : ByteArray) : List (List UInt8) → List ByteArray
  | [] => []
  | h :: r => (x ++ ba h) :: r.map ba
theorem ba_append (x : ByteArray) (b : UInt8) (h : List UInt8) : (x ++ ba [b]) ++ ba h = x ++ ba (b :: h) := by
  apply ByteArray.ext
  apply Array.ext'
  simp [ba, ByteArray.data_append]
theorem ba_nil (x : ByteArray) : x ++ ba [] = x := by
  apply ByteArray.ext
  apply Array.ext'
  simp [ba, ByteArray.data_append]
theorem nil_ba (l : List UInt8) : (⟨#[]⟩ : ByteArray) ++ ba l = ba l := by
  apply ByteArray.ext
  apply Array.ext'
  simp [ba, ByteArray.data_append]
theorem one_at (s : ByteArray) (i : Nat) (c : UInt8) (m pre : List UInt8) (h : s.data.toList = pre ++ c :: m) (hi : i = pre.length) : s.extract i (i + 1) = ba [c] := by
  apply ByteArray.ext
  apply Array.ext'
  rw [Lib.extract_data, h, hi]
  simp [ba]
theorem grp_loop (s : ByteArray) (hs : s.size ≤ 1048576) (d : Nat) (m : List UInt8) : ∀ (pre : List UInt8) (out : List ByteArray) (last : ByteArray), s.data.toList = pre ++ m → out.length + last.size ≤ pre.length →
    spec_l03Group.l0 (d + 1 + m.length) s 47 (out ++ [last]) pre.length = some (out ++ glue last (grp m)) := by
  induction m with
  | nil =>
    intro pre out last h hl
    have hsz : s.data.toList.length = s.size := rfl
    have hp : pre.length = s.size := by rw [← hsz, h]; simp
    show spec_l03Group.l0 (d + 1) s 47 (out ++ [last]) pre.length = _
    rw [spec_l03Group.l0, if_neg (by omega)]
    simp [glue, grp, ba_nil]
  | cons c m ihm =>
    intro pre out last h hl
    have hsz : s.data.toList.length = s.size := rfl
    have hp : pre.length + 1 + m.length = s.size := by rw [← hsz, h]; simp; omega
    have hb := bt_of s pre.length c m pre h rfl
    have hn : s.data.toList = (pre ++ [c]) ++ m := by rw [h]; simp
    have e2 : wrap64 ((pre.length : Int) + 1) = ((pre ++ [c]).length : Int) := by rw [wr (by omega)]; simp
    have e2' : wrap64 ((pre.length : Int) + 1) = ((pre.length + 1 : Nat) : Int) := by rw [wr (by omega)]; omega
    have e4 : wrap64 (((out ++ [last]).length : Int) - 1) = out.length := by rw [wr (by simp; omega)]; simp
    have hlen : (out ++ [last]).length = out.length + 1 := by simp
    have hget : rdOf ByteArray.empty (out ++ [last]) (out.length : Int) = last := by simp [rdOf]
    have hset : ∀ z, (out ++ [last]).set (out.length : Int).toNat z = out ++ [z] := by intro z; simp
    show spec_l03Group.l0 (d + 1 + m.length + 1) s 47 (out ++ [last]) pre.length = _
    rw [spec_l03Group.l0, if_pos (by omega), if_pos (by omega), hb]
    unfold grp
    by_cases hc : c = 47
    · subst hc
      rw [if_pos (by decide), if_pos (by omega), e2, ihm (pre ++ [47]) (out ++ [last]) ⟨#[]⟩ hn (by simp [ByteArray.size]; omega), if_pos rfl]
      obtain ⟨g, r, e⟩ := grp_cons m
      rw [e]
      simp [glue, ba_nil, nil_ba]
    · have hc' : ¬ (c.toNat : Int) = 47 := by
        intro e
        apply hc
        apply UInt8.toNat_inj.1
        have : (47 : UInt8).toNat = 47 := rfl
        omega
      rw [if_neg hc', if_neg hc, e4, if_pos (by omega), if_pos (by omega), hget, hset, e2', if_pos (by omega), if_pos (by omega)]
      have ex : s.extract (pre.length : Int).toNat ((pre.length + 1 : Nat) : Int).toNat = ba [c] := one_at s pre.length c m pre h rfl
      have hsz1 : (ba [c]).size = 1 := rfl
      rw [ex, if_pos (by omega), ← e2', e2, ihm (pre ++ [c]) out (last ++ ba [c]) hn (by rw [ByteArray.size_append]; simp; omega)]
      obtain ⟨g, r, e⟩ := grp_cons m
      rw [e]
      simp [glue, ba_append]
theorem group_eq (s : ByteArray) (hs : s.size ≤ 1048576) (d : Nat) : spec_l03Group.f (d + 1 + s.size) s 47 = some ((grp s.data.toList).map ba) := by
  have h := grp_loop s hs d s.data.toList [] [] ⟨#[]⟩ rfl (by simp [ByteArray.size])
  unfold spec_l03Group.f
  refine h.trans ?_
  obtain ⟨g, r, e⟩ := grp_cons s.data.toList
  rw [e]
  simp [glue, nil_ba]
/-! ### the law -/
theorem nr_size (p : ByteArray) (h : (nr p).2 = true) : p.size ≤ 12 := by
  unfold nr at h
  split at h
  · rename_i hx; exact hx.2.1
  · cases h
def res (P : List ByteArray) : Int × Int × Int × Bool := match P with
  | [a, b, c] => if (nr a).2 = true ∧ (nr b).2 = true ∧ (nr c).2 = true then ((nr a).1, (nr b).1, (nr c).1, true) else (0, 0, 0, false)
  | _ => (0, 0, 0, false)
theorem impl_eq (s : ByteArray) (hs : s.size ≤ 1048576) : impl_VecRead.f s = some (res ((grp s.data.toList).map ba)) := by
  have hsum := grp_sum s.data.toList
  have hsz : s.data.toList.length = s.size := rfl
  unfold impl_VecRead.f strings_Split.f
  rw [if_pos ⟨hs, by decide⟩, split_grp]
  simp only [Option.bind_some, List.length_map]
  match hg : grp s.data.toList with
  | [a, b, c] =>
    rw [hg] at hsum
    simp only [List.map_cons, List.map_nil, List.sum_cons, List.sum_nil, List.length_cons, List.length_nil] at hsum
    have z : ∀ l : List UInt8, (ba l).size = l.length := fun l => by simp [ba, ByteArray.size]
    have n : ∀ l : List UInt8, l.length ≤ 1048576 → impl_NumRead.f (ba l) = some (nr (ba l)) := fun l hl => by
      unfold impl_NumRead.f; rw [if_pos (by rw [z]; exact hl), numRead_eq]
    have e0 : rdOf ByteArray.empty [ba a, ba b, ba c] 0 = ba a := rfl
    have e1 : rdOf ByteArray.empty [ba a, ba b, ba c] 1 = ba b := rfl
    have e2 : rdOf ByteArray.empty [ba a, ba b, ba c] 2 = ba c := rfl
    simp only [List.map_cons, List.map_nil, List.length_cons, List.length_nil, e0, e1, e2, n a (by omega), n b (by omega), n c (by omega), Option.bind_some, res]
    cases (nr (ba a)).2 <;> cases (nr (ba b)).2 <;> cases (nr (ba c)).2 <;> simp
  | [] => obtain ⟨h, r, e⟩ := grp_cons s.data.toList; rw [hg] at e; cases e
  | [a] => simp [res]
  | [a, b] => simp [res]
  | a :: b :: c :: d :: r =>
    rw [if_neg (by simp only [List.length_cons]; omega)]
    simp [res]
theorem spec_eq (s : ByteArray) (hs : s.size ≤ 1048576) : ∃ k, spec_VecRead.f k s = some (res ((grp s.data.toList).map ba)) := by
  have hsum := grp_sum s.data.toList
  have hsz : s.data.toList.length = s.size := rfl
  by_cases h40 : (s.size : Int) > 40
  · refine ⟨0, ?_⟩
    unfold spec_VecRead.f
    rw [if_pos h40]
    congr 1
    match hg : grp s.data.toList with
    | [a, b, c] =>
      rw [hg] at hsum
      simp only [List.map_cons, List.map_nil, List.sum_cons, List.sum_nil, List.length_cons, List.length_nil] at hsum
      have z : ∀ l : List UInt8, (ba l).size = l.length := fun l => by simp [ba, ByteArray.size]
      simp only [List.map_cons, List.map_nil, res]
      rw [if_neg]
      rintro ⟨h1, h2, h3⟩
      have := nr_size _ h1; have := nr_size _ h2; have := nr_size _ h3
      simp only [z] at *
      omega
    | [] => rfl
    | [a] => rfl
    | [a, b] => rfl
    | a :: b :: c :: d :: r => rfl
  · refine ⟨(50 + 1) + s.size, ?_⟩
    unfold spec_VecRead.f
    rw [if_neg h40, group_eq s hs 50]
    simp only [Option.bind_some, List.length_map]
    match hg : grp s.data.toList with
    | [a, b, c] =>
      have e0 : rdOf ByteArray.empty [ba a, ba b, ba c] 0 = ba a := rfl
      have e1 : rdOf ByteArray.empty [ba a, ba b, ba c] 1 = ba b := rfl
      have e2 : rdOf ByteArray.empty [ba a, ba b, ba c] 2 = ba c := rfl
      have w0 : wrap64 (0 + 1) = 1 := wr (by omega)
      have w1 : wrap64 (1 + 1) = 2 := wr (by omega)
      have w2 : wrap64 (2 + 1) = 3 := wr (by omega)
      have k0 := nr_spec (ba a) (10 + s.size)
      have k1 := nr_spec (ba b) (9 + s.size)
      have k2 := nr_spec (ba c) (8 + s.size)
      rw [show 40 + (10 + s.size) = 50 + s.size by omega] at k0
      rw [show 40 + (9 + s.size) = 49 + s.size by omega] at k1
      rw [show 40 + (8 + s.size) = 48 + s.size by omega] at k2
      have q0 : 50 + 1 + s.size = (50 + s.size) + 1 := by omega
      have q1 : 50 + s.size = (49 + s.size) + 1 := by omega
      have q2 : 49 + s.size = (48 + s.size) + 1 := by omega
      have q3 : 48 + s.size = (47 + s.size) + 1 := by omega
      simp only [List.map_cons, List.map_nil, List.length_cons, List.length_nil]
      rw [if_pos (by decide), q0, spec_VecRead.l0, if_pos (by decide), if_pos (by decide), if_pos (by simp), e0, k0]
      simp only [Option.bind_some, res]
      by_cases h1 : (nr (ba a)).2 = true
      · rw [if_pos h1, if_pos (by simp), w0, q1, spec_VecRead.l0, if_pos (by decide), if_pos (by decide), if_pos (by simp), e1, k1]
        simp only [Option.bind_some]
        by_cases h2 : (nr (ba b)).2 = true
        · rw [if_pos h2, if_pos (by simp), w1, q2, spec_VecRead.l0, if_pos (by decide), if_pos (by decide), if_pos (by simp), e2, k2]
          simp only [Option.bind_some]
          by_cases h3 : (nr (ba c)).2 = true
          · rw [if_pos h3, if_pos (by simp), w2, q3, spec_VecRead.l0, if_neg (by decide), if_pos ⟨h1, h2, h3⟩]
            simp [spec_l13Of.f, rd]
          · rw [if_neg h3, if_neg (fun h => h3 h.2.2)]
        · rw [if_neg h2, if_neg (fun h => h2 h.2.1)]
      · rw [if_neg h1, if_neg (fun h => h1 h.1)]
    | [] => simp [res]
    | [a] => simp [res]
    | [a, b] => simp [res]
    | a :: b :: c :: d :: r =>
      rw [if_neg (by simp only [List.length_cons]; omega)]
      simp [res]
theorem pure (s : ByteArray) : ∃ k, laws_FnExactVecRead.f k s = some true := by
  by_cases h : (s.size : Int) > 1048576
  · refine ⟨0, ?_⟩
    unfold laws_FnExactVecRead.f
    rw [if_pos h]
  · obtain ⟨k, hk⟩ := spec_eq s (by omega)
    refine ⟨k, ?_⟩
    unfold laws_FnExactVecRead.f
    rw [if_neg h, hk, impl_eq s (by omega)]
    simp [laws_eqVec.f]
end Go.Proofs.YtiokbmbdhejciaaDoor.UFnExactVecRead
