/- The plain law behind the row FnExactRuleRead: what the reference reads out of a text is what the program reads. -/
import Derived.Test.YtbihbbkdciebhaaGreatDoorUA
import Derived.Lib.SplitLaws
import Derived.Lib.SmallJoins
import Derived.Lib.AtoiAllCases
namespace Go.Proofs.YtbihbbkdciebhaaGreatDoor.UFnExactRuleRead
open Go.RowKit Go.Proofs.YtbihbbkdciebhaaGreatDoorW.PrintWords Go.Proofs.YtbihbbkdciebhaaGreatDoor.PRr Go.Proofs.YtbihbbkdciebhaaGreatDoor.T Go.Proofs.YtbihbbkdciebhaaGreatDoor Go.Proofs.YtbihbbkdciebhaaGreatDoor.UA
set_option linter.unusedVariables false
set_option linter.unusedSimpArgs false
/-! ### numbers read -/
def Dig (c : UInt8) : Prop := 48 ≤ c.toNat ∧ c.toNat ≤ 57
instance (c : UInt8) : Decidable (Dig c) := by unfold Dig; infer_instance
def val : Nat → List UInt8 → Nat
  | acc, [] => acc
  | acc, c :: r => val (acc * 10 + (c.toNat - 48)) r
theorem val_lt (l : List UInt8) : ∀ (acc m : Nat), (∀ c ∈ l, Dig c) → acc < 10 ^ m → val acc l < 10 ^ (m + l.length) := by
  induction l with
  | nil => intro acc m _ h; exact h
  | cons c r ih =>
    intro acc m hd h
    have hc := hd c (.head _)
    unfold Dig at hc
    have := ih (acc * 10 + (c.toNat - 48)) (m + 1) (fun x hx => hd x (.tail _ hx)) (by rw [Nat.pow_succ]; omega)
    rw [show m + 1 + r.length = m + (c :: r).length by simp; omega] at this
    exact this
theorem parse : ∀ (l : List UInt8) (acc m : Nat), (∀ c ∈ l, Dig c) → acc < 10 ^ m → m + l.length ≤ 12 → Lib.parseUint10 acc l = .ok (val acc l)
  | [], acc, m, _, h, _ => rfl
  | c :: r, acc, m, hd, h, hm => by
    have hc := hd c (.head _)
    have hp : 10 ^ m ≤ 1000000000000 := Nat.le_trans (Nat.pow_le_pow_right (by decide) (show _ ≤ 12 from (by simp at hm; omega))) (Nat.le_of_eq rfl)
    have ih := parse r (acc * 10 + (c.toNat - 48)) (m + 1) (fun x hx => hd x (.tail _ hx)) (by unfold Dig at hc; rw [Nat.pow_succ]; omega) (by simp at hm; omega)
    unfold Lib.parseUint10
    unfold Dig at hc
    rw [if_pos hc, if_neg (by omega), if_neg (by omega), ih]
    rfl
theorem atoi_digits (l : List UInt8) (hd : ∀ c ∈ l, Dig c) (h0 : l ≠ []) (h1 : l.length ≤ 12) : Lib.atoiAll l = .ok (val 0 l) := by
  cases l with
  | nil => exact absurd rfl h0
  | cons c r =>
    have hc := hd c (.head _)
    unfold Dig at hc
    have hv := val_lt (c :: r) 0 0 hd (by decide)
    have hp : 10 ^ (0 + (c :: r).length) ≤ 1000000000000 := Nat.le_trans (Nat.pow_le_pow_right (by decide) (show _ ≤ 12 from (by simp at h1 ⊢; omega))) (Nat.le_of_eq rfl)
    have e : Lib.parseMag (c :: r) = .ok (val 0 (c :: r)) := by
      unfold Lib.parseMag
      rw [if_neg (by simp), parse (c :: r) 0 0 hd (by decide) (by simpa using h1)]
    unfold Lib.atoiAll
    simp only
    rw [if_neg (by omega), e]
    simp only
    rw [if_neg (by omega), if_neg (by omega), if_neg (by omega)]
theorem dec_digits (u : Nat) : ∀ c ∈ Lib.decDigits u, Dig c := by
  induction u using Nat.strongRecOn with
  | _ u ih =>
    intro c hc
    by_cases h : u < 10
    · rw [Lib.decDigits_one h] at hc
      simp only [List.mem_singleton] at hc
      subst hc
      have := digit u h
      unfold Dig
      omega
    · rw [Lib.decDigits, dif_neg h, List.mem_append] at hc
      rcases hc with hc | hc
      · exact ih (u / 10) (by omega) c hc
      · simp only [List.mem_singleton] at hc
        subst hc
        have := digit (u % 10) (by omega)
        unfold Dig
        omega
theorem toList_data (s : ByteArray) : s.toList = s.data.toList := ByteArray.toList_eq s
/-- What the reference reads, told of the bytes. -/
def nr (p : ByteArray) : Int × Bool :=
  if 1 ≤ p.size ∧ p.size ≤ 12 ∧ (∀ c ∈ p.data.toList, Dig c) ∧ (⟨(Lib.itoa (val 0 p.data.toList)).toArray⟩ : ByteArray).toList = p.toList then ((val 0 p.data.toList : Nat), true) else (0, false)
theorem numRead_eq (p : ByteArray) : La.numRead p = nr p := by
  have hsz : p.data.toList.length = p.size := rfl
  by_cases h12 : p.size ≤ 12
  · by_cases hd : ∀ c ∈ p.data.toList, Dig c
    · by_cases h0 : p.data.toList = []
      · have : ¬ 1 ≤ p.size := by rw [← hsz, h0]; simp
        unfold La.numRead nr
        rw [if_neg (fun h => this h.1), h0]
        rfl
      · have h1 : 1 ≤ p.size := by
          rw [← hsz]; cases hl : p.data.toList with
          | nil => exact absurd hl h0
          | cons _ _ => simp
        unfold La.numRead nr
        rw [atoi_digits _ hd h0 (by omega)]
        simp only
        rw [if_neg (by omega), if_neg (by omega)]
        by_cases he : (⟨(Lib.itoa (val 0 p.data.toList)).toArray⟩ : ByteArray).toList = p.toList
        · rw [if_pos he, if_pos ⟨h1, h12, hd, he⟩]
        · rw [if_neg he, if_neg (fun h => he h.2.2.2)]
    · unfold nr
      rw [if_neg (fun h => hd h.2.2.1)]
      unfold La.numRead
      cases hA : Lib.atoiAll p.data.toList with
      | ok v =>
        simp only
        by_cases hv : v < 0
        · rw [if_pos hv]
        · rw [if_neg hv, if_neg (by omega)]
          rw [if_neg]
          intro he
          apply hd
          rw [toList_data, toList_data] at he
          rw [← he]
          simp only [Lib.itoa, hv, if_false]
          exact dec_digits _
      | range => rfl
      | _ => rfl
  · unfold nr
    rw [if_neg (fun h => h12 h.2.1)]
    unfold La.numRead
    cases hA : Lib.atoiAll p.data.toList with
    | ok v =>
      simp only
      by_cases hv : v < 0
      · rw [if_pos hv]
      · rw [if_neg hv, if_pos (by omega)]
    | range => rfl
    | _ => rfl
theorem bt_of (p : ByteArray) (i : Nat) (c : UInt8) (m : List UInt8) (pre : List UInt8) (h : p.data.toList = pre ++ c :: m) (hi : i = pre.length) : bt p i = (c.toNat : Int) := by
  have hs : i < p.size := by
    have : p.data.toList.length = p.size := rfl
    rw [h] at this; simp at this; omega
  rw [← bt_at p i (by simpa using hs)]
  have : p.data.toList[i]? = some c := by rw [h, hi]; simp
  have h2 : p.data[i]? = some c := by simpa using this
  obtain ⟨h3, h4⟩ := Array.getElem?_eq_some_iff.1 h2
  show ((p.data[(i : Int).toNat]'_).toNat : Int) = _
  simp only [Int.toNat_natCast, h4]
theorem ifc {α : Type} {p q : Prop} [Decidable p] [Decidable q] {a b : α} (h : p ↔ q) : (if p then a else b) = if q then a else b := by
  by_cases hp : p
  · rw [if_pos hp, if_pos (h.1 hp)]
  · rw [if_neg hp, if_neg (fun hq => hp (h.2 hq))]
theorem nr_end (p : ByteArray) (hp : p.size ≤ 12) (d : Nat) (pre : List UInt8) (n : Nat) (h : p.data.toList = pre ++ []) (hn : n < 10 ^ pre.length) :
    spec_NumRead.l0 (21 + d + 1) p n pre.length = if (∀ c ∈ ([] : List UInt8), Dig c) ∧ (⟨(Lib.itoa (n : Int)).toArray⟩ : ByteArray).toList = p.toList then some ((n : Int), true) else some (0, false) := by
  have hsz : p.data.toList.length = p.size := rfl
  have hl : pre.length = p.size := by rw [← hsz, h]; simp
  have h10 : 10 ^ pre.length ≤ 1000000000000 := Nat.le_trans (Nat.pow_le_pow_right (by decide) (show _ ≤ 12 from (by omega))) (Nat.le_of_eq rfl)
  have hI : I64 (n : Int) := by
    generalize 10 ^ pre.length = q at hn h10
    exact ⟨by omega, by omega⟩
  have e : spec_NumText.f (21 + d) n = some ⟨(Lib.itoa (n : Int)).toArray⟩ := specNum hI (K := 21 + d) (by omega)
  rw [spec_NumRead.l0, if_neg (by omega), e]
  generalize (⟨(Lib.itoa (n : Int)).toArray⟩ : ByteArray) = z
  simp only [Option.bind_some]
  by_cases he : z.toList = p.toList
  · rw [if_pos he, if_pos ⟨by simp, he⟩]
  · rw [if_neg he, if_neg (fun h => he h.2)]
set_option maxHeartbeats 4000000 in
theorem nr_loop (p : ByteArray) (hp : p.size ≤ 12) (d : Nat) (m : List UInt8) : ∀ (pre : List UInt8) (n : Nat), p.data.toList = pre ++ m → n < 10 ^ pre.length →
    spec_NumRead.l0 (21 + d + 1 + m.length) p n pre.length = if (∀ c ∈ m, Dig c) ∧ (⟨(Lib.itoa (val n m)).toArray⟩ : ByteArray).toList = p.toList then some ((val n m : Int), true) else some (0, false) := by
  induction m with
  | nil =>
    intro pre n h hn
    exact nr_end p hp d pre n h hn
  | cons c m ihm =>
    intro pre n h hn
    have hsz : p.data.toList.length = p.size := rfl
    have hl : pre.length + 1 + m.length = p.size := by rw [← hsz, h]; simp; omega
    have h10 : 10 ^ pre.length ≤ 100000000000 := Nat.le_trans (Nat.pow_le_pow_right (by decide) (show _ ≤ 11 from (by omega))) (Nat.le_of_eq rfl)
    have hb := bt_of p pre.length c m pre h rfl
    have hn2 : n < 100000000000 := Nat.lt_of_lt_of_le hn h10
    have hn3 : ∀ x, x < 10 → n * 10 + x < 10 ^ (pre ++ [c]).length := by
      intro x hx
      rw [List.length_append, List.length_singleton, Nat.pow_succ]
      generalize 10 ^ pre.length = q at hn
      omega
    clear h10 hn
    show spec_NumRead.l0 (21 + d + 1 + m.length + 1) p n pre.length = _
    rw [spec_NumRead.l0]
    rw [if_pos (by omega), if_pos (by omega), hb]
    by_cases h1 : (c.toNat : Int) < 48
    · rw [if_pos h1, if_neg]
      intro hx
      have := hx.1 c (.head _)
      unfold Dig at this
      omega
    · rw [if_neg h1]
      by_cases h2 : (c.toNat : Int) > 57
      · rw [if_pos h2, if_neg]
        intro hx
        have := hx.1 c (.head _)
        unfold Dig at this
        omega
      · rw [if_neg h2]
        have hc : Dig c := by unfold Dig; omega
        have e1 : wrap64 (wrap64 (10 * (n : Int)) + (((c.toNat : Int) - 48) % 256)) = ((n * 10 + (c.toNat - 48) : Nat) : Int) := by
          rw [wr (x := 10 * (n : Int)) (by omega), wr (by omega)]; omega
        have e2 : wrap64 ((pre.length : Int) + 1) = ((pre ++ [c]).length : Int) := by rw [wr (by omega)]; simp
        rw [e1, e2, ihm (pre ++ [c]) (n * 10 + (c.toNat - 48)) (by rw [h]; simp) (hn3 _ (by unfold Dig at hc; omega))]
        have e3 : (∀ x ∈ c :: m, Dig x) ↔ ∀ x ∈ m, Dig x := ⟨fun h x hx => h x (.tail _ hx), fun h x hx => by
          rcases List.mem_cons.1 hx with rfl | hx
          · exact hc
          · exact h x hx⟩
        exact ifc (and_congr e3.symm Iff.rfl)
theorem nr_spec (p : ByteArray) (d : Nat) : spec_NumRead.f (40 + d) p = some (nr p) := by
  have hsz : p.data.toList.length = p.size := rfl
  unfold spec_NumRead.f
  by_cases h1 : (p.size : Int) < 1
  · rw [if_pos h1]
    rw [show 40 + d = (39 + d) + 1 by omega]
    unfold nr
    rw [spec_NumRead.j0, if_pos rfl, if_neg (by omega)]
  · rw [if_neg h1]
    rw [show 40 + d = (39 + d) + 1 by omega]
    rw [spec_NumRead.j0]
    by_cases h2 : (p.size : Int) > 12
    · rw [decide_eq_true h2, if_pos rfl]
      unfold nr
      rw [if_neg (by omega)]
    · rw [decide_eq_false h2, if_neg (by decide)]
      have := nr_loop p (by omega) (17 + d - p.size) p.data.toList [] 0 rfl (by decide)
      rw [hsz, show 21 + (17 + d - p.size) + 1 + p.size = 39 + d by omega] at this
      refine this.trans ?_
      unfold nr
      by_cases hx : (∀ c ∈ p.data.toList, Dig c) ∧ (⟨(Lib.itoa (val 0 p.data.toList)).toArray⟩ : ByteArray).toList = p.toList
      · rw [if_pos hx, if_pos ⟨by omega, by omega, hx.1, hx.2⟩]
      · rw [if_neg hx, if_neg (fun h => hx h.2.2)]
theorem nr_specK (p : ByteArray) {K : Nat} (hK : 40 ≤ K) : spec_NumRead.f K p = some (nr p) := by
  obtain ⟨d, rfl⟩ : ∃ j, K = 40 + j := ⟨K - 40, by omega⟩
  exact nr_spec p d
theorem implNR (p : ByteArray) (h : p.size ≤ 1048576) : impl_NumRead.f p = some (nr p) := by
  unfold impl_NumRead.f
  rw [if_pos h, numRead_eq]
theorem val_app (a b : List UInt8) : ∀ acc, val acc (a ++ b) = val (val acc a) b := by
  induction a with
  | nil => intro acc; rfl
  | cons c a ih => intro acc; exact ih _
theorem val_one {u : Nat} (h : u < 10) (acc : Nat) : val acc [UInt8.ofNat (48 + u)] = acc * 10 + u := by
  have := digit u h
  show acc * 10 + ((UInt8.ofNat (48 + u)).toNat - 48) = _
  omega
theorem val_dec (u : Nat) : val 0 (Lib.decDigits u) = u := by
  induction u using Nat.strongRecOn with
  | _ u ih =>
    by_cases h : u < 10
    · rw [Lib.decDigits_one h, val_one h]
      omega
    · rw [Lib.decDigits, dif_neg h, val_app, ih (u / 10) (by omega), val_one (by omega)]
      omega
theorem dec_len (m : Nat) : ∀ u : Nat, u < 10 ^ (m + 1) → (Lib.decDigits u).length ≤ m + 1 := by
  induction m with
  | zero =>
    intro u hu
    rw [Lib.decDigits_one (by simpa using hu)]
    simp
  | succ m ih =>
    intro u hu
    by_cases h : u < 10
    · rw [Lib.decDigits_one h]
      simp
    · rw [Lib.decDigits, dif_neg h, List.length_append]
      have := ih (u / 10) (by rw [Nat.pow_succ] at hu; omega)
      simp
      omega
theorem dec_ne (u : Nat) : Lib.decDigits u ≠ [] := by
  by_cases h : u < 10
  · rw [Lib.decDigits_one h]
    simp
  · rw [Lib.decDigits, dif_neg h]
    simp
theorem itoa_pos {a : Int} (h : 0 ≤ a) : Lib.itoa a = Lib.decDigits a.toNat := by
  simp only [Lib.itoa]
  rw [if_neg (by omega)]
theorem itoa_ne {a : Int} (h : 0 ≤ a) : Lib.itoa a ≠ [] := by rw [itoa_pos h]; exact dec_ne _
theorem itoa_dig {a : Int} (h : 0 ≤ a) : ∀ c ∈ Lib.itoa a, Dig c := by rw [itoa_pos h]; exact dec_digits _
theorem itoa_lt {a : Int} (m : Nat) (h0 : 0 ≤ a) (h : a.toNat < 10 ^ (m + 1)) : (Lib.itoa a).length ≤ m + 1 := by rw [itoa_pos h0]; exact dec_len m _ h
theorem nr_itoa {a : Int} (h0 : 0 ≤ a) (h : a < 100000) : nr (ba (Lib.itoa a)) = (a, true) := by
  have hl : (Lib.itoa a).length ≤ 5 := itoa_lt 4 h0 (by omega)
  have hn := List.length_pos_iff.2 (itoa_ne h0)
  have hv : ((val 0 (Lib.itoa a) : Nat) : Int) = a := by rw [itoa_pos h0, val_dec]; omega
  have hd := itoa_dig h0
  generalize he : Lib.itoa a = l at hl hn hv hd
  unfold nr
  rw [if_pos ⟨by rw [ba_size]; omega, by rw [ba_size]; omega, by rw [ba_data]; exact hd, by rw [ba_data, hv, he]; rfl⟩, ba_data, hv]
/-! ### the pieces -/
/-- What stands between the letters x. -/
def gr (x : UInt8) : List UInt8 → List (List UInt8)
  | [] => [[]]
  | b :: t => if b = x then [] :: gr x t else match gr x t with
    | h :: r => (b :: h) :: r
    | [] => [[b]]
theorem gr_cons (x : UInt8) (l : List UInt8) : ∃ h r, gr x l = h :: r := by
  cases l with
  | nil => exact ⟨_, _, rfl⟩
  | cons b t =>
    unfold gr
    split
    · exact ⟨_, _, rfl⟩
    · split <;> exact ⟨_, _, rfl⟩
theorem gr_sum (x : UInt8) : ∀ l : List UInt8, ((gr x l).map List.length).sum + (gr x l).length = l.length + 1
  | [] => rfl
  | b :: t => by
    have ih := gr_sum x t
    unfold gr
    split
    · simp only [List.map_cons, List.sum_cons, List.length_cons, List.length_nil] at ih ⊢; omega
    · obtain ⟨h, r, e⟩ := gr_cons x t
      rw [e] at ih ⊢
      simp only [List.map_cons, List.sum_cons, List.length_cons] at ih ⊢; omega
theorem splitK_gr (x : UInt8) : ∀ l : List UInt8, Lib.splitK [x] 0 (Lib.count l [x]) l = gr x l
  | [] => by rw [Lib.count_one]; rfl
  | b :: t => by
    have ih := splitK_gr x t
    rw [Lib.count_one] at ih ⊢
    by_cases hb : b = x
    · subst hb
      have hix : Lib.index (b :: t) [b] = 0 := by rw [Lib.index]; simp [List.isPrefixOf]
      rw [List.count_cons_self, Lib.splitK, hix, if_neg (by decide)]
      unfold gr
      rw [if_pos rfl, ← ih]
      simp
    · rw [List.count_cons_of_ne (by simpa using hb)]
      have hp : ([x] : List UInt8).isPrefixOf (b :: t) = false := by simp [List.isPrefixOf, Ne.symm hb]
      have hix : Lib.index (b :: t) [x] = if Lib.index t [x] == -1 then -1 else Lib.index t [x] + 1 := by rw [Lib.index, hp]; simp
      unfold gr
      rw [if_neg hb, ← ih]
      cases hk : t.count x with
      | zero => rfl
      | succ k =>
        have hm : ¬ Lib.index t [x] = -1 := by
          intro e
          have := Lib.count_miss e
          rw [Lib.count_one] at this
          omega
        have hge := Lib.index_ge t [x]
        obtain ⟨j, hj⟩ : ∃ j : Nat, Lib.index t [x] = j := ⟨(Lib.index t [x]).toNat, by omega⟩
        have hix' : Lib.index (b :: t) [x] = ((j + 1 : Nat) : Int) := by rw [hix, if_neg (fun e => hm (beq_iff_eq.1 e)), hj]; omega
        rw [Lib.splitK, Lib.splitK, hix', hj, if_neg (fun e => by have := beq_iff_eq.1 e; omega), if_neg (fun e => by have := beq_iff_eq.1 e; omega)]
        simp
theorem data_ba (s : ByteArray) : ba s.data.toList = s := rfl
theorem map_ba (l : List ByteArray) : (l.map (·.data.toList)).map ba = l := by
  rw [List.map_map]
  conv => rhs; rw [← List.map_id l]
  rfl
theorem split_gr (x : UInt8) (s : ByteArray) : Lib.splitB ⟨#[x]⟩ 0 (Lib.countB s ⟨#[x]⟩) s = (gr x s.data.toList).map ba := by
  rw [← map_ba (Lib.splitB _ _ _ _), Lib.splitB_data]
  congr 1
  exact splitK_gr x s.data.toList
/-- What stands before is laid before the first piece. -/
def glue (x : ByteArray) : List (List UInt8) → List ByteArray
  | [] => []
  | h :: r => (x ++ ba h) :: r.map ba
theorem ba_append (x : ByteArray) (b : UInt8) (h : List UInt8) : (x ++ ba [b]) ++ ba h = x ++ ba (b :: h) := by
  apply ByteArray.ext
  apply Array.ext'
  simp [ba, ByteArray.data_append]
theorem ba_nil (x : ByteArray) : x ++ ba [] = x := by
  apply ByteArray.ext
  apply Array.ext'
  simp [ba, ByteArray.data_append]
theorem nil_ba (l : List UInt8) : (⟨#[]⟩ : ByteArray) ++ ba l = ba l := by
  apply ByteArray.ext
  apply Array.ext'
  simp [ba, ByteArray.data_append]
theorem one_at (s : ByteArray) (i : Nat) (c : UInt8) (m pre : List UInt8) (h : s.data.toList = pre ++ c :: m) (hi : i = pre.length) : s.extract i (i + 1) = ba [c] := by
  apply ByteArray.ext
  apply Array.ext'
  rw [Lib.extract_data, h, hi]
  simp [ba]
theorem gr_loop (x : UInt8) (s : ByteArray) (hs : s.size ≤ 1048576) (d : Nat) (m : List UInt8) : ∀ (pre : List UInt8) (out : List ByteArray) (last : ByteArray), s.data.toList = pre ++ m → out.length + last.size ≤ pre.length →
    spec_l03Group.l0 (d + 1 + m.length) s (x.toNat : Int) (out ++ [last]) pre.length = some (out ++ glue last (gr x m)) := by
  induction m with
  | nil =>
    intro pre out last h hl
    have hsz : s.data.toList.length = s.size := rfl
    have hp : pre.length = s.size := by rw [← hsz, h]; simp
    show spec_l03Group.l0 (d + 1) s _ (out ++ [last]) pre.length = _
    rw [spec_l03Group.l0, if_neg (by omega)]
    simp [glue, gr, ba_nil]
  | cons c m ihm =>
    intro pre out last h hl
    have hsz : s.data.toList.length = s.size := rfl
    have hp : pre.length + 1 + m.length = s.size := by rw [← hsz, h]; simp; omega
    have hb := bt_of s pre.length c m pre h rfl
    have hn : s.data.toList = (pre ++ [c]) ++ m := by rw [h]; simp
    have e2 : wrap64 ((pre.length : Int) + 1) = ((pre ++ [c]).length : Int) := by rw [wr (by omega)]; simp
    have e2' : wrap64 ((pre.length : Int) + 1) = ((pre.length + 1 : Nat) : Int) := by rw [wr (by omega)]; omega
    have e4 : wrap64 (((out ++ [last]).length : Int) - 1) = out.length := by rw [wr (by simp; omega)]; simp
    have hlen : (out ++ [last]).length = out.length + 1 := by simp
    have hget : rdOf ByteArray.empty (out ++ [last]) (out.length : Int) = last := by simp [rdOf]
    have hset : ∀ z, (out ++ [last]).set (out.length : Int).toNat z = out ++ [z] := by intro z; simp
    show spec_l03Group.l0 (d + 1 + m.length + 1) s _ (out ++ [last]) pre.length = _
    rw [spec_l03Group.l0, if_pos (by omega), if_pos (by omega), hb]
    unfold gr
    by_cases hc : c = x
    · subst hc
      rw [if_pos rfl, if_pos (by omega), e2, ihm (pre ++ [c]) (out ++ [last]) ⟨#[]⟩ hn (by simp [ByteArray.size]; omega), if_pos rfl]
      obtain ⟨g, r, e⟩ := gr_cons c m
      rw [e]
      simp [glue, ba_nil, nil_ba]
    · have hc' : ¬ (c.toNat : Int) = (x.toNat : Int) := by
        intro e
        apply hc
        apply UInt8.toNat_inj.1
        omega
      rw [if_neg hc', if_neg hc, e4, if_pos (by omega), if_pos (by omega), hget, hset, e2', if_pos (by omega), if_pos (by omega)]
      have ex : s.extract (pre.length : Int).toNat ((pre.length + 1 : Nat) : Int).toNat = ba [c] := one_at s pre.length c m pre h rfl
      have hsz1 : (ba [c]).size = 1 := rfl
      rw [ex, if_pos (by omega), ← e2', e2, ihm (pre ++ [c]) out (last ++ ba [c]) hn (by rw [ByteArray.size_append]; simp; omega)]
      obtain ⟨g, r, e⟩ := gr_cons x m
      rw [e]
      simp [glue, ba_append]
theorem group_eq (x : UInt8) (v : Int) (hv : v = (x.toNat : Int)) (s : ByteArray) (hs : s.size ≤ 1048576) {K : Nat} (hK : 1 + s.size ≤ K) : spec_l03Group.f K s v = some ((gr x s.data.toList).map ba) := by
  subst hv
  obtain ⟨d, rfl⟩ : ∃ j, K = j + 1 + s.size := ⟨K - 1 - s.size, by omega⟩
  have h := gr_loop x s hs d s.data.toList [] [] ⟨#[]⟩ rfl (by simp [ByteArray.size])
  unfold spec_l03Group.f
  refine h.trans ?_
  obtain ⟨g, r, e⟩ := gr_cons x s.data.toList
  rw [e]
  simp [glue, nil_ba]
theorem split_eq (x : UInt8) (v : ByteArray) (hv : v = ba [x]) (s : ByteArray) (hs : s.size ≤ 1048576) : strings_Split.f s v = some ((gr x s.data.toList).map ba) := by
  subst hv
  unfold strings_Split.f
  rw [if_pos ⟨hs, by rw [ba_size]; simp⟩]
  exact congrArg some (split_gr x s)
/-- A word without the letter x. -/
def No (x : UInt8) (l : List UInt8) : Prop := x ∉ l
theorem gr_no (x : UInt8) : ∀ l : List UInt8, No x l → gr x l = [l]
  | [], _ => rfl
  | b :: t, h => by
    unfold No at h
    unfold gr
    rw [if_neg (fun e => h (by simp [e])), gr_no x t (fun e => h (by simp [e]))]
theorem gr_app (x : UInt8) (t : List UInt8) : ∀ l : List UInt8, No x l → gr x (l ++ x :: t) = l :: gr x t
  | [], _ => by
    show gr x (x :: t) = _
    rw [gr, if_pos rfl]
  | b :: l, h => by
    unfold No at h
    show gr x (b :: (l ++ x :: t)) = _
    rw [gr, if_neg (fun e => h (by simp [e])), gr_app x t l (fun e => h (by simp [e]))]
theorem gr_join (x : UInt8) : ∀ (r : List (List UInt8)) (h : List UInt8), (∀ t ∈ h :: r, No x t) → gr x (Lib.join (h :: r) [x]) = h :: r
  | [], h, hn => by
    rw [Lib.join_cons, tail_nil, List.append_nil]
    exact gr_no x h (hn h (by simp))
  | y :: r, h, hn => by
    have ih := gr_join x r y (fun t ht => hn t (by simp [List.mem_cons.1 ht]))
    rw [Lib.join_cons] at ih ⊢
    rw [tail_cons, List.singleton_append, gr_app x _ h (hn h (by simp)), ih]
theorem gr_len (x : UInt8) (l w : List UInt8) (h : w ∈ gr x l) : w.length ≤ l.length := by
  have hs := gr_sum x l
  have h1 : w.length ≤ ((gr x l).map List.length).sum := by
    generalize gr x l = L at h
    induction L with
    | nil => simp at h
    | cons y L ih =>
      simp only [List.map_cons, List.sum_cons]
      rcases List.mem_cons.1 h with rfl | h
      · omega
      · have := ih h; omega
  have h2 := List.length_pos_iff.2 (List.ne_nil_of_mem h)
  omega
theorem cut_app (x : UInt8) (a b : List UInt8) (h : No x a) : Lib.cut (a ++ x :: b) [x] = (a, b, true) := by
  have hi : Lib.index (a ++ x :: b) [x] = (a.length : Int) := by
    induction a with
    | nil => rw [List.nil_append, Lib.index]; simp [List.isPrefixOf]
    | cons y a ih =>
      unfold No at h
      have hp : ([x] : List UInt8).isPrefixOf (y :: (a ++ x :: b)) = false := by
        have : ¬ x = y := fun e => h (by simp [e])
        simp [List.isPrefixOf, this]
      rw [List.cons_append, Lib.index, hp, ih (fun e => h (by simp [e]))]
      simp
  unfold Lib.cut
  rw [hi, if_pos (by omega)]
  simp
theorem cut_len (s sep : List UInt8) : (Lib.cut s sep).1.length ≤ s.length ∧ (Lib.cut s sep).2.1.length ≤ s.length := by
  unfold Lib.cut
  split
  · simp; omega
  · simp
/-! ### addresses read -/
def scan (c : Int) : Nat → Nat → Int → Int
  | 0, _, x => x
  | m + 1, j, x => scan c m (j + 1) (if c = (((Fb.hd j).toNat : Nat) : Int) then (j : Int) else x)
theorem scan_bd (c : Int) : ∀ (m j : Nat) (x : Int), -1 ≤ x → x ≤ 16 → j + m ≤ 16 → -1 ≤ scan c m j x ∧ scan c m j x ≤ 16
  | 0, j, x, h0, h1, _ => ⟨h0, h1⟩
  | m + 1, j, x, h0, h1, h => by
    unfold scan
    split
    · exact scan_bd c m (j + 1) j (by omega) (by omega) (by omega)
    · exact scan_bd c m (j + 1) x h0 h1 (by omega)
def lv (b : Nat) : Int → List UInt8 → Int
  | acc, [] => acc
  | acc, c :: r => if scan (c.toNat : Int) b 0 (-1) < 0 then -1 else lv b (wrap64 (wrap64 ((b : Int) * acc) + scan (c.toNat : Int) b 0 (-1))) r
theorem l1_eq (p : ByteArray) (b : Nat) (hb : b ≤ 16) (acc : Int) (i : Nat) (c : UInt8) (hi : i < p.size) (hbt : bt p i = (c.toNat : Int)) (K : Nat) : ∀ (m j : Nat) (x : Int), j + m = b →
    spec_l03Value.l1 (K + 1 + m) p b acc i x j = if scan (c.toNat : Int) m j x < 0 then some (-1) else spec_l03Value.l0 K p b (wrap64 (wrap64 ((b : Int) * acc) + scan (c.toNat : Int) m j x)) (wrap64 ((i : Int) + 1)) := by
  intro m
  induction m with
  | zero =>
    intro j x hj
    show spec_l03Value.l1 (K + 1) p b acc i x j = _
    rw [spec_l03Value.l1, if_neg (by omega)]
    rfl
  | succ m ih =>
    intro j x hj
    show spec_l03Value.l1 (K + 1 + m + 1) p b acc i x j = _
    rw [spec_l03Value.l1, if_pos (by omega), if_pos (by omega), if_pos (by omega), digit16 (by omega), Option.bind_some, hbt, show wrap64 ((j : Int) + 1) = ((j + 1 : Nat) : Int) by rw [wr (by omega)]; omega]
    unfold scan
    by_cases h : (c.toNat : Int) = (((Fb.hd j).toNat : Nat) : Int)
    · rw [if_pos h, if_pos h, ih (j + 1) j (by omega)]
    · rw [if_neg h, if_neg h, ih (j + 1) x (by omega)]
theorem l0_eq (p : ByteArray) (hp : p.size ≤ 4) (b : Nat) (hb : b ≤ 16) (K : Nat) (m : List UInt8) : ∀ (pre : List UInt8) (acc : Int), p.data.toList = pre ++ m →
    spec_l03Value.l0 (K + 1 + m.length * (b + 2)) p b acc pre.length = some (lv b acc m) := by
  induction m with
  | nil =>
    intro pre acc h
    have hsz : p.data.toList.length = p.size := rfl
    have hl : pre.length = p.size := by rw [← hsz, h]; simp
    rw [List.length_nil, Nat.zero_mul, Nat.add_zero, spec_l03Value.l0, if_neg (by omega)]
    rfl
  | cons c m ih =>
    intro pre acc h
    have hsz : p.data.toList.length = p.size := rfl
    have hl : pre.length + 1 + m.length = p.size := by rw [← hsz, h]; simp; omega
    have hbt := bt_of p pre.length c m pre h rfl
    rw [List.length_cons, Nat.succ_mul, show K + 1 + (m.length * (b + 2) + (b + 2)) = ((K + 1 + m.length * (b + 2)) + 1 + b) + 1 by omega, spec_l03Value.l0, if_pos (by omega)]
    have := l1_eq p b hb acc pre.length c (by omega) hbt (K + 1 + m.length * (b + 2)) b 0 (-1) (by omega)
    refine this.trans ?_
    unfold lv
    by_cases hs : scan (c.toNat : Int) b 0 (-1) < 0
    · rw [if_pos hs, if_pos hs]
    · have := ih (pre ++ [c]) (wrap64 (wrap64 ((b : Int) * acc) + scan (c.toNat : Int) b 0 (-1))) (by rw [h]; simp)
      rw [if_neg hs, if_neg hs, show wrap64 ((pre.length : Int) + 1) = ((pre ++ [c]).length : Int) by rw [wr (by omega)]; simp, this]
def lvF (b : Nat) (p : ByteArray) : Int := if 1 ≤ p.size ∧ p.size ≤ 4 then lv b 0 p.data.toList else -1
theorem value_eq (p : ByteArray) (b : Nat) (hb : b ≤ 16) (v : Int) (hv : v = (b : Int)) {K : Nat} (hK : 100 ≤ K) : spec_l03Value.f K p v = some (lvF b p) := by
  subst hv
  have hsz : p.data.toList.length = p.size := rfl
  unfold spec_l03Value.f lvF
  by_cases h1 : (p.size : Int) < 1
  · obtain ⟨K, rfl⟩ : ∃ j, K = j + 1 := ⟨K - 1, by omega⟩
    rw [if_pos h1, spec_l03Value.j0, if_pos rfl, if_neg (by omega)]
  · obtain ⟨K, rfl⟩ : ∃ j, K = j + 1 := ⟨K - 1, by omega⟩
    rw [if_neg h1, spec_l03Value.j0]
    by_cases h2 : (p.size : Int) > 4
    · rw [decide_eq_true h2, if_pos rfl, if_neg (by omega)]
    · rw [decide_eq_false h2, if_neg (by decide), if_pos ⟨by omega, by omega⟩]
      have hm : p.size * (b + 2) ≤ 4 * 18 := Nat.mul_le_mul (by omega) (by omega)
      obtain ⟨K', hK'⟩ : ∃ j, K = j + 1 + p.data.toList.length * (b + 2) := ⟨K - 1 - p.data.toList.length * (b + 2), by rw [hsz]; omega⟩
      rw [hK']
      exact l0_eq p (by omega) b hb K' p.data.toList [] 0 rfl
theorem scan16 : ∀ d : Fin 16, scan (((Fb.hd d.val).toNat : Nat) : Int) 16 0 (-1) = (d.val : Int) := by decide
theorem scan10 : ∀ d : Fin 10, scan (((UInt8.ofNat (48 + d.val)).toNat : Nat) : Int) 10 0 (-1) = (d.val : Int) := by decide
theorem lv16 {x : Nat} (hx : x < 16) (acc : Int) (h0 : 0 ≤ acc) (h1 : acc ≤ 1000000) (r : List UInt8) : lv 16 acc (Fb.hd x :: r) = lv 16 (16 * acc + x) r := by
  have := scan16 ⟨x, hx⟩
  simp only at this
  rw [lv, this, if_neg (by omega), wr (x := ((16 : Nat) : Int) * acc) (by omega), wr (by omega)]
  rfl
theorem lv10 {x : Nat} (hx : x < 10) (acc : Int) (h0 : 0 ≤ acc) (h1 : acc ≤ 1000000) (r : List UInt8) : lv 10 acc (UInt8.ofNat (48 + x) :: r) = lv 10 (10 * acc + x) r := by
  have := scan10 ⟨x, hx⟩
  simp only at this
  rw [lv, this, if_neg (by omega), wr (x := ((10 : Nat) : Int) * acc) (by omega), wr (by omega)]
  rfl
theorem lv_hex {u : Nat} (h : u < 65536) : lv 16 0 (Fb.hexL u) = (u : Int) := by
  unfold Fb.hexL
  split
  · rw [lv16 (by omega) _ (by omega) (by omega), lv]; omega
  · split
    · rw [lv16 (by omega) _ (by omega) (by omega), lv16 (by omega) _ (by omega) (by omega), lv]; omega
    · split
      · rw [lv16 (by omega) _ (by omega) (by omega), lv16 (by omega) _ (by omega) (by omega), lv16 (by omega) _ (by omega) (by omega), lv]; omega
      · rw [lv16 (by omega) _ (by omega) (by omega), lv16 (by omega) _ (by omega) (by omega), lv16 (by omega) _ (by omega) (by omega), lv16 (by omega) _ (by omega) (by omega), lv]; omega
theorem dec3 {u : Nat} (h : u < 1000) : Lib.decDigits u = if u < 10 then [UInt8.ofNat (48 + u)] else if u < 100 then [UInt8.ofNat (48 + u / 10), UInt8.ofNat (48 + u % 10)] else [UInt8.ofNat (48 + u / 10 / 10), UInt8.ofNat (48 + u / 10 % 10), UInt8.ofNat (48 + u % 10)] := by
  by_cases h0 : u < 10
  · rw [if_pos h0, Lib.decDigits_one h0]
  · rw [if_neg h0, Lib.decDigits, dif_neg h0]
    by_cases h1 : u < 100
    · rw [if_pos h1, Lib.decDigits_one (by omega)]
      rfl
    · rw [if_neg h1, Lib.decDigits, dif_neg (by omega), Lib.decDigits_one (by omega)]
      rfl
theorem lv_dec {u : Nat} (h : u < 1000) : lv 10 0 (Lib.decDigits u) = (u : Int) := by
  rw [dec3 h]
  split
  · rw [lv10 (by omega) _ (by omega) (by omega), lv]; omega
  · split
    · rw [lv10 (by omega) _ (by omega) (by omega), lv10 (by omega) _ (by omega) (by omega), lv]; omega
    · rw [lv10 (by omega) _ (by omega) (by omega), lv10 (by omega) _ (by omega) (by omega), lv10 (by omega) _ (by omega) (by omega), lv]; omega
theorem hex_ne (u : Nat) : Fb.hexL u ≠ [] := by
  unfold Fb.hexL
  split
  · simp
  · split
    · simp
    · split <;> simp
theorem lvF_hex {u : Nat} (h : u < 65536) : lvF 16 (ba (Fb.hexL u)) = (u : Int) := by
  have h1 := hexL_len u
  have h2 := List.length_pos_iff.2 (hex_ne u)
  unfold lvF
  rw [if_pos ⟨by rw [ba_size]; omega, by rw [ba_size]; omega⟩, ba_data, lv_hex h]
theorem itoa3 {a : Int} (h : B a) : (Lib.itoa a).length ≤ 3 := itoa_lt 2 h.1 (by have := h.2; omega)
theorem lvF_dec {a : Int} (h : B a) : lvF 10 (ba (Lib.itoa a)) = a := by
  obtain ⟨h0, h1⟩ := h
  have hl := itoa3 ⟨h0, h1⟩
  have h2 := List.length_pos_iff.2 (itoa_ne h0)
  unfold lvF
  rw [if_pos ⟨by rw [ba_size]; omega, by rw [ba_size]; omega⟩, ba_data, itoa_pos h0, lv_dec (by omega)]
  omega
theorem put16_any (a : Int) : ∃ x y, B x ∧ B y ∧ spec_Put16.f a = some [x, y] := by
  have h : ∃ t, spec_l01Low.f a 65536 = some t := by
    unfold spec_l01Low.f
    rw [if_neg (by omega)]
    split
    · exact ⟨_, rfl⟩
    · exact ⟨_, rfl⟩
  obtain ⟨t, ht⟩ := h
  refine ⟨_, _, ?_, ?_, by unfold spec_Put16.f; rw [ht]; rfl⟩
  · exact ⟨by omega, by omega⟩
  · exact ⟨by omega, by omega⟩
/-- What both sides do with the bytes read. -/
def allB (D : List Int) : Prop := ∀ i, i < D.length → B (g D i)
theorem allB_iff {D : List Int} : allB D ↔ ∀ x ∈ D, B x := by
  constructor
  · intro h x hx
    obtain ⟨i, hi, rfl⟩ := List.getElem_of_mem hx
    have := h i hi
    rwa [show g D i = D[i] by simp [g, hi]] at this
  · intro h i hi
    exact h _ (g_mem hi)
theorem j3_tot (s : ByteArray) {D : List Int} (hB : allB D) {K : Nat} (hK : 200 ≤ K) : ∃ r, spec_AddrRead.j3 K s D = some r := by
  obtain ⟨K, rfl⟩ : ∃ j, K = j + 1 := ⟨K - 1, by omega⟩
  rw [spec_AddrRead.j3]
  by_cases hl : D.length = 4 ∨ D.length = 16
  · rw [specOf D hl hB (by omega), Option.bind_some]
    obtain ⟨ok, _⟩ := ofB_ok hl hB
    unfold five at ok
    split
    · rw [specAT ok (by omega), Option.bind_some]
      split <;> exact ⟨_, rfl⟩
    · exact ⟨_, rfl⟩
  · unfold spec_AddrOf.f
    rw [if_neg (by omega), if_neg (by omega), Option.bind_some]
    exact ⟨_, rfl⟩
theorem ofB_true (D : List Int) : (ofB D).2.2.2.2.2 = true := by
  unfold ofB
  split <;> rfl
theorem j3_at {k a b c d : Int} (h : addrOk k a b c d = true) {K : Nat} (hK : 200 ≤ K) : spec_AddrRead.j3 K (ba (at_ k a b c d)) (addrBytes k a b c d) = some (k, a, b, c, d, true) := by
  obtain ⟨K, rfl⟩ : ∃ j, K = j + 1 := ⟨K - 1, by omega⟩
  obtain ⟨h8, h1, hB⟩ := addrBytes_ok h
  have e := ofB_addrBytes h
  unfold five at e
  simp only [Prod.mk.injEq] at e
  obtain ⟨e1, e2, e3, e4, e5⟩ := e
  rw [spec_AddrRead.j3, specOf _ h1 hB (by omega), Option.bind_some, ofB_true, if_pos rfl, e1, e2, e3, e4, e5, specAT h (by omega), Option.bind_some, if_pos rfl]
theorem l1_tot (s : ByteArray) (P : List ByteArray) (hP : P.length = 8) : ∀ (d i K : Nat) (D : List Int), i + d = 8 → allB D → D.length ≤ 100 + 2 * i → d + 300 ≤ K → ∃ r, spec_AddrRead.l1 K s D P (i : Int) = some r := by
  intro d
  induction d with
  | zero =>
    intro i K D hd hB hl hK
    obtain ⟨K, rfl⟩ : ∃ j, K = j + 1 := ⟨K - 1, by omega⟩
    rw [spec_AddrRead.l1, if_neg (by omega)]
    exact j3_tot s hB (by omega)
  | succ d ih =>
    intro i K D hd hB hl hK
    obtain ⟨K, rfl⟩ : ∃ j, K = j + 1 := ⟨K - 1, by omega⟩
    rw [spec_AddrRead.l1, if_pos (by omega), if_pos (by omega), if_pos (by omega), value_eq _ 16 (by omega) 16 rfl (by omega), Option.bind_some]
    split
    · exact ⟨_, rfl⟩
    · obtain ⟨x, y, hx, hy, e⟩ := put16_any (lvF 16 (rdOf ByteArray.empty P (i : Int)))
      rw [e, Option.bind_some, if_pos (by simp; omega), show wrap64 ((i : Int) + 1) = ((i + 1 : Nat) : Int) by rw [wr (by omega)]; omega]
      exact ih (i + 1) K _ (by omega) (allB_iff.2 fun z hz => by
        rcases List.mem_append.1 hz with hz | hz
        · exact allB_iff.1 hB z hz
        · simp only [List.mem_cons, List.not_mem_nil, or_false] at hz
          rcases hz with rfl | rfl
          · exact hx
          · exact hy) (by simp; omega) (by omega)
theorem j1_tot (s : ByteArray) (P : List ByteArray) {D : List Int} (hB : allB D) (hl : D.length ≤ 50) {K : Nat} (hK : 400 ≤ K) : ∃ r, spec_AddrRead.j1 K s D P = some r := by
  obtain ⟨K, rfl⟩ : ∃ j, K = j + 1 := ⟨K - 1, by omega⟩
  rw [spec_AddrRead.j1]
  by_cases hP : (P.length : Int) = 8
  · rw [if_pos hP]
    exact l1_tot s P (by omega) 8 0 K D (by omega) hB (by omega) (by omega)
  · rw [if_neg hP]
    exact j3_tot s hB (by omega)
theorem l0_tot (s : ByteArray) (P Q : List ByteArray) (hP : P.length = 4) : ∀ (d i K : Nat) (D : List Int), i + d = 4 → allB D → D.length = i → d + 500 ≤ K → ∃ r, spec_AddrRead.l0 K s D P Q (i : Int) = some r := by
  intro d
  induction d with
  | zero =>
    intro i K D hd hB hl hK
    obtain ⟨K, rfl⟩ : ∃ j, K = j + 1 := ⟨K - 1, by omega⟩
    rw [spec_AddrRead.l0, if_neg (by omega)]
    exact j1_tot s Q hB (by omega) (by omega)
  | succ d ih =>
    intro i K D hd hB hl hK
    obtain ⟨K, rfl⟩ : ∃ j, K = j + 1 := ⟨K - 1, by omega⟩
    rw [spec_AddrRead.l0, if_pos (by omega), if_pos (by omega), if_pos (by omega), value_eq _ 10 (by omega) 10 rfl (by omega), Option.bind_some]
    split
    · exact ⟨_, rfl⟩
    · split
      · exact ⟨_, rfl⟩
      · rw [if_pos (by omega), show wrap64 ((i : Int) + 1) = ((i + 1 : Nat) : Int) by rw [wr (by omega)]; omega]
        exact ih (i + 1) K _ (by omega) (allB_iff.2 fun z hz => by
          rcases List.mem_append.1 hz with hz | hz
          · exact allB_iff.1 hB z hz
          · simp only [List.mem_singleton] at hz
            subst hz
            exact ⟨by omega, by omega⟩) (by simp; omega) (by omega)
theorem nilB : allB [] := allB_iff.2 fun x hx => by cases hx
theorem specAR_tot (s : ByteArray) {K : Nat} (hK : 600 ≤ K) : ∃ r, spec_AddrRead.f K s = some r := by
  unfold spec_AddrRead.f
  by_cases h : (s.size : Int) > 39
  · rw [if_pos h]
    exact ⟨_, rfl⟩
  · rw [if_neg h, Option.bind_some, group_eq 46 46 rfl s (by omega) (by omega), Option.bind_some, group_eq 58 58 rfl s (by omega) (by omega), Option.bind_some]
    by_cases h4 : (((gr 46 s.data.toList).map ba).length : Int) = 4
    · rw [if_pos h4]
      exact l0_tot s _ _ (by omega) 4 0 K [] (by omega) nilB rfl (by omega)
    · rw [if_neg h4]
      exact j1_tot s _ nilB (by simp) (by omega)
/-! ### which letters stand in a word -/
/-- A letter of a number or an address's group. -/
def Wl (c : UInt8) : Prop := Dig c ∨ (97 ≤ c.toNat ∧ c.toNat ≤ 102)
theorem hd_W : ∀ d : Fin 16, (48 ≤ (Fb.hd d.val).toNat ∧ (Fb.hd d.val).toNat ≤ 57) ∨ (97 ≤ (Fb.hd d.val).toNat ∧ (Fb.hd d.val).toNat ≤ 102) := by decide
theorem hdW {x : Nat} (h : x < 16) : Wl (Fb.hd x) := hd_W ⟨x, h⟩
theorem hex_W {u : Nat} (h : u < 65536) : ∀ c ∈ Fb.hexL u, Wl c := by
  unfold Fb.hexL
  intro c hc
  split at hc
  · simp only [List.mem_cons, List.not_mem_nil, or_false] at hc
    subst hc
    exact hdW (by omega)
  · split at hc
    · simp only [List.mem_cons, List.not_mem_nil, or_false] at hc
      rcases hc with rfl | rfl <;> exact hdW (by omega)
    · split at hc
      · simp only [List.mem_cons, List.not_mem_nil, or_false] at hc
        rcases hc with rfl | rfl | rfl <;> exact hdW (by omega)
      · simp only [List.mem_cons, List.not_mem_nil, or_false] at hc
        rcases hc with rfl | rfl | rfl | rfl <;> exact hdW (by omega)
theorem no_of {x : UInt8} {l : List UInt8} (hx : x.toNat < 48 ∨ x.toNat = 58) (h : ∀ c ∈ l, Wl c) : No x l := fun hm => by
  have := h x hm
  unfold Wl Dig at this
  omega
theorem itoa_W {a : Int} (h : 0 ≤ a) : ∀ c ∈ Lib.itoa a, Wl c := fun c hc => .inl (itoa_dig h c hc)
theorem tail_mem {x : UInt8} {s : List UInt8} : ∀ {r : List (List UInt8)}, x ∈ Lib.joinTail s r → x ∈ s ∨ ∃ t ∈ r, x ∈ t
  | [], h => by simp [tail_nil] at h
  | y :: r, h => by
    rw [tail_cons, List.mem_append, List.mem_append] at h
    rcases h with h | h | h
    · exact .inl h
    · exact .inr ⟨y, by simp, h⟩
    · rcases tail_mem h with h | ⟨t, ht, hx⟩
      · exact .inl h
      · exact .inr ⟨t, by simp [ht], hx⟩
theorem join_mem {x : UInt8} {s : List UInt8} {L : List (List UInt8)} (h : x ∈ Lib.join L s) : x ∈ s ∨ ∃ t ∈ L, x ∈ t := by
  cases L with
  | nil => simp [Lib.join_nil] at h
  | cons y r =>
    rw [Lib.join_cons, List.mem_append] at h
    rcases h with h | h
    · exact .inr ⟨y, by simp, h⟩
    · rcases tail_mem h with h | ⟨t, ht, hx⟩
      · exact .inl h
      · exact .inr ⟨t, by simp [ht], hx⟩
theorem ts_len (D : List Int) : (ts D).length = D.length := by simp [ts]
theorem hs_len (D : List Int) : (hs D).length = 8 := by simp [hs]
theorem ts_W {D : List Int} (hB : allB D) : ∀ t ∈ ts D, ∀ c ∈ t, Wl c := by
  intro t ht
  obtain ⟨x, hx, rfl⟩ := List.mem_map.mp ht
  exact itoa_W (allB_iff.1 hB x hx).1
theorem hs_W {D : List Int} (hD : D.length = 16) (hB : allB D) : ∀ t ∈ hs D, ∀ c ∈ t, Wl c := by
  intro t ht
  obtain ⟨i, hi, rfl⟩ := List.mem_map.mp ht
  exact hex_W (grp_lt hD hB (List.mem_range.1 hi)).1
theorem L4 {k a b c d : Int} (h : addrOk k a b c d = true) (hk : k = 4) : (addrBytes k a b c d).length = 4 := by
  obtain ⟨h8, h1, hB⟩ := addrBytes_ok h
  have hb : bitsN k = 32 := by rw [bitsN, if_pos hk]
  omega
theorem L16 {k a b c d : Int} (h : addrOk k a b c d = true) (hk : ¬ k = 4) : (addrBytes k a b c d).length = 16 := by
  obtain ⟨h8, h1, hB⟩ := addrBytes_ok h
  have hb : bitsN k = 128 := by rw [bitsN, if_neg hk]
  omega
/-- A letter that is no digit, no dot and no colon does not stand in an address. -/
theorem at_no {k a b c d : Int} (h : addrOk k a b c d = true) {x : UInt8} (hx : x.toNat < 48) (hx' : ¬ x = 46) : No x (at_ k a b c d) := by
  obtain ⟨h8, h1, hB⟩ := addrBytes_ok h
  intro hm
  unfold at_ at hm
  by_cases hk : k = 4
  · rw [if_pos hk] at hm
    rcases join_mem hm with hm | ⟨t, ht, hm⟩
    · exact hx' (by simpa using hm)
    · exact no_of (.inl hx) (ts_W hB t ht) hm
  · rw [if_neg hk] at hm
    rcases join_mem hm with hm | ⟨t, ht, hm⟩
    · have : x = 58 := by simpa using hm
      subst this
      simp at hx
    · exact no_of (.inl hx) (hs_W (L16 h hk) hB t ht) hm
theorem ts_ne {D : List Int} (h : D.length = 4) : ∃ y r, ts D = y :: r := by
  match D, h with
  | [a, b, c, d], _ => exact ⟨_, _, rfl⟩
theorem hs_ne (D : List Int) : ∃ y r, hs D = y :: r := ⟨_, _, rfl⟩
theorem gr46_4 {D : List Int} (hD : D.length = 4) (hB : allB D) : gr 46 (Lib.join (ts D) [46]) = ts D := by
  obtain ⟨y, r, e⟩ := ts_ne hD
  have hW := ts_W hB
  rw [e] at hW ⊢
  exact gr_join 46 r y fun t ht => no_of (.inl (by decide)) (hW t ht)
theorem gr58_4 {D : List Int} (hB : allB D) : No 58 (Lib.join (ts D) [46]) := fun hm => by
  rcases join_mem hm with hm | ⟨t, ht, hm⟩
  · simp at hm
  · exact no_of (.inr (by decide)) (ts_W hB t ht) hm
theorem gr58_16 {D : List Int} (hD : D.length = 16) (hB : allB D) : gr 58 (Lib.join (hs D) [58]) = hs D := by
  obtain ⟨y, r, e⟩ := hs_ne D
  have hW := hs_W hD hB
  rw [e] at hW ⊢
  exact gr_join 58 r y fun t ht => no_of (.inr (by decide)) (hW t ht)
theorem gr46_16 {D : List Int} (hD : D.length = 16) (hB : allB D) : No 46 (Lib.join (hs D) [58]) := fun hm => by
  rcases join_mem hm with hm | ⟨t, ht, hm⟩
  · simp at hm
  · exact no_of (.inl (by decide)) (hs_W hD hB t ht) hm
theorem join_len2 (s : List UInt8) (m : Nat) (y : List UInt8) (r : List (List UInt8)) (h : ∀ t ∈ y :: r, t.length ≤ m) : (Lib.join (y :: r) s).length ≤ m + (s.length + m) * r.length := by
  have h1 := h y (by simp)
  have h2 := tail_len s m r (fun t ht => h t (by simp [ht]))
  rw [Lib.join_cons, List.length_append]
  omega
theorem at_len39 {k a b c d : Int} (h : addrOk k a b c d = true) : (at_ k a b c d).length ≤ 39 := by
  obtain ⟨h8, h1, hB⟩ := addrBytes_ok h
  unfold at_
  by_cases hk : k = 4
  · rw [if_pos hk]
    have := join_len [46] 3 (ts (addrBytes k a b c d)) (fun t ht => by
      obtain ⟨x, hx, rfl⟩ := List.mem_map.mp ht
      exact itoa3 (allB_iff.1 hB x hx))
    rw [ts_len, L4 h hk] at this
    simp at this
    omega
  · rw [if_neg hk]
    have hl := hs_len (addrBytes k a b c d)
    have hm : ∀ t ∈ hs (addrBytes k a b c d), t.length ≤ 4 := by
      intro t ht
      obtain ⟨i, hi, rfl⟩ := List.mem_map.mp ht
      exact hexL_len _
    obtain ⟨y, r, e⟩ := hs_ne (addrBytes k a b c d)
    rw [e] at hl hm ⊢
    have := join_len2 [58] 4 y r hm
    rw [List.length_cons] at hl
    rw [show r.length = 7 by omega] at this
    simp at this
    omega
theorem rd_map (L : List (List UInt8)) (i : Nat) (h : i < L.length) : rdOf ByteArray.empty (L.map ba) (i : Int) = ba (L[i]) := by
  simp [rdOf, h]
theorem ts_get {D : List Int} {i : Nat} (h : i < D.length) : rdOf ByteArray.empty ((ts D).map ba) (i : Int) = ba (Lib.itoa (g D i)) := by
  rw [rd_map _ _ (by rw [ts_len]; exact h)]
  simp [ts, g, h]
theorem hs_get (D : List Int) {i : Nat} (h : i < 8) : rdOf ByteArray.empty ((hs D).map ba) (i : Int) = ba (Fb.hexL (grp D i)) := by
  rw [rd_map _ _ (by rw [hs_len]; exact h)]
  simp [hs]
theorem take1 {D : List Int} {i : Nat} (h : i < D.length) : D.take i ++ [g D i] = D.take (i + 1) := by
  rw [List.take_succ_eq_append_getElem h]
  simp [g, h]
theorem take2 {D : List Int} {i : Nat} (h : 2 * i + 1 < D.length) : D.take (2 * i) ++ [g D (2 * i), g D (2 * i + 1)] = D.take (2 * (i + 1)) := by
  rw [show 2 * (i + 1) = (2 * i + 1) + 1 by omega, ← take1 h, ← take1 (by omega)]
  simp
theorem l0_at (s : ByteArray) (Q : List ByteArray) {D : List Int} (hD : D.length = 4) (hB : allB D) (hQ : ¬ Q.length = 8) : ∀ (d i K : Nat), i + d = 4 → spec_AddrRead.l0 (K + 202 + d) s (D.take i) ((ts D).map ba) Q (i : Int) = spec_AddrRead.j3 (K + 200) s D := by
  intro d
  induction d with
  | zero =>
    intro i K hd
    show spec_AddrRead.l0 (K + 201 + 1) s _ _ Q _ = _
    rw [spec_AddrRead.l0, if_neg (by omega), List.take_of_length_le (by omega)]
    show spec_AddrRead.j1 (K + 200 + 1) s _ _ = _
    rw [spec_AddrRead.j1, if_neg (by omega)]
  | succ d ih =>
    intro i K hd
    have hb := hB i (by omega)
    have hb' := hb
    obtain ⟨b0, b1⟩ := hb'
    show spec_AddrRead.l0 (K + 202 + d + 1) s _ _ Q _ = _
    rw [spec_AddrRead.l0, if_pos (by omega), if_pos (by omega), if_pos (by rw [List.length_map, ts_len]; omega), ts_get (by omega), value_eq _ 10 (by omega) 10 rfl (by omega), Option.bind_some, lvF_dec hb, if_neg (by omega), if_neg (by omega), if_pos (by rw [List.length_take]; omega), show g D i % 256 = g D i by omega, take1 (by omega), show wrap64 ((i : Int) + 1) = ((i + 1 : Nat) : Int) by rw [wr (by omega)]; omega]
    exact ih (i + 1) K (by omega)
theorem bytes2_grp {D : List Int} (hD : D.length = 16) (hB : allB D) {i : Nat} (h : i < 8) : bytes2 ((grp D i : Nat) : Int) = [g D (2 * i), g D (2 * i + 1)] := by
  obtain ⟨_, e⟩ := grp_lt hD hB h
  obtain ⟨a0, a1⟩ := hB (2 * i) (by omega)
  obtain ⟨b0, b1⟩ := hB (2 * i + 1) (by omega)
  unfold bytes2
  rw [e, show (256 * g D (2 * i) + g D (2 * i + 1)) / 256 % 256 = g D (2 * i) by omega, show (256 * g D (2 * i) + g D (2 * i + 1)) % 256 = g D (2 * i + 1) by omega]
theorem l1_at (s : ByteArray) {D : List Int} (hD : D.length = 16) (hB : allB D) : ∀ (d i K : Nat), i + d = 8 → spec_AddrRead.l1 (K + 201 + d) s (D.take (2 * i)) ((hs D).map ba) (i : Int) = spec_AddrRead.j3 (K + 200) s D := by
  intro d
  induction d with
  | zero =>
    intro i K hd
    show spec_AddrRead.l1 (K + 200 + 1) s _ _ _ = _
    rw [spec_AddrRead.l1, if_neg (by omega), List.take_of_length_le (by omega)]
  | succ d ih =>
    intro i K hd
    obtain ⟨hg, hge⟩ := grp_lt hD hB (i := i) (by omega)
    show spec_AddrRead.l1 (K + 201 + d + 1) s _ _ _ = _
    rw [spec_AddrRead.l1, if_pos (by omega), if_pos (by omega), if_pos (by rw [List.length_map, hs_len]; omega), hs_get D (by omega), value_eq _ 16 (by omega) 16 rfl (by omega), Option.bind_some, lvF_hex hg, if_neg (by omega), specPut16 ⟨by omega, by omega⟩, Option.bind_some, bytes2_grp hD hB (by omega), if_pos (by rw [List.length_take]; simp; omega), take2 (by omega), show wrap64 ((i : Int) + 1) = ((i + 1 : Nat) : Int) by rw [wr (by omega)]; omega]
    exact ih (i + 1) K (by omega)
theorem specAR_at {k a b c d : Int} (h : addrOk k a b c d = true) {K : Nat} (hK : 600 ≤ K) : spec_AddrRead.f K (ba (at_ k a b c d)) = some (k, a, b, c, d, true) := by
  obtain ⟨h8, h1, hB⟩ := addrBytes_ok h
  have hl := at_len39 h
  have hj := fun K' => j3_at h (K := K' + 200) (by omega)
  unfold spec_AddrRead.f
  rw [if_neg (by rw [ba_size]; omega), Option.bind_some, group_eq 46 46 rfl _ (by rw [ba_size]; omega) (by rw [ba_size]; omega), Option.bind_some, group_eq 58 58 rfl _ (by rw [ba_size]; omega) (by rw [ba_size]; omega), Option.bind_some, ba_data]
  by_cases hk : k = 4
  · have hD := L4 h hk
    have e : at_ k a b c d = Lib.join (ts (addrBytes k a b c d)) [46] := by rw [at_, if_pos hk]
    rw [show gr 46 (at_ k a b c d) = ts (addrBytes k a b c d) by rw [e]; exact gr46_4 hD hB, show gr 58 (at_ k a b c d) = [at_ k a b c d] from gr_no 58 _ (by rw [e]; exact gr58_4 hB), if_pos (by rw [List.length_map, ts_len, hD]; rfl)]
    obtain ⟨K', rfl⟩ : ∃ j, K = j + 202 + 4 := ⟨K - 206, by omega⟩
    exact (l0_at _ _ hD hB (by simp) 4 0 K' (by omega)).trans (hj K')
  · have hD := L16 h hk
    have e : at_ k a b c d = Lib.join (hs (addrBytes k a b c d)) [58] := by rw [at_, if_neg hk]
    rw [show gr 58 (at_ k a b c d) = hs (addrBytes k a b c d) by rw [e]; exact gr58_16 hD hB, show gr 46 (at_ k a b c d) = [at_ k a b c d] from gr_no 46 _ (by rw [e]; exact gr46_16 hD hB), if_neg (by simp)]
    obtain ⟨K', rfl⟩ : ∃ j, K = j + 201 + 8 + 1 := ⟨K - 210, by omega⟩
    rw [spec_AddrRead.j1, if_pos (by rw [List.length_map, hs_len]; rfl)]
    exact (l1_at _ hD hB 8 0 K' (by omega)).trans (hj K')
/-! ### addresses read by the program -/
theorem put1 {n : Int} {k : Nat} (hk : 7 < k) : impl_put.f k n 1 = some [n % 256] := by
  obtain ⟨k, rfl⟩ : ∃ j, k = j + 8 := ⟨k - 8, by omega⟩
  have e (x : Int) (h : -1000 ≤ x ∧ x ≤ 1000) : wrap64 x = x := wr (by omega)
  unfold impl_put.f
  simp [impl_put.l0, e, shr, IntKind.bits, List.replicate]
theorem put2 {n : Int} {k : Nat} (hk : 7 < k) : impl_put.f k n 2 = some (bytes2 n) := by
  obtain ⟨k, rfl⟩ : ∃ j, k = j + 8 := ⟨k - 8, by omega⟩
  have e (x : Int) (h : -1000 ≤ x ∧ x ≤ 1000) : wrap64 x = x := wr (by omega)
  unfold impl_put.f bytes2
  simp [impl_put.l0, e, shr, IntKind.bits, List.replicate]
/-- The bytes that a group comes to. -/
def bw (w n : Int) : List Int := if w = 1 then [n % 256] else bytes2 n
theorem bw_B (w n : Int) : ∀ x ∈ bw w n, B x := by
  intro x hx
  unfold bw at hx
  split at hx
  · simp only [List.mem_singleton] at hx
    subst hx
    exact ⟨by omega, by omega⟩
  · simp only [bytes2, List.mem_cons, List.not_mem_nil, or_false] at hx
    rcases hx with rfl | rfl <;> exact ⟨by omega, by omega⟩
theorem bw_len (w n : Int) : (bw w n).length ≤ 2 := by
  unfold bw
  split <;> simp [bytes2]
theorem put_bw {w n : Int} (hw : w = 1 ∨ w = 2) {k : Nat} (hk : 7 < k) : impl_put.f k n w = some (bw w n) := by
  rcases hw with rfl | rfl
  · exact put1 hk
  · exact put2 hk
def rdB_ (b w : Int) (L : List (List UInt8)) : List Int := (L.map fun t => bw w (wrap64 (La.puV b (ba t)))).flatten
theorem rdB_cons (b w : Int) (t : List UInt8) (L : List (List UInt8)) : rdB_ b w (t :: L) = bw w (wrap64 (La.puV b (ba t))) ++ rdB_ b w L := by
  unfold rdB_
  rw [List.map_cons, List.flatten_cons]
theorem rdB_B (b w : Int) (L : List (List UInt8)) : allB (rdB_ b w L) := allB_iff.2 fun x hx => by
  obtain ⟨l, hl, hx⟩ := List.mem_flatten.1 hx
  obtain ⟨t, ht, rfl⟩ := List.mem_map.1 hl
  exact bw_B _ _ x hx
theorem bytes_l0 (b w : Int) (hb : b = 16 ∨ b = 10) (hw : w = 1 ∨ w = 2) (L : List (List UInt8)) (hL : L.length ≤ 2000000) (hS : ∀ t ∈ L, t.length ≤ 1048576) : ∀ (d i K : Nat) (acc : List Int), i + d = L.length → acc.length ≤ 2 * i → d + 10 ≤ K →
    impl_bytesRead.l0 K b w acc (L.map ba) ((L.map ba).length : Int) (i : Int) = some (acc ++ rdB_ b w (L.drop i)) := by
  intro d
  induction d with
  | zero =>
    intro i K acc hd hl hK
    obtain ⟨K, rfl⟩ : ∃ j, K = j + 1 := ⟨K - 1, by omega⟩
    rw [impl_bytesRead.l0, if_neg (by rw [List.length_map]; omega), List.drop_of_length_le (by omega)]
    simp [rdB_]
  | succ d ih =>
    intro i K acc hd hl hK
    obtain ⟨K, rfl⟩ : ∃ j, K = j + 1 := ⟨K - 1, by omega⟩
    have hi : i < L.length := by omega
    have hs := hS _ (List.getElem_mem hi)
    have hbl := bw_len w (wrap64 (La.puV b (ba L[i])))
    have hP : strconv_ParseUint.f (ba L[i]) b 32 = some (((La.puV b (ba L[i]) : Nat) : Int), true) := by
      unfold strconv_ParseUint.f
      rw [if_pos ⟨by rw [ba_size]; exact hs, hb, rfl⟩]
    rw [impl_bytesRead.l0, if_pos (by rw [List.length_map]; omega), if_pos (by omega), if_pos (by rw [List.length_map]; omega), rd_map L i hi, hP, Option.bind_some]
    simp only []
    rw [put_bw hw (by omega), Option.bind_some, if_pos (by omega), show wrap64 ((i : Int) + 1) = ((i + 1 : Nat) : Int) by rw [wr (by omega)]; omega]
    rw [ih (i + 1) K _ (by omega) (by rw [List.length_append]; omega) (by omega), List.drop_eq_getElem_cons hi, rdB_cons, List.append_assoc]
theorem bytes_eq (b w : Int) (hb : b = 16 ∨ b = 10) (hw : w = 1 ∨ w = 2) (L : List (List UInt8)) (hL : L.length ≤ 2000000) (hS : ∀ t ∈ L, t.length ≤ 1048576) {K : Nat} (hK : L.length + 10 ≤ K) : impl_bytesRead.f K (L.map ba) b w = some (rdB_ b w L) := by
  have h := bytes_l0 b w hb hw L hL hS L.length 0 K [] (by omega) (by simp) hK
  unfold impl_bytesRead.f
  refine h.trans ?_
  simp
theorem gr_bds (x : UInt8) (s : ByteArray) (hs : s.size ≤ 1048576) : (gr x s.data.toList).length ≤ 2000000 ∧ ∀ t ∈ gr x s.data.toList, t.length ≤ 1048576 := by
  have hsz : s.data.toList.length = s.size := rfl
  have := gr_sum x s.data.toList
  exact ⟨by omega, fun t ht => by have := gr_len x _ t ht; omega⟩
theorem i0_tot (s : ByteArray) {D : List Int} (hB : allB D) {K : Nat} (hK : 200 ≤ K) : ∃ r, impl_AddrRead.j0 K s D = some r := by
  obtain ⟨K, rfl⟩ : ∃ j, K = j + 1 := ⟨K - 1, by omega⟩
  rw [impl_AddrRead.j0]
  by_cases hl : D.length = 4 ∨ D.length = 16
  · rw [implOf D hl hB (by omega), Option.bind_some]
    obtain ⟨ok, _⟩ := ofB_ok hl hB
    unfold five at ok
    split
    · rw [implAT ok (by omega), Option.bind_some]
      split <;> exact ⟨_, rfl⟩
    · exact ⟨_, rfl⟩
  · unfold impl_AddrOf.f
    rw [if_neg (by omega), if_neg (by omega), Option.bind_some]
    exact ⟨_, rfl⟩
theorem i0_at {k a b c d : Int} (h : addrOk k a b c d = true) {K : Nat} (hK : 200 ≤ K) : impl_AddrRead.j0 K (ba (at_ k a b c d)) (addrBytes k a b c d) = some (k, a, b, c, d, true) := by
  obtain ⟨K, rfl⟩ : ∃ j, K = j + 1 := ⟨K - 1, by omega⟩
  obtain ⟨h8, h1, hB⟩ := addrBytes_ok h
  have e := ofB_addrBytes h
  unfold five at e
  simp only [Prod.mk.injEq] at e
  obtain ⟨e1, e2, e3, e4, e5⟩ := e
  rw [impl_AddrRead.j0, implOf _ h1 hB (by omega), Option.bind_some, ofB_true, if_pos rfl, e1, e2, e3, e4, e5, implAT h (by omega), Option.bind_some, if_pos rfl]
theorem cont_eq (s : ByteArray) : strings_Contains.f s ⟨#[58]⟩ = some (decide (0 ≤ Lib.indexByte s.data.toList 58)) := by
  unfold strings_Contains.f
  rw [if_pos rfl]
theorem implAR_tot (s : ByteArray) (hs : s.size ≤ 1048576) {K : Nat} (hK : 2100000 ≤ K) : ∃ r, impl_AddrRead.f K s = some r := by
  obtain ⟨g1, g2⟩ := gr_bds 46 s hs
  obtain ⟨g3, g4⟩ := gr_bds 58 s hs
  unfold impl_AddrRead.f
  rw [split_eq 46 ⟨#[46]⟩ rfl s hs, Option.bind_some, bytes_eq 10 1 (.inr rfl) (.inl rfl) _ g1 g2 (by omega), Option.bind_some, cont_eq, Option.bind_some]
  split
  · rw [split_eq 58 ⟨#[58]⟩ rfl s hs, Option.bind_some, bytes_eq 16 2 (.inl rfl) (.inr rfl) _ g3 g4 (by omega), Option.bind_some]
    exact i0_tot s (rdB_B _ _ _) (by omega)
  · exact i0_tot s (rdB_B _ _ _) (by omega)
theorem d16 : ∀ d : Fin 16, La.digit16 (Fb.hd d.val) = some d.val := by decide
theorem pu16_1 {x : Nat} (hx : x < 16) (acc : Nat) (h : acc ≤ 1000000) (r : List UInt8) : La.pu16 acc (Fb.hd x :: r) = La.pu16 (acc * 16 + x) r := by
  have := d16 ⟨x, hx⟩
  simp only at this
  rw [La.pu16, this]
  simp only []
  rw [if_neg (by omega)]
theorem pu_hex {u : Nat} (h : u < 65536) : La.puV 16 (ba (Fb.hexL u)) = u := by
  have e : La.pu16 0 (Fb.hexL u) = .ok u := by
    unfold Fb.hexL
    split
    · rw [pu16_1 (by omega) _ (by omega), La.pu16]; congr 1; omega
    · split
      · rw [pu16_1 (by omega) _ (by omega), pu16_1 (by omega) _ (by omega), La.pu16]; congr 1; omega
      · split
        · rw [pu16_1 (by omega) _ (by omega), pu16_1 (by omega) _ (by omega), pu16_1 (by omega) _ (by omega), La.pu16]; congr 1; omega
        · rw [pu16_1 (by omega) _ (by omega), pu16_1 (by omega) _ (by omega), pu16_1 (by omega) _ (by omega), pu16_1 (by omega) _ (by omega), La.pu16]; congr 1; omega
  unfold La.puV La.pu16B
  rw [if_pos rfl, ba_data, if_neg (hex_ne u), e]
  rfl
theorem pu10_1 {x : Nat} (hx : x < 10) (acc : Nat) (h : acc ≤ 1000000) (r : List UInt8) : Lib.parseUintM (2 ^ 32 - 1) acc (UInt8.ofNat (48 + x) :: r) = Lib.parseUintM (2 ^ 32 - 1) (acc * 10 + x) r := by
  have := digit x hx
  rw [Lib.parseUintM, if_pos ⟨by omega, by omega⟩, if_neg (by omega), if_neg (by omega), show (UInt8.ofNat (48 + x)).toNat - 48 = x by omega]
theorem pu_dec {a : Int} (h : B a) : La.puV 10 (ba (Lib.itoa a)) = a.toNat := by
  obtain ⟨h0, h1⟩ := h
  have e : Lib.parseUintM (2 ^ 32 - 1) 0 (Lib.itoa a) = .ok a.toNat := by
    rw [itoa_pos h0, dec3 (by omega)]
    split
    · rw [pu10_1 (by omega) _ (by omega), Lib.parseUintM]; congr 1; omega
    · split
      · rw [pu10_1 (by omega) _ (by omega), pu10_1 (by omega) _ (by omega), Lib.parseUintM]; congr 1; omega
      · rw [pu10_1 (by omega) _ (by omega), pu10_1 (by omega) _ (by omega), pu10_1 (by omega) _ (by omega), Lib.parseUintM]; congr 1; omega
  unfold La.puV Lib.parseUintB
  rw [if_neg (by decide), ba_data, if_neg (itoa_ne h0), e]
  rfl
theorem rdB_ts : ∀ {D : List Int}, (∀ x ∈ D, B x) → rdB_ 10 1 (ts D) = D := by
  intro D
  induction D with
  | nil => intro _; rfl
  | cons x D ih =>
    intro hB
    have hx := hB x (by simp)
    have ih := ih (fun y hy => hB y (by simp [hy]))
    obtain ⟨x0, x1⟩ := hx
    have e : ts (x :: D) = Lib.itoa x :: ts D := rfl
    rw [e, rdB_cons, ih, pu_dec ⟨x0, x1⟩, bw, if_pos rfl, wr (by omega), show ((x.toNat : Nat) : Int) % 256 = x by omega]
    rfl
theorem rdB_hs {D : List Int} (hD : D.length = 16) (hB : allB D) : rdB_ 16 2 (hs D) = D := by
  have e : ∀ i, i < 8 → bw 2 (wrap64 (La.puV 16 (ba (Fb.hexL (grp D i))))) = [g D (2 * i), g D (2 * i + 1)] := by
    intro i hi
    obtain ⟨hg, hge⟩ := grp_lt hD hB hi
    rw [pu_hex hg, wr (by omega), bw, if_neg (by decide), bytes2_grp hD hB hi]
  have hr : List.range 8 = [0, 1, 2, 3, 4, 5, 6, 7] := rfl
  unfold rdB_ hs
  rw [hr]
  simp only [List.map_cons, List.map_nil, List.flatten_cons, List.flatten_nil]
  rw [e 0 (by omega), e 1 (by omega), e 2 (by omega), e 3 (by omega), e 4 (by omega), e 5 (by omega), e 6 (by omega), e 7 (by omega)]
  exact (list16 D hD).symm
theorem ib_no {x : UInt8} {l : List UInt8} (h : No x l) : ¬ 0 ≤ Lib.indexByte l x := by
  intro h0
  obtain ⟨o, ho⟩ : ∃ o : Nat, Lib.indexByte l x = o := ⟨(Lib.indexByte l x).toNat, by omega⟩
  obtain ⟨h1, _⟩ := Lib.indexByte_some ho
  exact h (List.mem_of_getElem? h1)
theorem ib_yes {x : UInt8} {l : List UInt8} (h : x ∈ l) : 0 ≤ Lib.indexByte l x := by
  have hg := Lib.indexByte_ge l x
  by_cases h0 : Lib.indexByte l x = -1
  · obtain ⟨i, hi⟩ := List.getElem?_of_mem h
    exact absurd hi (Lib.indexByte_none h0 i)
  · omega
theorem implAR_at {k a b c d : Int} (h : addrOk k a b c d = true) {K : Nat} (hK : 2100000 ≤ K) : impl_AddrRead.f K (ba (at_ k a b c d)) = some (k, a, b, c, d, true) := by
  obtain ⟨h8, h1, hB⟩ := addrBytes_ok h
  have hl := at_len39 h
  have hz : (ba (at_ k a b c d)).size ≤ 1048576 := by rw [ba_size]; omega
  obtain ⟨g1, g2⟩ := gr_bds 46 (ba (at_ k a b c d)) hz
  obtain ⟨g3, g4⟩ := gr_bds 58 (ba (at_ k a b c d)) hz
  unfold impl_AddrRead.f
  rw [split_eq 46 ⟨#[46]⟩ rfl _ hz, Option.bind_some, bytes_eq 10 1 (.inr rfl) (.inl rfl) _ g1 g2 (by omega), Option.bind_some, cont_eq, Option.bind_some, ba_data]
  by_cases hk : k = 4
  · have hD := L4 h hk
    have e : at_ k a b c d = Lib.join (ts (addrBytes k a b c d)) [46] := by rw [at_, if_pos hk]
    have hn : No 58 (at_ k a b c d) := by rw [e]; exact gr58_4 hB
    rw [decide_eq_false (ib_no hn), if_neg (by decide), show gr 46 (at_ k a b c d) = ts (addrBytes k a b c d) by rw [e]; exact gr46_4 hD hB, rdB_ts (allB_iff.1 hB)]
    exact i0_at h (by omega)
  · have hD := L16 h hk
    have e : at_ k a b c d = Lib.join (hs (addrBytes k a b c d)) [58] := by rw [at_, if_neg hk]
    have hy : (58 : UInt8) ∈ at_ k a b c d := by
      rw [e]
      have hl := hs_len (addrBytes k a b c d)
      match hh : hs (addrBytes k a b c d), hl with
      | y :: z :: r, _ => rw [Lib.join_cons, tail_cons]; simp
    rw [decide_eq_true (ib_yes hy), if_pos rfl, split_eq 58 ⟨#[58]⟩ rfl _ hz, Option.bind_some, bytes_eq 16 2 (.inl rfl) (.inr rfl) _ g3 g4 (by omega), Option.bind_some, ba_data, show gr 58 (at_ k a b c d) = hs (addrBytes k a b c d) by rw [e]; exact gr58_16 hD hB, rdB_hs hD hB]
    exact i0_at h (by omega)
/-! ### prefixes, ranges and protocols read -/
theorem pref_n {k a b c d n : Int} (h : prefOk k a b c d n = true) (h' : ¬ isAny k a b c d n = true) : 0 ≤ n ∧ n ≤ 128 := by
  unfold prefOk at h
  simp only [Bool.or_eq_true, Bool.and_eq_true] at h
  rcases h with h | ⟨h1, h2, _⟩
  · exact absurd h h'
  · have := T.within_iff.mp h2
    have := bitsN_le k
    omega
theorem any_zero {k a b c d n : Int} (h : isAny k a b c d n = true) : k = 0 ∧ a = 0 ∧ b = 0 ∧ c = 0 ∧ d = 0 ∧ n = 0 := by
  unfold isAny at h
  simp only [Bool.and_eq_true, beq_iff_eq] at h
  obtain ⟨⟨h1, h2, h3, h4, h5⟩, h6⟩ := h
  exact ⟨h1, h2, h3, h4, h5, h6⟩
theorem list_ba (l : List UInt8) : (ba l).toList = l := by rw [toList_data, ba_data]
theorem pt_any {k a b c d n : Int} (h : isAny k a b c d n = true) : pt k a b c d n = [97, 110, 121] := by rw [pt, if_pos h]
theorem pt_not {k a b c d n : Int} (h : ¬ isAny k a b c d n = true) : pt k a b c d n = at_ k a b c d ++ 47 :: Lib.itoa n := by
  rw [pt, if_neg h]
  simp
theorem ne_any {x : UInt8} {l : List UInt8} (h : x ∈ l) (hx : x.toNat < 97) : ¬ l = [97, 110, 121] := by
  rintro rfl
  simp only [List.mem_cons, List.not_mem_nil, or_false] at h
  rcases h with rfl | rfl | rfl <;> simp at hx
theorem itoa_any {a : Int} (h : 0 ≤ a) : ¬ Lib.itoa a = [97, 110, 121] := by
  match hl : Lib.itoa a, itoa_ne h with
  | x :: r, _ =>
    have := itoa_dig h x (by rw [hl]; simp)
    unfold Dig at this
    exact ne_any (x := x) (by simp) (by omega)
theorem specPR_tot (s : ByteArray) {K : Nat} (hK : 1500 ≤ K) : ∃ r, spec_PrefixRead.f K s = some r := by
  unfold spec_PrefixRead.f
  split
  · exact ⟨_, rfl⟩
  · split
    · exact ⟨_, rfl⟩
    · rename_i h
      rw [group_eq 47 47 rfl s (by omega) (by omega), Option.bind_some]
      split
      · rename_i h2
        obtain ⟨r, e⟩ := specAR_tot (rdOf ByteArray.empty ((gr 47 s.data.toList).map ba) 0) (K := K) (by omega)
        rw [if_pos (by omega), e, Option.bind_some, if_pos (by omega), nr_specK _ (by omega), Option.bind_some]
        split
        · split
          · rw [specPref _ _ _ _ _ _ (by omega), Option.bind_some]
            split <;> exact ⟨_, rfl⟩
          · exact ⟨_, rfl⟩
        · exact ⟨_, rfl⟩
      · exact ⟨_, rfl⟩
theorem itoa_3 {n : Int} (h : 0 ≤ n ∧ n ≤ 255) : (Lib.itoa n).length ≤ 3 := itoa3 ⟨h.1, h.2⟩
theorem pt_len43 {k a b c d n : Int} (h : prefOk k a b c d n = true) : (pt k a b c d n).length ≤ 43 := by
  by_cases hn : isAny k a b c d n = true
  · rw [pt_any hn]
    simp
  · obtain ⟨h1, _⟩ := pref_ok h hn
    obtain ⟨n0, n1⟩ := pref_n h hn
    have l1 := at_len39 h1
    have l2 := itoa_3 (n := n) ⟨n0, by omega⟩
    rw [pt_not hn, List.length_append, List.length_cons]
    omega
theorem specPR_at {k a b c d n : Int} (h : prefOk k a b c d n = true) {K : Nat} (hK : 1500 ≤ K) : spec_PrefixRead.f K (ba (pt k a b c d n)) = some (k, a, b, c, d, n, true) := by
  have hl := pt_len43 h
  unfold spec_PrefixRead.f
  rw [list_ba]
  by_cases hn : isAny k a b c d n = true
  · obtain ⟨rfl, rfl, rfl, rfl, rfl, rfl⟩ := any_zero hn
    rw [if_pos (pt_any hn)]
  · obtain ⟨h1, _⟩ := pref_ok h hn
    obtain ⟨n0, n1⟩ := pref_n h hn
    have hg : gr 47 (pt k a b c d n) = [at_ k a b c d, Lib.itoa n] := by
      rw [pt_not hn, gr_app 47 _ _ (at_no h1 (by decide) (by decide)), gr_no 47 _ (no_of (.inl (by decide)) (itoa_W n0))]
    rw [if_neg (ne_any (x := 47) (by rw [pt_not hn]; simp) (by decide)), if_neg (by rw [ba_size]; omega), group_eq 47 47 rfl _ (by rw [ba_size]; omega) (by rw [ba_size]; omega), Option.bind_some, ba_data, hg]
    have e0 : rdOf ByteArray.empty ([at_ k a b c d, Lib.itoa n].map ba) 0 = ba (at_ k a b c d) := rfl
    have e1 : rdOf ByteArray.empty ([at_ k a b c d, Lib.itoa n].map ba) 1 = ba (Lib.itoa n) := rfl
    rw [if_pos (by simp), if_pos (by simp), e0, specAR_at h1 (by omega), Option.bind_some, if_pos (by simp), e1, nr_specK _ (by omega), nr_itoa n0 (by omega), Option.bind_some]
    simp only []
    rw [if_pos trivial, if_pos trivial, specPref _ _ _ _ _ _ (by omega), Option.bind_some, if_pos h]
theorem implPT_tot (k a b c d n : Int) {K : Nat} (hK : 1450 ≤ K) : ∃ r, impl_PrefixText.f K k a b c d n = some r := by
  by_cases h : prefOk k a b c d n = true
  · exact ⟨_, implPT h hK⟩
  · unfold impl_PrefixText.f
    rw [implPref _ _ _ _ _ _ (by omega), Option.bind_some, if_neg h]
    exact ⟨_, rfl⟩
theorem cut_eq (s v : ByteArray) (hs : s.size ≤ 1048576) : ∃ a b e, strings_Cut.f s v = some (a, b, e) ∧ a.size ≤ 1048576 ∧ b.size ≤ 1048576 := by
  have hsz : s.data.toList.length = s.size := rfl
  have h := cut_len s.data.toList v.data.toList
  unfold strings_Cut.f
  rw [if_pos hs]
  exact ⟨_, _, _, rfl, by rw [lit, ba_size]; omega, by rw [lit, ba_size]; omega⟩
theorem cut_at (x : UInt8) (v : ByteArray) (hv : v = ba [x]) (a b : List UInt8) (h : No x a) (hs : (a ++ x :: b).length ≤ 1048576) : strings_Cut.f (ba (a ++ x :: b)) v = some (ba a, ba b, true) := by
  subst hv
  unfold strings_Cut.f
  rw [if_pos (by rw [ba_size]; exact hs), ba_data, ba_data, cut_app x a b h]
  rfl
theorem implPR_tot (s : ByteArray) (hs : s.size ≤ 1048576) {K : Nat} (hK : 2100000 ≤ K) : ∃ r, impl_PrefixRead.f K s = some r := by
  unfold impl_PrefixRead.f
  split
  · exact ⟨_, rfl⟩
  · obtain ⟨a, b, e, hc, ha, hb⟩ := cut_eq s ⟨#[47]⟩ hs
    obtain ⟨r, hr⟩ := implAR_tot a ha hK
    rw [hc, Option.bind_some]
    simp only []
    rw [hr, Option.bind_some, implNR b hb, Option.bind_some]
    split
    · split
      · obtain ⟨t, ht⟩ := implPT_tot r.1 r.2.1 r.2.2.1 r.2.2.2.1 r.2.2.2.2.1 (nr b).1 (K := K) (by omega)
        rw [ht, Option.bind_some]
        split <;> exact ⟨_, rfl⟩
      · exact ⟨_, rfl⟩
    · exact ⟨_, rfl⟩
theorem implPR_at {k a b c d n : Int} (h : prefOk k a b c d n = true) {K : Nat} (hK : 2100000 ≤ K) : impl_PrefixRead.f K (ba (pt k a b c d n)) = some (k, a, b, c, d, n, true) := by
  have hl := pt_len43 h
  unfold impl_PrefixRead.f
  rw [list_ba]
  by_cases hn : isAny k a b c d n = true
  · obtain ⟨rfl, rfl, rfl, rfl, rfl, rfl⟩ := any_zero hn
    rw [if_pos (pt_any hn)]
  · obtain ⟨h1, _⟩ := pref_ok h hn
    obtain ⟨n0, n1⟩ := pref_n h hn
    have l2 := itoa_3 (n := n) ⟨n0, by omega⟩
    have hc : strings_Cut.f (ba (pt k a b c d n)) ⟨#[47]⟩ = some (ba (at_ k a b c d), ba (Lib.itoa n), true) := by
      have e := pt_not hn
      rw [e] at hl ⊢
      exact cut_at 47 _ rfl _ _ (at_no h1 (by decide) (by decide)) (by omega)
    rw [if_neg (ne_any (x := 47) (by rw [pt_not hn]; simp) (by decide)), hc, Option.bind_some]
    simp only []
    rw [implAR_at h1 hK, Option.bind_some, implNR _ (by rw [ba_size]; omega), nr_itoa n0 (by omega), Option.bind_some]
    simp only []
    rw [if_pos trivial, if_pos trivial, implPT h (by omega), Option.bind_some, if_pos (list_ba _)]
theorem two_tot (s : ByteArray) (hs : s.size ≤ 300) {K : Nat} (hK : 400 ≤ K) : ∃ r, spec_l09Two.f K s = some r := by
  unfold spec_l09Two.f
  rw [group_eq 45 45 rfl s (by omega) (by omega), Option.bind_some]
  split
  · rename_i h2
    rw [if_pos (by omega), nr_specK _ (by omega), Option.bind_some, if_pos (by omega), nr_specK _ (by omega), Option.bind_some]
    split <;> exact ⟨_, rfl⟩
  · exact ⟨_, rfl⟩
theorem itoa_5 {n : Int} (h : 0 ≤ n ∧ n ≤ 65535) : (Lib.itoa n).length ≤ 5 := itoa_lt 4 h.1 (by have := h.2; omega)
theorem two_at {lo hi : Int} (h : rangeOk lo hi = true) {K : Nat} (hK : 400 ≤ K) : spec_l09Two.f K (ba (Lib.itoa lo ++ [45] ++ Lib.itoa hi)) = some (lo, hi, true) := by
  have hb : 0 ≤ lo ∧ lo ≤ hi ∧ hi ≤ 65535 := by simpa [rangeOk] using h
  have l1 := itoa_5 (n := lo) ⟨by omega, by omega⟩
  have l2 := itoa_5 (n := hi) ⟨by omega, by omega⟩
  have hg : gr 45 (Lib.itoa lo ++ [45] ++ Lib.itoa hi) = [Lib.itoa lo, Lib.itoa hi] := by
    rw [List.append_assoc, List.singleton_append, gr_app 45 _ _ (no_of (.inl (by decide)) (itoa_W hb.1)), gr_no 45 _ (no_of (.inl (by decide)) (itoa_W (by omega)))]
  have hz : (ba (Lib.itoa lo ++ [45] ++ Lib.itoa hi)).size ≤ 11 := by rw [ba_size]; simp; omega
  have e0 : rdOf ByteArray.empty ([Lib.itoa lo, Lib.itoa hi].map ba) 0 = ba (Lib.itoa lo) := rfl
  have e1 : rdOf ByteArray.empty ([Lib.itoa lo, Lib.itoa hi].map ba) 1 = ba (Lib.itoa hi) := rfl
  unfold spec_l09Two.f
  rw [group_eq 45 45 rfl _ (by omega) (by omega), Option.bind_some, ba_data, hg, if_pos (by simp), if_pos (by simp), e0, nr_specK _ (by omega), nr_itoa hb.1 (by omega), Option.bind_some, if_pos (by simp), e1, nr_specK _ (by omega), nr_itoa (by omega) (by omega), Option.bind_some]
  rfl
theorem cut2_at {lo hi : Int} (h : rangeOk lo hi = true) : strings_Cut.f (ba (Lib.itoa lo ++ [45] ++ Lib.itoa hi)) ⟨#[45]⟩ = some (ba (Lib.itoa lo), ba (Lib.itoa hi), true) := by
  have hb : 0 ≤ lo ∧ lo ≤ hi ∧ hi ≤ 65535 := by simpa [rangeOk] using h
  have l1 := itoa_5 (n := lo) ⟨by omega, by omega⟩
  have l2 := itoa_5 (n := hi) ⟨by omega, by omega⟩
  rw [List.append_assoc, List.singleton_append]
  exact cut_at 45 _ rfl _ _ (no_of (.inl (by decide)) (itoa_W hb.1)) (by simp; omega)
theorem proto_spec {q : Int} (h : -1 ≤ q ∧ q ≤ 255) {K : Nat} (hK : 40 ≤ K) : (if (ba (proto q)).toList = ([97, 110, 121] : List UInt8) then some ((-1 : Int), true) else spec_NumRead.f K (ba (proto q))) = some (q, true) := by
  rw [list_ba]
  by_cases hq : q = -1
  · subst hq
    rw [if_pos (by rw [proto, if_pos rfl])]
  · have e : proto q = Lib.itoa q := by rw [proto, if_neg hq]
    rw [e, if_neg (itoa_any (by omega)), nr_specK _ hK, nr_itoa (by omega) (by omega)]
theorem proto_impl {q : Int} (h : -1 ≤ q ∧ q ≤ 255) : impl_protoRead.f (ba (proto q)) = some (q, true) := by
  unfold impl_protoRead.f
  rw [list_ba]
  by_cases hq : q = -1
  · subst hq
    rw [if_pos (by rw [proto, if_pos rfl])]
  · have e : proto q = Lib.itoa q := by rw [proto, if_neg hq]
    have l := itoa_3 (n := q) ⟨by omega, by omega⟩
    rw [e, if_neg (itoa_any (by omega)), implNR _ (by rw [ba_size]; omega), nr_itoa (by omega) (by omega), Option.bind_some]
theorem protoR_tot (s : ByteArray) (hs : s.size ≤ 1048576) : ∃ r, impl_protoRead.f s = some r := by
  unfold impl_protoRead.f
  split
  · exact ⟨_, rfl⟩
  · rw [implNR _ hs, Option.bind_some]
    exact ⟨_, rfl⟩
/-! ### the law -/
abbrev R22 := Int × Int × Int × Int × Int × Int × Int × Int × Int × Int × Int × Int × Int × Int × Int × Int × Int × Int × Int × Int × Int × Bool
def zero22 : R22 := (0, 0, 0, 0, 0, 0, 0, 0, 0, 0, 0, 0, 0, 0, 0, 0, 0, 0, 0, 0, 0, false)
theorem rule_I64 {p s0 s1 s2 s3 s4 s5 d0 d1 d2 d3 d4 d5 q sl sh dl dh t w c : Int} (h : ruleOk p s0 s1 s2 s3 s4 s5 d0 d1 d2 d3 d4 d5 q sl sh dl dh t w c = true) : I64 p ∧ I64 q ∧ I64 sl ∧ I64 sh ∧ I64 dl ∧ I64 dh ∧ I64 t ∧ I64 w ∧ I64 c := by
  unfold ruleOk rangeOk at h
  simp only [Bool.and_eq_true, T.within_iff, decide_eq_true_eq] at h
  obtain ⟨h1, _, _, h4, h5, h6, h7, h8, h9⟩ := h
  unfold I64
  omega
theorem rule_bd {p s0 s1 s2 s3 s4 s5 d0 d1 d2 d3 d4 d5 q sl sh dl dh t w c : Int} (h : ruleOk p s0 s1 s2 s3 s4 s5 d0 d1 d2 d3 d4 d5 q sl sh dl dh t w c = true) : (1 ≤ p ∧ p ≤ 9999) ∧ prefOk s0 s1 s2 s3 s4 s5 = true ∧ prefOk d0 d1 d2 d3 d4 d5 = true ∧ (-1 ≤ q ∧ q ≤ 255) ∧ rangeOk sl sh = true ∧ rangeOk dl dh = true ∧ (1 ≤ t ∧ t ≤ 8) ∧ (1 ≤ w ∧ w ≤ 10) ∧ (1 ≤ c ∧ c ≤ 8) := by
  unfold ruleOk at h
  simp only [Bool.and_eq_true, T.within_iff] at h
  exact h
theorem range_bd {lo hi : Int} (h : rangeOk lo hi = true) : 0 ≤ lo ∧ lo ≤ 65535 ∧ 0 ≤ hi ∧ hi ≤ 65535 := by
  have hb : 0 ≤ lo ∧ lo ≤ hi ∧ hi ≤ 65535 := by simpa [rangeOk] using h
  omega
theorem proto_no {q : Int} (h : -1 ≤ q) : No 32 (proto q) := by
  unfold proto
  split
  · unfold No; decide
  · exact no_of (.inl (by decide)) (itoa_W (by omega))
theorem pt_no {k a b c d n : Int} (h : prefOk k a b c d n = true) : No 32 (pt k a b c d n) := by
  by_cases hn : isAny k a b c d n = true
  · rw [pt_any hn]
    unfold No
    decide
  · obtain ⟨h1, _⟩ := pref_ok h hn
    obtain ⟨n0, n1⟩ := pref_n h hn
    rw [pt_not hn]
    intro hm
    rcases List.mem_append.1 hm with hm | hm
    · exact at_no h1 (by decide) (by decide) hm
    · rcases List.mem_cons.1 hm with hm | hm
      · exact absurd hm (by decide)
      · exact no_of (.inl (by decide)) (itoa_W n0) hm
theorem two_no {lo hi : Int} (h : rangeOk lo hi = true) : No 32 (Lib.itoa lo ++ [45] ++ Lib.itoa hi) := by
  have hb := range_bd h
  intro hm
  simp only [List.mem_append, List.mem_singleton] at hm
  rcases hm with (hm | hm) | hm
  · exact no_of (.inl (by decide)) (itoa_W hb.1) hm
  · exact absurd hm (by decide)
  · exact no_of (.inl (by decide)) (itoa_W hb.2.2.1) hm
theorem gr_words {P S D Q A1 A2 A3 A4 A5 A6 A7 : List UInt8} (h0 : No 32 P) (h1 : No 32 S) (h2 : No 32 D) (h3 : No 32 Q) (h4 : No 32 (A1 ++ [45] ++ A2)) (h5 : No 32 (A3 ++ [45] ++ A4)) (h6 : No 32 A5) (h7 : No 32 A6) (h8 : No 32 A7) :
    gr 32 (Lib.join (words P S D Q A1 A2 A3 A4 A5 A6 A7) [32]) = words P S D Q A1 A2 A3 A4 A5 A6 A7 := by
  unfold words
  refine gr_join 32 _ _ fun x hx => ?_
  simp only [List.mem_cons, List.not_mem_nil, or_false] at hx
  rcases hx with rfl | rfl | rfl | rfl | rfl | rfl | rfl | rfl | rfl | rfl | rfl | rfl | rfl | rfl | rfl | rfl | rfl <;> first | assumption | (unfold No; decide)
theorem text_gr {p s0 s1 s2 s3 s4 s5 d0 d1 d2 d3 d4 d5 q sl sh dl dh t w c : Int} (h : ruleOk p s0 s1 s2 s3 s4 s5 d0 d1 d2 d3 d4 d5 q sl sh dl dh t w c = true) : gr 32 (text p s0 s1 s2 s3 s4 s5 d0 d1 d2 d3 d4 d5 q sl sh dl dh t w c) = words (Lib.itoa p) (pt s0 s1 s2 s3 s4 s5) (pt d0 d1 d2 d3 d4 d5) (proto q) (Lib.itoa sl) (Lib.itoa sh) (Lib.itoa dl) (Lib.itoa dh) (Lib.itoa t) (Lib.itoa w) (Lib.itoa c) := by
  obtain ⟨b1, b2, b3, b4, b5, b6, b7, b8, b9⟩ := rule_bd h
  exact gr_words (no_of (.inl (by decide)) (itoa_W (by omega))) (pt_no b2) (pt_no b3) (proto_no b4.1) (two_no b5) (two_no b6) (no_of (.inl (by decide)) (itoa_W (by omega))) (no_of (.inl (by decide)) (itoa_W (by omega))) (no_of (.inl (by decide)) (itoa_W (by omega)))
theorem tl {y : List UInt8} {r : List (List UInt8)} {a b : Nat} (h : y.length ≤ a) (hr : (Lib.joinTail [32] r).length ≤ b) : (Lib.joinTail [32] (y :: r)).length ≤ 1 + a + b := by
  rw [tail_cons, List.length_append, List.length_append, List.length_singleton]
  omega
theorem tw {x y : List UInt8} (h1 : x.length ≤ 5) (h2 : y.length ≤ 5) : (x ++ [45] ++ y).length ≤ 11 := by
  rw [List.length_append, List.length_append, List.length_singleton]
  omega
theorem words_len {P S D Q A1 A2 A3 A4 A5 A6 A7 : List UInt8} (h0 : P.length ≤ 5) (h1 : S.length ≤ 43) (h2 : D.length ≤ 43) (h3 : Q.length ≤ 3) (h4 : A1.length ≤ 5) (h5 : A2.length ≤ 5) (h6 : A3.length ≤ 5) (h7 : A4.length ≤ 5) (h8 : A5.length ≤ 3) (h9 : A6.length ≤ 3) (h10 : A7.length ≤ 3) :
    (Lib.join (words P S D Q A1 A2 A3 A4 A5 A6 A7) [32]).length ≤ 300 := by
  have h := tl (y := [102, 114, 111, 109]) (a := 4) (by decide) (tl h1 (tl (y := [116, 111]) (a := 2) (by decide) (tl h2 (tl (y := [112, 114, 111, 116, 111]) (a := 5) (by decide) (tl h3 (tl (y := [115, 112, 111, 114, 116]) (a := 5) (by decide) (tl (tw h4 h5) (tl (y := [100, 112, 111, 114, 116]) (a := 5) (by decide) (tl (tw h6 h7) (tl (y := [116, 101, 110, 97, 110, 116]) (a := 6) (by decide) (tl h8 (tl (y := [119, 101, 105, 103, 104, 116]) (a := 6) (by decide) (tl h9 (tl (y := [99, 104, 97, 105, 110]) (a := 5) (by decide) (tl h10 (show (Lib.joinTail [32] []).length ≤ 0 from Nat.le_refl 0))))))))))))))))
  unfold words
  rw [Lib.join_cons, List.length_append]
  exact Nat.le_trans (Nat.add_le_add h0 h) (by decide)
theorem text_len {p s0 s1 s2 s3 s4 s5 d0 d1 d2 d3 d4 d5 q sl sh dl dh t w c : Int} (h : ruleOk p s0 s1 s2 s3 s4 s5 d0 d1 d2 d3 d4 d5 q sl sh dl dh t w c = true) : (text p s0 s1 s2 s3 s4 s5 d0 d1 d2 d3 d4 d5 q sl sh dl dh t w c).length ≤ 300 := by
  obtain ⟨b1, b2, b3, b4, b5, b6, b7, b8, b9⟩ := rule_bd h
  have r1 := range_bd b5
  have r2 := range_bd b6
  have hq : (proto q).length ≤ 3 := by
    unfold proto
    split
    · simp
    · exact itoa_3 ⟨by omega, by omega⟩
  exact words_len (itoa_5 ⟨by omega, by omega⟩) (pt_len43 b2) (pt_len43 b3) hq (itoa_5 ⟨by omega, by omega⟩) (itoa_5 ⟨by omega, by omega⟩) (itoa_5 ⟨by omega, by omega⟩) (itoa_5 ⟨by omega, by omega⟩) (itoa_3 ⟨by omega, by omega⟩) (itoa_3 ⟨by omega, by omega⟩) (itoa_3 ⟨by omega, by omega⟩)
theorem nrI {a : Int} (h0 : 0 ≤ a) (h : a ≤ 9999) : impl_NumRead.f (ba (Lib.itoa a)) = some (a, true) := by
  have := itoa_5 (n := a) ⟨h0, by omega⟩
  rw [implNR _ (by rw [ba_size]; omega), nr_itoa h0 (by omega)]
theorem nrI5 {a : Int} (h0 : 0 ≤ a) (h : a ≤ 65535) : impl_NumRead.f (ba (Lib.itoa a)) = some (a, true) := by
  have := itoa_5 (n := a) ⟨h0, by omega⟩
  rw [implNR _ (by rw [ba_size]; omega), nr_itoa h0 (by omega)]
theorem nrS {a : Int} (h0 : 0 ≤ a) (h : a ≤ 65535) {K : Nat} (hK : 40 ≤ K) : spec_NumRead.f K (ba (Lib.itoa a)) = some (a, true) := by
  rw [nr_specK _ hK, nr_itoa h0 (by omega)]
theorem rw0 {P S D Q A1 A2 A3 A4 A5 A6 A7 : List UInt8} : rdOf ByteArray.empty ((words P S D Q A1 A2 A3 A4 A5 A6 A7).map ba) 0 = ba P := rfl
theorem rw2 {P S D Q A1 A2 A3 A4 A5 A6 A7 : List UInt8} : rdOf ByteArray.empty ((words P S D Q A1 A2 A3 A4 A5 A6 A7).map ba) 2 = ba S := rfl
theorem rw4 {P S D Q A1 A2 A3 A4 A5 A6 A7 : List UInt8} : rdOf ByteArray.empty ((words P S D Q A1 A2 A3 A4 A5 A6 A7).map ba) 4 = ba D := rfl
theorem rw6 {P S D Q A1 A2 A3 A4 A5 A6 A7 : List UInt8} : rdOf ByteArray.empty ((words P S D Q A1 A2 A3 A4 A5 A6 A7).map ba) 6 = ba Q := rfl
theorem rw8 {P S D Q A1 A2 A3 A4 A5 A6 A7 : List UInt8} : rdOf ByteArray.empty ((words P S D Q A1 A2 A3 A4 A5 A6 A7).map ba) 8 = ba (A1 ++ [45] ++ A2) := rfl
theorem rw10 {P S D Q A1 A2 A3 A4 A5 A6 A7 : List UInt8} : rdOf ByteArray.empty ((words P S D Q A1 A2 A3 A4 A5 A6 A7).map ba) 10 = ba (A3 ++ [45] ++ A4) := rfl
theorem rw12 {P S D Q A1 A2 A3 A4 A5 A6 A7 : List UInt8} : rdOf ByteArray.empty ((words P S D Q A1 A2 A3 A4 A5 A6 A7).map ba) 12 = ba A5 := rfl
theorem rw14 {P S D Q A1 A2 A3 A4 A5 A6 A7 : List UInt8} : rdOf ByteArray.empty ((words P S D Q A1 A2 A3 A4 A5 A6 A7).map ba) 14 = ba A6 := rfl
theorem rw16 {P S D Q A1 A2 A3 A4 A5 A6 A7 : List UInt8} : rdOf ByteArray.empty ((words P S D Q A1 A2 A3 A4 A5 A6 A7).map ba) 16 = ba A7 := rfl
theorem impl_back {p s0 s1 s2 s3 s4 s5 d0 d1 d2 d3 d4 d5 q sl sh dl dh t w c : Int} (h : ruleOk p s0 s1 s2 s3 s4 s5 d0 d1 d2 d3 d4 d5 q sl sh dl dh t w c = true) {K : Nat} (hK : 2100000 ≤ K) : impl_RuleRead.f K (ba (text p s0 s1 s2 s3 s4 s5 d0 d1 d2 d3 d4 d5 q sl sh dl dh t w c)) = some (p, s0, s1, s2, s3, s4, s5, d0, d1, d2, d3, d4, d5, q, sl, sh, dl, dh, t, w, c, true) := by
  obtain ⟨b1, b2, b3, b4, b5, b6, b7, b8, b9⟩ := rule_bd h
  obtain ⟨i1, i2, i3, i4, i5, i6, i7, i8, i9⟩ := rule_I64 h
  have r1 := range_bd b5
  have r2 := range_bd b6
  have hl := text_len h
  obtain ⟨K, rfl⟩ : ∃ j, K = j + 1 := ⟨K - 1, by omega⟩
  unfold impl_RuleRead.f
  rw [split_eq 32 ⟨#[32]⟩ rfl _ (by rw [ba_size]; omega), Option.bind_some, ba_data, text_gr h, if_pos (by rw [List.length_map]; rfl)]
  rw [rw0, rw2, rw4, rw6, rw8, rw10, rw12, rw14, rw16]
  rw [implPR_at b2 hK, Option.bind_some, implPR_at b3 hK, Option.bind_some, proto_impl b4, Option.bind_some, nrI (by omega) (by omega), Option.bind_some, cut2_at b5, Option.bind_some]
  simp only []
  rw [nrI5 r1.1 r1.2.1, Option.bind_some, nrI5 r1.2.2.1 r1.2.2.2, Option.bind_some, cut2_at b6, Option.bind_some]
  simp only []
  rw [nrI5 r2.1 r2.2.1, Option.bind_some, nrI5 r2.2.2.1 r2.2.2.2, Option.bind_some, nrI (by omega) (by omega), Option.bind_some, nrI (by omega) (by omega), Option.bind_some, nrI (by omega) (by omega), Option.bind_some]
  simp only [Bool.and_self, if_true]
  rw [implRT i1 i2 i3 i4 i5 i6 i7 i8 i9 h (by omega), Option.bind_some, if_pos rfl]
theorem spec_back {p s0 s1 s2 s3 s4 s5 d0 d1 d2 d3 d4 d5 q sl sh dl dh t w c : Int} (h : ruleOk p s0 s1 s2 s3 s4 s5 d0 d1 d2 d3 d4 d5 q sl sh dl dh t w c = true) {K : Nat} (hK : 2100000 ≤ K) : spec_RuleRead.f K (ba (text p s0 s1 s2 s3 s4 s5 d0 d1 d2 d3 d4 d5 q sl sh dl dh t w c)) = some (p, s0, s1, s2, s3, s4, s5, d0, d1, d2, d3, d4, d5, q, sl, sh, dl, dh, t, w, c, true) := by
  obtain ⟨b1, b2, b3, b4, b5, b6, b7, b8, b9⟩ := rule_bd h
  obtain ⟨i1, i2, i3, i4, i5, i6, i7, i8, i9⟩ := rule_I64 h
  have r1 := range_bd b5
  have r2 := range_bd b6
  have hl := text_len h
  obtain ⟨K, rfl⟩ : ∃ j, K = j + 1 := ⟨K - 1, by omega⟩
  unfold spec_RuleRead.f
  rw [if_neg (by rw [ba_size]; omega), group_eq 32 32 rfl _ (by rw [ba_size]; omega) (by rw [ba_size]; omega), Option.bind_some, ba_data, text_gr h, if_pos (by rw [List.length_map]; rfl)]
  rw [rw0, rw2, rw4, rw6, rw8, rw10, rw12, rw14, rw16]
  rw [nrS (by omega) (by omega) (by omega), Option.bind_some, specPR_at b2 (by omega), Option.bind_some, specPR_at b3 (by omega), Option.bind_some]
  simp only [if_true]
  rw [proto_spec b4 (by omega), Option.bind_some, two_at b5 (by omega), Option.bind_some, two_at b6 (by omega), Option.bind_some, nrS (by omega) (by omega) (by omega), Option.bind_some, nrS (by omega) (by omega) (by omega), Option.bind_some, nrS (by omega) (by omega) (by omega), Option.bind_some]
  simp only [if_true]
  rw [specRule _ _ _ _ _ _ _ _ _ _ _ _ _ _ _ _ _ _ _ _ _ (by omega), Option.bind_some, if_pos h, specRT i1 i2 i3 i4 i5 i6 i7 i8 i9 h (by omega), Option.bind_some, if_pos rfl]
def Acc (s : ByteArray) (r : R22) : Prop := ∃ p s0 s1 s2 s3 s4 s5 d0 d1 d2 d3 d4 d5 q sl sh dl dh t w c : Int, r = (p, s0, s1, s2, s3, s4, s5, d0, d1, d2, d3, d4, d5, q, sl, sh, dl, dh, t, w, c, true) ∧ ruleOk p s0 s1 s2 s3 s4 s5 d0 d1 d2 d3 d4 d5 q sl sh dl dh t w c = true ∧ s = ba (text p s0 s1 s2 s3 s4 s5 d0 d1 d2 d3 d4 d5 q sl sh dl dh t w c)
theorem toList_inj {a b : ByteArray} (h : a.toList = b.toList) : a = b := by
  rw [toList_data, toList_data] at h
  exact ByteArray.ext (Array.ext' h)
theorem spec_end (s : ByteArray) (p s0 s1 s2 s3 s4 s5 d0 d1 d2 d3 d4 d5 q sl sh dl dh t w c : Int) {K : Nat} (hK : 2100000 ≤ K) : ∃ r : R22, ((spec_RuleOk.f K p s0 s1 s2 s3 s4 s5 d0 d1 d2 d3 d4 d5 q sl sh dl dh t w c).bind fun ok => if ok = true then (spec_RuleText.f K p s0 s1 s2 s3 s4 s5 d0 d1 d2 d3 d4 d5 q sl sh dl dh t w c).bind fun tx => if tx.toList = s.toList then some (p, s0, s1, s2, s3, s4, s5, d0, d1, d2, d3, d4, d5, q, sl, sh, dl, dh, t, w, c, true) else some (0, 0, 0, 0, 0, 0, 0, 0, 0, 0, 0, 0, 0, 0, 0, 0, 0, 0, 0, 0, 0, false) else some (0, 0, 0, 0, 0, 0, 0, 0, 0, 0, 0, 0, 0, 0, 0, 0, 0, 0, 0, 0, 0, false)) = some r ∧ (r = zero22 ∨ Acc s r) := by
  obtain ⟨K, rfl⟩ : ∃ j, K = j + 1 := ⟨K - 1, by omega⟩
  rw [specRule _ _ _ _ _ _ _ _ _ _ _ _ _ _ _ _ _ _ _ _ _ (by omega), Option.bind_some]
  by_cases h : ruleOk p s0 s1 s2 s3 s4 s5 d0 d1 d2 d3 d4 d5 q sl sh dl dh t w c = true
  · obtain ⟨i1, i2, i3, i4, i5, i6, i7, i8, i9⟩ := rule_I64 h
    rw [if_pos h, specRT i1 i2 i3 i4 i5 i6 i7 i8 i9 h (by omega), Option.bind_some]
    by_cases he : (ba (text p s0 s1 s2 s3 s4 s5 d0 d1 d2 d3 d4 d5 q sl sh dl dh t w c)).toList = s.toList
    · rw [if_pos he]
      exact ⟨_, rfl, .inr ⟨p, s0, s1, s2, s3, s4, s5, d0, d1, d2, d3, d4, d5, q, sl, sh, dl, dh, t, w, c, rfl, h, (toList_inj he).symm⟩⟩
    · rw [if_neg he]
      exact ⟨_, rfl, .inl rfl⟩
  · rw [if_neg h]
    exact ⟨_, rfl, .inl rfl⟩
theorem impl_end (s : ByteArray) (hne : ¬ s.data.toList = []) (p s0 s1 s2 s3 s4 s5 d0 d1 d2 d3 d4 d5 q sl sh dl dh t w c : Int) {K : Nat} (hK : 2100000 ≤ K) : ∃ r : R22, ((impl_RuleText.f K p s0 s1 s2 s3 s4 s5 d0 d1 d2 d3 d4 d5 q sl sh dl dh t w c).bind fun tx => if tx.toList = s.toList then some (p, s0, s1, s2, s3, s4, s5, d0, d1, d2, d3, d4, d5, q, sl, sh, dl, dh, t, w, c, true) else some (0, 0, 0, 0, 0, 0, 0, 0, 0, 0, 0, 0, 0, 0, 0, 0, 0, 0, 0, 0, 0, false)) = some r ∧ (r = zero22 ∨ Acc s r) := by
  obtain ⟨K, rfl⟩ : ∃ j, K = j + 1 := ⟨K - 1, by omega⟩
  by_cases h : ruleOk p s0 s1 s2 s3 s4 s5 d0 d1 d2 d3 d4 d5 q sl sh dl dh t w c = true
  · obtain ⟨i1, i2, i3, i4, i5, i6, i7, i8, i9⟩ := rule_I64 h
    rw [implRT i1 i2 i3 i4 i5 i6 i7 i8 i9 h (by omega), Option.bind_some]
    by_cases he : (ba (text p s0 s1 s2 s3 s4 s5 d0 d1 d2 d3 d4 d5 q sl sh dl dh t w c)).toList = s.toList
    · rw [if_pos he]
      exact ⟨_, rfl, .inr ⟨p, s0, s1, s2, s3, s4, s5, d0, d1, d2, d3, d4, d5, q, sl, sh, dl, dh, t, w, c, rfl, h, (toList_inj he).symm⟩⟩
    · rw [if_neg he]
      exact ⟨_, rfl, .inl rfl⟩
  · unfold impl_RuleText.f
    rw [implRule _ _ _ _ _ _ _ _ _ _ _ _ _ _ _ _ _ _ _ _ _ (by omega), Option.bind_some, if_neg h, Option.bind_some, if_neg]
    · exact ⟨_, rfl, .inl rfl⟩
    · intro he
      rw [toList_data, toList_data] at he
      exact hne he.symm
theorem protoS_tot (s : ByteArray) {K : Nat} (hK : 40 ≤ K) : ∃ r, (if s.toList = ([97, 110, 121] : List UInt8) then some ((-1 : Int), true) else spec_NumRead.f K s) = some r := by
  split
  · exact ⟨_, rfl⟩
  · exact ⟨_, nr_specK _ hK⟩
theorem spec_any (s : ByteArray) {K : Nat} (hK : 2100000 ≤ K) : ∃ r, spec_RuleRead.f K s = some r ∧ (r = zero22 ∨ Acc s r) := by
  have hz : ∃ r : R22, (some (0, 0, 0, 0, 0, 0, 0, 0, 0, 0, 0, 0, 0, 0, 0, 0, 0, 0, 0, 0, 0, false) : Option R22) = some r ∧ (r = zero22 ∨ Acc s r) := ⟨_, rfl, .inl rfl⟩
  unfold spec_RuleRead.f
  by_cases h3 : (s.size : Int) > 300
  · rw [if_pos h3]
    exact hz
  · have hsz : s.data.toList.length = s.size := rfl
    have hr : ∀ i, (rdOf ByteArray.empty ((gr 32 s.data.toList).map ba) i).size ≤ 300 := by
      intro i
      unfold rdOf
      rw [List.getD_eq_getElem?_getD]
      cases hx : ((gr 32 s.data.toList).map ba)[i.toNat]? with
      | none => simp
      | some x =>
        obtain ⟨y, hy, rfl⟩ := List.mem_map.1 (List.mem_of_getElem? hx)
        have := gr_len 32 _ y hy
        show (ba y).size ≤ 300
        rw [ba_size]
        omega
    rw [if_neg h3, group_eq 32 32 rfl s (by omega) (by omega), Option.bind_some]
    by_cases h17 : ((gr 32 s.data.toList).map ba).length = 17
    · generalize (gr 32 s.data.toList).map ba = T at h17 hr
      obtain ⟨S, eS⟩ := specPR_tot (rdOf ByteArray.empty T 2) (K := K) (by omega)
      obtain ⟨D, eD⟩ := specPR_tot (rdOf ByteArray.empty T 4) (K := K) (by omega)
      obtain ⟨q, eq⟩ := protoS_tot (rdOf ByteArray.empty T 6) (K := K) (by omega)
      obtain ⟨A, eA⟩ := two_tot (rdOf ByteArray.empty T 8) (hr _) (K := K) (by omega)
      obtain ⟨B, eB⟩ := two_tot (rdOf ByteArray.empty T 10) (hr _) (K := K) (by omega)
      rw [if_pos h17, nr_specK _ (by omega), Option.bind_some, eS, Option.bind_some, eD, Option.bind_some]
      split
      · split
        · rw [eq, Option.bind_some, eA, Option.bind_some, eB, Option.bind_some, nr_specK _ (by omega), Option.bind_some, nr_specK _ (by omega), Option.bind_some, nr_specK _ (by omega), Option.bind_some]
          split
          · split
            · exact spec_end s _ _ _ _ _ _ _ _ _ _ _ _ _ _ _ _ _ _ _ _ _ hK
            · exact hz
          · exact hz
        · exact hz
      · exact hz
    · rw [if_neg h17]
      exact hz
theorem impl_any (s : ByteArray) (hs : s.size ≤ 1048576) {K : Nat} (hK : 2100000 ≤ K) : ∃ r, impl_RuleRead.f K s = some r ∧ (r = zero22 ∨ Acc s r) := by
  have hz : ∃ r : R22, (some (0, 0, 0, 0, 0, 0, 0, 0, 0, 0, 0, 0, 0, 0, 0, 0, 0, 0, 0, 0, 0, false) : Option R22) = some r ∧ (r = zero22 ∨ Acc s r) := ⟨_, rfl, .inl rfl⟩
  have hsz : s.data.toList.length = s.size := rfl
  have hr : ∀ i, (rdOf ByteArray.empty ((gr 32 s.data.toList).map ba) i).size ≤ 1048576 := by
    intro i
    unfold rdOf
    rw [List.getD_eq_getElem?_getD]
    cases hx : ((gr 32 s.data.toList).map ba)[i.toNat]? with
    | none => simp
    | some x =>
      obtain ⟨y, hy, rfl⟩ := List.mem_map.1 (List.mem_of_getElem? hx)
      have := gr_len 32 _ y hy
      show (ba y).size ≤ 1048576
      rw [ba_size]
      omega
  have hne : ((gr 32 s.data.toList).map ba).length = 17 → ¬ s.data.toList = [] := by
    intro h17 h0
    rw [h0] at h17
    simp [gr] at h17
  unfold impl_RuleRead.f
  rw [split_eq 32 ⟨#[32]⟩ rfl s hs, Option.bind_some]
  by_cases h17 : ((gr 32 s.data.toList).map ba).length = 17
  · have hne := hne h17
    generalize (gr 32 s.data.toList).map ba = T at h17 hr
    obtain ⟨S, eS⟩ := implPR_tot (rdOf ByteArray.empty T 2) (hr _) hK
    obtain ⟨D, eD⟩ := implPR_tot (rdOf ByteArray.empty T 4) (hr _) hK
    obtain ⟨q, eq⟩ := protoR_tot (rdOf ByteArray.empty T 6) (hr _)
    obtain ⟨a1, a2, a3, eA, l1, l2⟩ := cut_eq (rdOf ByteArray.empty T 8) ⟨#[45]⟩ (hr _)
    obtain ⟨c1, c2, c3, eB, l3, l4⟩ := cut_eq (rdOf ByteArray.empty T 10) ⟨#[45]⟩ (hr _)
    rw [if_pos h17, eS, Option.bind_some, eD, Option.bind_some, eq, Option.bind_some, implNR _ (hr _), Option.bind_some, eA, Option.bind_some]
    simp only []
    rw [implNR _ l1, Option.bind_some, implNR _ l2, Option.bind_some, eB, Option.bind_some]
    simp only []
    rw [implNR _ l3, Option.bind_some, implNR _ l4, Option.bind_some, implNR _ (hr _), Option.bind_some, implNR _ (hr _), Option.bind_some, implNR _ (hr _), Option.bind_some]
    split
    · split
      · split
        · split
          · exact impl_end s hne _ _ _ _ _ _ _ _ _ _ _ _ _ _ _ _ _ _ _ _ _ hK
          · exact hz
        · exact hz
      · exact hz
    · exact hz
  · rw [if_neg h17]
    exact hz
theorem same (s : ByteArray) (hs : s.size ≤ 1048576) {K : Nat} (hK : 2100000 ≤ K) : ∃ r : R22, spec_RuleRead.f K s = some r ∧ impl_RuleRead.f K s = some r := by
  obtain ⟨r, hr, hr'⟩ := spec_any s hK
  obtain ⟨i, hi, hi'⟩ := impl_any s hs hK
  rcases hi' with rfl | ⟨p, s0, s1, s2, s3, s4, s5, d0, d1, d2, d3, d4, d5, q, sl, sh, dl, dh, t, w, c, rfl, ok, rfl⟩
  · rcases hr' with rfl | ⟨p, s0, s1, s2, s3, s4, s5, d0, d1, d2, d3, d4, d5, q, sl, sh, dl, dh, t, w, c, rfl, ok, rfl⟩
    · exact ⟨_, hr, hi⟩
    · exact ⟨_, hr, impl_back ok hK⟩
  · exact ⟨_, spec_back ok hK, hi⟩
theorem pure (s : ByteArray) : laws_FnExactRuleRead.f 2100000 s = some true := by
  unfold laws_FnExactRuleRead.f
  by_cases h : (s.size : Int) > 1048576
  · rw [if_pos h]
  · obtain ⟨⟨p, s0, s1, s2, s3, s4, s5, d0, d1, d2, d3, d4, d5, q, sl, sh, dl, dh, t, w, c, b⟩, h1, h2⟩ := same s (by omega) (Nat.le_refl 2100000)
    rw [if_neg h, h1, h2, Option.bind_some, Option.bind_some]
    simp [laws_eqRule.f, laws_eqPrefix.f, laws_eqAddr.f]
end Go.Proofs.YtbihbbkdciebhaaGreatDoor.UFnExactRuleRead
