/- What the printed functions on addresses and keys come to: plain lemmas on numbers. No condition. -/
import Derived.Test.YtbfbfaoolkbodaaPWsx
import Derived.Test.YtbfbfaoolkbodaaFr

namespace Go.Proofs.Ytbfbfaoolkbodaa.T
open Go.RowKit Go.Proofs.YtbfbfaoolkbodaaW.PrintWords Go.Proofs.YtbfbfaoolkbodaaW.PrintLast Go.Proofs.YtbfbfaoolkbodaaW.PrintMore Go.Proofs.YtbfbfaoolkbodaaFr Go.Proofs.Ytbfbfaoolkbodaa.PWs
set_option linter.unusedVariables false
set_option linter.unusedSimpArgs false
/-! ### wheels: sizes, conversions, equality -/
theorem wr1 {x : Int} (h : -9223372036854775808 ≤ x ∧ x ≤ 9223372036854775807) : wrap64 x = x := by unfold wrap64; omega
theorem inc1 {i : Nat} (h : i ≤ 4194304) : wrap64 ((i : Int) + 1) = ((i + 1 : Nat) : Int) := by rw [wr1 (by omega)]; rfl
def cT (y : S76) : S50 := ⟨y.f0, y.f1⟩
def cP (y : S65) : S47 := ⟨y.f0.map cT⟩
def tot (l : List S65) : Nat := (l.map fun y => y.f0.length).sum
def totW (L : List S47) : Nat := (L.map fun y => y.f0.length).sum
theorem tot_cons (x : S65) (L : List S65) : tot (x :: L) = x.f0.length + tot L := by simp [tot]
theorem totW_cons (x : S47) (L : List S47) : totW (x :: L) = x.f0.length + totW L := by simp [totW]
theorem rdp {L : List S47} {i : Nat} (h : i < L.length) : rd_T47 L (i : Int) = L[i] := by simp [rd_T47, h]
theorem rdt {L : List S50} {i : Nat} (h : i < L.length) : rd_T50 L (i : Int) = L[i] := by simp [rd_T50, h]
theorem szW_ (l : List S65) (hm : ∀ y ∈ l, y.f0.length ≤ maxLen) : ∀ (d i k : Nat) (left : Int), i + d = l.length → d < k → 0 ≤ left → left ≤ 1048576 → l.length ≤ 1048576 → (laws_szSpokeS.l0 k l left (i : Int) = some (-1) ∨ (laws_szSpokeS.l0 k l left (i : Int) = some (left - (tot (l.drop i) : Int)) ∧ (tot (l.drop i) : Int) ≤ left)) := by
  intro d
  induction d with
  | zero =>
    intro i k left h1 h2 h3 h4 h5
    obtain ⟨k, rfl⟩ : ∃ k', k = k' + 1 := ⟨k - 1, by omega⟩
    simp only [laws_szSpokeS.l0]
    rw [if_neg (by omega), List.drop_eq_nil_of_le (by omega)]
    exact .inr ⟨by simp [tot], by simp [tot]; exact h3⟩
  | succ d ih =>
    intro i k left h1 h2 h3 h4 h5
    obtain ⟨k, rfl⟩ : ∃ k', k = k' + 1 := ⟨k - 1, by omega⟩
    have hi : i < l.length := by omega
    have hc : rd_T65 l (i : Int) = l[i] := by simp [rd_T65, hi]
    have hml := hm l[i] (List.getElem_mem hi)
    unfold maxLen at hml
    have ht : tot (l.drop i) = l[i].f0.length + tot (l.drop (i + 1)) := by rw [List.drop_eq_getElem_cons hi, tot_cons]
    simp only [laws_szSpokeS.l0, hc, laws_szSpoke.f, laws_szTimerS.f]
    rw [if_pos (by omega), if_pos (by omega), wr1 (x := left - _) (by omega)]
    by_cases hn : left - (l[i].f0.length : Int) < 0
    · rw [if_pos hn]
      simp
    · rw [if_neg hn]
      simp only [Option.bind_some]
      rw [if_neg hn, Option.bind_some, if_neg hn, inc1 (by omega)]
      rcases ih (i + 1) k (left - (l[i].f0.length : Int)) (by omega) (by omega) (by omega) (by omega) h5 with h | ⟨h, h'⟩
      · exact .inl h
      · refine .inr ⟨h.trans (congrArg some (by omega)), by omega⟩
theorem szW (s : Int) (l : List S65) (hl : l.length ≤ maxLen) (hm : ∀ y ∈ l, y.f0.length ≤ maxLen) {k : Nat} (hk : l.length < k) : laws_szWheel.f k s l 1048576 = some (-1) ∨ (∃ t, laws_szWheel.f k s l 1048576 = some t ∧ 0 ≤ t ∧ l.length ≤ 1048576 ∧ tot l ≤ 1048576) := by
  unfold maxLen at hl
  unfold laws_szWheel.f laws_szSpokeS.f
  rw [wr1 (x := 1048576 - _) (by omega)]
  by_cases hn : 1048576 - (l.length : Int) < 0
  · rw [if_pos hn]; exact .inl rfl
  · rw [if_neg hn]
    have := szW_ l hm l.length 0 k (1048576 - (l.length : Int)) (by omega) hk (by omega) (by omega) (by omega)
    rw [show ((0 : Nat) : Int) = 0 from rfl, List.drop_zero] at this
    rcases this with h | ⟨h, h'⟩
    · rw [h]; exact .inl rfl
    · rw [h, Option.bind_some, if_neg (by omega)]
      exact .inr ⟨_, rfl, by omega, by omega, by omega⟩
theorem toTs_ (l : List S76) (hl : l.length ≤ 1048577) : ∀ (d i k : Nat) (x : List S50), i + d = l.length → d < k → x.length = l.length → x.take i = (l.map cT).take i → laws_toTimerS.l0 k l x (i : Int) = some (l.map cT) := by
  intro d
  induction d with
  | zero =>
    intro i k x h1 h2 h3 h4
    obtain ⟨k, rfl⟩ : ∃ k', k = k' + 1 := ⟨k - 1, by omega⟩
    simp only [laws_toTimerS.l0]
    rw [if_neg (by omega)]
    rw [List.take_of_length_le (by omega), List.take_of_length_le (by simp; omega)] at h4
    rw [h4]
  | succ d ih =>
    intro i k x h1 h2 h3 h4
    obtain ⟨k, rfl⟩ : ∃ k', k = k' + 1 := ⟨k - 1, by omega⟩
    have hi : i < l.length := by omega
    have hc : rd_T76 l (i : Int) = l[i] := by simp [rd_T76, hi]
    simp only [laws_toTimerS.l0, hc, laws_toTimer.f, Option.bind_some]
    rw [if_pos (by omega), if_pos (by omega), if_pos (by omega), inc1 (by omega), Int.toNat_natCast]
    refine ih (i + 1) k _ (by omega) (by omega) (by simp [h3]) ?_
    rw [List.take_add_one, List.take_add_one, List.take_set_of_le (Nat.le_refl i), h4]
    congr 1
    rw [List.getElem?_set_self (by omega), List.getElem?_map, List.getElem?_eq_getElem hi]
    rfl
theorem toTs (l : List S76) (hl : l.length ≤ 1048577) {k : Nat} (hk : l.length < k) : laws_toTimerS.f k l = some (l.map cT) := by
  unfold laws_toTimerS.f
  rw [if_pos (by omega), if_pos (by omega)]
  have := toTs_ l hl l.length 0 k (List.replicate ((l.length : Int) : Int).toNat z50) (by omega) hk (by simp) (by simp)
  rw [show ((0 : Nat) : Int) = 0 from rfl] at this
  exact this
theorem len_tot {l : List S65} {y : S65} (h : y ∈ l) : y.f0.length ≤ tot l := by
  induction l with
  | nil => cases h
  | cons x l ih =>
    rcases List.mem_cons.1 h with rfl | h
    · simp [tot]
    · have := ih h
      simp only [tot, List.map_cons, List.sum_cons] at this ⊢
      omega
theorem toPs_ (l : List S65) (hl : l.length ≤ 1048577) (K : Nat) (hm : ∀ y ∈ l, y.f0.length ≤ 1048577 ∧ y.f0.length < K) : ∀ (d i k : Nat) (x : List S47), i + d = l.length → d + K ≤ k → x.length = l.length → x.take i = (l.map cP).take i → laws_toSpokeS.l0 (k + 1) l x (i : Int) = some (l.map cP) := by
  intro d
  induction d with
  | zero =>
    intro i k x h1 h2 h3 h4
    simp only [laws_toSpokeS.l0]
    rw [if_neg (by omega)]
    rw [List.take_of_length_le (by omega), List.take_of_length_le (by simp; omega)] at h4
    rw [h4]
  | succ d ih =>
    intro i k x h1 h2 h3 h4
    have hi : i < l.length := by omega
    have hc : rd_T65 l (i : Int) = l[i] := by simp [rd_T65, hi]
    have hml := hm l[i] (List.getElem_mem hi)
    simp only [laws_toSpokeS.l0, hc, laws_toSpoke.f]
    rw [if_pos (by omega), if_pos (by omega), toTs _ hml.1 (by omega), Option.bind_some, Option.bind_some, if_pos (by omega), inc1 (by omega), Int.toNat_natCast]
    obtain ⟨k, rfl⟩ : ∃ k', k = k' + 1 := ⟨k - 1, by omega⟩
    refine ih (i + 1) k _ (by omega) (by omega) (by simp [h3]) ?_
    rw [List.take_add_one, List.take_add_one, List.take_set_of_le (Nat.le_refl i), h4]
    congr 1
    rw [List.getElem?_set_self (by omega), List.getElem?_map, List.getElem?_eq_getElem hi]
    rfl
theorem toW (s : Int) (l : List S65) (hl : l.length ≤ 1048576) (ht : tot l ≤ 1048576) {k : Nat} (hk : l.length + tot l + 2 < k) : laws_toWheel.f k s l = some (s, l.map cP) := by
  unfold laws_toWheel.f laws_toSpokeS.f
  rw [if_pos (by omega), if_pos (by omega)]
  obtain ⟨k, rfl⟩ : ∃ k', k = k' + 1 := ⟨k - 1, by omega⟩
  have := toPs_ l (by omega) (tot l + 1) (fun y hy => by have := len_tot hy; omega) l.length 0 k (List.replicate ((l.length : Int) : Int).toNat z47) (by omega) (by omega) (by simp) (by simp)
  rw [show ((0 : Nat) : Int) = 0 from rfl] at this
  rw [this]
  rfl
theorem eqTs_ (L : List S50) (hL : L.length ≤ 1048577) : ∀ (d i k : Nat), i + d = L.length → d < k → laws_eqTimerS.l0 k L L (i : Int) = some true := by
  intro d
  induction d with
  | zero =>
    intro i k h1 h2
    obtain ⟨k, rfl⟩ : ∃ k', k = k' + 1 := ⟨k - 1, by omega⟩
    simp only [laws_eqTimerS.l0]
    rw [if_neg (by omega)]
  | succ d ih =>
    intro i k h1 h2
    obtain ⟨k, rfl⟩ : ∃ k', k = k' + 1 := ⟨k - 1, by omega⟩
    simp only [laws_eqTimerS.l0, laws_eqTimer.f]
    rw [if_pos (by omega), if_pos (by omega), if_pos (by omega), if_pos trivial, if_pos trivial, Option.bind_some, if_pos rfl, inc1 (by omega)]
    exact ih (i + 1) k (by omega) (by omega)
theorem eqTs (L : List S50) (hL : L.length ≤ 1048577) {k : Nat} (hk : L.length < k) : laws_eqTimerS.f k L L = some true := by
  unfold laws_eqTimerS.f
  rw [if_pos rfl]
  have := eqTs_ L hL L.length 0 k (by omega) hk
  rw [show ((0 : Nat) : Int) = 0 from rfl] at this
  exact this
theorem len_totW {l : List S47} {y : S47} (h : y ∈ l) : y.f0.length ≤ totW l := by
  induction l with
  | nil => cases h
  | cons x l ih =>
    rcases List.mem_cons.1 h with rfl | h
    · simp [totW]
    · have := ih h
      simp only [totW, List.map_cons, List.sum_cons] at this ⊢
      omega
theorem eqPs_ (L : List S47) (hL : L.length ≤ 1048577) (K : Nat) (hm : ∀ y ∈ L, y.f0.length ≤ 1048577 ∧ y.f0.length < K) : ∀ (d i k : Nat), i + d = L.length → d + K ≤ k → laws_eqSpokeS.l0 (k + 1) L L (i : Int) = some true := by
  intro d
  induction d with
  | zero =>
    intro i k h1 h2
    simp only [laws_eqSpokeS.l0]
    rw [if_neg (by omega)]
  | succ d ih =>
    intro i k h1 h2
    have hi : i < L.length := by omega
    have hml := hm L[i] (List.getElem_mem hi)
    simp only [laws_eqSpokeS.l0, rdp hi, laws_eqSpoke.f]
    rw [if_pos (by omega), if_pos (by omega), if_pos (by omega), eqTs _ hml.1 (by omega), Option.bind_some, if_pos rfl, Option.bind_some, if_pos rfl, inc1 (by omega)]
    obtain ⟨k, rfl⟩ : ∃ k', k = k' + 1 := ⟨k - 1, by omega⟩
    exact ih (i + 1) k (by omega) (by omega)
theorem eqW (s : Int) (L : List S47) (hL : L.length ≤ 1048576) (ht : totW L ≤ 1048576) {k : Nat} (hk : L.length + totW L + 2 < k) : laws_eqWheel.f k s L s L = some true := by
  unfold laws_eqWheel.f laws_eqSpokeS.f
  rw [if_pos rfl, if_pos rfl]
  obtain ⟨k, rfl⟩ : ∃ k', k = k' + 1 := ⟨k - 1, by omega⟩
  have := eqPs_ L (by omega) (totW L + 1) (fun y hy => by have := len_totW hy; omega) L.length 0 k (by omega) (by omega)
  rw [show ((0 : Nat) : Int) = 0 from rfl] at this
  rw [this]
  rfl
theorem tot_map (l : List S65) : totW (l.map cP) = tot l := by
  unfold totW tot
  rw [List.map_map]
  congr 1
  refine List.map_congr_left fun y _ => ?_
  simp [cP]
/-! ### WheelOk -/
def allT (L : List S47) : List S50 := L.flatMap (fun s => s.f0)
theorem allT_cons (s : S47) (L : List S47) : allT (s :: L) = s.f0 ++ allT L := by simp [allT]
theorem allT_len (L : List S47) : (allT L).length = totW L := by simp [allT, totW, List.length_flatMap]
def wokI (now : Int) (L : List S47) : Bool := Gv.wheelOk (fun s : S47 => s.f0) (fun x : S50 => x.f0) (fun x : S50 => x.f1) now L
theorem wi_iff {n a b : Int} : Gv.wi n a b = true ↔ a ≤ n ∧ n ≤ b := by unfold Gv.wi; rw [Bool.and_eq_true, decide_eq_true_eq, decide_eq_true_eq]
def okT (now i : Int) (x : S50) : Prop := Gv.wi x.f0 0 9999 = true ∧ Gv.wi x.f1 (wrap64 (now + 1)) (wrap64 (now + 1000)) = true ∧ Int.tmod x.f1 8 = i
theorem bad_iff (now i : Int) (seen : List Int) (x : S50) : Gv.wkBad now i seen x.f0 x.f1 = false ↔ okT now i x ∧ x.f0 ∉ seen := by
  unfold Gv.wkBad okT
  simp only [Bool.or_eq_false_iff, Bool.not_eq_false', beq_iff_eq]
  constructor
  · rintro ⟨h1, h2, h3, h4⟩
    exact ⟨⟨h1, h3, h4⟩, by simpa using h2⟩
  · rintro ⟨⟨h1, h3, h4⟩, h2⟩
    exact ⟨h1, by simpa using h2, h3, h4⟩
theorem wkIn_iff (now i : Int) : ∀ (l : List S50) (seen r : List Int), seen.Nodup → (Gv.wkIn (fun x : S50 => x.f0) (fun x : S50 => x.f1) now i l seen = some r ↔ (r = seen ++ l.map (fun x => x.f0) ∧ (seen ++ l.map (fun x => x.f0)).Nodup ∧ ∀ x ∈ l, okT now i x))
  | [], seen, r, hs => by simp [Gv.wkIn, hs, eq_comm]
  | x :: l, seen, r, hs => by
    rw [Gv.wkIn]
    cases hb : Gv.wkBad now i seen x.f0 x.f1 with
    | true =>
      rw [if_pos rfl]
      constructor
      · intro h; cases h
      · rintro ⟨_, h2, h3⟩
        have := (bad_iff now i seen x).2 ⟨h3 x List.mem_cons_self, fun hm => by
          rw [List.nodup_append] at h2
          exact h2.2.2 _ hm x.f0 (by simp) rfl⟩
        rw [hb] at this
        cases this
    | false =>
      have hx := (bad_iff now i seen x).1 hb
      rw [if_neg (by decide), wkIn_iff now i l (seen ++ [x.f0]) r (List.nodup_append.2 ⟨hs, by simp, fun a ha b hb e => hx.2 (by simp at hb; rw [← hb, ← e]; exact ha)⟩)]
      simp only [List.append_assoc, List.singleton_append, List.map_cons, List.mem_cons, forall_eq_or_imp]
      constructor
      · rintro ⟨h1, h2, h3⟩; exact ⟨h1, h2, hx.1, h3⟩
      · rintro ⟨h1, h2, _, h3⟩; exact ⟨h1, h2, h3⟩
theorem wkOut_iff (now : Int) : ∀ (L : List S47) (i : Nat) (seen r : List Int), seen.Nodup → (Gv.wkOut (fun s : S47 => s.f0) (fun x : S50 => x.f0) (fun x : S50 => x.f1) now L i seen = some r ↔ (r = seen ++ (allT L).map (fun x => x.f0) ∧ (seen ++ (allT L).map (fun x => x.f0)).Nodup ∧ ∀ (j : Nat) (s : S47), L[j]? = some s → ∀ x ∈ s.f0, okT now ((i + j : Nat) : Int) x))
  | [], i, seen, r, hs => by simp [Gv.wkOut, allT, hs, eq_comm]
  | s :: L, i, seen, r, hs => by
    have hall : allT (s :: L) = s.f0 ++ allT L := by simp [allT]
    rw [Gv.wkOut, Option.bind_eq_some_iff]
    constructor
    · rintro ⟨m, h1, h2⟩
      obtain ⟨rfl, g2, g3⟩ := (wkIn_iff now i s.f0 seen m hs).1 h1
      obtain ⟨e1, e2, e3⟩ := (wkOut_iff now L (i + 1) _ r g2).1 h2
      rw [hall, List.map_append, ← List.append_assoc]
      refine ⟨e1, e2, fun j s' hj x hx => ?_⟩
      cases j with
      | zero => injection hj with hj; subst hj; exact g3 x hx
      | succ j =>
        have := e3 j s' hj x hx
        rwa [show i + 1 + j = i + (j + 1) by omega] at this
    · rw [hall, List.map_append, ← List.append_assoc]
      rintro ⟨e1, e2, e3⟩
      have g2 := (List.nodup_append.1 e2).1
      refine ⟨_, (wkIn_iff now i s.f0 seen _ hs).2 ⟨rfl, g2, fun x hx => e3 0 s rfl x hx⟩, (wkOut_iff now L (i + 1) _ r g2).2 ⟨e1, e2, fun j s' hj x hx => ?_⟩⟩
      have := e3 (j + 1) s' hj x hx
      rwa [show i + (j + 1) = i + 1 + j by omega] at this
theorem wokI_iff (now : Int) (L : List S47) : wokI now L = true ↔ (0 ≤ now ∧ now ≤ 1000000000000) ∧ L.length = 8 ∧ (allT L).length ≤ 64 ∧ ((allT L).map (fun x => x.f0)).Nodup ∧ ∀ (j : Nat) (s : S47), L[j]? = some s → ∀ x ∈ s.f0, okT now (j : Int) x := by
  unfold wokI Gv.wheelOk
  by_cases h0 : (Gv.wi now 0 1000000000000 && decide (L.length = 8)) = true
  · rw [if_pos h0]
    rw [Bool.and_eq_true, wi_iff, decide_eq_true_eq] at h0
    cases hw : Gv.wkOut (fun s : S47 => s.f0) (fun x : S50 => x.f0) (fun x : S50 => x.f1) now L 0 [] with
    | none =>
      simp only [Gv.wkEnd]
      constructor
      · intro h; cases h
      · rintro ⟨_, _, _, h4, h5⟩
        have := (wkOut_iff now L 0 [] _ List.nodup_nil).2 ⟨rfl, by simpa using h4, fun j s hj x hx => by rw [Nat.zero_add]; exact h5 j s hj x hx⟩
        rw [hw] at this
        cases this
    | some r =>
      obtain ⟨e1, e2, e3⟩ := (wkOut_iff now L 0 [] r List.nodup_nil).1 hw
      simp only [Gv.wkEnd, decide_eq_true_eq]
      rw [e1, List.nil_append, List.length_map]
      rw [List.nil_append] at e2
      exact ⟨fun h => ⟨h0.1, h0.2, h, e2, fun j s hj x hx => by have := e3 j s hj x hx; rwa [Nat.zero_add] at this⟩, fun h => h.2.2.1⟩
  · rw [if_neg h0]
    constructor
    · intro h; cases h
    · rintro ⟨h1, h2, _⟩
      exact absurd (by rw [Bool.and_eq_true, wi_iff, decide_eq_true_eq]; exact ⟨h1, h2⟩) h0
def all4 (i : Int) (l : List S50) : Bool := l.all (fun x => Int.tmod x.f1 8 == i)
def all3 (L : List S47) : Nat → Nat → Bool
  | 0, _ => true
  | d + 1, i => all4 (i : Int) (L.getD i z47).f0 && all3 L d (i + 1)
theorem getDp {L : List S47} {i : Nat} (h : i < L.length) : L.getD i z47 = L[i] := by rw [List.getD_eq_getElem?_getD, List.getElem?_eq_getElem h]; rfl
theorem specL4 (now : Int) (L : List S47) (b : Bool) (K : Nat) (i : Nat) (hi : i < L.length) (hm : L[i].f0.length ≤ 64) (hL : L.length = 8) (hc : ∀ k, K ≤ k → spec_WheelOk.l3 k ((i + 1 : Nat) : Int) now L = some b) : ∀ (d j k : Nat), j + d = L[i].f0.length → K + d + 1 ≤ k → spec_WheelOk.l4 k (i : Int) (j : Int) now L = some (all4 (i : Int) (L[i].f0.drop j) && b) := by
  intro d
  induction d with
  | zero =>
    intro j k h1 h2
    obtain ⟨k, rfl⟩ : ∃ k', k = k' + 1 := ⟨k - 1, by omega⟩
    simp only [spec_WheelOk.l4, rdp hi]
    rw [if_pos (by omega), if_pos (by omega), if_neg (by omega), inc1 (by omega), hc k (by omega), List.drop_eq_nil_of_le (by omega)]
    rfl
  | succ d ih =>
    intro j k h1 h2
    obtain ⟨k, rfl⟩ : ∃ k', k = k' + 1 := ⟨k - 1, by omega⟩
    have hj : j < L[i].f0.length := by omega
    simp only [spec_WheelOk.l4, rdp hi, rdt hj]
    rw [if_pos (by omega), if_pos (by omega), if_pos (by omega), if_pos (by omega), inc1 (by omega), ih (j + 1) k (by omega) (by omega), List.drop_eq_getElem_cons hj]
    unfold all4
    rw [List.all_cons]
    by_cases h : Int.tmod L[i].f0[j].f1 8 = (i : Int)
    · rw [if_pos h, beq_iff_eq.2 h]; rfl
    · rw [if_neg h, beq_eq_false_iff_ne.2 h]; rfl
theorem specL3 (now : Int) (L : List S47) (hL : L.length = 8) (hm : ∀ s ∈ L, s.f0.length ≤ 64) : ∀ (d i k : Nat), i + d = 8 → 70 * d + 1 ≤ k → spec_WheelOk.l3 k (i : Int) now L = some (all3 L d i) := by
  intro d
  induction d with
  | zero =>
    intro i k h1 h2
    obtain ⟨k, rfl⟩ : ∃ k', k = k' + 1 := ⟨k - 1, by omega⟩
    simp only [spec_WheelOk.l3]
    rw [if_neg (by omega)]
    rfl
  | succ d ih =>
    intro i k h1 h2
    obtain ⟨k, rfl⟩ : ∃ k', k = k' + 1 := ⟨k - 1, by omega⟩
    have hi : i < L.length := by omega
    have hml := hm L[i] (List.getElem_mem hi)
    simp only [spec_WheelOk.l3]
    have := specL4 now L (all3 L d (i + 1)) (70 * d + 1) i hi hml hL (fun k hk => ih (i + 1) k (by omega) hk) L[i].f0.length 0 k (by omega) (by omega)
    rw [show ((0 : Nat) : Int) = 0 from rfl, List.drop_zero] at this
    rw [if_pos (by omega), this, all3, getDp hi]
def fine (now : Int) (A : List S50) (i : Nat) : Bool := Gv.wi (A.getD i z50).f0 0 9999 && (decide (now < (A.getD i z50).f1 ∧ (A.getD i z50).f1 ≤ wrap64 (now + 1000)))
def dif (A : List S50) (i : Nat) : Nat → Nat → Bool
  | 0, _ => true
  | d + 1, j => !((A.getD j z50).f0 == (A.getD i z50).f0) && dif A i d (j + 1)
def all1 (now : Int) (A : List S50) : Nat → Nat → Bool
  | 0, _ => true
  | d + 1, i => (fine now A i && dif A i i 0) && all1 now A d (i + 1)
theorem getDt {A : List S50} {i : Nat} (h : i < A.length) : A.getD i z50 = A[i] := by rw [List.getD_eq_getElem?_getD, List.getElem?_eq_getElem h]; rfl
theorem specL2 (now : Int) (L : List S47) (A : List S50) (hA : A.length ≤ 64) (b : Bool) (K i : Nat) (hi : i < A.length) (hc : ∀ k, K ≤ k → spec_WheelOk.l1 k A ((i + 1 : Nat) : Int) now L = some b) : ∀ (d j k : Nat), j + d = i → K + d + 1 ≤ k → spec_WheelOk.l2 k A (i : Int) (j : Int) now L = some (dif A i d j && b) := by
  intro d
  induction d with
  | zero =>
    intro j k h1 h2
    obtain ⟨k, rfl⟩ : ∃ k', k = k' + 1 := ⟨k - 1, by omega⟩
    simp only [spec_WheelOk.l2]
    rw [if_neg (by omega), inc1 (by omega), hc k (by omega)]
    rfl
  | succ d ih =>
    intro j k h1 h2
    obtain ⟨k, rfl⟩ : ∃ k', k = k' + 1 := ⟨k - 1, by omega⟩
    have hj : j < A.length := by omega
    simp only [spec_WheelOk.l2, rdt hj, rdt hi]
    rw [if_pos (by omega), if_pos (by omega), if_pos (by omega), if_pos (by omega), if_pos (by omega), inc1 (by omega), ih (j + 1) k (by omega) (by omega), dif, getDt hj, getDt hi]
    by_cases h : A[j].f0 = A[i].f0
    · rw [if_pos h, beq_iff_eq.2 h]; rfl
    · rw [if_neg h, beq_eq_false_iff_ne.2 h]; rfl
theorem specL1 (now : Int) (L : List S47) (hL : L.length = 8) (hm : ∀ s ∈ L, s.f0.length ≤ 64) (A : List S50) (hA : A.length ≤ 64) : ∀ (d i k : Nat), i + d = A.length → 70 * d + 600 ≤ k → spec_WheelOk.l1 k A (i : Int) now L = some (all1 now A d i && all3 L 8 0) := by
  intro d
  induction d with
  | zero =>
    intro i k h1 h2
    obtain ⟨k, rfl⟩ : ∃ k', k = k' + 1 := ⟨k - 1, by omega⟩
    simp only [spec_WheelOk.l1]
    have := specL3 now L hL hm 8 0 k rfl (by omega)
    rw [show ((0 : Nat) : Int) = 0 from rfl] at this
    rw [if_neg (by omega), this]
    rfl
  | succ d ih =>
    intro i k h1 h2
    obtain ⟨k, rfl⟩ : ∃ k', k = k' + 2 := ⟨k - 2, by omega⟩
    have hi : i < A.length := by omega
    have h2' := specL2 now L A hA (all1 now A d (i + 1) && all3 L 8 0) (70 * d + 600) i hi (fun k hk => ih (i + 1) k (by omega) hk) i 0 k (by omega) (by omega)
    rw [show ((0 : Nat) : Int) = 0 from rfl] at h2'
    simp only [spec_WheelOk.l1, rdt hi, spec_WheelOk.j3, h2']
    rw [if_pos (by omega), if_pos (by omega)]
    simp only [all1, fine, getDt hi]
    unfold Gv.wi
    by_cases h0 : A[i].f0 < 0
    · rw [if_pos h0, decide_eq_false (show ¬ 0 ≤ A[i].f0 by omega)]; rfl
    · rw [if_neg h0, decide_eq_true (show 0 ≤ A[i].f0 by omega)]
      by_cases h9 : A[i].f0 > 9999
      · rw [if_pos h9, decide_eq_false (show ¬ A[i].f0 ≤ 9999 by omega)]; rfl
      · rw [if_neg h9, decide_eq_true (show A[i].f0 ≤ 9999 by omega)]
        by_cases hn : A[i].f1 ≤ now
        · rw [if_pos hn, decide_eq_false (show ¬ (now < A[i].f1 ∧ A[i].f1 ≤ wrap64 (now + 1000)) by omega)]; rfl
        · rw [if_neg hn]
          by_cases hh : A[i].f1 > wrap64 (now + 1000)
          · rw [decide_eq_true hh, decide_eq_false (show ¬ (now < A[i].f1 ∧ A[i].f1 ≤ wrap64 (now + 1000)) by omega)]; rfl
          · rw [decide_eq_false hh, decide_eq_true (show (now < A[i].f1 ∧ A[i].f1 ≤ wrap64 (now + 1000)) by omega)]
            simp [Bool.and_assoc]
theorem allF_ (s : Int) (L : List S47) (hL : L.length ≤ 1048577) : ∀ (d i k : Nat) (acc : List S50), i + d = L.length → d < k → acc.length + totW (L.drop i) ≤ 1048577 → spec_l12All.l0 k acc (i : Int) s L = some (acc ++ allT (L.drop i)) := by
  intro d
  induction d with
  | zero =>
    intro i k acc h1 h2 h3
    obtain ⟨k, rfl⟩ : ∃ k', k = k' + 1 := ⟨k - 1, by omega⟩
    simp only [spec_l12All.l0]
    rw [if_neg (by omega), List.drop_eq_nil_of_le (by omega)]
    simp [allT]
  | succ d ih =>
    intro i k acc h1 h2 h3
    obtain ⟨k, rfl⟩ : ∃ k', k = k' + 1 := ⟨k - 1, by omega⟩
    have hi : i < L.length := by omega
    have ht : totW (L.drop i) = L[i].f0.length + totW (L.drop (i + 1)) := by rw [List.drop_eq_getElem_cons hi, totW_cons]
    simp only [spec_l12All.l0, rdp hi]
    rw [if_pos (by omega), if_pos (by omega), if_pos (by omega), inc1 (by omega), ih (i + 1) k _ (by omega) (by omega) (by simp; omega), List.drop_eq_getElem_cons hi, allT_cons, List.append_assoc]
theorem allF (s : Int) (L : List S47) (hL : L.length ≤ 1048577) (ht : totW L ≤ 1048577) {k : Nat} (hk : L.length < k) : spec_l12All.f k s L = some (allT L) := by
  unfold spec_l12All.f
  have := allF_ s L hL L.length 0 k [] (by omega) hk (by simpa using ht)
  rw [show ((0 : Nat) : Int) = 0 from rfl, List.drop_zero, List.nil_append] at this
  exact this
theorem totW_drop {L : List S47} {i : Nat} (hi : i < L.length) : totW (L.drop i) = L[i].f0.length + totW (L.drop (i + 1)) := by rw [List.drop_eq_getElem_cons hi, totW_cons]
theorem specL0 (now : Int) (L : List S47) (hL : L.length = 8) (ht : totW L ≤ 1048577) : ∀ (d i n k : Nat), i + d = 8 → 6000 + d ≤ k → n + totW (L.drop i) = totW L → (64 < n ∨ ∀ j (h : j < L.length), j < i → L[j].f0.length ≤ 64) → spec_WheelOk.l0 k (n : Int) (i : Int) now L = some (if totW L ≤ 64 then all1 now (allT L) (allT L).length 0 && all3 L 8 0 else false) := by
  intro d
  induction d with
  | zero =>
    intro i n k h1 h2 h3 h4
    obtain ⟨k, rfl⟩ : ∃ k', k = k' + 1 := ⟨k - 1, by omega⟩
    have hn : n = totW L := by rw [List.drop_eq_nil_of_le (by omega)] at h3; simpa [totW] using h3
    simp only [spec_WheelOk.l0]
    rw [if_neg (by omega)]
    by_cases h : totW L ≤ 64
    · have hA := allT_len L
      have := specL1 now L hL (fun s hs => by have := len_totW hs; omega) (allT L) (by omega) (allT L).length 0 k (by omega) (by omega)
      rw [show ((0 : Nat) : Int) = 0 from rfl] at this
      rw [if_neg (by omega), allF now L (by omega) ht (by omega), Option.bind_some, this, if_pos h]
    · rw [if_pos (by omega), if_neg h]
  | succ d ih =>
    intro i n k h1 h2 h3 h4
    obtain ⟨k, rfl⟩ : ∃ k', k = k' + 1 := ⟨k - 1, by omega⟩
    have hi : i < L.length := by omega
    have hd := totW_drop hi
    simp only [spec_WheelOk.l0, rdp hi]
    rw [if_pos (by omega), if_pos (by omega), if_pos (by omega)]
    by_cases h : (L[i].f0.length : Int) > 64
    · rw [if_pos h, if_neg (by omega)]
    · rw [if_neg h, inc1 (by omega), wr1 (by omega), show (n : Int) + (L[i].f0.length : Int) = ((n + L[i].f0.length : Nat) : Int) from rfl]
      refine ih (i + 1) _ k (by omega) (by omega) (by omega) ?_
      rcases h4 with h4 | h4
      · exact .inl (by omega)
      · refine .inr fun j hj hji => ?_
        by_cases e : j = i
        · subst e; omega
        · exact h4 j hj (by omega)
theorem all3_iff (L : List S47) : ∀ d i, i + d ≤ L.length → (all3 L d i = true ↔ ∀ (j : Nat) (s : S47), i ≤ j → j < i + d → L[j]? = some s → ∀ x ∈ s.f0, Int.tmod x.f1 8 = (j : Int))
  | 0, i, _ => by simp only [all3, true_iff]; intro j s h1 h2; omega
  | d + 1, i, hd => by
    have hi : i < L.length := by omega
    rw [all3, Bool.and_eq_true, all3_iff L d (i + 1) (by omega), getDp hi]
    unfold all4
    rw [List.all_eq_true]
    constructor
    · rintro ⟨h1, h2⟩ j s g1 g2 g3 x hx
      by_cases e : j = i
      · subst e
        rw [List.getElem?_eq_getElem hi] at g3
        injection g3 with g3
        subst g3
        simpa using h1 x hx
      · exact h2 j s (by omega) (by omega) g3 x hx
    · intro h
      exact ⟨fun x hx => by simpa using h i L[i] (Nat.le_refl _) (by omega) (List.getElem?_eq_getElem hi) x hx, fun j s g1 g2 => h j s (by omega) (by omega)⟩
theorem dif_iff (A : List S50) (i : Nat) : ∀ d j, dif A i d j = true ↔ ∀ m, j ≤ m → m < j + d → (A.getD m z50).f0 ≠ (A.getD i z50).f0
  | 0, j => by simp only [dif, true_iff]; intro m h1 h2; omega
  | d + 1, j => by
    rw [dif, Bool.and_eq_true, dif_iff A i d (j + 1), Bool.not_eq_true', beq_eq_false_iff_ne]
    constructor
    · rintro ⟨h1, h2⟩ m g1 g2
      by_cases e : m = j
      · subst e; exact h1
      · exact h2 m (by omega) (by omega)
    · intro h
      exact ⟨h j (Nat.le_refl _) (by omega), fun m g1 g2 => h m (by omega) (by omega)⟩
theorem all1_iff (now : Int) (A : List S50) : ∀ d i, all1 now A d i = true ↔ ∀ m, i ≤ m → m < i + d → fine now A m = true ∧ ∀ j, j < m → (A.getD j z50).f0 ≠ (A.getD m z50).f0
  | 0, i => by simp only [all1, true_iff]; intro m h1 h2; omega
  | d + 1, i => by
    rw [all1, Bool.and_eq_true, Bool.and_eq_true, all1_iff now A d (i + 1), dif_iff]
    constructor
    · rintro ⟨⟨h1, h2⟩, h3⟩ m g1 g2
      by_cases e : m = i
      · subst e; exact ⟨h1, fun j hj => h2 j (Nat.zero_le _) (by omega)⟩
      · exact h3 m (by omega) (by omega)
    · intro h
      exact ⟨⟨(h i (Nat.le_refl _) (by omega)).1, fun m g1 g2 => (h i (Nat.le_refl _) (by omega)).2 m (by omega)⟩, fun m g1 g2 => h m (by omega) (by omega)⟩
theorem mem_all {L : List S47} {x : S50} : x ∈ allT L ↔ ∃ (j : Nat) (s : S47), L[j]? = some s ∧ x ∈ s.f0 := by
  unfold allT
  rw [List.mem_flatMap]
  constructor
  · rintro ⟨s, hs, hx⟩
    obtain ⟨j, hj, e⟩ := List.mem_iff_getElem.1 hs
    exact ⟨j, s, by rw [List.getElem?_eq_getElem hj, e], hx⟩
  · rintro ⟨j, s, hj, hx⟩
    exact ⟨s, List.mem_of_getElem? hj, hx⟩
theorem spec_iff (now : Int) (L : List S47) (h0 : 0 ≤ now ∧ now ≤ 1000000000000) (hL : L.length = 8) : (if totW L ≤ 64 then all1 now (allT L) (allT L).length 0 && all3 L 8 0 else false) = wokI now L := by
  rw [Bool.eq_iff_iff, wokI_iff]
  have hw1 : wrap64 (now + 1) = now + 1 := wr1 (by omega)
  have hw2 : wrap64 (now + 1000) = now + 1000 := wr1 (by omega)
  by_cases ht : totW L ≤ 64
  · rw [if_pos ht, Bool.and_eq_true, all1_iff, all3_iff L 8 0 (by omega)]
    have hlen := allT_len L
    constructor
    · rintro ⟨h1, h2⟩
      refine ⟨h0, hL, by omega, ?_, fun j s hj x hx => ?_⟩
      · rw [List.nodup_iff_pairwise_ne] at *
        rw [List.pairwise_map, List.pairwise_iff_getElem]
        intro i j hi hj hij
        have := (h1 j (Nat.zero_le _) (by omega)).2 i hij
        rwa [getDt hi, getDt hj] at this
      · have hmem : x ∈ allT L := mem_all.2 ⟨j, s, hj, hx⟩
        obtain ⟨m, hm, rfl⟩ := List.mem_iff_getElem.1 hmem
        have hf := (h1 m (Nat.zero_le _) (by omega)).1
        unfold fine at hf
        rw [getDt hm, Bool.and_eq_true, decide_eq_true_eq, hw2] at hf
        have hjl : j < 8 := by rw [← hL]; exact (List.getElem?_eq_some_iff.1 hj).1
        exact ⟨hf.1, wi_iff.2 (by rw [hw1, hw2]; omega), h2 j s (Nat.zero_le _) (by omega) hj _ hx⟩
    · rintro ⟨_, _, _, h4, h5⟩
      refine ⟨fun m _ hm => ?_, fun j s _ _ hj x hx => (h5 j s hj x hx).2.2⟩
      have hm' : m < (allT L).length := by omega
      obtain ⟨j, s, hj, hx⟩ := mem_all.1 (List.getElem_mem hm')
      obtain ⟨g1, g2, _⟩ := h5 j s hj _ hx
      rw [wi_iff, hw1, hw2] at g2
      refine ⟨?_, fun i hi => ?_⟩
      · unfold fine
        rw [getDt hm', Bool.and_eq_true, decide_eq_true_eq, hw2]
        exact ⟨g1, by omega⟩
      · rw [getDt (show i < (allT L).length by omega), getDt hm']
        rw [List.nodup_iff_pairwise_ne, List.pairwise_map, List.pairwise_iff_getElem] at h4
        exact h4 i m (by omega) hm' hi
  · rw [if_neg ht]
    have hlen := allT_len L
    exact ⟨fun h => (by cases h), fun h => (by omega)⟩
theorem specWok (now : Int) (L : List S47) (hl : L.length ≤ 1048577) (ht : totW L ≤ 1048577) {k : Nat} (hk : 6010 ≤ k) : spec_WheelOk.f k now L = some (wokI now L) := by
  obtain ⟨k, rfl⟩ : ∃ k', k = k' + 1 := ⟨k - 1, by omega⟩
  have hj : spec_WheelOk.j0 (k + 1) true now L = some false := by simp [spec_WheelOk.j0]
  have hf : ¬ ((0 ≤ now ∧ now ≤ 1000000000000) ∧ L.length = 8) → wokI now L = false := fun h => by
    rw [← Bool.not_eq_true, wokI_iff]
    rintro ⟨h1, h2, _⟩
    exact h ⟨h1, h2⟩
  unfold spec_WheelOk.f
  by_cases h0 : now < 0
  · rw [if_pos h0, hj, hf (by omega)]
  · rw [if_neg h0]
    by_cases h1 : now > 1000000000000
    · rw [if_pos h1, hj, hf (by omega)]
    · rw [if_neg h1]
      by_cases h8 : L.length = 8
      · rw [show ((L.length : Int) != 8) = false from bne_eq_false_iff_eq.2 (by omega)]
        simp only [spec_WheelOk.j0]
        have := specL0 now L h8 ht 8 0 0 k rfl (by omega) (by simp) (.inr fun j _ h => by omega)
        rw [show ((0 : Nat) : Int) = 0 from rfl] at this
        rw [if_neg (by decide), this, spec_iff now L (by omega) h8]
      · rw [show ((L.length : Int) != 8) = true from bne_iff_ne.2 (by omega), hj, hf (by omega)]
/-! ### WheelNext -/
theorem timersF_ (L : List S47) (hL : L.length ≤ 1048577) : ∀ (d i k : Nat) (acc : List S50), i + d = L.length → d < k → acc.length + totW (L.drop i) ≤ 1048577 → impl_Wheel_timers.l0 k acc L (L.length : Int) (i : Int) = some (acc ++ allT (L.drop i)) := by
  intro d
  induction d with
  | zero =>
    intro i k acc h1 h2 h3
    obtain ⟨k, rfl⟩ : ∃ k', k = k' + 1 := ⟨k - 1, by omega⟩
    simp only [impl_Wheel_timers.l0]
    rw [if_neg (by omega), List.drop_eq_nil_of_le (by omega)]
    simp [allT]
  | succ d ih =>
    intro i k acc h1 h2 h3
    obtain ⟨k, rfl⟩ : ∃ k', k = k' + 1 := ⟨k - 1, by omega⟩
    have hi : i < L.length := by omega
    have ht := totW_drop hi
    simp only [impl_Wheel_timers.l0, rdp hi]
    rw [if_pos (by omega), if_pos (by omega), if_pos (by omega), if_pos (by omega), inc1 (by omega), ih (i + 1) k _ (by omega) (by omega) (by simp; omega), List.drop_eq_getElem_cons hi, allT_cons, List.append_assoc]
theorem timersF (s : Int) (L : List S47) (hL : L.length ≤ 1048577) (ht : totW L ≤ 1048577) {k : Nat} (hk : L.length < k) : impl_Wheel_timers.f k s L = some (allT L) := by
  unfold impl_Wheel_timers.f
  have := timersF_ L hL L.length 0 k [] (by omega) hk (by simpa using ht)
  rw [show ((0 : Nat) : Int) = 0 from rfl, List.drop_zero, List.nil_append] at this
  exact this
/-! ### WheelNew -/
/-! ### wheels: what is marked, what is left out -/
theorem stepW (m : Nat) {a : Int} (h0 : -9223372036854775808 ≤ a) (h : a + m ≤ 9223372036854775807) : Gv.stepN Gv.nx m a = a + m := by
  induction m with
  | zero => simp [Gv.stepN]
  | succ m ih =>
    rw [Gv.stepN, ih (by omega), Gv.nx, wr1 (by omega)]
    omega
theorem stepWW (n : Nat) {a : Int} (h0 : -9223372036854775808 ≤ a) (h : a + 2 * n ≤ 9223372036854775807) : Gv.stepN (Gv.stepN Gv.nx 2) n a = a + 2 * n := by
  induction n with
  | zero => simp [Gv.stepN]
  | succ n ih =>
    rw [Gv.stepN, ih (by omega), stepW 2 (by omega) (by omega)]
    omega
theorem heldW_append {α : Type} (q : α → Int → Bool) (f : Int → Int) : ∀ (A : List α) (x : α) (a : Int), Gv.heldL q f (A ++ [x]) a = (Gv.heldL q f A a).bind fun b => if q x b = true then some (f b) else none
  | [], x, a => by simp [Gv.heldL]
  | y :: A, x, a => by
    simp only [List.cons_append, Gv.heldL]
    split
    · exact heldW_append q f A x (f a)
    · rfl
theorem heldW_mk {α : Type} (q : α → Int → Bool) (f : Int → Int) (mk : Int → α) (h : ∀ b, q (mk b) b = true) (a : Int) : ∀ n, Gv.heldL q f (Gv.mkL mk f n a) a = some (Gv.stepN f n a)
  | 0 => rfl
  | n + 1 => by
    rw [Gv.mkL, heldW_append, heldW_mk q f mk h a n, Option.bind_some, if_pos (h _)]
    rfl
theorem markPl : ∀ (l : List S47) (a : Int), (Mk.markP l a).1.length = l.length
  | [], a => rfl
  | s :: l, a => by simp [Mk.markP, markPl l]
theorem markP2 : ∀ (L : List S47) (a : Int), 0 ≤ a → a + 2 * (totW L : Int) ≤ 90000000 → (Mk.markP L a).2 = a + 2 * (totW L : Int)
  | [], a, _, _ => by simp [Mk.markP, totW]
  | s :: L, a, h0, h => by
    rw [totW_cons] at h ⊢
    rw [Mk.markP]
    simp only
    rw [stepWW s.f0.length (by omega) (by omega), markP2 L _ (by omega) (by omega)]
    omega
theorem heldP_ (X : List S47) (hX : X.length ≤ 1048577) : ∀ (L : List S47) (i k : Nat) (a : Int), X.drop i = (Mk.markP L a).1 → L.length < k → 0 ≤ a → a + 2 * (totW L : Int) ≤ 90000000 → laws_heldSpokeS.l0 k X a (i : Int) = some (a + 2 * (totW L : Int))
  | [], i, k, a, hd, hk, h0, h => by
    obtain ⟨k, rfl⟩ : ∃ k', k = k' + 1 := ⟨k - 1, by omega⟩
    have hi : X.length ≤ i := List.drop_eq_nil_iff.1 hd
    simp only [laws_heldSpokeS.l0]
    rw [if_neg (by omega)]
    simp [totW]
  | s :: L, i, k, a, hd, hk, h0, h => by
    obtain ⟨k, rfl⟩ : ∃ k', k = k' + 1 := ⟨k - 1, by omega⟩
    rw [Mk.markP] at hd
    have hi : i < X.length := by
      rcases Nat.lt_or_ge i X.length with h1 | h1
      · exact h1
      · rw [List.drop_eq_nil_of_le h1] at hd; cases hd
    rw [List.drop_eq_getElem_cons hi] at hd
    obtain ⟨hx, ht⟩ := List.cons.inj hd
    rw [totW_cons] at h
    simp only [laws_heldSpokeS.l0, rdp hi, hx, laws_heldTimerS.f]
    rw [if_pos (by omega), if_pos (by omega), heldW_mk _ _ _ (fun b => by simp), Option.bind_some, stepWW s.f0.length (by omega) (by omega), if_neg (by omega), inc1 (by omega)]
    rw [stepWW s.f0.length (by omega) (by omega)] at ht
    simp only [List.length_cons] at hk
    rw [heldP_ X hX L (i + 1) k _ ht (by omega) (by omega) (by omega), totW_cons]
    congr 1
    omega
theorem heldP (s : Int) (L : List S47) (hL : L.length ≤ 1048576) (ht : totW L ≤ 1048577) {k : Nat} (hk : L.length < k) : laws_heldWheel.f k s (Mk.markP L 1).1 1 = some (1 + 2 * (totW L : Int)) := by
  unfold laws_heldWheel.f laws_heldSpokeS.f
  have := heldP_ (Mk.markP L 1).1 (by rw [markPl]; omega) L 0 k 1 rfl hk (by omega) (by omega)
  rw [show ((0 : Nat) : Int) = 0 from rfl] at this
  rw [this, Option.bind_some, if_neg (by omega)]
def keepF (id : Int) (s : S47) : S47 := ⟨s.f0.filter fun x => !(x.f0 == id)⟩
theorem keepF_tot (id : Int) : ∀ (L : List S47), totW (L.map (keepF id)) ≤ totW L
  | [] => Nat.le_refl _
  | s :: L => by
    rw [List.map_cons, totW_cons, totW_cons]
    have h1 := keepF_tot id L
    have h2 : (keepF id s).f0.length ≤ s.f0.length := List.length_filter_le _ _
    omega
theorem hasF_ (id : Int) (A : List S50) (hA : A.length ≤ 1048577) : ∀ (d i k : Nat), i + d = A.length → d < k → spec_l12Has.l0 k id A (i : Int) = some ((A.drop i).any fun x => x.f0 == id) := by
  intro d
  induction d with
  | zero =>
    intro i k h1 h2
    obtain ⟨k, rfl⟩ : ∃ k', k = k' + 1 := ⟨k - 1, by omega⟩
    simp only [spec_l12Has.l0]
    rw [if_neg (by omega), List.drop_eq_nil_of_le (by omega)]
    rfl
  | succ d ih =>
    intro i k h1 h2
    obtain ⟨k, rfl⟩ : ∃ k', k = k' + 1 := ⟨k - 1, by omega⟩
    have hi : i < A.length := by omega
    simp only [spec_l12Has.l0, rdt hi]
    rw [if_pos (show (i : Int) < (A.length : Int) by omega), if_pos (by omega), List.drop_eq_getElem_cons hi, List.any_cons]
    by_cases hx : A[i].f0 = id
    · rw [if_pos hx, show (A[i].f0 == id) = true from beq_iff_eq.2 hx, Bool.true_or]
    · rw [if_neg hx, show (A[i].f0 == id) = false from beq_eq_false_iff_ne.2 hx, Bool.false_or, inc1 (by omega), ih (i + 1) k (by omega) (by omega)]
theorem hasF (s id : Int) (L : List S47) (hL : L.length ≤ 1048577) (ht : totW L ≤ 1048577) {k : Nat} (hk : L.length + totW L < k) : spec_l12Has.f k s L id = some ((allT L).any fun x => x.f0 == id) := by
  have hA := allT_len L
  unfold spec_l12Has.f
  rw [allF s L hL ht (by omega), Option.bind_some]
  have := hasF_ id (allT L) (by omega) (allT L).length 0 k (by omega) (by omega)
  rw [show ((0 : Nat) : Int) = 0 from rfl, List.drop_zero] at this
  exact this
theorem idxT_tot {α : Type} (q : α → Bool) : ∀ (l : List α) (i : Int), 0 ≤ i → ∃ r, Gv.idxO (fun x => some (q x)) l i = some r ∧ decide (r ≥ 0) = l.any q
  | [], _, _ => ⟨-1, rfl, rfl⟩
  | x :: l, i, hi => by
    obtain ⟨r, h1, h2⟩ := idxT_tot q l (i + 1) (by omega)
    cases hq : q x with
    | true => exact ⟨i, by simp [Gv.idxO, hq], by simp [hq, hi]⟩
    | false => exact ⟨r, by simpa [Gv.idxO, hq] using h1, by simpa [hq] using h2⟩
theorem hasI (s id : Int) (L : List S47) (hL : L.length ≤ 1048577) (ht : totW L ≤ 1048577) {k : Nat} (hk : L.length < k) : impl_Wheel_hasTimer.f k s L id = some ((allT L).any fun x => x.f0 == id) := by
  unfold impl_Wheel_hasTimer.f impl_Timer_c45.f
  obtain ⟨r, h1, h2⟩ := idxT_tot (fun x : S50 => x.f0 == id) (allT L) 0 (by omega)
  rw [timersF s L hL ht hk, Option.bind_some, h1, Option.bind_some, Option.bind_some, h2]
theorem without1 (id now now' : Int) (L Y : List S47) (i : Nat) (hi : i < L.length) (hY : i < Y.length) (hL : L.length ≤ 1048577) (hs : L[i].f0.length ≤ 1048577) (hx : ∀ x ∈ L[i].f0, x.f1 ≠ -1) : ∀ (d j k : Nat) (acc : List S50), j + d = L[i].f0.length → acc.length + d ≤ 8000000 → spec_l12Without.l1 (k + d + 1) id (-1) (i : Int) acc (j : Int) now L now' Y = spec_l12Without.l0 k id (-1) ((i + 1 : Nat) : Int) now L now' (Y.set i ⟨acc ++ (L[i].f0.drop j).filter fun x => !(x.f0 == id)⟩) := by
  intro d
  induction d with
  | zero =>
    intro j k acc h1 h2
    simp only [Nat.add_zero, spec_l12Without.l1, rdp hi]
    rw [if_pos (by omega), if_pos (by omega), if_neg (by omega), if_pos (by omega), inc1 (by omega), List.drop_eq_nil_of_le (by omega), Int.toNat_natCast]
    simp
  | succ d ih =>
    intro j k acc h1 h2
    have hj : j < L[i].f0.length := by omega
    rw [show k + (d + 1) + 1 = (k + d + 1) + 1 by omega]
    conv => lhs; rw [spec_l12Without.l1]
    simp only [rdp hi, rdt hj]
    rw [if_pos (by omega), if_pos (by omega), if_pos (by omega), if_pos (by omega), inc1 (by omega), List.drop_eq_getElem_cons hj]
    by_cases hid : L[i].f0[j].f0 = id
    · rw [if_pos hid, ih (j + 1) k acc (by omega) (by omega), List.filter_cons_of_neg (by simp [hid])]
    · rw [if_neg hid, if_neg (hx _ (List.getElem_mem hj)), if_pos (by omega), ih (j + 1) k _ (by omega) (by simp; omega), List.filter_cons_of_pos (by simp [hid]), List.append_assoc]
      rfl
theorem without0 (id now now' : Int) (L : List S47) (hL : L.length = 8) (hs : ∀ s ∈ L, s.f0.length ≤ 1048577) (hx : ∀ s ∈ L, ∀ x ∈ s.f0, x.f1 ≠ -1) : ∀ (d i k : Nat) (Y : List S47), i + d = 8 → Y.length = 8 → totW (L.drop i) + 2 * d + 1 ≤ k → Y.take i = (L.map (keepF id)).take i → spec_l12Without.l0 k id (-1) (i : Int) now L now' Y = some (now', L.map (keepF id)) := by
  intro d
  induction d with
  | zero =>
    intro i k Y h1 h2 h3 h4
    obtain ⟨k, rfl⟩ : ∃ k', k = k' + 1 := ⟨k - 1, by omega⟩
    simp only [spec_l12Without.l0]
    rw [if_neg (by omega)]
    rw [List.take_of_length_le (by omega), List.take_of_length_le (by simp; omega)] at h4
    rw [h4]
  | succ d ih =>
    intro i k Y h1 h2 h3 h4
    have hi : i < L.length := by omega
    have ht := totW_drop hi
    obtain ⟨k, rfl⟩ : ∃ k', k = (k' + L[i].f0.length + 1) + 1 := ⟨k - (L[i].f0.length + 2), by omega⟩
    rw [spec_l12Without.l0, if_pos (by omega)]
    have := without1 id now now' L Y i hi (by omega) (by omega) (hs _ (List.getElem_mem hi)) (hx _ (List.getElem_mem hi)) L[i].f0.length 0 k [] (by omega) (by have := hs _ (List.getElem_mem hi); simp; omega)
    rw [show ((0 : Nat) : Int) = 0 from rfl, List.drop_zero, List.nil_append] at this
    rw [this]
    refine ih (i + 1) k _ (by omega) (by simp [h2]) (by omega) ?_
    rw [List.take_add_one, List.take_add_one, List.take_set_of_le (Nat.le_refl i), h4]
    congr 1
    rw [List.getElem?_set_self (by omega), List.getElem?_map, List.getElem?_eq_getElem hi]
    rfl
theorem withoutF (id now now' : Int) (L : List S47) (hL : L.length = 8) (ht : totW L ≤ 1048577) (hx : ∀ s ∈ L, ∀ x ∈ s.f0, x.f1 ≠ -1) {k : Nat} (hk : totW L + 17 ≤ k) : spec_l12Without.f k now L now' id (-1) = some (now', L.map (keepF id)) := by
  unfold spec_l12Without.f
  rw [if_pos (by decide)]
  have := without0 id now now' L hL (fun s hs => by have := len_totW hs; omega) hx 8 0 k (List.replicate 8 z47) rfl (by simp) (by rw [List.drop_zero]; omega) (by simp)
  rw [show ((0 : Nat) : Int) = 0 from rfl] at this
  exact this
theorem wok_ne {now : Int} {L : List S47} (h : wokI now L = true) : L.length = 8 ∧ totW L ≤ 64 ∧ (∀ s ∈ L, ∀ x ∈ s.f0, x.f1 ≠ -1) ∧ 0 ≤ now ∧ now ≤ 1000000000000 := by
  rw [wokI_iff] at h
  obtain ⟨h0, h8, h64, _, h5⟩ := h
  rw [allT_len] at h64
  refine ⟨h8, h64, fun s hs x hx e => ?_, h0.1, h0.2⟩
  obtain ⟨j, hj, rfl⟩ := List.getElem_of_mem hs
  have := (h5 j _ (List.getElem?_eq_getElem hj) x hx).2.1
  rw [wi_iff, wr1 (x := now + 1) (by omega)] at this
  omega
/-! ### WheelSet -/
theorem withinW (n a b : Int) : impl_within.f n a b = some (Gv.wi n a b) := by
  unfold impl_within.f Gv.wi
  by_cases h : n ≥ a
  · rw [if_pos h, decide_eq_true (show a ≤ n from h)]; rfl
  · rw [if_neg h, decide_eq_false (show ¬ a ≤ n from h)]; rfl
theorem aheadW (s at_ : Int) (L : List S47) : impl_Wheel_isAhead.f s L at_ = some (Gv.wi at_ (wrap64 (s + 1)) (wrap64 (s + 1000))) := by
  unfold impl_Wheel_isAhead.f
  rw [withinW, Option.bind_some]
theorem totW_set (x : S50) : ∀ (Y : List S47) (j : Nat), totW (Y.set j ⟨(Y.getD j z47).f0 ++ [x]⟩) ≤ totW Y + 1
  | [], j => by simp [totW]
  | y :: Y, 0 => by
    rw [List.set_cons_zero, totW_cons, totW_cons]
    simp
    omega
  | y :: Y, j + 1 => by
    have := totW_set x Y j
    rw [List.set_cons_succ, totW_cons, totW_cons]
    simp only [List.getD_cons_succ]
    omega
def putW (s : Int) (Y : List S47) (id at_ : Int) : Int × List S47 × Int := (s, Y.set (Int.tmod at_ 8).toNat ⟨(rd_T47 Y (Int.tmod at_ 8)).f0 ++ [⟨id, at_⟩]⟩, 0)
def setW (s : Int) (L : List S47) (id at_ : Int) : Int × List S47 × Int :=
  if wokI s L = true ∧ Gv.wi id 0 9999 = true then (if Gv.wi at_ (wrap64 (s + 1)) (wrap64 (s + 1000)) = true then (if ((allT L).any fun x => x.f0 == id) = false ∧ ((allT L).length : Int) = 64 then (0, [], 3) else putW s (L.map (keepF id)) id at_) else (0, [], 2)) else (0, [], 1)
theorem setW_sz (s : Int) (L : List S47) (id at_ : Int) : (setW s L id at_).2.1.length ≤ L.length ∧ totW (setW s L id at_).2.1 ≤ 65 := by
  unfold setW
  split
  · rename_i hw
    obtain ⟨_, h64, _⟩ := wok_ne hw.1
    split
    · split
      · exact ⟨by simp, by simp [totW]⟩
      · refine ⟨by simp [putW], ?_⟩
        have h1 := totW_set ⟨id, at_⟩ (L.map (keepF id)) (Int.tmod at_ 8).toNat
        have h2 := keepF_tot id L
        unfold putW rd_T47
        simp only
        omega
    · exact ⟨by simp, by simp [totW]⟩
  · exact ⟨by simp, by simp [totW]⟩
theorem put_ok {s : Int} {L : List S47} {id at_ : Int} (hw : wokI s L = true) (ha : Gv.wi at_ (wrap64 (s + 1)) (wrap64 (s + 1000)) = true) : 0 ≤ Int.tmod at_ 8 ∧ Int.tmod at_ 8 < ((L.map (keepF id)).length : Int) ∧ (rd_T47 (L.map (keepF id)) (Int.tmod at_ 8)).f0.length < 8796093022208 := by
  obtain ⟨h8, h64, _, h0, h1⟩ := wok_ne hw
  rw [wi_iff, wr1 (x := s + 1) (by omega), wr1 (x := s + 1000) (by omega)] at ha
  have e := Int.tmod_eq_emod_of_nonneg (a := at_) (b := 8) (by omega)
  rw [e, List.length_map]
  have h2 : 0 ≤ at_ % 8 := by omega
  have h3 : at_ % 8 < 8 := by omega
  refine ⟨h2, by omega, ?_⟩
  obtain ⟨j, hj⟩ : ∃ j : Nat, at_ % 8 = (j : Int) := ⟨(at_ % 8).toNat, by omega⟩
  rw [hj, rdp (show j < (L.map (keepF id)).length by rw [List.length_map]; omega)]
  have h4 := len_totW (List.getElem_mem (show j < (L.map (keepF id)).length by rw [List.length_map]; omega))
  have h5 := keepF_tot id L
  omega
theorem specSetW (s : Int) (L : List S47) (id at_ : Int) (hL : L.length ≤ 1048577) (ht : totW L ≤ 1048577) {k : Nat} (hk : 6010 ≤ k) (hk2 : L.length + totW L + 22 ≤ k) : spec_WheelSet.f k s L id at_ = some (setW s L id at_) := by
  obtain ⟨k, rfl⟩ : ∃ k', k = k' + 2 := ⟨k - 2, by omega⟩
  have hj : spec_WheelSet.j0 (k + 2) id at_ true s L = some (0, [], 1) := by simp [spec_WheelSet.j0]
  have hA := allT_len L
  unfold spec_WheelSet.f setW
  rw [specWok s L hL ht hk, Option.bind_some]
  by_cases hw : wokI s L = true
  · obtain ⟨h8, h64, hx, h0, h1⟩ := wok_ne hw
    rw [if_pos hw]
    by_cases hi0 : id < 0
    · rw [if_pos hi0, hj, if_neg (fun h => by have := (wi_iff.1 h.2).1; omega)]
    · rw [if_neg hi0, spec_WheelSet.j0]
      by_cases hi9 : id > 9999
      · rw [decide_eq_true hi9, if_pos rfl, if_neg (fun h => by have := (wi_iff.1 h.2).2; omega)]
      · rw [decide_eq_false hi9, if_neg (show ¬ (false = true) by decide), if_pos (show wokI s L = true ∧ Gv.wi id 0 9999 = true from ⟨hw, wi_iff.2 ⟨by omega, by omega⟩⟩)]
        have hj1 : spec_WheelSet.j1 (k + 1) id at_ true s L = some (0, [], 2) := by simp [spec_WheelSet.j1]
        have e1 : wrap64 (s + 1) = s + 1 := wr1 (by omega)
        have e2 : wrap64 (s + 1000) = s + 1000 := wr1 (by omega)
        by_cases ha0 : at_ ≤ s
        · rw [if_pos ha0, hj1, if_neg (fun h => by have := (wi_iff.1 h).1; omega)]
        · rw [if_neg ha0]
          by_cases ha1 : at_ > wrap64 (s + 1000)
          · rw [decide_eq_true ha1, hj1, if_neg (fun h => by have := (wi_iff.1 h).2; omega)]
          · have hah : Gv.wi at_ (wrap64 (s + 1)) (wrap64 (s + 1000)) = true := wi_iff.2 ⟨by omega, by omega⟩
            obtain ⟨p1, p2, p3⟩ := put_ok (id := id) hw hah
            rw [decide_eq_false ha1, if_pos hah, spec_WheelSet.j1, if_neg (show ¬ (false = true) by decide), hasF s id L hL ht (by omega), Option.bind_some]
            have hwo := withoutF id s s L h8 ht hx (k := k) (by omega)
            by_cases hh : ((allT L).any fun x => x.f0 == id) = true
            · rw [if_pos hh, if_neg (fun h => by rw [hh] at h; cases h.1), hwo, Option.bind_some, if_pos p1, if_pos p2, if_pos p3]
              rfl
            · rw [if_neg hh, allF s L hL ht (by omega), Option.bind_some]
              by_cases hf : ((allT L).length : Int) = 64
              · rw [if_pos hf, if_pos ⟨by simpa using hh, hf⟩]
              · rw [if_neg hf, if_neg (fun h => hf h.2), hwo, Option.bind_some, if_pos p1, if_pos p2, if_pos p3]
                rfl
  · rw [if_neg hw, hj, if_neg (fun h => hw h.1)]
theorem implSetW (s : Int) (L : List S47) (id at_ : Int) (hL : L.length ≤ 1048577) (ht : totW L ≤ 1048577) {k : Nat} (hk2 : L.length + totW L + 22 ≤ k) : impl_WheelSet.f k s L id at_ = some (setW s L id at_) := by
  unfold impl_WheelSet.f impl_WheelOk.f setW
  rw [Option.bind_some]
  by_cases hw : wokI s L = true
  · have hw' := hw
    unfold wokI at hw'
    rw [if_pos hw', withinW, Option.bind_some]
    by_cases hi : Gv.wi id 0 9999 = true
    · rw [if_pos hi, if_pos ⟨hw, hi⟩, aheadW, Option.bind_some]
      by_cases ha : Gv.wi at_ (wrap64 (s + 1)) (wrap64 (s + 1000)) = true
      · rw [if_pos ha, if_pos ha, hasI s id L hL ht (by omega), Option.bind_some, timersF s L hL ht (by omega), Option.bind_some]
        by_cases hf : ((allT L).any fun x => x.f0 == id) = false ∧ ((allT L).length : Int) = 64
        · rw [if_pos hf, if_pos hf]
        · rw [if_neg hf, if_neg hf]
          unfold impl_copyWheel_c38.f
          rw [if_pos ⟨hL, fun s hs => by have := len_totW hs; omega⟩, Option.bind_some]
          exact if_pos (put_ok (id := id) hw ha)
      · rw [if_neg ha, if_neg ha]
    · rw [if_neg hi, if_neg (fun h => hi h.2)]
  · have hw' := hw
    unfold wokI at hw'
    rw [if_neg hw', if_neg (fun h => hw h.1)]
end Go.Proofs.Ytbfbfaoolkbodaa.T
