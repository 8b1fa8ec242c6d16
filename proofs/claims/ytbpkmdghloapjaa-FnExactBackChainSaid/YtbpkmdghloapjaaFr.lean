/- Arguments opened for the rows: what the form's own reading of an argument says, told in the words of the printed contracts (kinds of values). No condition. -/
import Derived.Test.YtbpkmdghloapjaaWp
import Derived.ProofKit
import Derived.OpenShut
import Derived.Deep.Slices
import Derived.Deep.Fields
import Derived.ChangeSame
namespace Go.Proofs.YtbpkmdghloapjaaFr
open Go.RowKit Go.Proofs.YtbpkmdghloapjaaW.PrintWords Go.ChangeShapes Go.WideShapes Go.Deep
set_option linter.unusedVariables false

/-- Whatever reads as data at type T stands in memory as a value of kind d that is good. -/
def Opens (P : Program) (w : World) (T : TypeId) {α : Type} (d : Kd α) (good : α → Prop) : Prop :=
  ∀ (H : Type) (enc : TypeId × Value → H) (base : Nat) (spare : Nat → Bool) (held : Bool) (fuel : Nat) (cs : List Value) (x : DataW H × List MemPlace),
    DataW.trod enc P w base spare held fuel T cs = some x → ∃ y, d.K w y cs ∧ good y

section
variable {P : Program} {w : World} {T e : TypeId} {α β : Type}
theorem opens_int {k : IntKind} (ht : P.underlying T = some (.int k)) : Opens P w T (Kd.int k) (fun n => (Lit.int k n).wf = true) := by
  intro H enc base spare held fuel cs x h
  obtain ⟨n, rfl, _, hw⟩ := DataW.trod_int ht h
  exact ⟨n, rfl, hw⟩
/-- A Go int's range. -/
def I64 (n : Int) : Prop := -9223372036854775808 ≤ n ∧ n ≤ 9223372036854775807
def U8 (n : Int) : Prop := 0 ≤ n ∧ n ≤ 255
theorem i64_of {n : Int} (h : (Lit.int .i64 n).wf = true) : I64 n := by
  simpa [I64, Lit.wf, IntKind.min, IntKind.max, IntKind.signed, IntKind.bits] using h
theorem u8_of {n : Int} (h : (Lit.int .u8 n).wf = true) : U8 n := by
  simpa [U8, Lit.wf, IntKind.min, IntKind.max, IntKind.signed, IntKind.bits] using h
theorem opens_i64 (ht : P.underlying T = some (.int .i64)) : Opens P w T (Kd.int .i64) I64 := by
  intro H enc base spare held fuel cs x h
  obtain ⟨n, rfl, _, hw⟩ := DataW.trod_int ht h
  exact ⟨n, rfl, i64_of hw⟩
theorem opens_u8 (ht : P.underlying T = some (.int .u8)) : Opens P w T (Kd.int .u8) U8 := by
  intro H enc base spare held fuel cs x h
  obtain ⟨n, rfl, _, hw⟩ := DataW.trod_int ht h
  exact ⟨n, rfl, u8_of hw⟩
theorem opens_bool (ht : P.underlying T = some .bool) : Opens P w T Kd.bool (fun _ => True) := by
  intro H enc base spare held fuel cs x h
  obtain ⟨n, rfl, _⟩ := DataW.trod_bool ht h
  exact ⟨n, rfl, trivial⟩
theorem opens_string (ht : P.underlying T = some .string) : Opens P w T Kd.string (fun s => s.size ≤ maxLen) := by
  intro H enc base spare held fuel cs x h
  obtain ⟨n, rfl, _, hw⟩ := DataW.trod_string ht h
  exact ⟨n, rfl, hw⟩

theorem list_of {p : Nat → α → Prop} : ∀ n, (∀ i, i < n → ∃ y, p i y) → ∃ l : List α, l.length = n ∧ ∀ i y, l[i]? = some y → p i y
  | 0, _ => ⟨[], rfl, fun i y h => by simp at h⟩
  | n + 1, h => by
    obtain ⟨l, hl, hp⟩ := list_of n (fun i hi => h i (by omega))
    obtain ⟨y, hy⟩ := h n (by omega)
    refine ⟨l ++ [y], by simp [hl], fun i z hz => ?_⟩
    rcases Nat.lt_or_ge i l.length with hi | hi
    · rw [List.getElem?_append_left hi] at hz
      exact hp i z hz
    · have hi' : i = l.length := by
        have := (List.getElem?_eq_some_iff.1 hz).1
        simp at this
        omega
      subst hi'
      simp at hz
      subst hz
      rw [hl]
      exact hy

theorem opens_slice {d : Kd α} {good : α → Prop} (ht : P.underlying T = some (.slice e)) (hsz : d.sz = P.cellsOf e) (h : Opens P w e d good) :
    Opens P w T (Kd.slice e d) (fun l => l.length ≤ maxLen ∧ ∀ y ∈ l, good y) := by
  intro H enc base spare held fuel cs x hx
  rcases open_slice ht hx with ⟨rfl, _⟩ | ⟨a, len, cap, m, n, D, Pl, rfl, _, hl, hm, hmm, _, hi⟩
  · exact ⟨[], ⟨none, 0, rfl, Nat.le_refl _, rfl, by simp, fun h => absurd h (by simp)⟩, by simp, by simp⟩
  · have hlm : len ≤ m := by rw [hmm]; split <;> omega
    obtain ⟨l, hll, hp⟩ := list_of (p := fun i y => good y ∧ ∃ c : List Value, c.length = d.sz ∧ d.K w y c ∧ ∀ j u, c[j]? = some u → w.cell? (a.add (i * d.sz + j)) = some u) len (by
      intro i hil
      obtain ⟨cs', hc, ht'⟩ := hi i (by omega)
      obtain ⟨y, hy, hg⟩ := h H enc base spare held n cs' _ ht'
      refine ⟨y, hg, cs', d.K_len hy, hy, fun j u hj => ?_⟩
      obtain ⟨_, hcl, hat⟩ := World.cells?_some hc
      have hjl : j < P.cellsOf e := by rw [← hcl]; exact (List.getElem?_eq_some_iff.1 hj).1
      have := hat j hjl
      rw [hsz, ← Go.Deep.add_add, this, hj])
    have hmx : l.length ≤ maxLen := by rw [hll]; omega
    refine ⟨l, ⟨some a, cap, by rw [hll], by omega, rfl, by unfold maxLen at hmx; omega, fun _ => ⟨a, rfl, fun j p hj => ?_⟩⟩, hmx, fun y hy => ?_⟩
    · obtain ⟨_, c, h1, h2, h3⟩ := hp j p hj
      exact ⟨c, h1, h2, h3⟩
    · obtain ⟨i, hi', e'⟩ := List.getElem_of_mem hy
      exact (hp i y (by rw [List.getElem?_eq_getElem hi', e'])).1

/-- The same of several types one behind the other. -/
def OpensAt (P : Program) (w : World) (Ts : List TypeId) {α : Type} (d : Kd α) (good : α → Prop) : Prop :=
  ∀ (H : Type) (enc : TypeId × Value → H) (base : Nat) (spare : Nat → Bool) (held : Bool) (fuel : Nat) (cs : List Value) (xs : List (DataW H × List MemPlace)),
    cs.length = (Ts.map P.cellsOf).sum → xs.length = Ts.length →
    (∀ (i : Nat) (t : TypeId), Ts[i]? = some t → DataW.trod enc P w base spare held fuel t ((cs.drop ((Ts.take i).map P.cellsOf).sum).take (P.cellsOf t)) = xs[i]?) → ∃ y, d.K w y cs ∧ good y
theorem opensAt_one {d : Kd α} {good : α → Prop} (h : Opens P w T d good) : OpensAt P w [T] d good := by
  intro H enc base spare held fuel cs xs hc hx hf
  match xs, hx with
  | [x], _ =>
    have := hf 0 T rfl
    simp at hc
    simp at this
    rw [← hc, List.take_length] at this
    exact h H enc base spare held fuel cs x this
theorem opensAt_cons {Ts : List TypeId} {d : Kd α} {d' : Kd β} {good : α → Prop} {good' : β → Prop} (h : Opens P w T d good) (h' : OpensAt P w Ts d' good') :
    OpensAt P w (T :: Ts) (Kd.pair d d') (fun y => good y.1 ∧ good' y.2) := by
  intro H enc base spare held fuel cs xs hc hx hf
  match xs, hx with
  | x :: xs, hx =>
    have h0 := hf 0 T rfl
    simp at h0
    obtain ⟨y, hy, hg⟩ := h H enc base spare held fuel _ x h0
    simp only [List.map_cons, List.sum_cons] at hc
    obtain ⟨z, hz, hgz⟩ := h' H enc base spare held fuel (cs.drop (P.cellsOf T)) xs (by rw [List.length_drop]; omega) (by simpa using hx) (fun i t hi => by
      have := hf (i + 1) t (by simpa using hi)
      simp only [List.take_succ_cons, List.map_cons, List.sum_cons, List.getElem?_cons_succ] at this
      rw [List.drop_drop]
      exact this)
    exact ⟨(y, z), ⟨cs.take (P.cellsOf T), cs.drop (P.cellsOf T), (List.take_append_drop _ _).symm, hy, hz⟩, hg, hgz⟩
/-- Fields stand one behind the other. -/
def rowed (P : Program) (fs : Array Field) : Bool := (List.range fs.size).all fun i => match fs[i]? with
  | some f => f.offset == (((fs.toList.map (·.type)).take i).map P.cellsOf).sum
  | none => true
theorem opens_struct {fs : Array Field} {d : Kd α} {good : α → Prop} (ht : P.underlying T = some (.struct fs)) (hr : rowed P fs = true) (hC : P.cellsOf T = ((fs.toList.map (·.type)).map P.cellsOf).sum) (h : OpensAt P w (fs.toList.map (·.type)) d good) : Opens P w T d good := by
  intro H enc base spare held fuel cs x hx
  obtain ⟨xs, n, _, _, hlen, hxl, hf⟩ := DataW.trod_struct ht hx
  refine h H enc base spare held n cs xs (hlen.trans hC) (by simpa using hxl) (fun i t hi => ?_)
  rw [List.getElem?_map] at hi
  cases hfi : fs[i]? with
  | none => rw [Array.getElem?_toList, hfi] at hi; simp at hi
  | some f =>
    rw [Array.getElem?_toList, hfi] at hi
    simp at hi
    subst hi
    have hlt : i < fs.size := (Array.getElem?_eq_some_iff.1 hfi).1
    have := List.all_eq_true.1 hr i (List.mem_range.2 hlt)
    simp only [hfi, beq_iff_eq] at this
    rw [← this]
    exact hf i f hfi
theorem opens_iso {d : Kd α} {good : α → Prop} (f : β → α) (g : α → β) (hfg : ∀ z, f (g z) = z) (h : Opens P w T d good) : Opens P w T (Kd.iso d f) (fun x => good (f x)) := by
  intro H enc base spare held fuel cs x hx
  obtain ⟨y, hy, hg⟩ := h H enc base spare held fuel cs x hx
  exact ⟨g y, by show d.K w (f (g y)) cs; rw [hfg]; exact hy, by show good (f (g y)); rw [hfg]; exact hg⟩
theorem opens_good {d : Kd α} {good good' : α → Prop} (h : Opens P w T d good) (hg : ∀ x, good x → good' x) : Opens P w T d good' := by
  intro H enc base spare held fuel cs x hx
  obtain ⟨y, hy, hy'⟩ := h H enc base spare held fuel cs x hx
  exact ⟨y, hy, hg _ hy'⟩
end
theorem agg_of {cs : Array Value} {l : List Value} (h : cs.toList = l) : (Value.agg cs) = .agg l.toArray := by rw [← h]
end Go.Proofs.YtbpkmdghloapjaaFr
