/- Words that this session's own contracts use: plain definitions and lemmas on lists. No condition. -/
import Derived.Test.YtbfbfaoolkbodaaWp
namespace Go.Proofs.Ytbfbfaoolkbodaa.Gv
set_option linter.unusedVariables false
def idxOf {α : Type} (p : α → Bool) (l : List α) : Int := match l.findIdx? p with
  | some i => i
  | none => -1
theorem idxOf_hit {α : Type} {p : α → Bool} {l : List α} {i : Nat} {x : α} (hx : l[i]? = some x) (hp : p x = true) (hn : ∀ (j : Nat) (y : α), j < i → l[j]? = some y → p y = false) : idxOf p l = i := by
  obtain ⟨hi, rfl⟩ := List.getElem?_eq_some_iff.1 hx
  have : l.findIdx? p = some i := by
    rw [List.findIdx?_eq_some_iff_getElem]
    exact ⟨hi, hp, fun j hj => by simpa using hn j l[j] hj (List.getElem?_eq_getElem _)⟩
  unfold idxOf
  rw [this]
theorem idxOf_miss {α : Type} {p : α → Bool} {l : List α} (hn : ∀ (j : Nat) (y : α), l[j]? = some y → p y = false) : idxOf p l = -1 := by
  have : l.findIdx? p = none := by
    rw [List.findIdx?_eq_none_iff]
    intro x hx
    obtain ⟨j, hj, rfl⟩ := List.getElem_of_mem hx
    exact hn j _ (List.getElem?_eq_getElem hj)
  unfold idxOf
  rw [this]
open Go.RowKit Go.Proofs.YtbfbfaoolkbodaaW.PrintWords Go.Proofs.YtbfbfaoolkbodaaW.PrintLast
section
variable {P : Program} {ops : Array Oper} {Q : Exit → Act → World → Prop} {md : Region.Mode} {S : World → Prop} {ds : List Nat}
theorem bw {B : Nat} {w0 w : World} (h : Below B w0 w := by repeat (first | (with_reducible first | exact Aside0.out (by assumption) | apply below_alloc | apply pw_below_drewN | apply below_drew1 | refine below_set ?_ (Aside0.out (by assumption))) | exact Aside0.out (by assumption))) : Below B w0 w := h
theorem hb {w0 w w1 : World} (k : Below w.heap.size w w1) (h : Below w0.heap.size w0 w := by repeat (first | (with_reducible first | exact Aside0.out (by assumption) | apply below_alloc | apply pw_below_drewN | apply below_drew1 | refine below_set ?_ (Aside0.out (by assumption))) | exact Aside0.out (by assumption))) : Aside0 (Below w0.heap.size w0 w1) := ⟨below_step h k⟩
theorem bk {w : World} {g : Nat} {o : Obj} (h : w.heap[g]? = some o := by (with_reducible repeat (first | refine blk_drewN ?_ _ | refine blk_drew ?_ | refine blk_alloc ?_ _)); exact Aside0.out (by assumption)) : w.heap[g]? = some o := h
theorem bkf {w : World} {g : Nat} {o : Obj} (h : w.heap[g]? = some o := by (with_reducible repeat (first | refine blk_drewN ?_ _ | refine blk_drew ?_ | refine blk_alloc ?_ _ | refine blk_far ?_ (Aside0.out (by assumption)) _)); exact Aside0.out (by assumption)) : w.heap[g]? = some o := h
end
theorem nlt {w : World} {g g' : Nat} {o : Obj} (hg : g = w.heap.size) (h : w.heap[g']? = some o) : g' ≠ g := by rw [hg]; exact Nat.ne_of_lt (blk_lt h)
theorem ngt {w : World} {g g' : Nat} {o : Obj} (hg : g = w.heap.size) (h : w.heap[g']? = some o) : g ≠ g' := by rw [hg]; exact Nat.ne_of_gt (blk_lt h)
theorem ble {w0 w : World} {g : Nat} (hg : g = w.heap.size) (h : Below w0.heap.size w0 w) : w0.heap.size ≤ g := by rw [hg]; exact below_size h
theorem a0 {p : Prop} (h : p) : Aside0 p := ⟨h⟩
theorem q {w : World} {g : Nat} {cs : Array Value} {t : TypeId} {i : Nat} {v : Value} (h : w.heap[g]? = some (.cells cs t (0, 0))) (e : cs[i]? = some v := by rfl) : w.cell? ⟨g, i, none⟩ = some v := (blk_cell h i).trans e
theorem bb {w w1 w2 : World} {g : Nat} {o : Obj} (h : w.heap[g]? = some o) (hb : Below w1.heap.size w1 w2) (h1 : w.heap[g]? = some o → w1.heap[g]? = some o := by intro h_; (with_reducible repeat (first | refine blk_drewN ?_ _ | refine blk_drew ?_ | refine blk_alloc ?_ _)); exact h_) : w2.heap[g]? = some o := blk_below (h1 h) hb
theorem bx {w0 w : World} {p : Addr} {v : Value} (h : Below w0.heap.size w0 w) (hx : w0.cell? p = some v) : w.cell? p = some v := (h.cell (World.block_lt_of_cell? w0 _ hx)).trans hx
theorem lm {α : Type} {a b : α} (h : a = b := by (try simp only [List.map_toArray, List.map_cons, List.map_nil]); first | done | rfl | (simp only [List.length_drop, List.length_take]; rfl)) : a = b := h
theorem kr {p q : Prop} (h : p) (hq : p → q := by intro h_; (with_reducible repeat (first | apply Kd.R_alloc | apply Kd.R_drewN | apply Kd.R_drew)); exact h_) : q := hq h
theorem kb {w w' : World} {g : Nat} {o : Obj} (h : w.heap[g]? = some o) (h1 : w.heap[g]? = some o → w'.heap[g]? = some o := by intro h_; (with_reducible repeat (first | refine blk_drewN ?_ _ | refine blk_drew ?_ | refine blk_alloc ?_ _)); exact h_) : w'.heap[g]? = some o := h1 h
section
open Go.RowKit
def CA (w : World) (A : Addr) : Nat → List Value → Prop
  | _, [] => True
  | k, v :: vs => w.cell? (A.add k) = some v ∧ CA w A (k + 1) vs
theorem CA_get {w : World} {A : Addr} : ∀ (cs : List Value) (k : Nat), CA w A k cs → ∀ j v, cs[j]? = some v → w.cell? (A.add (k + j)) = some v := by
  intro cs
  induction cs with
  | nil => intro k _ j v hv; simp at hv
  | cons x xs ih =>
    intro k h j v hv
    cases j with
    | zero =>
      simp only [List.getElem?_cons_zero, Option.some.injEq] at hv
      subst hv
      exact h.1
    | succ j =>
      have := ih (k + 1) h.2 j v (by simpa using hv)
      rwa [show k + (j + 1) = k + 1 + j by omega]
theorem gate_load {P : Program} {ops : Array Oper} {rest : List Oper} {o : Oper} {a : Act} {W : World} {Q : Exit → Act → World → Prop} {t : TypeId} {p : Tmp} (_ho : o.op = .load t (.tmp p)) (h : wpList P ops Q (o :: rest) a W) : wpList P ops Q (o :: rest) a W := h
theorem load_event {P : Program} {ops : Array Oper} {rest : List Oper} {o : Oper} {a : Act} {W : World} {Q : Exit → Act → World → Prop} {t : TypeId} {x : Operand} {A : Addr} {cs : List Value} {d : TypeDesc} (hgd : o.guard = none) (ho : o.op = .load t x) (hx : a.eval x = .pointer (some A)) (hc : CA W A 0 cs) (hu : P.underlying t = some d) (hd : (match d with | .struct _ | .array _ _ => true | _ => false) = true) (hi : (P.info? t).map (·.size) = some cs.length)
    (h : wpList P ops Q rest (a.put o.dst (.agg cs.toArray)) W) : wpList P ops Q (o :: rest) a W := by
  have hl : (loadCells A cs.length).run P W = .ok cs.toArray W := run_loadCells_list (P := P) W A cs (fun j v hv => by
    have := CA_get cs 0 hc j v hv
    rwa [Nat.zero_add] at this)
  have hrun : (loadVar t A).run P W = .ok (.agg cs.toArray) W := by
    cases hq : P.info? t with
    | none => simp [hq] at hi
    | some i =>
      have hs : i.size = cs.length := by simpa [hq] using hi
      have hagg : (isAgg t).run P W = .ok true W := by
        unfold isAgg
        rw [Sem.run_bind, run_underlying hu W]
        cases d <;> simp_all
      simp [loadVar, Sem.run_bind, hagg, sizeOf, typeInfo, hq, hs, hl]
  refine wpList_plain hgd fun K hK => ?_
  unfold Oper.wp execOp
  simp only [ho, hx, Instr.loadAt, Instr.sureAddr, Sem.run_bind, Sem.run_pure, Result.andThen_ok, hrun]
  exact hK _ _ h
theorem store_event {P : Program} {ops : Array Oper} {rest : List Oper} {o : Oper} {a : Act} {W : World} {Q : Exit → Act → World → Prop} {t : TypeId} {p v : Operand} {g : Nat} {old cells : Array Value} (hgd : o.guard = none) (ho : o.op = .store t p v) (hd : o.dst = none) (hx : a.eval p = .pointer (some ⟨g, 0, none⟩)) (hy : a.eval v = .agg cells) (hg : W.heap[g]? = some (.cells old t (0, 0))) (hi : (P.info? t).map (·.size) = some cells.size) (hold : old.size = cells.size) (h1 : cells.all (·.oneCell') = true)
    (h : ∀ w1 : World, w1.heap[g]? = some (.cells cells t (0, 0)) → (∀ i, i ≠ g → w1.heap[i]? = W.heap[i]?) → (∀ w0 : World, Below w0.heap.size w0 W → w0.heap.size ≤ g → Below w0.heap.size w0 w1) → wpList P ops Q rest a w1) : wpList P ops Q (o :: rest) a W := by
  refine wpList_store_row hgd t p v ho g cells hx hy t old hg hi hold h1 ?_
  rw [hd]
  have hother : ∀ i, i ≠ g → (W.setRow g cells).heap[i]? = W.heap[i]? := by
    intro i hi
    simp only [World.setRow, Array.getElem?_modify]
    rw [if_neg (fun e => hi e.symm)]
  refine h _ ?_ hother ?_
  · simp only [World.setRow, Array.getElem?_modify]
    rw [if_pos trivial, hg]
    rfl
  · intro w0 hb hle
    exact hb.trans ⟨rfl, rfl, rfl, by simp [World.setRow], fun k hk => hother k (by omega)⟩
end
def idxO {α : Type} (p : α → Option Bool) : List α → Int → Option Int
  | [], _ => some (-1)
  | x :: l, i => (p x).bind fun b => if b then some i else idxO p l (i + 1)
def nx (a : Int) : Int := wrap64 (a + 1)
def stepN (f : Int → Int) : Nat → Int → Int
  | 0, a => a
  | n + 1, a => f (stepN f n a)
def mkL {α : Type} (mk : Int → α) (f : Int → Int) : Nat → Int → List α
  | 0, _ => []
  | n + 1, a => mkL mk f n a ++ [mk (stepN f n a)]
theorem mkL_length {α : Type} (mk : Int → α) (f : Int → Int) (a : Int) : ∀ n, (mkL mk f n a).length = n
  | 0 => rfl
  | n + 1 => by rw [mkL, List.length_append, mkL_length mk f a n]; rfl
theorem mkL_reps {α : Type} {R : α → List Value → Prop} {enc : α → List Value} {sz : Nat} (mk : Int → α) (f : Int → Int) (a : Int) (h : ∀ x, R x (enc x)) (hl : ∀ x, (enc x).length = sz) : ∀ n, Reps R sz (mkL mk f n a) ((mkL mk f n a).flatMap enc)
  | 0 => Reps.none _ _
  | n + 1 => by
    have := (mkL_reps mk f a h hl n).snoc (h (mk (stepN f n a))) (hl _)
    simpa [mkL, List.flatMap_append] using this
def MK (w0 w : World) (g T N S : Nat) (orig : List Value) (W : World) (done : List Value) (m : Nat) : Prop :=
  done.length = m ∧ (∃ cur : Array Value, W.heap[g]? = some (.cells cur T (0, 0)) ∧ cur.size = S ∧ cur.toList.take N = done ++ orig.drop m) ∧ (∀ j, j ≠ g → W.heap[j]? = w.heap[j]?) ∧ Below w0.heap.size w0 W ∧ w.heap.size ≤ W.heap.size
theorem mark_event {P : Program} {ops : Array Oper} {rest : List Oper} {o : Oper} {a : Act} {W w0 w : World} {Q : Exit → Act → World → Prop} {t T : TypeId} {p v : Operand} {g i N S m : Nat} {orig done : List Value} {val : Value} (hgd : o.guard = none) (ho : o.op = .store t p v) (hd : o.dst = none) (hx : a.eval p = .pointer (some ⟨g, i, none⟩)) (hy : a.eval v = val) (hk : (∃ k n, val = .int k n) ∨ ∃ b, val = .bool b) (hi : (P.info? t).map (·.size) = some 1)
    (hM : MK w0 w g T N S orig W done m) (hS : N ≤ S) (hN : orig.length = N) (him : i = m) (hlt : m < N) (hle : w0.heap.size ≤ g)
    (h : ∀ w1 : World, MK w0 w g T N S orig w1 (done ++ [val]) (m + 1) → wpList P ops Q rest a w1) : wpList P ops Q (o :: rest) a W := by
  subst him
  obtain ⟨h1, ⟨cur, h2, h3, h4⟩, h5, h6, h7⟩ := hM
  have hic : i < cur.size := by omega
  have hc : W.cell? ⟨g, i, none⟩ = some cur[i] := by rw [blk_cell h2 i, Array.getElem?_eq_getElem hic]
  have hf : W.frozen? ⟨g, i, none⟩ = false := blk_frozen h2 i
  have hst : (store ⟨g, i, none⟩ val).run P W = .ok () (W.setCell ⟨g, i, none⟩ val) := by
    rcases hk with ⟨k, n, rfl⟩ | ⟨b, rfl⟩ <;> (rw [run_store P W _ _ _ rfl, hc]; simp [hf])
  have hrun : (storeVar t ⟨g, i, none⟩ val).run P W = .ok () (W.setCell ⟨g, i, none⟩ val) := by
    cases hq : P.info? t with
    | none => simp [hq] at hi
    | some d =>
      have hs : d.size = 1 := by simpa [hq] using hi
      rcases hk with ⟨k, n, rfl⟩ | ⟨b, rfl⟩ <;> simp [storeVar, sizeOf, typeInfo, hq, hs, Value.cells, storeCells, Addr.add, hst]
  refine wpList_plain hgd fun K hK => ?_
  unfold Oper.wp execOp
  simp only [ho, hx, hy, Instr.storeAt, Instr.sureAddr, Sem.run_bind, Sem.run_pure, Result.andThen_ok, hrun]
  refine hK _ _ ?_
  rw [hd]
  refine h _ ⟨by rw [List.length_append, h1]; rfl, ⟨_, blk_put h2 i _ rfl, by rw [Array.size_setIfInBounds, h3], ?_⟩, fun j hj => (Below.heap_setCell W _ _ j hj).trans (h5 j hj), h6.setCell hle _, by simpa using h7⟩
  rw [Array.toList_setIfInBounds, List.take_set, h4, List.set_append_right _ _ (by omega), h1, Nat.sub_self, List.drop_eq_getElem_cons (by omega), List.set_cons_zero, List.append_assoc]
  rfl
theorem pu {P : Program} {ops : Array Oper} {Q : Exit → Act → World → Prop} {md : Region.Mode} {S : World → Prop} {ds : List Nat} {oi : Oper} {v : Value} {fuel : Nat} {l : Array Bool} {a a' : Act} {w : World} {T : Bool × List (List Nat × List Nat)} (i : Nat) (N : Option Tmp) (HT : Aside0 (rtab md ops = T))
    (h : wpAnyLast P md ops Q S ds fuel (l.setIfInBounds i true) a' w)
    (hi : ops[i]? = some oi := by rfl) (hN : oi.dst = N := by rfl) (hc : anyT T l.toList (l.setIfInBounds i true).toList i = true := by kernel_rfl)
    (hQ : ∀ c a w, Q (.panic c) (a.put oi.dst v) w → Q (.panic c) a w := by exact fun _ _ _ h => h) (hy : Yields P ops oi v a := by exact Or.inl ⟨by rfl, by intro w'; go_simp; with_reducible rfl⟩)
    (ha : a.put N v = a' := by (simp only [Act.put, List.setIfInBounds_toArray, List.set_cons_zero, List.set_cons_succ, i64_w, i32_w]; rfl)) : wpAnyLast P md ops Q S ds (fuel + 1) l a w :=
  pure_ (i := i) (N := N) (v := v) (a' := a') (l.setIfInBounds i true) hi hN (any_of HT.out hc) hQ hy ha h
theorem get_event {P : Program} {ops : Array Oper} {rest : List Oper} {o : Oper} {a : Act} {W : World} {Q : Exit → Act → World → Prop} {t T : TypeId} {x : Operand} {g i : Nat} {v : Value} {cs : Array Value} {d : TypeDesc} (hgd : o.guard = none) (ho : o.op = .load t x) (hx : a.eval x = .pointer (some ⟨g, i, none⟩)) (hg : W.heap[g]? = some (.cells cs T (0, 0))) (hv : cs[i]? = some v) (hu : P.underlying t = some d) (hd : (match d with | .struct _ | .array _ _ => true | _ => false) = false)
    (h : wpList P ops Q rest (a.put o.dst v) W) : wpList P ops Q (o :: rest) a W := by
  have hc : W.cell? ⟨g, i, none⟩ = some v := by rw [blk_cell hg i, hv]
  have hrun : (loadVar t ⟨g, i, none⟩).run P W = .ok v W := by
    have hagg : (isAgg t).run P W = .ok false W := by
      unfold isAgg
      rw [Sem.run_bind, run_underlying hu W]
      cases d <;> simp_all
    simp [loadVar, Sem.run_bind, hagg, run_load, hc]
  refine wpList_plain hgd fun K hK => ?_
  unfold Oper.wp execOp
  simp only [ho, hx, Instr.loadAt, Instr.sureAddr, Sem.run_bind, Sem.run_pure, Result.andThen_ok, hrun]
  exact hK _ _ h
theorem rt {α : Type} {a b : α} (h : a = b := by first | rfl | (simp [errW_none, errW_some] <;> rfl) | (simp [*, errW_none, errW_some] <;> rfl)) : a = b := h
theorem rq {α : Type} {a b : α} (h : a = b := by first | rfl | (simp; done) | (simp [Int.tdiv_eq_ediv_of_nonneg]; done) | (simp [*]; done)) : a = b := h
def wi (n a b : Int) : Bool := decide (a ≤ n) && decide (n ≤ b)
def wkBad (now i : Int) (seen : List Int) (id at_ : Int) : Bool := !wi id 0 9999 || (seen.contains id || (!wi at_ (wrap64 (now + 1)) (wrap64 (now + 1000)) || !(Int.tmod at_ 8 == i)))
def wkIn {α : Type} (id at_ : α → Int) (now i : Int) : List α → List Int → Option (List Int)
  | [], seen => some seen
  | x :: l, seen => if wkBad now i seen (id x) (at_ x) = true then none else wkIn id at_ now i l (seen ++ [id x])
def wkOut {α β : Type} (ts : β → List α) (id at_ : α → Int) (now : Int) : List β → Nat → List Int → Option (List Int)
  | [], _, seen => some seen
  | s :: l, i, seen => (wkIn id at_ now (i : Int) (ts s) seen).bind fun seen' => wkOut ts id at_ now l (i + 1) seen'
def wkEnd (o : Option (List Int)) : Bool := match o with
  | none => false
  | some seen => decide (seen.length ≤ 64)
def wheelOk {α β : Type} (ts : β → List α) (id at_ : α → Int) (now : Int) (l : List β) : Bool := if (wi now 0 1000000000000 && decide (l.length = 8)) = true then wkEnd (wkOut ts id at_ now l 0 []) else false
def heldL {α : Type} (q : α → Int → Bool) (f : Int → Int) : List α → Int → Option Int
  | [], a => some a
  | x :: l, a => if q x a = true then heldL q f l (f a) else none
section
open Go.Proofs.YtbfbfaoolkbodaaW.PrintWords.Kd
variable {P : Program} {ops : Array Oper} {rest : List Oper} {o : Oper} {a : Act} {Q' : Exit → Act → World → Prop} {Kc : Act → World → Prop} {α : Type}
end
end Go.Proofs.Ytbfbfaoolkbodaa.Gv
