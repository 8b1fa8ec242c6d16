/- Words that this session's own contracts use: plain definitions and lemmas on lists. No condition. -/
import Derived.Test.YtbfbfaoolkbodaaWp
namespace Go.Proofs.Ytbfbfaoolkbodaa.Gv
open Go.RowKit Go.Proofs.YtbfbfaoolkbodaaW.PrintWords Go.Proofs.YtbfbfaoolkbodaaW.PrintLast
section
variable {P : Program} {ops : Array Oper} {Q : Exit → Act → World → Prop} {md : Region.Mode} {S : World → Prop} {ds : List Nat}
theorem bw {B : Nat} {w0 w : World} (h : Below B w0 w := by repeat (first | (with_reducible first | exact Aside0.out (by assumption) | apply below_alloc | apply pw_below_drewN | apply below_drew1 | refine below_set ?_ (Aside0.out (by assumption))) | exact Aside0.out (by assumption))) : Below B w0 w := h
theorem bk {w : World} {g : Nat} {o : Obj} (h : w.heap[g]? = some o := by (with_reducible repeat (first | refine blk_drewN ?_ _ | refine blk_drew ?_ | refine blk_alloc ?_ _)); exact Aside0.out (by assumption)) : w.heap[g]? = some o := h
theorem bkf {w : World} {g : Nat} {o : Obj} (h : w.heap[g]? = some o := by (with_reducible repeat (first | refine blk_drewN ?_ _ | refine blk_drew ?_ | refine blk_alloc ?_ _ | refine blk_far ?_ (Aside0.out (by assumption)) _)); exact Aside0.out (by assumption)) : w.heap[g]? = some o := h
end
theorem nlt {w : World} {g g' : Nat} {o : Obj} (hg : g = w.heap.size) (h : w.heap[g']? = some o) : g' ≠ g := by rw [hg]; exact Nat.ne_of_lt (blk_lt h)
theorem ngt {w : World} {g g' : Nat} {o : Obj} (hg : g = w.heap.size) (h : w.heap[g']? = some o) : g ≠ g' := by rw [hg]; exact Nat.ne_of_gt (blk_lt h)
theorem ble {w0 w : World} {g : Nat} (hg : g = w.heap.size) (h : Below w0.heap.size w0 w) : w0.heap.size ≤ g := by rw [hg]; exact below_size h
theorem a0 {p : Prop} (h : p) : Aside0 p := ⟨h⟩
theorem bb {w w1 w2 : World} {g : Nat} {o : Obj} (h : w.heap[g]? = some o) (hb : Below w1.heap.size w1 w2) (h1 : w.heap[g]? = some o → w1.heap[g]? = some o := by intro h_; (with_reducible repeat (first | refine blk_drewN ?_ _ | refine blk_drew ?_ | refine blk_alloc ?_ _)); exact h_) : w2.heap[g]? = some o := blk_below (h1 h) hb
theorem bx {w0 w : World} {p : Addr} {v : Value} (h : Below w0.heap.size w0 w) (hx : w0.cell? p = some v) : w.cell? p = some v := (h.cell (World.block_lt_of_cell? w0 _ hx)).trans hx
theorem lm {α : Type} {a b : α} (h : a = b := by (try simp only [List.map_toArray, List.map_cons, List.map_nil]); first | done | rfl | (simp only [List.length_drop, List.length_take]; rfl)) : a = b := h
theorem kr {p q : Prop} (h : p) (hq : p → q := by intro h_; (with_reducible repeat (first | apply Kd.R_alloc | apply Kd.R_drewN | apply Kd.R_drew)); exact h_) : q := hq h
theorem kb {w w' : World} {g : Nat} {o : Obj} (h : w.heap[g]? = some o) (h1 : w.heap[g]? = some o → w'.heap[g]? = some o := by intro h_; (with_reducible repeat (first | refine blk_drewN ?_ _ | refine blk_drew ?_ | refine blk_alloc ?_ _)); exact h_) : w'.heap[g]? = some o := h1 h
section
open Go.RowKit
end
def nx (a : Int) : Int := wrap64 (a + 1)
def stepN (f : Int → Int) : Nat → Int → Int
  | 0, a => a
  | n + 1, a => f (stepN f n a)
theorem pu {P : Program} {ops : Array Oper} {Q : Exit → Act → World → Prop} {md : Region.Mode} {S : World → Prop} {ds : List Nat} {oi : Oper} {v : Value} {fuel : Nat} {l : Array Bool} {a a' : Act} {w : World} {T : Bool × List (List Nat × List Nat)} (i : Nat) (N : Option Tmp) (HT : Aside0 (rtab md ops = T))
    (h : wpAnyLast P md ops Q S ds fuel (l.setIfInBounds i true) a' w)
    (hi : ops[i]? = some oi := by rfl) (hN : oi.dst = N := by rfl) (hc : anyT T l.toList (l.setIfInBounds i true).toList i = true := by kernel_rfl)
    (hQ : ∀ c a w, Q (.panic c) (a.put oi.dst v) w → Q (.panic c) a w := by exact fun _ _ _ h => h) (hy : Yields P ops oi v a := by exact Or.inl ⟨by rfl, by intro w'; go_simp; with_reducible rfl⟩)
    (ha : a.put N v = a' := by (simp only [Act.put, List.setIfInBounds_toArray, List.set_cons_zero, List.set_cons_succ, i64_w, i32_w]; rfl)) : wpAnyLast P md ops Q S ds (fuel + 1) l a w :=
  pure_ (i := i) (N := N) (v := v) (a' := a') (l.setIfInBounds i true) hi hN (any_of HT.out hc) hQ hy ha h
theorem rt {α : Type} {a b : α} (h : a = b := by first | rfl | (simp [errW_none, errW_some] <;> rfl) | (simp [*, errW_none, errW_some] <;> rfl)) : a = b := h
theorem rq {α : Type} {a b : α} (h : a = b := by first | rfl | (simp; done) | (simp [Int.tdiv_eq_ediv_of_nonneg]; done) | (simp [*]; done)) : a = b := h
def wi (n a b : Int) : Bool := decide (a ≤ n) && decide (n ≤ b)
def wkBad (now i : Int) (seen : List Int) (id at_ : Int) : Bool := !wi id 0 9999 || (seen.contains id || (!wi at_ (wrap64 (now + 1)) (wrap64 (now + 1000)) || !(Int.tmod at_ 8 == i)))
def wkIn {α : Type} (id at_ : α → Int) (now i : Int) : List α → List Int → Option (List Int)
  | [], seen => some seen
  | x :: l, seen => if wkBad now i seen (id x) (at_ x) = true then none else wkIn id at_ now i l (seen ++ [id x])
def wkOut {α β : Type} (ts : β → List α) (id at_ : α → Int) (now : Int) : List β → Nat → List Int → Option (List Int)
  | [], _, seen => some seen
  | s :: l, i, seen => (wkIn id at_ now (i : Int) (ts s) seen).bind fun seen' => wkOut ts id at_ now l (i + 1) seen'
def wkEnd (o : Option (List Int)) : Bool := match o with
  | none => false
  | some seen => decide (seen.length ≤ 64)
def wheelOk {α β : Type} (ts : β → List α) (id at_ : α → Int) (now : Int) (l : List β) : Bool := if (wi now 0 1000000000000 && decide (l.length = 8)) = true then wkEnd (wkOut ts id at_ now l 0 []) else false
def heldL {α : Type} (q : α → Int → Bool) (f : Int → Int) : List α → Int → Option Int
  | [], a => some a
  | x :: l, a => if q x a = true then heldL q f l (f a) else none
end Go.Proofs.Ytbfbfaoolkbodaa.Gv
