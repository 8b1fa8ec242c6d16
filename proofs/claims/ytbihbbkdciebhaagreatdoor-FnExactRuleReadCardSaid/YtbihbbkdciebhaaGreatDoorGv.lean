/- Words that this session's own contracts use: plain definitions and lemmas on lists. No condition. -/
import Derived.Test.YtbihbbkdciebhaaGreatDoorWp
namespace Go.Proofs.YtbihbbkdciebhaaGreatDoor.Gv
open Go.RowKit Go.Proofs.YtbihbbkdciebhaaGreatDoorW.PrintWords Go.Proofs.YtbihbbkdciebhaaGreatDoorW.PrintLast
section
variable {P : Program} {ops : Array Oper} {Q : Exit → Act → World → Prop} {md : Region.Mode} {S : World → Prop} {ds : List Nat}
theorem bw {B : Nat} {w0 w : World} (h : Below B w0 w := by repeat (first | (with_reducible first | exact Aside0.out (by assumption) | apply below_alloc | apply pw_below_drewN | apply below_drew1 | refine below_set ?_ (Aside0.out (by assumption))) | exact Aside0.out (by assumption))) : Below B w0 w := h
theorem hb {w0 w w1 : World} (k : Below w.heap.size w w1) (h : Below w0.heap.size w0 w := by repeat (first | (with_reducible first | exact Aside0.out (by assumption) | apply below_alloc | apply pw_below_drewN | apply below_drew1 | refine below_set ?_ (Aside0.out (by assumption))) | exact Aside0.out (by assumption))) : Aside0 (Below w0.heap.size w0 w1) := ⟨below_step h k⟩
theorem bk {w : World} {g : Nat} {o : Obj} (h : w.heap[g]? = some o := by (with_reducible repeat (first | refine blk_drewN ?_ _ | refine blk_drew ?_ | refine blk_alloc ?_ _)); exact Aside0.out (by assumption)) : w.heap[g]? = some o := h
theorem bkf {w : World} {g : Nat} {o : Obj} (h : w.heap[g]? = some o := by (with_reducible repeat (first | refine blk_drewN ?_ _ | refine blk_drew ?_ | refine blk_alloc ?_ _ | refine blk_far ?_ (Aside0.out (by assumption)) _)); exact Aside0.out (by assumption)) : w.heap[g]? = some o := h
end
theorem nlt {w : World} {g g' : Nat} {o : Obj} (hg : g = w.heap.size) (h : w.heap[g']? = some o) : g' ≠ g := by rw [hg]; exact Nat.ne_of_lt (blk_lt h)
theorem ngt {w : World} {g g' : Nat} {o : Obj} (hg : g = w.heap.size) (h : w.heap[g']? = some o) : g ≠ g' := by rw [hg]; exact Nat.ne_of_gt (blk_lt h)
theorem ble {w0 w : World} {g : Nat} (hg : g = w.heap.size) (h : Below w0.heap.size w0 w) : w0.heap.size ≤ g := by rw [hg]; exact below_size h
theorem a0 {p : Prop} (h : p) : Aside0 p := ⟨h⟩
theorem q {w : World} {g : Nat} {cs : Array Value} {t : TypeId} {i : Nat} {v : Value} (h : w.heap[g]? = some (.cells cs t (0, 0))) (e : cs[i]? = some v := by rfl) : w.cell? ⟨g, i, none⟩ = some v := (blk_cell h i).trans e
theorem qs {p : Prop} (h : p := by repeat' (first | exact Gv.q (Aside0.out (by assumption)) | apply And.intro)) : p := h
theorem b1 {w w1 w2 : World} {g : Nat} {o : Obj} (h : Aside0 (w.heap[g]? = some o)) (hb : Below w1.heap.size w1 w2) (h1 : w.heap[g]? = some o → w1.heap[g]? = some o := by intro h_; (with_reducible repeat (first | refine blk_drewN ?_ _ | refine blk_drew ?_ | refine blk_alloc ?_ _)); exact h_) : Aside0 (w2.heap[g]? = some o) := ⟨blk_below (h1 h.out) hb⟩
theorem sd {p q : Prop} (h : p) (hq : p → q := by intro h_; repeat (first | exact h_ | (with_reducible refine Kd.C_alloc ?_ _) | (with_reducible refine Kd.C_drewN ?_ _) | (with_reducible refine Kd.C_drew ?_))) : q := hq h
theorem bev {P : Program} {ops : Array Oper} {rest : List Oper} {o : Oper} {a : Act} {Q : Exit → Act → World → Prop} {W : World} (N : Tmp) (t : TypeId) (cs : Array Value) (h : ∀ g, g = W.heap.size → ∀ w1, w1.heap[g]? = some (.cells cs t (0, 0)) → Below W.heap.size W w1 → wpList P ops Q rest (a.put o.dst (.pointer (some ⟨g, 0, none⟩))) w1) (hgd : o.guard = none := by rfl) (hd : o.dst = some N := by rfl) (hrun : (execOp a.eval o).run P W = .ok (.value (.pointer (some ⟨W.heap.size, 0, none⟩))) (W.alloc (.cells cs t (0, 0))) := by first | (go_simp; done) | (go_simp; rfl)) : wpList P ops Q (o :: rest) a W := box_event hgd hd hrun h
theorem c5 {w : World} {g : Nat} {t : TypeId} {v0 v1 v2 v3 v4 : Value} (h : w.heap[g]? = some (.cells #[v0, v1, v2, v3, v4] t (0, 0))) : w.cell? ⟨g, 0, none⟩ = some v0 ∧ w.cell? ⟨g, 1, none⟩ = some v1 ∧ w.cell? ⟨g, 2, none⟩ = some v2 ∧ w.cell? ⟨g, 3, none⟩ = some v3 ∧ w.cell? ⟨g, 4, none⟩ = some v4 := ⟨(blk_cell h 0).trans rfl, (blk_cell h 1).trans rfl, (blk_cell h 2).trans rfl, (blk_cell h 3).trans rfl, (blk_cell h 4).trans rfl⟩
theorem f5 {w : World} {g : Nat} {t : TypeId} {cs : Array Value} (h : w.heap[g]? = some (.cells cs t (0, 0))) : w.frozen? ⟨g, 0, none⟩ = false ∧ w.frozen? ⟨g, 1, none⟩ = false ∧ w.frozen? ⟨g, 2, none⟩ = false ∧ w.frozen? ⟨g, 3, none⟩ = false ∧ w.frozen? ⟨g, 4, none⟩ = false := ⟨blk_frozen h 0, blk_frozen h 1, blk_frozen h 2, blk_frozen h 3, blk_frozen h 4⟩
theorem c6 {w : World} {g : Nat} {t : TypeId} {v0 v1 v2 v3 v4 v5 : Value} (h : w.heap[g]? = some (.cells #[v0, v1, v2, v3, v4, v5] t (0, 0))) : w.cell? ⟨g, 0, none⟩ = some v0 ∧ w.cell? ⟨g, 1, none⟩ = some v1 ∧ w.cell? ⟨g, 2, none⟩ = some v2 ∧ w.cell? ⟨g, 3, none⟩ = some v3 ∧ w.cell? ⟨g, 4, none⟩ = some v4 ∧ w.cell? ⟨g, 5, none⟩ = some v5 := ⟨(blk_cell h 0).trans rfl, (blk_cell h 1).trans rfl, (blk_cell h 2).trans rfl, (blk_cell h 3).trans rfl, (blk_cell h 4).trans rfl, (blk_cell h 5).trans rfl⟩
theorem f6 {w : World} {g : Nat} {t : TypeId} {cs : Array Value} (h : w.heap[g]? = some (.cells cs t (0, 0))) : w.frozen? ⟨g, 0, none⟩ = false ∧ w.frozen? ⟨g, 1, none⟩ = false ∧ w.frozen? ⟨g, 2, none⟩ = false ∧ w.frozen? ⟨g, 3, none⟩ = false ∧ w.frozen? ⟨g, 4, none⟩ = false ∧ w.frozen? ⟨g, 5, none⟩ = false := ⟨blk_frozen h 0, blk_frozen h 1, blk_frozen h 2, blk_frozen h 3, blk_frozen h 4, blk_frozen h 5⟩
theorem c21 {w : World} {g : Nat} {t : TypeId} {v0 v1 v2 v3 v4 v5 v6 v7 v8 v9 v10 v11 v12 v13 v14 v15 v16 v17 v18 v19 v20 : Value} (h : w.heap[g]? = some (.cells #[v0, v1, v2, v3, v4, v5, v6, v7, v8, v9, v10, v11, v12, v13, v14, v15, v16, v17, v18, v19, v20] t (0, 0))) : w.cell? ⟨g, 0, none⟩ = some v0 ∧ w.cell? ⟨g, 1, none⟩ = some v1 ∧ w.cell? ⟨g, 2, none⟩ = some v2 ∧ w.cell? ⟨g, 3, none⟩ = some v3 ∧ w.cell? ⟨g, 4, none⟩ = some v4 ∧ w.cell? ⟨g, 5, none⟩ = some v5 ∧ w.cell? ⟨g, 6, none⟩ = some v6 ∧ w.cell? ⟨g, 7, none⟩ = some v7 ∧ w.cell? ⟨g, 8, none⟩ = some v8 ∧ w.cell? ⟨g, 9, none⟩ = some v9 ∧ w.cell? ⟨g, 10, none⟩ = some v10 ∧ w.cell? ⟨g, 11, none⟩ = some v11 ∧ w.cell? ⟨g, 12, none⟩ = some v12 ∧ w.cell? ⟨g, 13, none⟩ = some v13 ∧ w.cell? ⟨g, 14, none⟩ = some v14 ∧ w.cell? ⟨g, 15, none⟩ = some v15 ∧ w.cell? ⟨g, 16, none⟩ = some v16 ∧ w.cell? ⟨g, 17, none⟩ = some v17 ∧ w.cell? ⟨g, 18, none⟩ = some v18 ∧ w.cell? ⟨g, 19, none⟩ = some v19 ∧ w.cell? ⟨g, 20, none⟩ = some v20 := ⟨(blk_cell h 0).trans rfl, (blk_cell h 1).trans rfl, (blk_cell h 2).trans rfl, (blk_cell h 3).trans rfl, (blk_cell h 4).trans rfl, (blk_cell h 5).trans rfl, (blk_cell h 6).trans rfl, (blk_cell h 7).trans rfl, (blk_cell h 8).trans rfl, (blk_cell h 9).trans rfl, (blk_cell h 10).trans rfl, (blk_cell h 11).trans rfl, (blk_cell h 12).trans rfl, (blk_cell h 13).trans rfl, (blk_cell h 14).trans rfl, (blk_cell h 15).trans rfl, (blk_cell h 16).trans rfl, (blk_cell h 17).trans rfl, (blk_cell h 18).trans rfl, (blk_cell h 19).trans rfl, (blk_cell h 20).trans rfl⟩
theorem bx {w0 w : World} {p : Addr} {v : Value} (h : Below w0.heap.size w0 w) (hx : w0.cell? p = some v) : w.cell? p = some v := (h.cell (World.block_lt_of_cell? w0 _ hx)).trans hx
theorem lm {α : Type} {a b : α} (h : a = b := by (try simp only [List.map_toArray, List.map_cons, List.map_nil]); first | done | rfl | (simp only [List.length_drop, List.length_take]; rfl)) : a = b := h
theorem kr {p q : Prop} (h : p) (hq : p → q := by intro h_; (with_reducible repeat (first | apply Kd.R_alloc | apply Kd.R_drewN | apply Kd.R_drew)); exact h_) : q := hq h
theorem kb {w w' : World} {g : Nat} {o : Obj} (h : w.heap[g]? = some o) (h1 : w.heap[g]? = some o → w'.heap[g]? = some o := by intro h_; (with_reducible repeat (first | refine blk_drewN ?_ _ | refine blk_drew ?_ | refine blk_alloc ?_ _)); exact h_) : w'.heap[g]? = some o := h1 h
section
open Go.RowKit
theorem alloc_run {P : Program} {a : Act} {o : Oper} {W : World} {t : TypeId} {cells : Array Value} (ho : o.op = .alloc t) (hz : (P.info? t).map (·.zero) = some (some (.agg cells))) : (execOp a.eval o).run P W = .ok (.value (.pointer (some ⟨W.heap.size, 0, none⟩))) (W.alloc (.cells cells t (0, 0))) := by
  rw [Option.map_eq_some_iff] at hz
  obtain ⟨i, hi, hz⟩ := hz
  unfold execOp
  simp only [ho, Sem.run_bind, Instr.alloc, zeroValue, typeInfo, newVar, newRow, run_newObj_alloc, Sem.run_pure, Result.andThen_ok, Value.cells]
  simp [hi, hz]
def CA (w : World) (A : Addr) : Nat → List Value → Prop
  | _, [] => True
  | k, v :: vs => w.cell? (A.add k) = some v ∧ CA w A (k + 1) vs
theorem CA_get {w : World} {A : Addr} : ∀ (cs : List Value) (k : Nat), CA w A k cs → ∀ j v, cs[j]? = some v → w.cell? (A.add (k + j)) = some v := by
  intro cs
  induction cs with
  | nil => intro k _ j v hv; simp at hv
  | cons x xs ih =>
    intro k h j v hv
    cases j with
    | zero =>
      simp only [List.getElem?_cons_zero, Option.some.injEq] at hv
      subst hv
      exact h.1
    | succ j =>
      have := ih (k + 1) h.2 j v (by simpa using hv)
      rwa [show k + (j + 1) = k + 1 + j by omega]
theorem gate_load {P : Program} {ops : Array Oper} {rest : List Oper} {o : Oper} {a : Act} {W : World} {Q : Exit → Act → World → Prop} {t : TypeId} {p : Tmp} (_ho : o.op = .load t (.tmp p)) (h : wpList P ops Q (o :: rest) a W) : wpList P ops Q (o :: rest) a W := h
theorem load_run {P : Program} {o : Oper} {a : Act} {W : World} {t : TypeId} {x : Operand} {A : Addr} {cs : List Value} {d : TypeDesc} (ho : o.op = .load t x) (hx : a.eval x = .pointer (some A)) (hc : CA W A 0 cs) (hu : P.underlying t = some d) (hd : (match d with | .struct _ | .array _ _ => true | _ => false) = true) (hi : (P.info? t).map (·.size) = some cs.length) : (execOp a.eval o).run P W = .ok (.value (.agg cs.toArray)) W := by
  have hl : (loadCells A cs.length).run P W = .ok cs.toArray W := run_loadCells_list (P := P) W A cs (fun j v hv => by
    have := CA_get cs 0 hc j v hv
    rwa [Nat.zero_add] at this)
  have hrun : (loadVar t A).run P W = .ok (.agg cs.toArray) W := by
    cases hq : P.info? t with
    | none => simp [hq] at hi
    | some i =>
      have hs : i.size = cs.length := by simpa [hq] using hi
      have hagg : (isAgg t).run P W = .ok true W := by
        unfold isAgg
        rw [Sem.run_bind, run_underlying hu W]
        cases d <;> simp_all
      simp [loadVar, Sem.run_bind, hagg, sizeOf, typeInfo, hq, hs, hl]
  unfold execOp
  simp only [ho, hx, Instr.loadAt, Instr.sureAddr, Sem.run_bind, Sem.run_pure, Result.andThen_ok, hrun]
theorem put_event {P : Program} {ops : Array Oper} {rest : List Oper} {o : Oper} {a : Act} {W : World} {Q : Exit → Act → World → Prop} {t T : TypeId} {p v : Operand} {g i : Nat} {k : IntKind} {n : Int} {cs : Array Value} (hgd : o.guard = none) (ho : o.op = .store t p v) (hd : o.dst = none) (hx : a.eval p = .pointer (some ⟨g, i, none⟩)) (hy : a.eval v = .int k n) (hg : W.heap[g]? = some (.cells cs T (0, 0))) (hi : (P.info? t).map (·.size) = some 1) (hlt : i < cs.size)
    (h : ∀ w1 : World, w1.heap[g]? = some (.cells (cs.setIfInBounds i (.int k n)) T (0, 0)) → (∀ j, j ≠ g → w1.heap[j]? = W.heap[j]?) → (∀ w0 : World, Below w0.heap.size w0 W → w0.heap.size ≤ g → Below w0.heap.size w0 w1) → wpList P ops Q rest a w1) : wpList P ops Q (o :: rest) a W := by
  have hc : W.cell? ⟨g, i, none⟩ = some cs[i] := by rw [blk_cell hg i, Array.getElem?_eq_getElem hlt]
  have hf : W.frozen? ⟨g, i, none⟩ = false := blk_frozen hg i
  have hst : (store ⟨g, i, none⟩ (.int k n)).run P W = .ok () (W.setCell ⟨g, i, none⟩ (.int k n)) := by
    rw [run_store P W _ _ _ rfl, hc]
    simp [hf]
  have hrun : (storeVar t ⟨g, i, none⟩ (.int k n)).run P W = .ok () (W.setCell ⟨g, i, none⟩ (.int k n)) := by
    cases hq : P.info? t with
    | none => simp [hq] at hi
    | some d =>
      have hs : d.size = 1 := by simpa [hq] using hi
      simp [storeVar, sizeOf, typeInfo, hq, hs, Value.cells, storeCells, Addr.add, hst]
  refine wpList_plain hgd fun K hK => ?_
  unfold Oper.wp execOp
  simp only [ho, hx, hy, Instr.storeAt, Instr.sureAddr, Sem.run_bind, Sem.run_pure, Result.andThen_ok, hrun]
  refine hK _ _ ?_
  rw [hd]
  exact h _ (blk_put hg i _ rfl) (fun j hj => Below.heap_setCell W _ _ j hj) (fun w0 hb hle => hb.setCell hle _)
theorem putb_event {P : Program} {ops : Array Oper} {rest : List Oper} {o : Oper} {a : Act} {W : World} {Q : Exit → Act → World → Prop} {t T : TypeId} {p v : Operand} {g i : Nat} {n : Bool} {cs : Array Value} (hgd : o.guard = none) (ho : o.op = .store t p v) (hd : o.dst = none) (hx : a.eval p = .pointer (some ⟨g, i, none⟩)) (hy : a.eval v = .bool n) (hg : W.heap[g]? = some (.cells cs T (0, 0))) (hi : (P.info? t).map (·.size) = some 1) (hlt : i < cs.size)
    (h : ∀ w1 : World, w1.heap[g]? = some (.cells (cs.setIfInBounds i (.bool n)) T (0, 0)) → (∀ j, j ≠ g → w1.heap[j]? = W.heap[j]?) → (∀ w0 : World, Below w0.heap.size w0 W → w0.heap.size ≤ g → Below w0.heap.size w0 w1) → wpList P ops Q rest a w1) : wpList P ops Q (o :: rest) a W := by
  have hc : W.cell? ⟨g, i, none⟩ = some cs[i] := by rw [blk_cell hg i, Array.getElem?_eq_getElem hlt]
  have hf : W.frozen? ⟨g, i, none⟩ = false := blk_frozen hg i
  have hst : (store ⟨g, i, none⟩ (.bool n)).run P W = .ok () (W.setCell ⟨g, i, none⟩ (.bool n)) := by
    rw [run_store P W _ _ _ rfl, hc]
    simp [hf]
  have hrun : (storeVar t ⟨g, i, none⟩ (.bool n)).run P W = .ok () (W.setCell ⟨g, i, none⟩ (.bool n)) := by
    cases hq : P.info? t with
    | none => simp [hq] at hi
    | some d =>
      have hs : d.size = 1 := by simpa [hq] using hi
      simp [storeVar, sizeOf, typeInfo, hq, hs, Value.cells, storeCells, Addr.add, hst]
  refine wpList_plain hgd fun K hK => ?_
  unfold Oper.wp execOp
  simp only [ho, hx, hy, Instr.storeAt, Instr.sureAddr, Sem.run_bind, Sem.run_pure, Result.andThen_ok, hrun]
  refine hK _ _ ?_
  rw [hd]
  exact h _ (blk_put hg i _ rfl) (fun j hj => Below.heap_setCell W _ _ j hj) (fun w0 hb hle => hb.setCell hle _)
theorem store_event {P : Program} {ops : Array Oper} {rest : List Oper} {o : Oper} {a : Act} {W : World} {Q : Exit → Act → World → Prop} {t : TypeId} {p v : Operand} {g : Nat} {old cells : Array Value} (hgd : o.guard = none) (ho : o.op = .store t p v) (hd : o.dst = none) (hx : a.eval p = .pointer (some ⟨g, 0, none⟩)) (hy : a.eval v = .agg cells) (hg : W.heap[g]? = some (.cells old t (0, 0))) (hi : (P.info? t).map (·.size) = some cells.size) (hold : old.size = cells.size) (h1 : cells.all (·.oneCell') = true)
    (h : ∀ w1 : World, w1.heap[g]? = some (.cells cells t (0, 0)) → (∀ i, i ≠ g → w1.heap[i]? = W.heap[i]?) → (∀ w0 : World, Below w0.heap.size w0 W → w0.heap.size ≤ g → Below w0.heap.size w0 w1) → wpList P ops Q rest a w1) : wpList P ops Q (o :: rest) a W := by
  refine wpList_store_row hgd t p v ho g cells hx hy t old hg hi hold h1 ?_
  rw [hd]
  have hother : ∀ i, i ≠ g → (W.setRow g cells).heap[i]? = W.heap[i]? := by
    intro i hi
    simp only [World.setRow, Array.getElem?_modify]
    rw [if_neg (fun e => hi e.symm)]
  refine h _ ?_ hother ?_
  · simp only [World.setRow, Array.getElem?_modify]
    rw [if_pos trivial, hg]
    rfl
  · intro w0 hb hle
    exact hb.trans ⟨rfl, rfl, rfl, by simp [World.setRow], fun k hk => hother k (by omega)⟩
end
theorem k01 {a c : Prop} (h : a) (k : a → c := by intro h_; first | exact Gv.kb0 h_ | exact Gv.kb1 (Gv.kb0 h_)) : c := k h
theorem od {p : Prop} [Decidable p] (h : decide p = true := by first | (with_reducible assumption) | assumption) : p := of_decide_eq_true h
theorem pu {P : Program} {ops : Array Oper} {Q : Exit → Act → World → Prop} {md : Region.Mode} {S : World → Prop} {ds : List Nat} {oi : Oper} {v : Value} {fuel : Nat} {l : Array Bool} {a a' : Act} {w : World} {T : Bool × List (List Nat × List Nat)} (i : Nat) (N : Option Tmp) (HT : Aside0 (rtab md ops = T))
    (h : wpAnyLast P md ops Q S ds fuel (l.setIfInBounds i true) a' w)
    (hi : ops[i]? = some oi := by rfl) (hN : oi.dst = N := by rfl) (hc : anyT T l.toList (l.setIfInBounds i true).toList i = true := by kernel_rfl)
    (hQ : ∀ c a w, Q (.panic c) (a.put oi.dst v) w → Q (.panic c) a w := by exact fun _ _ _ h => h) (hy : Yields P ops oi v a := by exact Or.inl ⟨by rfl, by intro w'; go_simp; with_reducible rfl⟩)
    (ha : a.put N v = a' := by (simp only [Act.put, List.setIfInBounds_toArray, List.set_cons_zero, List.set_cons_succ, i64_w, i32_w]; rfl)) : wpAnyLast P md ops Q S ds (fuel + 1) l a w :=
  pure_ (i := i) (N := N) (v := v) (a' := a') (l.setIfInBounds i true) hi hN (any_of HT.out hc) hQ hy ha h
theorem get_event {P : Program} {ops : Array Oper} {rest : List Oper} {o : Oper} {a : Act} {W : World} {Q : Exit → Act → World → Prop} {t T : TypeId} {x : Operand} {g i : Nat} {v : Value} {cs : Array Value} {d : TypeDesc} (hgd : o.guard = none) (ho : o.op = .load t x) (hx : a.eval x = .pointer (some ⟨g, i, none⟩)) (hg : W.heap[g]? = some (.cells cs T (0, 0))) (hv : cs[i]? = some v) (hu : P.underlying t = some d) (hd : (match d with | .struct _ | .array _ _ => true | _ => false) = false)
    (h : wpList P ops Q rest (a.put o.dst v) W) : wpList P ops Q (o :: rest) a W := by
  have hc : W.cell? ⟨g, i, none⟩ = some v := by rw [blk_cell hg i, hv]
  have hrun : (loadVar t ⟨g, i, none⟩).run P W = .ok v W := by
    have hagg : (isAgg t).run P W = .ok false W := by
      unfold isAgg
      rw [Sem.run_bind, run_underlying hu W]
      cases d <;> simp_all
    simp [loadVar, Sem.run_bind, hagg, run_load, hc]
  refine wpList_plain hgd fun K hK => ?_
  unfold Oper.wp execOp
  simp only [ho, hx, Instr.loadAt, Instr.sureAddr, Sem.run_bind, Sem.run_pure, Result.andThen_ok, hrun]
  exact hK _ _ h
theorem mput_event {P : Program} {ops : Array Oper} {rest : List Oper} {o : Oper} {a : Act} {W : World} {Q : Exit → Act → World → Prop} {t T : TypeId} {p v : Operand} {g i : Nat} {cells cs cs' : Array Value} (hgd : o.guard = none) (ho : o.op = .store t p v) (hd : o.dst = none) (hx : a.eval p = .pointer (some ⟨g, i, none⟩)) (hy : a.eval v = .agg cells) (hg : W.heap[g]? = some (.cells cs T (0, 0))) (hi : (P.info? t).map (·.size) = some cells.size) (h1 : cells.toList.all (·.oneCell') = true) (hlt : i + cells.toList.length ≤ cs.size) (hcs : cs'.toList = cs.toList.take i ++ cells.toList ++ cs.toList.drop (i + cells.toList.length))
    (h : ∀ w1 : World, w1.heap[g]? = some (.cells cs' T (0, 0)) → (∀ j, j ≠ g → w1.heap[j]? = W.heap[j]?) → (∀ w0 : World, Below w0.heap.size w0 W → w0.heap.size ≤ g → Below w0.heap.size w0 w1) → wpList P ops Q rest a w1) : wpList P ops Q (o :: rest) a W := by
  have ht : W.there g i cells.size := fun j hj => ⟨by
    have hj' : i + j < cs.size := by simp at hlt; omega
    rw [blk_cell hg (i + j), Array.getElem?_eq_getElem hj']
    rfl, blk_frozen hg (i + j)⟩
  refine wpList_store_mid hgd t p v ho g i cells hx hy ht hi (Array.all_eq_true_iff_forall_mem.2 (fun u hu => List.all_eq_true.1 h1 u (by simpa using hu))) ?_
  rw [hd]
  obtain ⟨cur', hc1, hc2, hc3⟩ := setCells_row cells.toList i W cs hg hlt
  have e : cur' = cs' := by rw [← Array.toList_inj, hc3, hcs]
  subst e
  have hfar : ∀ j, j ≠ g → (W.setCells g i cells.toList).heap[j]? = W.heap[j]? := fun j hj => setCells_far _ _ j hj
  have hsm := setCells_same g cells.toList i W
  exact h _ hc1 hfar (fun w0 hb hle => hb.trans ⟨hsm.1, hsm.2.1, hsm.2.2.1, Nat.le_of_eq hsm.2.2.2.symm, fun k hk => hfar k (by omega)⟩)
theorem pn {P : Program} {ops : Array Oper} {Q : Exit → Act → World → Prop} {md : Region.Mode} {S : World → Prop} {ds : List Nat} {oi : Oper} {fuel : Nat} {l : Array Bool} {a a' : Act} {w : World} {T : Bool × List (List Nat × List Nat)} (i : Nat) (N : Option Tmp) (HT : Aside0 (rtab md ops = T))
    (h : wpAnyLast P md ops Q S ds fuel (l.setIfInBounds i true) a' w)
    (hi : ops[i]? = some oi := by rfl) (hN : oi.dst = N := by rfl) (hc : anyT T l.toList (l.setIfInBounds i true).toList i = true := by kernel_rfl)
    (hQ : ∀ c a w, Q (.panic c) (a.put oi.dst undef) w → Q (.panic c) a w := by exact fun _ _ _ h => h) (hy : Yields P ops oi undef a := by exact Or.inr ⟨by rfl, rfl⟩)
    (ha : a.put N undef = a' := by (simp only [Act.put, List.setIfInBounds_toArray, List.set_cons_zero, List.set_cons_succ, i64_w, i32_w]; rfl)) : wpAnyLast P md ops Q S ds (fuel + 1) l a w :=
  pure_ (i := i) (N := N) (v := undef) (a' := a') (l.setIfInBounds i true) hi hN (any_of HT.out hc) hQ hy ha h
theorem rt {α : Type} {a b : α} (h : a = b := by first | rfl | (simp [errW_none, errW_some] <;> rfl) | (simp [*, errW_none, errW_some] <;> rfl)) : a = b := h
theorem rq {α : Type} {a b : α} (h : a = b := by first | rfl | (simp; done) | (simp [Int.tdiv_eq_ediv_of_nonneg]; done) | (simp [*]; done)) : a = b := h
section
open Go.Proofs.YtbihbbkdciebhaaGreatDoorW.PrintWords.Kd
variable {P : Program} {ops : Array Oper} {rest : List Oper} {o : Oper} {a : Act} {Q' : Exit → Act → World → Prop} {Kc : Act → World → Prop} {α : Type}
end
end Go.Proofs.YtbihbbkdciebhaaGreatDoor.Gv
