/- Words that this session's own contracts use: plain definitions and lemmas on lists. No condition. -/
import Derived.Test.YtiokbmbdhejciaaWp
namespace Go.Proofs.Ytiokbmbdhejciaa.Gv
open Go.RowKit Go.Proofs.YtiokbmbdhejciaaW.PrintWords Go.Proofs.YtiokbmbdhejciaaW.PrintLast
section
variable {P : Program} {ops : Array Oper} {Q : Exit → Act → World → Prop} {md : Region.Mode} {S : World → Prop} {ds : List Nat}
theorem bw {B : Nat} {w0 w : World} (h : Below B w0 w := by repeat (first | (with_reducible first | exact Aside0.out (by assumption) | apply below_alloc | apply pw_below_drewN | apply below_drew1 | refine below_set ?_ (Aside0.out (by assumption))) | exact Aside0.out (by assumption))) : Below B w0 w := h
theorem hb {w0 w w1 : World} (k : Below w.heap.size w w1) (h : Below w0.heap.size w0 w := by repeat (first | (with_reducible first | exact Aside0.out (by assumption) | apply below_alloc | apply pw_below_drewN | apply below_drew1 | refine below_set ?_ (Aside0.out (by assumption))) | exact Aside0.out (by assumption))) : Aside0 (Below w0.heap.size w0 w1) := ⟨below_step h k⟩
theorem bk {w : World} {g : Nat} {o : Obj} (h : w.heap[g]? = some o := by (with_reducible repeat (first | refine blk_drewN ?_ _ | refine blk_drew ?_ | refine blk_alloc ?_ _)); exact Aside0.out (by assumption)) : w.heap[g]? = some o := h
theorem bkf {w : World} {g : Nat} {o : Obj} (h : w.heap[g]? = some o := by (with_reducible repeat (first | refine blk_drewN ?_ _ | refine blk_drew ?_ | refine blk_alloc ?_ _ | refine blk_far ?_ (Aside0.out (by assumption)) _)); exact Aside0.out (by assumption)) : w.heap[g]? = some o := h
end
theorem setCell_drewN (w : World) (n : Nat) (a : Addr) (v : Value) : (w.drewN n).setCell a v = (w.setCell a v).drewN n := rfl
theorem nlt {w : World} {g g' : Nat} {o : Obj} (hg : g = w.heap.size) (h : w.heap[g']? = some o) : g' ≠ g := by rw [hg]; exact Nat.ne_of_lt (blk_lt h)
theorem ngt {w : World} {g g' : Nat} {o : Obj} (hg : g = w.heap.size) (h : w.heap[g']? = some o) : g ≠ g' := by rw [hg]; exact Nat.ne_of_gt (blk_lt h)
theorem ble {w0 w : World} {g : Nat} (hg : g = w.heap.size) (h : Below w0.heap.size w0 w) : w0.heap.size ≤ g := by rw [hg]; exact below_size h
theorem a0 {p : Prop} (h : p) : Aside0 p := ⟨h⟩
theorem q {w : World} {g : Nat} {cs : Array Value} {t : TypeId} {i : Nat} {v : Value} (h : w.heap[g]? = some (.cells cs t (0, 0))) (e : cs[i]? = some v := by rfl) : w.cell? ⟨g, i, none⟩ = some v := (blk_cell h i).trans e
theorem c4 {w : World} {g : Nat} {t : TypeId} {v0 v1 v2 v3 : Value} (h : w.heap[g]? = some (.cells #[v0, v1, v2, v3] t (0, 0))) : w.cell? ⟨g, 0, none⟩ = some v0 ∧ w.cell? ⟨g, 1, none⟩ = some v1 ∧ w.cell? ⟨g, 2, none⟩ = some v2 ∧ w.cell? ⟨g, 3, none⟩ = some v3 := ⟨(blk_cell h 0).trans rfl, (blk_cell h 1).trans rfl, (blk_cell h 2).trans rfl, (blk_cell h 3).trans rfl⟩
theorem f4 {w : World} {g : Nat} {t : TypeId} {cs : Array Value} (h : w.heap[g]? = some (.cells cs t (0, 0))) : w.frozen? ⟨g, 0, none⟩ = false ∧ w.frozen? ⟨g, 1, none⟩ = false ∧ w.frozen? ⟨g, 2, none⟩ = false ∧ w.frozen? ⟨g, 3, none⟩ = false := ⟨blk_frozen h 0, blk_frozen h 1, blk_frozen h 2, blk_frozen h 3⟩
theorem bb {w w1 w2 : World} {g : Nat} {o : Obj} (h : w.heap[g]? = some o) (hb : Below w1.heap.size w1 w2) (h1 : w.heap[g]? = some o → w1.heap[g]? = some o := by intro h_; (with_reducible repeat (first | refine blk_drewN ?_ _ | refine blk_drew ?_ | refine blk_alloc ?_ _)); exact h_) : w2.heap[g]? = some o := blk_below (h1 h) hb
theorem bx {w0 w : World} {p : Addr} {v : Value} (h : Below w0.heap.size w0 w) (hx : w0.cell? p = some v) : w.cell? p = some v := (h.cell (World.block_lt_of_cell? w0 _ hx)).trans hx
theorem lm {α : Type} {a b : α} (h : a = b := by (try simp only [List.map_toArray, List.map_cons, List.map_nil]); first | done | rfl | (simp only [List.length_drop, List.length_take]; rfl)) : a = b := h
theorem kr {p q : Prop} (h : p) (hq : p → q := by intro h_; (with_reducible repeat (first | apply Kd.R_alloc | apply Kd.R_drewN | apply Kd.R_drew)); exact h_) : q := hq h
theorem kb {w w' : World} {g : Nat} {o : Obj} (h : w.heap[g]? = some o) (h1 : w.heap[g]? = some o → w'.heap[g]? = some o := by intro h_; (with_reducible repeat (first | refine blk_drewN ?_ _ | refine blk_drew ?_ | refine blk_alloc ?_ _)); exact h_) : w'.heap[g]? = some o := h1 h
section
open Go.RowKit
theorem box_run {P : Program} {a : Act} {o : Oper} {W : World} {t : TypeId} {x : Operand} {cells : Array Value} (ho : o.op = .box t x) (hx : a.eval x = .agg cells) : (execOp a.eval o).run P W = .ok (.value (.pointer (some ⟨W.heap.size, 0, none⟩))) (W.alloc (.cells cells t (0, 0))) := by
  unfold execOp
  simp only [ho, Sem.run_bind, Instr.box, newVar, newRow, run_newObj_alloc, Sem.run_pure, Result.andThen_ok, hx, Value.cells]
theorem alloc_run {P : Program} {a : Act} {o : Oper} {W : World} {t : TypeId} {cells : Array Value} (ho : o.op = .alloc t) (hz : (P.info? t).map (·.zero) = some (some (.agg cells))) : (execOp a.eval o).run P W = .ok (.value (.pointer (some ⟨W.heap.size, 0, none⟩))) (W.alloc (.cells cells t (0, 0))) := by
  rw [Option.map_eq_some_iff] at hz
  obtain ⟨i, hi, hz⟩ := hz
  unfold execOp
  simp only [ho, Sem.run_bind, Instr.alloc, zeroValue, typeInfo, newVar, newRow, run_newObj_alloc, Sem.run_pure, Result.andThen_ok, Value.cells]
  simp [hi, hz]
theorem hr {p : Prop} (h : p := by first | exact box_run rfl rfl | exact alloc_run rfl (by kernel_rfl) | (go_simp; done) | (go_simp; rfl)) : p := h
end
theorem goesV_ {P : Program} {ops : Array Oper} {Q : Exit → Act → World → Prop} {oi : Oper} {N : Option Tmp} {a : Act} {w : World} {K : Act → World → Prop} {f : FuncId} {fn : Func} {x : Operand} {as : Array Operand} {ts : Array TypeId} (hf : P.funcs[f]? = some fn) (hname : (fn.name == "runtime.NumGoroutine") = false) (hb : fn.body.isSome = true) (args lb : Array Value)
    (hw : Region.wanted oi (yielded ops a.tmps) = true) (hN : oi.dst = N) (hop : oi.op = .call { callee := .value x, args := as, argTypes := ts }) (hx : a.eval x = .func (.func f) #[] lb) (hargs : as.map a.eval = args)
    (h : Calls P f (args ++ lb) w fun e w' => ∃ v, e = .returned v ∧ K (a.put N v) w') : if Region.wanted oi (yielded ops a.tmps) = true then Oper.wp P oi a w K Q else K (a.put N undef) w := by
  refine call_ f (args ++ lb) hw hN ?_ h
  have he := enters_ hf hname hb (args ++ lb) w
  unfold execOp
  simp [hop, resolve, Deferred.ofValue, invoke, hx, hargs, he]
def nx (a : Int) : Int := wrap64 (a + 1)
def stepN (f : Int → Int) : Nat → Int → Int
  | 0, a => a
  | n + 1, a => f (stepN f n a)
def mkL {α : Type} (mk : Int → α) (f : Int → Int) : Nat → Int → List α
  | 0, _ => []
  | n + 1, a => mkL mk f n a ++ [mk (stepN f n a)]
theorem mkL_length {α : Type} (mk : Int → α) (f : Int → Int) (a : Int) : ∀ n, (mkL mk f n a).length = n
  | 0 => rfl
  | n + 1 => by rw [mkL, List.length_append, mkL_length mk f a n]; rfl
theorem mkL_reps {α : Type} {R : α → List Value → Prop} {enc : α → List Value} {sz : Nat} (mk : Int → α) (f : Int → Int) (a : Int) (h : ∀ x, R x (enc x)) (hl : ∀ x, (enc x).length = sz) : ∀ n, Reps R sz (mkL mk f n a) ((mkL mk f n a).flatMap enc)
  | 0 => Reps.none _ _
  | n + 1 => by
    have := (mkL_reps mk f a h hl n).snoc (h (mk (stepN f n a))) (hl _)
    simpa [mkL, List.flatMap_append] using this
def MK (w0 w : World) (g T N S : Nat) (orig : List Value) (W : World) (done : List Value) (m : Nat) : Prop :=
  done.length = m ∧ (∃ cur : Array Value, W.heap[g]? = some (.cells cur T (0, 0)) ∧ cur.size = S ∧ cur.toList.take N = done ++ orig.drop m) ∧ (∀ j, j ≠ g → W.heap[j]? = w.heap[j]?) ∧ Below w0.heap.size w0 W ∧ w.heap.size ≤ W.heap.size
theorem mark_event {P : Program} {ops : Array Oper} {rest : List Oper} {o : Oper} {a : Act} {W w0 w : World} {Q : Exit → Act → World → Prop} {t T : TypeId} {p v : Operand} {g i N S m : Nat} {orig done : List Value} {val : Value} (hgd : o.guard = none) (ho : o.op = .store t p v) (hd : o.dst = none) (hx : a.eval p = .pointer (some ⟨g, i, none⟩)) (hy : a.eval v = val) (hk : (∃ k n, val = .int k n) ∨ ∃ b, val = .bool b) (hi : (P.info? t).map (·.size) = some 1)
    (hM : MK w0 w g T N S orig W done m) (hS : N ≤ S) (hN : orig.length = N) (him : i = m) (hlt : m < N) (hle : w0.heap.size ≤ g)
    (h : ∀ w1 : World, MK w0 w g T N S orig w1 (done ++ [val]) (m + 1) → wpList P ops Q rest a w1) : wpList P ops Q (o :: rest) a W := by
  subst him
  obtain ⟨h1, ⟨cur, h2, h3, h4⟩, h5, h6, h7⟩ := hM
  have hic : i < cur.size := by omega
  have hc : W.cell? ⟨g, i, none⟩ = some cur[i] := by rw [blk_cell h2 i, Array.getElem?_eq_getElem hic]
  have hf : W.frozen? ⟨g, i, none⟩ = false := blk_frozen h2 i
  have hst : (store ⟨g, i, none⟩ val).run P W = .ok () (W.setCell ⟨g, i, none⟩ val) := by
    rcases hk with ⟨k, n, rfl⟩ | ⟨b, rfl⟩ <;> (rw [run_store P W _ _ _ rfl, hc]; simp [hf])
  have hrun : (storeVar t ⟨g, i, none⟩ val).run P W = .ok () (W.setCell ⟨g, i, none⟩ val) := by
    cases hq : P.info? t with
    | none => simp [hq] at hi
    | some d =>
      have hs : d.size = 1 := by simpa [hq] using hi
      rcases hk with ⟨k, n, rfl⟩ | ⟨b, rfl⟩ <;> simp [storeVar, sizeOf, typeInfo, hq, hs, Value.cells, storeCells, Addr.add, hst]
  refine wpList_plain hgd fun K hK => ?_
  unfold Oper.wp execOp
  simp only [ho, hx, hy, Instr.storeAt, Instr.sureAddr, Sem.run_bind, Sem.run_pure, Result.andThen_ok, hrun]
  refine hK _ _ ?_
  rw [hd]
  refine h _ ⟨by rw [List.length_append, h1]; rfl, ⟨_, blk_put h2 i _ rfl, by rw [Array.size_setIfInBounds, h3], ?_⟩, fun j hj => (Below.heap_setCell W _ _ j hj).trans (h5 j hj), h6.setCell hle _, by simpa using h7⟩
  rw [Array.toList_setIfInBounds, List.take_set, h4, List.set_append_right _ _ (by omega), h1, Nat.sub_self, List.drop_eq_getElem_cons (by omega), List.set_cons_zero, List.append_assoc]
  rfl
theorem pu {P : Program} {ops : Array Oper} {Q : Exit → Act → World → Prop} {md : Region.Mode} {S : World → Prop} {ds : List Nat} {oi : Oper} {v : Value} {fuel : Nat} {l : Array Bool} {a a' : Act} {w : World} {T : Bool × List (List Nat × List Nat)} (i : Nat) (N : Option Tmp) (HT : Aside0 (rtab md ops = T))
    (h : wpAnyLast P md ops Q S ds fuel (l.setIfInBounds i true) a' w)
    (hi : ops[i]? = some oi := by rfl) (hN : oi.dst = N := by rfl) (hc : anyT T l.toList (l.setIfInBounds i true).toList i = true := by kernel_rfl)
    (hQ : ∀ c a w, Q (.panic c) (a.put oi.dst v) w → Q (.panic c) a w := by exact fun _ _ _ h => h) (hy : Yields P ops oi v a := by exact Or.inl ⟨by rfl, by intro w'; go_simp; with_reducible rfl⟩)
    (ha : a.put N v = a' := by (simp only [Act.put, List.setIfInBounds_toArray, List.set_cons_zero, List.set_cons_succ, i64_w, i32_w]; rfl)) : wpAnyLast P md ops Q S ds (fuel + 1) l a w :=
  pure_ (i := i) (N := N) (v := v) (a' := a') (l.setIfInBounds i true) hi hN (any_of HT.out hc) hQ hy ha h
theorem row_store {α : Type} {P : Program} {ops : Array Oper} {rest : List Oper} {o : Oper} {a : Act} {W : World} {Q : Exit → Act → World → Prop} {d : Kd α} {T t : TypeId} {p v : Operand} {g n cap base off : Nat} {okr : Nat → Prop} {xs : List α} {cells : Array Value} (i : Int) (x' : α) (hgd : o.guard = none) (ho : o.op = .store t p v) (hd : o.dst = none) (hx : a.eval p = .pointer (some ⟨g, off, none⟩)) (hy : a.eval v = .agg cells) (hi : (P.info? t).map (·.size) = some cells.size)
    (HR : d.R T W base okr (.slice (some ⟨g, 0, none⟩) n cap) xs) (h0 : 0 ≤ i) (hn : i < n) (hoff : off = i.toNat * d.sz) (hsz : cells.size = d.sz) (hM : d.M W base (fun _ => False) x' cells.toList)
    (h : ∀ w1 : World, d.R T w1 base okr (.slice (some ⟨g, 0, none⟩) n cap) (xs.set i.toNat x') → (∀ j, j ≠ g → w1.heap[j]? = W.heap[j]?) → (∀ w0 : World, Below w0.heap.size w0 W → w0.heap.size ≤ g → Below w0.heap.size w0 w1) → wpList P ops Q rest a w1) : wpList P ops Q (o :: rest) a W := by
  subst hoff
  have h1 : cells.all (·.oneCell') = true := Array.all_eq_true_iff_forall_mem.2 (fun v hv => d.K_one (d.K_of_M hM) v (by simpa using hv))
  obtain ⟨c, hcl, _, hcc, hfr⟩ := Kd.R_elem HR x' i h0 hn
  have ht : W.there g (i.toNat * d.sz) cells.size := fun j hj => ⟨by
    have hj' : j < c.length := by omega
    rw [hcc j _ (List.getElem?_eq_getElem hj')]
    rfl, hfr j⟩
  obtain ⟨hR, hG⟩ := Kd.R_seg HR i h0 hn (c := c) (seg := cells.toList) (j := 0) hcl hcc (by simp [hsz]) (x' := x') (okp := fun _ => False) (by
    rw [List.take_zero, List.nil_append, List.drop_eq_nil_of_le (by simp; omega), List.append_nil]
    exact hM) (fun _ hk => hk.elim)
  rw [Nat.add_zero] at hR hG
  refine wpList_store_mid hgd t p v ho g (i.toNat * d.sz) cells hx hy ht hi h1 ?_
  rw [hd]
  have hfar : ∀ j, j ≠ g → (W.setCells g (i.toNat * d.sz) cells.toList).heap[j]? = W.heap[j]? := fun j hj => setCells_far _ _ j hj
  exact h _ hR hfar (fun w0 hb hle => hb.trans ⟨hG.os, hG.tape, hG.output, hG.size, fun k hk => hfar k (by omega)⟩)
theorem rt {α : Type} {a b : α} (h : a = b := by first | rfl | (simp [errW_none, errW_some] <;> rfl) | (simp [*, errW_none, errW_some] <;> rfl)) : a = b := h
theorem rq {α : Type} {a b : α} (h : a = b := by first | rfl | (simp; done) | (simp [Int.tdiv_eq_ediv_of_nonneg]; done) | (simp [*]; done)) : a = b := h
def heldL {α : Type} (q : α → Int → Bool) (f : Int → Int) : List α → Int → Option Int
  | [], a => some a
  | x :: l, a => if q x a = true then heldL q f l (f a) else none
section
open Go.Proofs.YtiokbmbdhejciaaW.PrintWords.Kd
variable {P : Program} {ops : Array Oper} {rest : List Oper} {o : Oper} {a : Act} {Q' : Exit → Act → World → Prop} {Kc : Act → World → Prop} {α : Type}
theorem Q_run_rows (d : Kd α) {Rr : α → List Value → Prop} {w0 W : World} (base : Nat) (t ty e : TypeId) (z : Value) (bytes : Nat)
    (ht : P.underlying t = some (.slice e)) (hinfo : (P.info? e).map (fun i => (i.zero, i.size, i.bytes)) = some (some z, d.sz, bytes)) (hz : z.cells.size = d.sz) (hs0 : 0 < d.sz) (hb0 : 0 < bytes)
    (v : Value) (xs ys : List α) (A : Option Addr) (m c : Nat) (ok okp : Nat → Prop)
    (HO : d.Q e W base ok v xs) (HR : ReadsRow Rr d.sz W A m ys) (hKM : ∀ x cs, Rr x cs → d.M W base okp x cs) (hokp : ∀ k, okp k → ok k ∧ some k ≠ v.ownBlock) (hfresh : ∀ k, W.heap.size ≤ k → ok k)
    (HB : Below base w0 W) (hbase : base ≤ W.heap.size) (hl : (xs.length + m) * bytes ≤ 140737488355328) :
    ∃ v1 w1, (Builtin.append_ #[t, t] ty #[v, .slice A m c]).run P W = .ok v1 w1 ∧ d.Q e w1 base ok v1 (xs ++ ys) ∧ Below base w0 w1 ∧ W.grownBy w1 v.ownBlock ∧ (v1.ownBlock = v.ownBlock ∨ ∃ b, v1.ownBlock = some b ∧ W.heap.size ≤ b) := by
  obtain ⟨i0, hi, hzz⟩ := Option.map_eq_some_iff.1 hinfo
  simp only [Prod.mk.injEq] at hzz
  obtain ⟨hz0, hz1, hz2⟩ := hzz
  have hm : ys.length = m := HR.1
  have hlen : xs.length + m ≤ 140737488355328 := Nat.le_trans (Nat.le_mul_of_pos_right _ hb0) hl
  obtain ⟨hok, inner, hown, hr⟩ := HO
  rcases Nat.eq_zero_or_pos m with h0 | hp
  · subst h0
    obtain rfl : ys = [] := List.eq_nil_of_length_eq_zero hm
    refine ⟨v, W, ?_, by rw [List.append_nil]; exact ⟨hok, inner, hown, hr⟩, HB, World.grownBy.refl W _, .inl rfl⟩
    rcases hown.2 with ⟨hn, B, rfl, _⟩ | ⟨g, off, cap, cur, rfl, _, _, hnc, _⟩
    · cases A <;> cases B <;> simp [Builtin.append_, run_underlying ht, sizeOf, typeInfo, hi, Builtin.lenOf, Builtin.firstCells, loadCells, loadCellsFrom, storeCells]
    · cases A <;> simp [Builtin.append_, run_underlying ht, sizeOf, typeInfo, hi, Builtin.lenOf, Builtin.firstCells, hnc, loadCells, loadCellsFrom, storeCells]
  · rcases A with _ | ad
    · obtain ⟨ad, h, _⟩ := HR.2.2 hp
      cases h
    obtain ⟨news, hnr, hnc⟩ := ReadsRow.inner_ HR
    have hnM : Reps (d.M W base okp) d.sz ys news := hnr.imp_ (fun p c hp => hKM p c hp)
    have hone : ∀ u ∈ news, u.oneCell' = true := by
      intro u hu
      obtain ⟨q, hq, rfl⟩ := List.mem_iff_getElem.1 hu
      have hql : q / d.sz < ys.length := by
        rw [Nat.div_lt_iff_lt_mul hs0]
        rw [← hnM.1]
        exact hq
      have hc := hnM.2 (q / d.sz) _ (List.getElem?_eq_getElem hql)
      refine d.K_one (d.K_of_M hc) _ ?_
      rw [List.mem_iff_getElem?]
      refine ⟨q % d.sz, ?_⟩
      rw [List.getElem?_take, if_pos (Nat.mod_lt _ hs0), List.getElem?_drop, Nat.mul_comm, Nat.div_add_mod, List.getElem?_eq_getElem hq]
    obtain ⟨v1, w1, hrun, h2, hg, hat⟩ := q_append (P := P) W base t ty e i0 z d.sz bytes ht hi hz0 hz1 hz2 hz hs0 v xs.length inner hown ad m c news (by rw [hnM.1, hm]) hnc hone hp (by simp only [maxLen]; omega) hl hbase
    have hne : ∀ k, some k ≠ v.ownBlock → k < W.heap.size → some k ≠ v1.ownBlock := by
      intro k hk hlt
      rcases hat with hat | ⟨b, hb, hle⟩
      · rw [hat]; exact hk
      · rw [hb]
        intro he
        injection he with he
        omega
    have step : ∀ {q : α} {c : List Value} {o : Nat → Prop}, d.M W base o q c → (∀ k, o k → ok k ∧ some k ≠ v.ownBlock) → d.M w1 base (fun k => ok k ∧ some k ≠ v1.ownBlock) q c := by
      intro q c o hq ho
      have h1 := d.M_move (w1 := w1) (fun k hk => hg.block k hk.2.2.1 (ho k hk.1).2) (d.M_bound hq)
      exact d.M_mono (fun k hk => ⟨(ho k hk.1).1, hne k (ho k hk.1).2 hk.2.2.1⟩) h1
    refine ⟨v1, w1, hrun, ⟨fun k hk => ?_, inner ++ news, by rw [List.length_append, hm]; exact h2, reps_append (hr.imp_ (fun _ _ hq => step hq (fun _ hk => hk))) (hnM.imp_ (fun _ _ hq => step hq hokp))⟩, HB.grown hg hbase (fun k hk => (q_typed hown k hk).1), hg, hat⟩
    rcases hat with hat | ⟨b, hb, hle⟩
    · exact hok k (hat ▸ hk)
    · rw [hb] at hk
      injection hk with hk
      exact hfresh k (by omega)
theorem Q_append_rows_step (d : Kd α) {Rr : α → List Value → Prop} {w0 W : World} (base : Nat) (hw : Region.wanted o (yielded ops a.tmps) = true) (s x : Operand) (t e : TypeId) (z : Value) (bytes : Nat)
    (ho : o.op = .call { callee := .builtin .append, args := #[s, x], argTypes := #[t, t] })
    (ht : P.underlying t = some (.slice e)) (hinfo : (P.info? e).map (fun i => (i.zero, i.size, i.bytes)) = some (some z, d.sz, bytes)) (hz : z.cells.size = d.sz) (hs0 : 0 < d.sz) (hb0 : 0 < bytes)
    (v : Value) (xs ys : List α) (A : Option Addr) (m c : Nat) (ok okp : Nat → Prop) (hs : a.eval s = v) (hx : a.eval x = .slice A m c)
    (HO : d.Q e W base ok v xs) (HR : ReadsRow Rr d.sz W A m ys) (hKM : ∀ x cs, Rr x cs → d.M W base okp x cs) (hokp : ∀ k, okp k → ok k ∧ some k ≠ v.ownBlock) (hfresh : ∀ k, W.heap.size ≤ k → ok k)
    (HB : Below base w0 W) (hbase : base ≤ W.heap.size) (hl : (xs.length + m) * bytes ≤ 140737488355328)
    (h : ∀ v1 w1, d.Q e w1 base ok v1 (xs ++ ys) → Below base w0 w1 → W.grownBy w1 v.ownBlock → (v1.ownBlock = v.ownBlock ∨ ∃ b, v1.ownBlock = some b ∧ W.heap.size ≤ b) → Kc (a.put o.dst v1) w1) :
    if Region.wanted o (yielded ops a.tmps) = true then Oper.wp P o a W Kc Q' else Kc (a.put o.dst undef) W := by
  obtain ⟨v1, w1, hr, h1, h2, h3, h4⟩ := Q_run_rows (P := P) d base t o.type e z bytes ht hinfo hz hs0 hb0 v xs ys A m c ok okp HO HR hKM hokp hfresh HB hbase hl
  rw [if_pos hw]
  unfold Oper.wp execOp
  simp only [ho, resolve, invoke, builtin, Sem.run_bind, Sem.run_pure, Result.andThen_ok, List.map_toArray, List.map_cons, List.map_nil, hs, hx, hr]
  exact h v1 w1 h1 h2 h3 h4
end
end Go.Proofs.Ytiokbmbdhejciaa.Gv
