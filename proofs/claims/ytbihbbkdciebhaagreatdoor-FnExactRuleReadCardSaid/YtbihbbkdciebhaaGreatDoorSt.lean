/- Some boxes and some cells that a walk knows, under one name: what each step makes of them. -/
import Derived.Test.YtbihbbkdciebhaaGreatDoorLb
namespace Go.Proofs.YtbihbbkdciebhaaGreatDoor.St
open Go Go.RowKit Go.Proofs.YtbihbbkdciebhaaGreatDoorW.PrintWords Go.Proofs.YtbihbbkdciebhaaGreatDoorW.PrintLast Go.Proofs.YtbihbbkdciebhaaGreatDoorW.PrintMore
set_option linter.unusedVariables false
set_option linter.unusedSimpArgs false
/-- Since w0: boxes of one's own (block, cells, type), no two the same; cells of other blocks that are read. -/
structure St (w0 W : World) (fs : List (Nat × Array Value × TypeId)) (cf : List (Addr × Value)) : Prop where
  below : Below w0.heap.size w0 W
  box : ∀ f ∈ fs, W.heap[f.1]? = some (.cells f.2.1 f.2.2 (0, 0))
  le : ∀ f ∈ fs, w0.heap.size ≤ f.1
  nd : (fs.map (·.1)).Nodup
  cell : ∀ q ∈ cf, W.cell? q.1 = some q.2
  far : ∀ q ∈ cf, ∀ f ∈ fs, q.1.block ≠ f.1
theorem St.start (w0 : World) : St w0 w0 [] [] := ⟨Below.refl _ _, by simp, by simp, by simp, by simp, by simp⟩
theorem St.get {w0 W : World} {fs : List (Nat × Array Value × TypeId)} {cf : List (Addr × Value)} (h : St w0 W fs cf) {i g : Nat} {cs : Array Value} {t : TypeId} (hi : fs[i]? = some (g, cs, t)) : W.heap[g]? = some (.cells cs t (0, 0)) := h.box _ (List.mem_of_getElem? hi)
theorem St.step {w0 W w' : World} {fs : List (Nat × Array Value × TypeId)} {cf : List (Addr × Value)} (h : St w0 W fs cf) (hb : Below W.heap.size W w') : St w0 w' fs cf :=
  ⟨h.below.trans (hb.mono h.below.size), fun f hf => (hb.block f.1 (blk_lt (h.box f hf))).trans (h.box f hf), h.le, h.nd, fun q hq => pw_cell_below hb (h.cell q hq), h.far⟩
theorem St.alloc {w0 W : World} {fs : List (Nat × Array Value × TypeId)} {cf : List (Addr × Value)} (h : St w0 W fs cf) (cs : Array Value) (t : TypeId) : St w0 (W.alloc (.cells cs t (0, 0))) ((W.heap.size, cs, t) :: fs) cf := by
  have h1 := h.step (below_alloc (Below.refl _ W) (.cells cs t (0, 0)))
  refine ⟨h1.below, ?_, ?_, ?_, h1.cell, ?_⟩
  · intro f hf
    rcases List.mem_cons.1 hf with rfl | hf
    · exact heap_alloc_new W _
    · exact h1.box f hf
  · intro f hf
    rcases List.mem_cons.1 hf with rfl | hf
    · exact h.below.size
    · exact h.le f hf
  · simp only [List.map_cons, List.nodup_cons, h.nd, and_true]
    intro hm
    obtain ⟨f, hf, e⟩ := List.mem_map.1 hm
    have := blk_lt (h.box f hf)
    omega
  · intro q hq f hf
    rcases List.mem_cons.1 hf with rfl | hf
    · have := World.block_lt_of_cell? _ _ (h.cell q hq)
      exact Nat.ne_of_lt this
    · exact h.far q hq f hf
theorem St.put {w0 W w1 : World} {fs : List (Nat × Array Value × TypeId)} {cf : List (Addr × Value)} (h : St w0 W fs cf) {i g : Nat} {cs cs' : Array Value} {t : TypeId} (hi : fs[i]? = some (g, cs, t)) (hbox : w1.heap[g]? = some (.cells cs' t (0, 0))) (hoth : ∀ j, j ≠ g → w1.heap[j]? = W.heap[j]?) (hbel : ∀ w0 : World, Below w0.heap.size w0 W → w0.heap.size ≤ g → Below w0.heap.size w0 w1) : St w0 w1 (fs.set i (g, cs', t)) cf := by
  have hm := List.mem_of_getElem? hi
  obtain ⟨hil, hie⟩ := List.getElem?_eq_some_iff.1 hi
  have hmap : (fs.set i (g, cs', t)).map (·.1) = fs.map (·.1) := by
    rw [List.map_set]
    refine List.ext_getElem? fun j => ?_
    rw [List.getElem?_set]
    split
    · rename_i e
      subst e
      simp [hil, hie]
    · rfl
  refine ⟨hbel w0 h.below (h.le _ hm), ?_, ?_, by rw [hmap]; exact h.nd, ?_, ?_⟩
  · intro f hf
    obtain ⟨j, hj⟩ := List.getElem?_of_mem hf
    rw [List.getElem?_set] at hj
    split at hj
    · injection hj with hj
      subst hj
      exact hbox
    · rename_i hne
      have hfj := h.box f (List.mem_of_getElem? hj)
      have hd : f.1 ≠ g := by
        intro e
        have h1 : (fs.map (·.1))[j]? = some g := by rw [List.getElem?_map, hj]; simp [e]
        have h2 : (fs.map (·.1))[i]? = some g := by rw [List.getElem?_map, hi]; rfl
        have hl2 : i < (fs.map (·.1)).length := by simpa using hil
        exact hne ((List.getElem?_inj hl2 h.nd).1 (h2.trans h1.symm))
      rw [hoth _ hd]
      exact hfj
  · intro f hf
    have : f.1 ∈ fs.map (·.1) := by rw [← hmap]; exact List.mem_map.2 ⟨f, hf, rfl⟩
    obtain ⟨f', hf', e⟩ := List.mem_map.1 this
    rw [← e]
    exact h.le f' hf'
  · intro q hq
    have hne := h.far q hq _ hm
    have : w1.heap[q.1.block]? = W.heap[q.1.block]? := hoth _ hne
    have hc := h.cell q hq
    unfold World.cell? at hc ⊢
    rw [this]
    exact hc
  · intro q hq f hf
    have : f.1 ∈ fs.map (·.1) := by rw [← hmap]; exact List.mem_map.2 ⟨f, hf, rfl⟩
    obtain ⟨f', hf', e⟩ := List.mem_map.1 this
    rw [← e]
    exact h.far q hq f' hf'
/-- Cells that are read from now on. -/
theorem St.read {w0 W : World} {fs : List (Nat × Array Value × TypeId)} {cf cf' : List (Addr × Value)} (h : St w0 W fs cf) (hc : ∀ q ∈ cf', W.cell? q.1 = some q.2) (hf : ∀ q ∈ cf', ∀ f ∈ fs, q.1.block ≠ f.1) : St w0 W fs cf' := ⟨h.below, h.box, h.le, h.nd, hc, hf⟩
theorem St.ne {w0 W : World} {fs : List (Nat × Array Value × TypeId)} {cf : List (Addr × Value)} (h : St w0 W fs cf) {i j g g' : Nat} {cs cs' : Array Value} {t t' : TypeId} (hi : fs[i]? = some (g, cs, t)) (hj : fs[j]? = some (g', cs', t')) (hne : i ≠ j) : g ≠ g' := by
  intro e
  have h1 : (fs.map (·.1))[i]? = some g := by rw [List.getElem?_map, hi]; rfl
  have h2 : (fs.map (·.1))[j]? = some g := by rw [List.getElem?_map, hj, e]; rfl
  have hl : i < (fs.map (·.1)).length := (List.getElem?_eq_some_iff.1 h1).1
  exact hne ((List.getElem?_inj hl h.nd).1 (h1.trans h2.symm))
theorem St.rd {w0 W : World} {fs : List (Nat × Array Value × TypeId)} {cf : List (Addr × Value)} (h : St w0 W fs cf) {i : Nat} {p : Addr} {v : Value} (hi : cf[i]? = some (p, v)) : W.cell? p = some v := h.cell _ (List.mem_of_getElem? hi)
theorem St.drew {w0 W : World} {fs : List (Nat × Array Value × TypeId)} {cf : List (Addr × Value)} (h : St w0 W fs cf) : St w0 W.drew fs cf := h.step (below_drew (Below.refl _ W))
theorem St.drewN {w0 W : World} {fs : List (Nat × Array Value × TypeId)} {cf : List (Addr × Value)} (h : St w0 W fs cf) (n : Nat) : St w0 (W.drewN n) fs cf := h.step (pw_below_drewN (Below.refl _ W) n)
theorem St.setCell {w0 W : World} {fs : List (Nat × Array Value × TypeId)} {cf : List (Addr × Value)} (h : St w0 W fs cf) {i g : Nat} {cs : Array Value} {t : TypeId} (hi : fs[i]? = some (g, cs, t)) (j : Nat) (v : Value) : St w0 (W.setCell ⟨g, j, none⟩ v) (fs.set i (g, cs.setIfInBounds j v, t)) cf :=
  h.put hi (blk_put (h.get hi) j v rfl) (fun k hk => Below.heap_setCell W _ _ k hk) (fun w0 hb hle => hb.setCell hle _)
section
variable {P : Program} {ops : Array Oper} {rest : List Oper} {o : Oper} {a : Act} {w0 W : World} {Q : Exit → Act → World → Prop} {fs : List (Nat × Array Value × TypeId)} {cf : List (Addr × Value)}
theorem gate_alloc {t : TypeId} (_ho : o.op = .alloc t) (h : wpList P ops Q (o :: rest) a W) : wpList P ops Q (o :: rest) a W := h
theorem ev_alloc {t : TypeId} {cells : Array Value} (HS : Aside0 (St w0 W fs cf)) (hgd : o.guard = none) (ho : o.op = .alloc t) (hz : (P.info? t).map (·.zero) = some (some (.agg cells)))
    (h : ∀ g w1, Aside0 (St w0 w1 ((g, cells, t) :: fs) cf) → wpList P ops Q rest (a.put o.dst (.pointer (some ⟨g, 0, none⟩))) w1) : wpList P ops Q (o :: rest) a W := by
  refine wpList_plain hgd fun K hK => ?_
  unfold Oper.wp
  rw [Gv.alloc_run ho hz]
  exact hK _ _ (h _ _ ⟨HS.out.alloc cells t⟩)
theorem ev_alloc1 {t : TypeId} {z : Value} (HS : Aside0 (St w0 W fs cf)) (hgd : o.guard = none) (ho : o.op = .alloc t) (hz : (P.info? t).map (·.zero) = some (some z)) (h1 : z.cells = #[z])
    (h : ∀ g w1, Aside0 (St w0 w1 ((g, #[z], t) :: fs) cf) → wpList P ops Q rest (a.put o.dst (.pointer (some ⟨g, 0, none⟩))) w1) : wpList P ops Q (o :: rest) a W := by
  refine wpList_plain hgd fun K hK => ?_
  have hr : (execOp a.eval o).run P W = .ok (.value (.pointer (some ⟨W.heap.size, 0, none⟩))) (W.alloc (.cells #[z] t (0, 0))) := by
    rw [Option.map_eq_some_iff] at hz
    obtain ⟨i, hi, hz⟩ := hz
    unfold execOp
    simp only [ho, Sem.run_bind, Instr.alloc, zeroValue, typeInfo, newVar, newRow, run_newObj_alloc, Sem.run_pure, Result.andThen_ok]
    simp [hi, hz, h1]
  unfold Oper.wp
  rw [hr]
  exact hK _ _ (h _ _ ⟨HS.out.alloc #[z] t⟩)
theorem ev_store {t : TypeId} {p v : Operand} {g : Nat} {old cells : Array Value} (i : Nat) (HS : Aside0 (St w0 W fs cf)) (hi : fs[i]? = some (g, old, t)) (hgd : o.guard = none) (ho : o.op = .store t p v) (hd : o.dst = none) (hx : a.eval p = .pointer (some ⟨g, 0, none⟩)) (hy : a.eval v = .agg cells) (hsz : (P.info? t).map (·.size) = some cells.size) (hold : old.size = cells.size) (h1 : cells.all (·.oneCell') = true)
    (h : ∀ w1, Aside0 (St w0 w1 (fs.set i (g, cells, t)) cf) → wpList P ops Q rest a w1) : wpList P ops Q (o :: rest) a W :=
  Gv.store_event hgd ho hd hx hy (HS.out.get hi) hsz hold h1 fun w1 hbox hoth hbel => h w1 ⟨HS.out.put hi hbox hoth hbel⟩
theorem ev_put {t T : TypeId} {p v : Operand} {g j : Nat} {k : IntKind} {n : Int} {cs : Array Value} (i : Nat) (HS : Aside0 (St w0 W fs cf)) (hi : fs[i]? = some (g, cs, T)) (hgd : o.guard = none) (ho : o.op = .store t p v) (hd : o.dst = none) (hx : a.eval p = .pointer (some ⟨g, j, none⟩)) (hy : a.eval v = .int k n) (hsz : (P.info? t).map (·.size) = some 1) (hlt : j < cs.size)
    (h : ∀ w1, Aside0 (St w0 w1 (fs.set i (g, cs.setIfInBounds j (.int k n), T)) cf) → wpList P ops Q rest a w1) : wpList P ops Q (o :: rest) a W :=
  Gv.put_event hgd ho hd hx hy (HS.out.get hi) hsz hlt fun w1 hbox hoth hbel => h w1 ⟨HS.out.put hi hbox hoth hbel⟩
theorem ev_putb {t T : TypeId} {p v : Operand} {g j : Nat} {n : Bool} {cs : Array Value} (i : Nat) (HS : Aside0 (St w0 W fs cf)) (hi : fs[i]? = some (g, cs, T)) (hgd : o.guard = none) (ho : o.op = .store t p v) (hd : o.dst = none) (hx : a.eval p = .pointer (some ⟨g, j, none⟩)) (hy : a.eval v = .bool n) (hsz : (P.info? t).map (·.size) = some 1) (hlt : j < cs.size)
    (h : ∀ w1, Aside0 (St w0 w1 (fs.set i (g, cs.setIfInBounds j (.bool n), T)) cf) → wpList P ops Q rest a w1) : wpList P ops Q (o :: rest) a W :=
  Gv.putb_event hgd ho hd hx hy (HS.out.get hi) hsz hlt fun w1 hbox hoth hbel => h w1 ⟨HS.out.put hi hbox hoth hbel⟩
theorem ev_mput {t T : TypeId} {p v : Operand} {g j : Nat} {cells cs : Array Value} (i : Nat) (HS : Aside0 (St w0 W fs cf)) (hi : fs[i]? = some (g, cs, T)) (hgd : o.guard = none) (ho : o.op = .store t p v) (hd : o.dst = none) (hx : a.eval p = .pointer (some ⟨g, j, none⟩)) (hy : a.eval v = .agg cells) (hsz : (P.info? t).map (·.size) = some cells.size) (h1 : cells.toList.all (·.oneCell') = true) (hlt : j + cells.toList.length ≤ cs.size)
    (h : ∀ w1, Aside0 (St w0 w1 (fs.set i (g, (cs.toList.take j ++ cells.toList ++ cs.toList.drop (j + cells.toList.length)).toArray, T)) cf) → wpList P ops Q rest a w1) : wpList P ops Q (o :: rest) a W :=
  Gv.mput_event hgd ho hd hx hy (HS.out.get hi) hsz h1 hlt rfl fun w1 hbox hoth hbel => h w1 ⟨HS.out.put hi hbox hoth hbel⟩
theorem ev_putv {t T : TypeId} {p v : Operand} {g j : Nat} {u : Value} {cs : Array Value} (i : Nat) (HS : Aside0 (St w0 W fs cf)) (hi : fs[i]? = some (g, cs, T)) (hgd : o.guard = none) (ho : o.op = .store t p v) (hd : o.dst = none) (hx : a.eval p = .pointer (some ⟨g, j, none⟩)) (hy : a.eval v = u) (hu : u.cells = #[u]) (h1 : u.oneCell' = true) (hsz : (P.info? t).map (·.size) = some 1) (hlt : j < cs.size)
    (h : ∀ w1, Aside0 (St w0 w1 (fs.set i (g, cs.setIfInBounds j u, T)) cf) → wpList P ops Q rest a w1) : wpList P ops Q (o :: rest) a W := by
  have hg := HS.out.get hi
  have hc : W.cell? ⟨g, j, none⟩ = some cs[j] := by rw [blk_cell hg j, Array.getElem?_eq_getElem hlt]
  have hf : W.frozen? ⟨g, j, none⟩ = false := blk_frozen hg j
  have hst : (store ⟨g, j, none⟩ u).run P W = .ok () (W.setCell ⟨g, j, none⟩ u) := by
    rw [run_store P W _ _ _ h1, hc]
    simp [hf]
  have hrun : (storeVar t ⟨g, j, none⟩ u).run P W = .ok () (W.setCell ⟨g, j, none⟩ u) := by
    cases hq : P.info? t with
    | none => simp [hq] at hsz
    | some d =>
      have hs : d.size = 1 := by simpa [hq] using hsz
      simp [storeVar, sizeOf, typeInfo, hq, hs, hu, storeCells, Addr.add, hst]
  refine wpList_plain hgd fun K hK => ?_
  unfold Oper.wp execOp
  simp only [ho, hx, hy, Instr.storeAt, Instr.sureAddr, Sem.run_bind, Sem.run_pure, Result.andThen_ok, hrun]
  refine hK _ _ ?_
  rw [hd]
  exact h _ ⟨HS.out.setCell hi j u⟩
/-- The world behind some steps, under a letter. -/
theorem wp_gen {c : Code} {Q : Exit → Act → World → Prop} {a : Act} (HS : Aside0 (St w0 W fs cf)) (h : ∀ w1, Aside0 (St w0 w1 fs cf) → c.wp P Q a w1) : c.wp P Q a W := h W HS
/-- A region that draws its order and reads two cells first. -/
theorem start2 {ds : List Nat} {id n : Nat} {p1 p2 : Addr} {v1 v2 : Value} (h1 : W.cell? p1 = some v1) (h2 : W.cell? p2 = some v2) (l : Array Bool) (hm : P.follows .mixedOrders = true) (hn : ops.size = n) (hl : Array.replicate n false = l)
    (h : (W.drew.cell? p1 = some v1 ∧ W.drew.cell? p2 = some v2) → wpAnyLast P .any ops Q (fun w' => w'.cell? p1 = some v1 ∧ w'.cell? p2 = some v2) ds n l a W.drew) : (Code.region id ops true).wp P Q a W :=
  start_ (S := fun w' => w'.cell? p1 = some v1 ∧ w'.cell? p2 = some v2) l hm hn hl ⟨h1, h2⟩ h
theorem ev_load {t : TypeId} {x : Operand} {g : Nat} {cs : Array Value} {d : TypeDesc} (i : Nat) (HS : Aside0 (St w0 W fs cf)) (hi : fs[i]? = some (g, cs, t)) (hgd : o.guard = none) (ho : o.op = .load t x) (hx : a.eval x = .pointer (some ⟨g, 0, none⟩)) (hu : P.underlying t = some d) (hd : (match d with | .struct _ | .array _ _ => true | _ => false) = true) (hsz : (P.info? t).map (·.size) = some cs.size)
    (h : wpList P ops Q rest (a.put o.dst (.agg cs)) W) : wpList P ops Q (o :: rest) a W :=
  wpList_load_row hgd t x ho g hx t cs (0, 0) d (HS.out.get hi) hu hd hsz h
theorem ev_get {t T : TypeId} {x : Operand} {g j : Nat} {v : Value} {cs : Array Value} {d : TypeDesc} (i : Nat) (HS : Aside0 (St w0 W fs cf)) (hi : fs[i]? = some (g, cs, T)) (hgd : o.guard = none) (ho : o.op = .load t x) (hx : a.eval x = .pointer (some ⟨g, j, none⟩)) (hv : cs[j]? = some v) (hu : P.underlying t = some d) (hd : (match d with | .struct _ | .array _ _ => true | _ => false) = false)
    (h : wpList P ops Q rest (a.put o.dst v) W) : wpList P ops Q (o :: rest) a W :=
  Gv.get_event hgd ho hx (HS.out.get hi) hv hu hd h
theorem ev_cell {t : TypeId} {x : Operand} {p : Addr} {v : Value} {d : TypeDesc} (i : Nat) (HS : Aside0 (St w0 W fs cf)) (hi : cf[i]? = some (p, v)) (hgd : o.guard = none) (ho : o.op = .load t x) (hx : a.eval x = .pointer (some p)) (hu : P.underlying t = some d) (hd : (match d with | .struct _ | .array _ _ => true | _ => false) = false)
    (h : wpList P ops Q rest (a.put o.dst v) W) : wpList P ops Q (o :: rest) a W := by
  have hc := HS.out.cell _ (List.mem_of_getElem? hi)
  have hrun : (loadVar t p).run P W = .ok v W := by
    have hagg : (isAgg t).run P W = .ok false W := by
      unfold isAgg
      rw [Sem.run_bind, run_underlying hu W]
      cases d <;> simp_all
    simp only at hc
    simp [loadVar, Sem.run_bind, hagg, run_load, hc]
  refine wpList_plain hgd fun K hK => ?_
  unfold Oper.wp execOp
  simp only [ho, hx, Instr.loadAt, Instr.sureAddr, Sem.run_bind, Sem.run_pure, Result.andThen_ok, hrun]
  exact hK _ _ h
end
/-- A row of texts that was made: its cells. -/
theorem words_read {w' : World} {base : Nat} {ok : Nat → Prop} {v : Value} {t : List ByteArray} (h : Kd.R Kd.string 9 w' base ok v t) (ht : 0 < t.length) : ∃ g c, v = .slice (some ⟨g, 0, none⟩) t.length c ∧ base ≤ g ∧ ∀ (j : Nat) s, t[j]? = some s → w'.cell? ⟨g, j, none⟩ = some (.string s) := by
  obtain ⟨g, c, rfl, hb, _, _⟩ := Kd.R_form h ht
  refine ⟨g, c, rfl, hb, fun j s hs => ?_⟩
  obtain ⟨_, _, hr⟩ := (Kd.R_reads' h).2.2
  obtain ⟨ad, e, hc⟩ := hr ht
  injection e with e
  subst e
  obtain ⟨cs, _, hk, hcc⟩ := hc j s hs
  obtain rfl : cs = [.string s] := hk
  have := hcc 0 (.string s) rfl
  rw [show j * (Kd.string : Kd ByteArray).sz + 0 = j from by rw [show (Kd.string : Kd ByteArray).sz = 1 from rfl]; omega, add_plain] at this
  exact this
theorem St.words {w0 W w' : World} {fs : List (Nat × Array Value × TypeId)} {cf cf' : List (Addr × Value)} {g : Nat} (h : St w0 W fs cf) (hb : Below W.heap.size W w') (hle : W.heap.size ≤ g) (hc : ∀ q ∈ cf', q.1.block = g ∧ w'.cell? q.1 = some q.2) : St w0 w' fs cf' :=
  (h.step hb).read (fun q hq => (hc q hq).2) (fun q hq f hf => by
    have := blk_lt (h.box f hf)
    rw [(hc q hq).1]
    omega)
theorem list17 (t : List ByteArray) (h : t.length = 17) : ∃ s0 s1 s2 s3 s4 s5 s6 s7 s8 s9 s10 s11 s12 s13 s14 s15 s16, t = [s0, s1, s2, s3, s4, s5, s6, s7, s8, s9, s10, s11, s12, s13, s14, s15, s16] := by
  match t, h with
  | [s0, s1, s2, s3, s4, s5, s6, s7, s8, s9, s10, s11, s12, s13, s14, s15, s16], _ => exact ⟨s0, s1, s2, s3, s4, s5, s6, s7, s8, s9, s10, s11, s12, s13, s14, s15, s16, rfl⟩
end Go.Proofs.YtbihbbkdciebhaaGreatDoor.St
