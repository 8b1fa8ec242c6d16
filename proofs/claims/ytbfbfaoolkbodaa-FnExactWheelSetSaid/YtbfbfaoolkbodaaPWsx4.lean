/- Plain Lean functions of a law's Go functions, their contracts, by a program of this session (wip/pr.py over the kit's print). -/
import Derived.Test.YtbfbfaoolkbodaaPWsx0
import Derived.Test.YtbfbfaoolkbodaaPWsx1
import Derived.Test.YtbfbfaoolkbodaaPWsx3
namespace Go.Proofs.Ytbfbfaoolkbodaa.PWs
open Go.RowKit Go.Proofs.YtbfbfaoolkbodaaW.PrintWords Go.Proofs.YtbfbfaoolkbodaaW.PrintLast Go.Proofs.YtbfbfaoolkbodaaW.PrintMore
attribute [local go_sem] max2_int min2_int max_two min_two max_three min_three max_four min_four   -- for this text's walks alone
set_option linter.unusedVariables false
set_option linter.unusedSimpArgs false

/-! ### impl_copyWheel_c38: function 36 over a closure -/
/-- The rest of a row of one's own is overwritten, the row cut ahead of it. -/
theorem Dl.R_clear {α : Type} {d : Kd α} {e base g n cap m : Nat} {ok : Nat → Prop} {W : World} {xs : List α} (h : d.R e W base ok (.slice (some ⟨g, 0, none⟩) n cap) xs) (hm : m ≤ n) (seg : List Value) (hs : m * d.sz + seg.length ≤ n * d.sz) :
    d.R e (W.setCells g (m * d.sz) seg) base ok (.slice (some ⟨g, 0, none⟩) m cap) (xs.take m) ∧ W.grownBy (W.setCells g (m * d.sz) seg) (some g) := by
  obtain ⟨hn, hnc, _⟩ := Kd.R_reads' h
  have ht := Kd.R_take (m := m) h (by omega)
  obtain ⟨hok, inner, ho, hr⟩ := ht
  obtain ⟨ho1, ho2⟩ := ho
  rcases ho2 with ⟨hv, _⟩ | ⟨g', cap', cur, hv, hb, hh, hnc', hcm, hcs, htk⟩
  · cases hv
  injection hv with ha hm' hc
  injection ha with ha
  injection ha with hg
  subst hg; subst hc
  have hfit : m * d.sz + seg.length ≤ cur.size := by
    have : n * d.sz ≤ cap * d.sz := Nat.mul_le_mul_right _ hnc
    omega
  obtain ⟨cur', h3, h4, h5⟩ := setCells_row seg (m * d.sz) W cur hh hfit
  obtain ⟨s1, s2, s3, s4⟩ := setCells_same g seg (m * d.sz) W
  have hfar : ∀ k, k ≠ g → (W.setCells g (m * d.sz) seg).heap[k]? = W.heap[k]? := fun k hk => setCells_far seg _ k hk
  have hl : (xs.take m).length = m := by rw [List.length_take]; omega
  refine ⟨⟨hok, inner, ⟨ho1, .inr ⟨g, cap, cur', by rw [hl], hb, h3, hnc', hcm, by rw [h4, hcs], ?_⟩⟩, hr.1, fun j p hj => ?_⟩, ⟨s1, s2, s3, by rw [s4]; exact Nat.le_refl _, fun k _ hk => hfar k (fun he => hk (by rw [he]))⟩⟩
  · rw [← htk, h5, hl]
    apply List.ext_getElem?
    intro q
    rw [List.getElem?_take, List.getElem?_take, seg_get cur.toList seg (m * d.sz) (by rw [Array.length_toList]; omega) q]
    by_cases hq : q < m * d.sz
    · rw [if_pos hq, if_pos hq, if_pos hq]
    · rw [if_neg hq, if_neg hq]
  · exact Kd.M_step (hr.2 j p hj) (fun k hk _ => hfar k (fun he => hk.2 (by rw [he]; simp [Value.ownBlock])))
set_option maxHeartbeats 8000000 in
set_option maxRecDepth 100000 in
theorem Dl.idxT (g : Nat) (lb : Array Value) (eg : ∀ args w, (callFunc g args).run Try.prog w = .ok (.enter g args) w) (p : S50 → Bool) (A0 : Option Addr) (c0 : Nat) (l0 : List S50) (w : World) (hr0 : Kd.C k50 w A0 l0.length l0)
    (hp : ∀ (W : World) (x : S50), Below w.heap.size w W → Calls Try.prog g (#[.agg #[.int .i64 x.f0, .int .i64 x.f1]] ++ lb) W fun e w' => e = .returned (.bool (p x)) ∧ Below W.heap.size W w') :
    Calls Try.prog 51 #[.slice A0 l0.length c0, .func (.func g) #[] lb] w fun e w' => e = .returned (.int .i64 (Gv.idxOf p l0)) ∧ Below w.heap.size w w' := by
  have hu50 := Try.underlying50
  have HR0 := Aside0.mk hr0
  have HP := Aside0.mk hp
  have hlm := hr0.2.1
  clear hr0 hp
  go_enter Try.func51, Try.ntmps51
  go_wp2
  go_loopg [5, 8] l0.length (fun gg _ s8 wr => ∃ kk : Nat, kk ≤ l0.length ∧ l0.length - kk ≤ gg ∧ s8 = .int .i64 kk ∧ Aside0 (Below w.heap.size w wr) ∧ Aside0 (∀ (j : Nat) y, j < kk → l0[j]? = some y → p y = false))
  case atStart => exact ⟨0, Nat.zero_le _, by omega, rfl, ⟨Below.refl _ w⟩, ⟨fun j _ hj => absurd hj (Nat.not_lt_zero _)⟩⟩
  case round =>
    obtain ⟨kk, hkk, hg, rfl, HB, HN⟩ := hrel
    by_cases hlt : kk < l0.length
    · have hltz : (kk : Int) < (l0.length : Int) := by omega
      have hk0 : 0 ≤ (kk : Int) := by omega
      obtain ⟨ad, e1, hx0, hx1⟩ := at_T50 (Kd.C_below HR0.out HB.out) (kk : Int) hk0 hltz
      cases e1
      rw [Int.toNat_natCast] at hx0 hx1
      have hcall := HP.out wr (rd_T50 l0 kk) HB.out
      have hget : l0[kk]? = some (rd_T50 l0 kk) := by
        unfold rd_T50
        rw [Int.toNat_natCast, List.getD_eq_getElem?_getD, List.getElem?_eq_getElem hlt]
        rfl
      have HG := Aside0.mk hget
      clear hget
      cases hq : p (rd_T50 l0 kk) with
      | true =>
        rw [hq] at hcall
        have HQ := Aside0.mk hq
        clear hq
        have HC := Aside0.mk hcall
        clear hcall
        go_wp2_with fail
        refine HC.out.mono ?_
        rintro e w' ⟨rfl, hb⟩
        have HB' := Aside0.mk (HB.out.trans (hb.mono HB.out.size))
        clear hb
        go_wp2_with fail
        go_ret
        exact ⟨by rw [Gv.idxOf_hit HG.out HQ.out (fun j y hj hy => HN.out j y hj hy)]; rfl, HB'.out⟩
      | false =>
        rw [hq] at hcall
        have HQ := Aside0.mk hq
        clear hq
        have HC := Aside0.mk hcall
        clear hcall
        go_wp2_with fail
        refine HC.out.mono ?_
        rintro e w' ⟨rfl, hb⟩
        have HB' := Aside0.mk (HB.out.trans (hb.mono HB.out.size))
        clear hb
        go_wp2_with fail
        go_roundg (l0.length - (kk + 1))
        case measure => omega
        case rel =>
          refine ⟨kk + 1, by omega, by omega, by go_num, HB', ⟨fun j y hj hy => ?_⟩⟩
          by_cases e : j = kk
          · subst e
            rw [HG.out] at hy
            injection hy with hy
            rw [← hy]
            exact HQ.out
          · exact HN.out j y (by omega) hy
    · have hltz : ¬ (kk : Int) < (l0.length : Int) := by omega
      have hk : kk = l0.length := by omega
      have HK := Aside0.mk hk
      clear hk
      go_wp2_with fail
      go_ret
      exact ⟨by rw [Gv.idxOf_miss (fun j y hj => HN.out j y (by rw [HK.out]; exact (List.getElem?_eq_some_iff.1 hj).1) hj)]; rfl, HB.out⟩
theorem Dl.filt_none {α : Type} {p : α → Bool} : ∀ {l : List α}, Gv.idxOf p l = -1 → l.filter (fun x => !p x) = l := by
  intro l h
  rw [List.filter_eq_self]
  intro x hx
  unfold Gv.idxOf at h
  cases hf : l.findIdx? p with
  | none => rw [List.findIdx?_eq_none_iff] at hf; simp [hf x hx]
  | some i => rw [hf] at h; exact absurd h (by simp only; omega)
theorem Dl.filt_some {α : Type} {p : α → Bool} {l : List α} (h : Gv.idxOf p l ≠ -1) : ∃ i : Nat, i < l.length ∧ Gv.idxOf p l = (i : Int) ∧ l.take i = (l.take (i + 1)).filter (fun x => !p x) := by
  unfold Gv.idxOf at h ⊢
  cases hf : l.findIdx? p with
  | none => rw [hf] at h; exact absurd rfl h
  | some i =>
    obtain ⟨h1, h2, h3⟩ := List.findIdx?_eq_some_iff_getElem.1 hf
    refine ⟨i, h1, rfl, ?_⟩
    rw [List.take_succ_eq_append_getElem h1, List.filter_append, List.filter_cons_of_neg (by simp [h2]), List.filter_nil, List.append_nil, eq_comm, List.filter_eq_self]
    intro x hx
    obtain ⟨j, hj, rfl⟩ := List.getElem_of_mem hx
    have hj' : j < i := by rw [List.length_take] at hj; omega
    have := h3 j hj'
    rw [List.getElem_take]
    simpa using this
theorem Dl.filt_step {α : Type} {p : α → Bool} {l xs : List α} {i j : Nat} (hj : j < l.length) (hxl : xs.length = l.length) (ht : xs.take i = (l.take j).filter (fun x => !p x)) (hd : xs.drop j = l.drop j) (hij : i < j) {x : α} (hx : l[j]? = some x) :
    (p x = true → xs.take i = (l.take (j + 1)).filter (fun x => !p x) ∧ xs.drop (j + 1) = l.drop (j + 1)) ∧
    (p x = false → (xs.set i x).take (i + 1) = (l.take (j + 1)).filter (fun x => !p x) ∧ (xs.set i x).drop (j + 1) = l.drop (j + 1)) := by
  obtain ⟨_, rfl⟩ := List.getElem?_eq_some_iff.1 hx
  have hd' : xs.drop (j + 1) = l.drop (j + 1) := by
    rw [show j + 1 = j + 1 from rfl, ← List.drop_drop, hd, List.drop_drop]
  refine ⟨fun h => ⟨?_, hd'⟩, fun h => ⟨?_, ?_⟩⟩
  · rw [List.take_succ_eq_append_getElem hj, List.filter_append, List.filter_cons_of_neg (by simp [h]), List.filter_nil, List.append_nil, ht]
  · rw [List.take_succ_eq_append_getElem hj, List.filter_append, List.filter_cons_of_pos (by simp [h]), List.filter_nil, ← ht]
    rw [List.take_succ_eq_append_getElem (by rw [List.length_set]; omega), List.getElem_set_self, List.take_set_of_le (Nat.le_refl i)]
  · rw [List.drop_set_of_lt (by omega), hd']
theorem Dl.wp_builtin_run {P : Program} (w : World) {o : Oper} {a : Act} {K : Act → World → Prop} {Q : Exit → Act → World → Prop} (x : Operand) (t : TypeId)
    (ho : o.op = .call { callee := .builtin .clear, args := #[x], argTypes := #[t] }) (vx : Value) (hx : a.eval x = vx) (hd : o.dst = none)
    (v' : Value) (w' : World) (hr : (Builtin.clear_ #[t] o.type #[vx]).run P w = .ok v' w') (h : K a w') : o.wp P a w K Q := by
  unfold Oper.wp execOp
  simp only [ho, resolve, invoke, builtin, Sem.run_bind, Sem.run_pure, Result.andThen_ok, List.map_toArray, List.map_cons, List.map_nil, hx, hr]
  show K (a.put o.dst v') w'
  rw [hd]
  exact h
/-- 'clear' of what follows the first m elements of a row of one's own. -/
theorem Dl.clear_event {α : Type} {P : Program} {ops : Array Oper} {rest : List Oper} {o : Oper} {a : Act} {W : World} {Q : Exit → Act → World → Prop} {d : Kd α} {T t : TypeId} {x : Operand} {g n cap base m c' : Nat} {okr : Nat → Prop} {xs : List α} {z : Value} (hgd : o.guard = none) (hd : o.dst = none) (ho : o.op = .call { callee := .builtin .clear, args := #[x], argTypes := #[t] }) (hx : a.eval x = .slice (some ⟨g, m * d.sz, none⟩) (n - m) c') (hu : P.underlying t = some (.slice T))
    (hzi : (P.info? T).map (·.zero) = some (some z)) {z0 : α} (hzM : d.M W base (fun _ => False) z0 z.cells.toList) (HR : d.R T W base okr (.slice (some ⟨g, 0, none⟩) n cap) xs) (hm : m < n) (hs0 : 0 < d.sz)
    (h : ∀ w1 : World, d.R T w1 base okr (.slice (some ⟨g, 0, none⟩) m cap) (xs.take m) → W.grownBy w1 (some g) → wpList P ops Q rest a w1) : wpList P ops Q (o :: rest) a W := by
  have hzs : z.cells.size = d.sz := by have := d.K_len (d.K_of_M hzM); rwa [Array.length_toList] at this
  have hz1 : z.cells.all (·.oneCell') = true := Array.all_eq_true_iff_forall_mem.2 (fun v hv => d.K_one (d.K_of_M hzM) v (by simpa using hv))
  have hz : ∀ w, (zeroValue T).run P w = .ok z w := by
    intro w
    rw [Option.map_eq_some_iff] at hzi
    obtain ⟨i, hi, hz⟩ := hzi
    simp [zeroValue, typeInfo, hi, hz]
  have hzl : (Builtin.zeroCells z.cells (n - m)).toList.length = (n - m) * d.sz := by rw [Array.length_toList, size_zeroCells, hzs]
  have hz1' : ∀ v ∈ (Builtin.zeroCells z.cells (n - m)).toList, v.oneCell' = true := by
    intro v hv
    unfold Builtin.zeroCells at hv
    simp only [Array.toList_map, List.mem_map, Array.toList_range, List.mem_range] at hv
    obtain ⟨i, hi, rfl⟩ := hv
    have hlt : i % z.cells.size < z.cells.size := Nat.mod_lt _ (by omega)
    rw [getElem!_pos z.cells _ hlt]
    exact Array.all_eq_true_iff_forall_mem.1 hz1 _ (Array.getElem_mem hlt)
  have hle : m * d.sz + (n - m) * d.sz = n * d.sz := by rw [← Nat.add_mul]; congr 1; omega
  obtain ⟨h2, h3⟩ := Dl.R_clear HR (Nat.le_of_lt hm) (Builtin.zeroCells z.cells (n - m)).toList (by rw [hzl]; omega)
  have hblk : ∃ cur, W.heap[g]? = some (.cells cur T (0, 0)) ∧ cap * d.sz = cur.size ∧ n ≤ cap := by
    obtain ⟨_, inner, ho, hr⟩ := HR
    obtain ⟨ho1, ho2⟩ := ho
    rcases ho2 with ⟨hv, _⟩ | ⟨g', cap', cur, hv, hb, hh, hnc', hcm, hcs, htk⟩
    · cases hv
    injection hv with ha hm' hc
    injection ha with ha
    injection ha with hg
    subst hg; subst hc
    exact ⟨cur, hh, hcs.symm, by omega⟩
  obtain ⟨cur, hh, hcs, hnc⟩ := hblk
  have hncs : n * d.sz ≤ cur.size := by rw [← hcs]; exact Nat.mul_le_mul_right _ hnc
  have hst := run_storeCells_cells (P := P) g (m * d.sz) (Builtin.zeroCells z.cells (n - m)).toList 0 W (fun j hj => by
    rw [hzl] at hj
    rw [cell_of_row W g _ cur T (0, 0) hh, Array.getElem?_eq_getElem (by omega)]
    rfl) (fun j _ => blk_frozen hh _) hz1'
  rw [Nat.add_zero] at hst
  have hfar : ∀ j, j ≠ g → (W.setCells g (m * d.sz) (Builtin.zeroCells z.cells (n - m)).toList).heap[j]? = W.heap[j]? := fun j hj => setCells_far _ _ j hj
  obtain ⟨q, hq⟩ : ∃ q, n - m = q + 1 := ⟨n - m - 1, by omega⟩
  have hrun : ∀ ty, (Builtin.clear_ #[t] ty #[.slice (some ⟨g, m * d.sz, none⟩) (n - m) c']).run P W = .ok (.tuple #[]) (W.setCells g (m * d.sz) (Builtin.zeroCells z.cells (n - m)).toList) := by
    intro ty
    rw [hq] at hst ⊢
    simp [Builtin.clear_, run_underlying hu, hz, hst]
  exact wpList_plain hgd fun K hK => Dl.wp_builtin_run W x t ho _ hx hd _ _ (hrun _) (hK _ _ (h _ h2 h3))

theorem Dl.row_store2 {α : Type} {P : Program} {ops : Array Oper} {rest : List Oper} {o : Oper} {a : Act} {W : World} {Q : Exit → Act → World → Prop} {d : Kd α} {T t : TypeId} {p v : Operand} {g n cap base off : Nat} {okr : Nat → Prop} {xs : List α} {cells : Array Value} (i : Int) (x' : α) (hgd : o.guard = none) (ho : o.op = .store t p v) (hd : o.dst = none) (hx : a.eval p = .pointer (some ⟨g, off, none⟩)) (hy : a.eval v = .agg cells) (hi : (P.info? t).map (·.size) = some cells.size)
    (HR : d.R T W base okr (.slice (some ⟨g, 0, none⟩) n cap) xs) (h0 : 0 ≤ i) (hn : i < n) (hoff : off = i.toNat * d.sz) (hsz : cells.size = d.sz) (hM : d.M W base (fun _ => False) x' cells.toList)
    (h : ∀ w1 : World, d.R T w1 base okr (.slice (some ⟨g, 0, none⟩) n cap) (xs.set i.toNat x') → W.grownBy w1 (some g) → wpList P ops Q rest a w1) : wpList P ops Q (o :: rest) a W := by
  subst hoff
  have h1 : cells.all (·.oneCell') = true := Array.all_eq_true_iff_forall_mem.2 (fun v hv => d.K_one (d.K_of_M hM) v (by simpa using hv))
  obtain ⟨c, hcl, _, hcc, hfr⟩ := Kd.R_elem HR x' i h0 hn
  have ht : W.there g (i.toNat * d.sz) cells.size := fun j hj => ⟨by
    have hj' : j < c.length := by omega
    rw [hcc j _ (List.getElem?_eq_getElem hj')]
    rfl, hfr j⟩
  obtain ⟨hR, hG⟩ := Kd.R_seg HR i h0 hn (c := c) (seg := cells.toList) (j := 0) hcl hcc (by simp [hsz]) (x' := x') (okp := fun _ => False) (by
    rw [List.take_zero, List.nil_append, List.drop_eq_nil_of_le (by simp; omega), List.append_nil]
    exact hM) (fun _ hk => hk.elim)
  rw [Nat.add_zero] at hR hG
  refine wpList_store_mid hgd t p v ho g (i.toNat * d.sz) cells hx hy ht hi h1 ?_
  rw [hd]
  have hfar : ∀ j, j ≠ g → (W.setCells g (i.toNat * d.sz) cells.toList).heap[j]? = W.heap[j]? := fun j hj => setCells_far _ _ j hj
  exact h _ hR hG
theorem Dl.below_grown {B : Nat} {w0 W w1 : World} {g : Nat} (h : Below B w0 W) (hG : W.grownBy w1 (some g)) (hle : w0.heap.size ≤ g) (hB : B = w0.heap.size) : Below w0.heap.size w0 w1 := by
  subst hB
  refine h.trans ⟨hG.os, hG.tape, hG.output, hG.size, fun k hk => ?_⟩
  exact hG.block k (by have := h.size; omega) (fun e => by injection e with e; omega)
set_option maxHeartbeats 8000000 in
set_option maxRecDepth 100000 in
/-- slices.DeleteFunc over a row of one's own. -/
theorem Dl.del (g : Nat) (lb : Array Value) (eg : ∀ args w, (callFunc g args).run Try.prog w = .ok (.enter g args) w) (p : S50 → Bool) (P0 : Nat → Prop) (A0 : Option Addr) (c0 : Nat) (l0 : List S50) (w0 w : World) (hB : Below w0.heap.size w0 w)
    (ho : Kd.R k50 50 w w0.heap.size P0 (.slice A0 l0.length c0) l0) (hp : ∀ (W : World) (x : S50), Kept w W P0 → Calls Try.prog g (#[.agg #[.int .i64 x.f0, .int .i64 x.f1]] ++ lb) W fun e w' => e = .returned (.bool (p x)) ∧ Below W.heap.size W w') :
    Calls Try.prog 46 #[.slice A0 l0.length c0, .func (.func g) #[] lb] w fun e w' => ∃ v : Value, e = .returned v ∧ Kd.R k50 50 w' w0.heap.size P0 v (l0.filter fun x => !p x) ∧ Below w0.heap.size w0 w' ∧ Kept w w' P0 := by
  have hu50 := Try.underlying50
  have hu45 := Try.underlying45
  have hC := (Kd.R_reads' ho).2.2
  have HC := Gv.a0 hC
  have HP := Gv.a0 hp
  have HB := Gv.a0 hB
  have HO := Gv.a0 ho
  have eg' := Gv.a0 eg
  clear hC hp hB ho eg
  by_cases hn : Gv.idxOf p l0 = -1
  · have HF := Gv.a0 (Dl.filt_none hn)
    have HI : Aside0 (Calls Try.prog 51 #[.slice A0 l0.length c0, .func (.func g) #[] lb] w fun e w' => e = .returned (.int .i64 (-1)) ∧ Below w.heap.size w w') := Gv.a0 (hn ▸ Dl.idxT g lb eg'.out p A0 c0 l0 w HC.out (fun W x hW => HP.out W x (Kept.of_below hW _)))
    clear hn
    go_enter Try.func46, Try.ntmps46
    go_wp2_with (go_at_call 51; refine HI.out.mono ?_; rintro e w' ⟨rfl, hb⟩; have HB1 := Gv.a0 hb; clear hb)
    go_ret
    exact ⟨_, rfl, by rw [HF.out]; exact Kd.R_below HO.out HB1.out, below_step HB.out HB1.out, Kept.of_below HB1.out _⟩
  · obtain ⟨i0, hi0, hix, hft⟩ := Dl.filt_some hn
    obtain ⟨gb, cap, e0, hbase, hlt, _⟩ := Kd.R_form HO.out (by omega)
    have HI : Aside0 (Calls Try.prog 51 #[.slice A0 l0.length c0, .func (.func g) #[] lb] w fun e w' => e = .returned (.int .i64 (i0 : Int)) ∧ Below w.heap.size w w') := Gv.a0 (hix ▸ Dl.idxT g lb eg'.out p A0 c0 l0 w HC.out (fun W x hW => HP.out W x (Kept.of_below hW _)))
    injection e0 with e1 _ e2
    subst e1
    subst e2
    have HP0 := Gv.a0 (HO.out.1 gb (by simp [Value.ownBlock]))
    have hcap := (Kd.R_reads' HO.out).2.1
    have hlm := HC.out.2.1
    have HFT := Gv.a0 hft
    clear hn hix hft HC
    go_enter Try.func46, Try.ntmps46
    go_wp2_with (go_at_call 51; refine HI.out.mono ?_; rintro e w' ⟨rfl, hb⟩; have HB1 := Gv.a0 hb; clear hb)
    have HO1 := Gv.a0 (Kd.R_below HO.out HB1.out)
    have HK := Gv.a0 (Kept.of_below HB1.out P0)
    have HBB := Gv.a0 (below_step HB.out HB1.out)
    have hz := HB1.out.size
    have HX : Aside0 (l0.length = l0.length ∧ l0.take i0 = (l0.take (i0 + 1)).filter (fun x => !p x) ∧ l0.drop (i0 + 1) = l0.drop (i0 + 1)) := Gv.a0 ⟨rfl, HFT.out, rfl⟩
    go_loopg [5, 6] l0.length (fun gg s5 s6 wr => ∃ (i j : Nat) (xs : List S50), i < j ∧ j ≤ l0.length ∧ l0.length - j ≤ gg ∧ s5 = .int .i64 (i : Int) ∧ s6 = .int .i64 (j : Int) ∧ Aside0 (Kd.R k50 50 wr w0.heap.size P0 (.slice (some ⟨gb, 0, none⟩) l0.length c0) xs) ∧ Aside0 (xs.length = l0.length ∧ xs.take i = (l0.take j).filter (fun x => !p x) ∧ xs.drop j = l0.drop j) ∧ Aside0 (Below w0.heap.size w0 wr) ∧ Aside0 (Kept w wr P0))
    case atStart => exact ⟨i0, i0 + 1, l0, by omega, by omega, by omega, rfl, by go_num, HO1, HX, HBB, HK⟩
    case round =>
      clear HO1 HX HBB HK HB1 HI hz
      obtain ⟨i, j, xs, hij, hj, hgg, rfl, rfl, HO1, HX, HBB, HK⟩ := hrel
      by_cases hlt : j < l0.length
      · have hltz : (j : Int) < (l0.length : Int) := by omega
        have hk0 : 0 ≤ (j : Int) := by omega
        have hlx : j < xs.length := by have := HX.out.1; omega
        obtain ⟨ad, e1, hx0, hx1⟩ := at_T50 (Kd.R_reads' HO1.out).2.2 (j : Int) hk0 (by have := HX.out.1; omega)
        injection e1 with e1
        subst e1
        obtain ⟨x_, hx_⟩ : ∃ x_, x_ = rd_T50 xs (j : Int) := ⟨_, rfl⟩
        rw [← hx_, Int.toNat_natCast] at hx0 hx1
        simp only [add_plain] at hx0 hx1
        have hget : l0[j]? = some x_ := by
          have h1 : xs[j]? = l0[j]? := by
            have h2 := congrArg (fun l => l[0]?) HX.out.2.2
            simpa [List.getElem?_drop] using h2
          rw [hx_, ← h1, List.getElem?_eq_getElem hlx]
          unfold rd_T50
          rw [Int.toNat_natCast, List.getD_eq_getElem?_getD, List.getElem?_eq_getElem hlx]
          rfl
        have HS := Gv.a0 (Dl.filt_step (p := p) hlt HX.out.1 HX.out.2.1 HX.out.2.2 hij hget)
        have HLX := Gv.a0 hlx
        have HGG := Gv.a0 hgg
        clear hget hx_ hlx hgg
        have HI2 := Gv.a0 (HP.out · x_)
        have eg := eg'.out
        cases hq : p x_ with
        | true =>
          have HQ := Gv.a0 hq
          clear hq
          go_wp2_with (first
            | ((with_reducible refine gate_dst (N := 7) rfl ?_); refine box_event ?hg (N := 7) ?hd (cs := #[.int .i64 0, .int .i64 0]) (t := 50) ?hr ?_; (case hd => rfl); (case hg => rfl); (case hr => first | (go_simp; done) | (go_simp; rfl)); intro gb7 hg w5 hbox hb; have BK7 := Gv.a0 hbox; have GE7 : Aside0 (wr.heap.size ≤ gb7) := Gv.a0 (Nat.le_of_eq hg.symm); have HO5 := Gv.a0 (Kd.R_below HO1.out hb); have HBB5 := Gv.a0 (below_step HBB.out hb); have HK5 := Gv.a0 (Kept.below HK.out hb); have HB5 := Gv.a0 hb; clear hbox hb hg)
            | ((with_reducible refine gate_store (t := 50) (p := 7) rfl ?_); (refine Gv.store_event (g := gb7) (cells := #[.int .i64 x_.f0, .int .i64 x_.f1]) rfl rfl rfl rfl rfl BK7.out (by kernel_rfl) rfl (by simp; and_intros <;> rfl) ?_; intro w6 hbox hoth hbel; have BK8 := Gv.a0 hbox; have HB6 := Gv.a0 (hbel wr HB5.out GE7.out); have HO6 := Gv.a0 (Kd.R_below HO1.out HB6.out); have HBB6 := Gv.a0 (below_step HBB.out HB6.out); have HK6 := Gv.a0 (Kept.below HK.out HB6.out); clear hbox hoth hbel))
            | ((with_reducible refine Gv.gate_load (t := 50) rfl ?_); refine wpList_load_row rfl 50 _ rfl gb7 rfl 50 _ _ _ BK8.out Try.underlying50 rfl (by kernel_rfl) ?_))
          refine (HI2.out _ HK6.out).mono ?_
          rintro e w7 ⟨rfl, hb⟩
          have BK9 := Gv.a0 (blk_below BK8.out hb)
          have HO7 := Gv.a0 (Kd.R_below HO6.out hb)
          have HBB7 := Gv.a0 (below_step HBB6.out hb)
          have HK7 := Gv.a0 (Kept.below HK6.out hb)
          clear hb
          have HQ' := HQ.out
          go_wp2_with fail
          go_roundg (l0.length - (j + 1))
          case measure => have := HGG.out; omega
          case rel =>
            have hz := HX.out.1
            exact ⟨i, j + 1, xs, by omega, by omega, by omega, rfl, by go_num, HO7, Gv.a0 ⟨HX.out.1, HS.out.1 HQ.out⟩, HBB7, HK7⟩
        | false =>
          have HQ := Gv.a0 hq
          clear hq
          go_wp2_with (first
            | ((with_reducible refine gate_dst (N := 7) rfl ?_); refine box_event ?hg (N := 7) ?hd (cs := #[.int .i64 0, .int .i64 0]) (t := 50) ?hr ?_; (case hd => rfl); (case hg => rfl); (case hr => first | (go_simp; done) | (go_simp; rfl)); intro gb7 hg w5 hbox hb; have BK7 := Gv.a0 hbox; have GE7 : Aside0 (wr.heap.size ≤ gb7) := Gv.a0 (Nat.le_of_eq hg.symm); have HO5 := Gv.a0 (Kd.R_below HO1.out hb); have HBB5 := Gv.a0 (below_step HBB.out hb); have HK5 := Gv.a0 (Kept.below HK.out hb); have HB5 := Gv.a0 hb; clear hbox hb hg)
            | ((with_reducible refine gate_store (t := 50) (p := 7) rfl ?_); (refine Gv.store_event (g := gb7) (cells := #[.int .i64 x_.f0, .int .i64 x_.f1]) rfl rfl rfl rfl rfl BK7.out (by kernel_rfl) rfl (by simp; and_intros <;> rfl) ?_; intro w6 hbox hoth hbel; have BK8 := Gv.a0 hbox; have HB6 := Gv.a0 (hbel wr HB5.out GE7.out); have HO6 := Gv.a0 (Kd.R_below HO1.out HB6.out); have HBB6 := Gv.a0 (below_step HBB.out HB6.out); have HK6 := Gv.a0 (Kept.below HK.out HB6.out); clear hbox hoth hbel))
            | ((with_reducible refine Gv.gate_load (t := 50) rfl ?_); refine wpList_load_row rfl 50 _ rfl gb7 rfl 50 _ _ _ BK8.out Try.underlying50 rfl (by kernel_rfl) ?_))
          refine (HI2.out _ HK6.out).mono ?_
          rintro e w7 ⟨rfl, hb⟩
          have BK9 := Gv.a0 (blk_below BK8.out hb)
          have HO7 := Gv.a0 (Kd.R_below HO6.out hb)
          have HBB7 := Gv.a0 (below_step HBB6.out hb)
          have HK7 := Gv.a0 (Kept.below HK6.out hb)
          clear hb
          have HQ' := HQ.out
          go_wp2_with (first
            | ((with_reducible refine Gv.gate_load (t := 50) rfl ?_); refine wpList_load_row rfl 50 _ rfl gb7 rfl 50 _ _ _ BK9.out Try.underlying50 rfl (by kernel_rfl) ?_)
            | ((with_reducible refine gate_store (t := 50) (p := 33) rfl ?_); refine Dl.row_store2 (d := k50) (i : Int) x_ rfl rfl rfl rfl rfl (by kernel_rfl) HO7.out (by omega) (by omega) rfl rfl (k50_mkM _ _ _ x_) ?_; intro w8 hR hG; have HO8 := Gv.a0 hR; have HBB8 := Gv.a0 (Dl.below_grown HBB7.out hG hbase rfl); have HK8 := Gv.a0 (Kept.of_grown (S := P0) hG HK7.out (fun k e => by injection e with e; rw [← e]; exact .inl HP0.out)); clear hR hG))
          go_roundg (l0.length - (j + 1))
          case measure => have := HGG.out; omega
          case rel =>
            have hz := HX.out.1
            exact ⟨i + 1, j + 1, xs.set i x_, by omega, by omega, by omega, by go_num, by go_num, HO8, Gv.a0 ⟨by rw [List.length_set]; exact HX.out.1, HS.out.2 HQ.out⟩, HBB8, HK8⟩
      · have hltz : ¬ (j : Int) < (l0.length : Int) := by omega
        have hicap : i < c0 := by omega
        have hil : i < l0.length := by omega
        have hji : j = l0.length := by omega
        have HX2 : Aside0 (xs.take i = l0.filter (fun x => !p x)) := Gv.a0 (by have := HX.out.2.1; rwa [hji, List.take_length] at this)
        clear hji hgg
        go_wp2_with (refine Dl.clear_event (d := k50) (m := i) (z := .agg #[.int .i64 0, .int .i64 0]) rfl rfl rfl rfl hu45 (by kernel_rfl) (k50_mkM _ _ _ z50) HO1.out hil (by decide) ?_; intro w1 hR hG; have HR := Gv.a0 hR; have HB2 := Gv.a0 (Dl.below_grown HBB.out hG hbase rfl); have HK2 := Gv.a0 (Kept.of_grown (S := P0) hG HK.out (fun k e => by injection e with e; rw [← e]; exact .inl HP0.out)); clear hR hG)
        go_ret
        exact ⟨_, rfl, by rw [← HX2.out]; exact HR.out, HB2.out, HK2.out⟩
theorem clone_f {l : List S50} (h : l.length ≤ 1048577) : impl_Timer.f l = some l := by
  unfold impl_Timer.f
  rw [Option.bind_some, if_pos (by simp; omega)]
  rfl
set_option maxHeartbeats 8000000 in
set_option maxRecDepth 100000 in
/-- copyWheel over any function value. -/
theorem Dl.copy (g : Nat) (lb : Array Value) (eg : ∀ args w, (callFunc g args).run Try.prog w = .ok (.enter g args) w) (p : S50 → Bool) (a0 : Int) (A1 : Option Addr) (c1 : Nat) (l1 : List S47) (w : World) (hr : Kd.C k47 w A1 l1.length l1)
    (hl : l1.length ≤ 1048577) (hm : ∀ s ∈ l1, s.f0.length ≤ 1048577) (hp : ∀ (W : World) (x : S50), Kept w W (fun _ => False) → Calls Try.prog g (#[.agg #[.int .i64 x.f0, .int .i64 x.f1]] ++ lb) W fun e w' => e = .returned (.bool (p x)) ∧ Below W.heap.size W w') :
    Calls Try.prog 36 #[.agg #[.int .i64 a0, .slice A1 l1.length c1], .func (.func g) #[] lb] w fun e w' => ∃ v : Value, e = .returned (.agg #[.int .i64 a0, v]) ∧ Kd.S k47 47 w' w.heap.size (fun _ => True) v (l1.map fun s => ⟨s.f0.filter fun x => !p x⟩) ∧ Below w.heap.size w w' := by
  have hu24 := Try.underlying24
  have hu47 := Try.underlying47
  have HC := Gv.a0 hr
  have HP := Gv.a0 hp
  have HM := Gv.a0 hm
  have HL := Gv.a0 hl
  have hlm : l1.length ≤ 9223372036854775807 := by omega
  have eg' := Gv.a0 eg
  clear hr hp hm hl eg
  obtain ⟨F, hF⟩ : ∃ F : S47 → S47, F = (fun s : S47 => (⟨s.f0.filter fun x => !p x⟩ : S47)) := ⟨_, rfl⟩
  rw [← hF]
  have HF := Gv.a0 hF
  clear hF
  go_enter Try.func36, Try.ntmps36
  go_wp2_with (first
    | ((with_reducible refine gate_dst (N := 2) rfl ?_); refine box_event ?hg (N := 2) ?hd (cs := #[.int .i64 a0, .slice A1 l1.length c1]) (t := 24) ?hr ?_; (case hd => rfl); (case hg => rfl); (case hr => first | (go_simp; done) | (go_simp; rfl)); intro gb2 hg w2 hbox hb; have HB2 := Gv.a0 hb; have BK2 := Gv.a0 hbox; have GE2 := Gv.a0 (Nat.le_of_eq hg.symm); clear hbox hb hg)
    | ((with_reducible refine gate_dst (N := 4) rfl ?_); refine box_event ?hg (N := 4) ?hd (cs := #[.int .i64 0, .slice none 0 0]) (t := 24) ?hr ?_; (case hd => rfl); (case hg => rfl); (case hr => first | (go_simp; done) | (go_simp; rfl)); intro gb4 hg w4 hbox hb; have HB4 := Gv.a0 (below_step HB2.out hb); have NB2 : Aside0 (gb2 ≠ gb4) := Gv.a0 (Gv.nlt hg BK2.out); have BK2' := Gv.a0 (blk_below BK2.out hb); have BK4 := Gv.a0 hbox; have GE4 := Gv.a0 (Gv.ble hg HB2.out); clear hbox hb hg)
    | ((with_reducible refine gate_dst (N := 8) rfl ?_); refine Kd.S_lit k47 _ 47 ?hg (N := 8) ?hd (xs := ([] : List S47)) (inner := []) (ok := fun _ => True) (okp := fun _ => True) ?hr ?hp (fun _ hk => hk) trivial (Below.refl _ _) (Nat.le_refl _) (by simp) ?_; (case hd => rfl); (case hg => rfl); (case hr => first | (go_simp; done) | (go_simp; rfl)); (case hp => exact (Reps.none _ _)); intro v5 w5 ho hb _ _; have HB5 := Gv.a0 (below_step HB4.out hb); have BK2'' := Gv.a0 (blk_below BK2'.out hb); have BK4' := Gv.a0 (blk_below BK4.out hb); have HO5 := Gv.a0 (Kd.S_lower ho HB4.out.size); have hz0 := (blk_cell BK2''.out 1).trans (rfl : _ = (some (.slice A1 l1.length c1) : Option Value)); clear hb ho))
  go_loopg [5, 12] l1.length (fun gg s5 s12 wr => ∃ kk : Nat, kk ≤ l1.length ∧ l1.length - kk ≤ gg ∧ s12 = .int .i64 (kk : Int) ∧ Aside0 (Kd.S k47 47 wr w.heap.size (fun _ => True) s5 ((l1.take kk).map F)) ∧ Aside0 (wr.heap[gb2]? = some (.cells #[.int .i64 a0, .slice A1 l1.length c1] 24 (0, 0))) ∧ Aside0 (wr.heap[gb4]? = some (.cells #[.int .i64 0, .slice none 0 0] 24 (0, 0))) ∧ Aside0 (Below w.heap.size w wr))
  case atStart => exact ⟨0, Nat.zero_le _, by omega, rfl, Gv.a0 (by rw [List.take_zero]; exact HO5.out), BK2'', BK4', HB5⟩
  case round =>
    clear HO5 BK2'' BK4' HB5 HB2 BK2 BK2' BK4 HB4 hz0
    obtain ⟨kk, hkk, hgg, rfl, HO, BK2, BK4, HB⟩ := hrel
    by_cases hlt : kk < l1.length
    · have hltz : (kk : Int) < (l1.length : Int) := by omega
      have hk0 : 0 ≤ (kk : Int) := by omega
      obtain ⟨ad, A2, c2, e1, hx, hl2, hi2⟩ := at_T47 (Kd.C_below HC.out HB.out) (kk : Int) hk0 hltz
      cases e1
      obtain ⟨s_, hs_⟩ : ∃ s_, s_ = rd_T47 l1 (kk : Int) := ⟨_, rfl⟩
      rw [← hs_, Int.toNat_natCast] at hx
      rw [← hs_] at hl2 hi2
      have hsl : l1[kk] = s_ := by
        rw [hs_]
        unfold rd_T47
        rw [Int.toNat_natCast, List.getD_eq_getElem?_getD, List.getElem?_eq_getElem hlt]
        rfl
      obtain ⟨y8, hy8⟩ : ∃ y_, y_ = s_.f0.filter (fun x => !p x) := ⟨_, rfl⟩
      have HY := Gv.a0 hy8
      clear hy8
      have HSL := Gv.a0 (show l1[kk]? = some s_ by rw [List.getElem?_eq_getElem hlt, hsl])
      have HSM := Gv.a0 (HM.out s_ (by rw [← hsl]; exact List.getElem_mem hlt))
      have HI2 := Gv.a0 hi2
      have HL2 := Gv.a0 hl2
      have HLT := Gv.a0 hlt
      have HGG := Gv.a0 hgg
      have HKK := Gv.a0 hkk
      clear hi2 hl2 hs_ hsl hlt hgg hkk
      go_wp2_with (first
        | ((with_reducible refine gate_dst (N := 7) rfl ?_); refine box_event ?hg (N := 7) ?hd (cs := #[.slice none 0 0]) (t := 47) ?hr ?_; (case hd => rfl); (case hg => rfl); (case hr => first | (go_simp; done) | (go_simp; rfl)); intro gb7 hg w5 hbox hb; have BK7 := Gv.a0 hbox; have GE7 : Aside0 (wr.heap.size ≤ gb7) := Gv.a0 (Nat.le_of_eq hg.symm); have HB5 := Gv.a0 hb; clear hbox hb hg)
        | ((with_reducible refine gate_store (t := 47) (p := 7) rfl ?_); refine Gv.store_event (g := gb7) (cells := #[.slice A2 s_.f0.length c2]) rfl rfl rfl rfl rfl BK7.out (by kernel_rfl) rfl (by simp; and_intros <;> rfl) ?_; intro w6 hbox hoth hbel; have BK8 := Gv.a0 hbox; have HB6 := Gv.a0 (hbel wr HB5.out GE7.out); have hz7 := (blk_cell hbox 0).trans (rfl : _ = (some (.slice A2 s_.f0.length c2) : Option Value)); clear hbox hoth hbel)
        | (go_at_call 47; refine (impl_Timer.calls A2 c2 s_.f0 s_.f0 _ (Kd.C_below HI2.out HB6.out) HL2.out (clone_f HSM.out)).mono ?_; rintro e w7 ⟨v7, rfl, ho, hb⟩; obtain ⟨A7, c7, rfl⟩ := Kd.R_slice ho; have HO7 := Gv.a0 (Kd.R_tight rfl ho); have HB7 := Gv.a0 (below_step HB6.out hb); have HN7 : Aside0 (∀ k, some k = (Value.slice A7 s_.f0.length c7).ownBlock → wr.heap.size ≤ k) := Gv.a0 (fun k hk => Nat.le_trans HB6.out.size (Kd.R_base ho k hk.symm)); clear hb ho)
        | (go_at_call 46; refine (Dl.del g lb eg'.out p (fun k => some k = (Value.slice A7 s_.f0.length c7).ownBlock) A7 c7 s_.f0 wr w7 HB7.out (Kd.R_lower HO7.out HB6.out.size) (fun W x hW => HP.out W x (((Kept.of_below HB.out (fun _ => False)).below HB7.out).then_ hW (fun k hk => .inr (Nat.le_trans HB.out.size (HN7.out k hk)))))).mono ?_; rintro e w8 ⟨v8, rfl, ho, hb, hk⟩; rw [← HY.out] at ho; obtain ⟨A8, c8, rfl⟩ := Kd.R_slice ho; have HO8 := Gv.a0 ho; have HB8 := Gv.a0 hb; clear ho hb hk)
        | ((with_reducible refine gate_builtin (b := .append) (xs := #[.tmp 16, .tmp 23]) rfl ?_); at_builtin; refine Kd.S_append k47 (w0 := w) w.heap.size rfl (.tmp 16) (.tmp 23) 22 47 (.agg #[.slice none 0 0]) 24 rfl Try.underlying22 info47 rfl (by decide) (by omega) u5 ((l1.take kk).map F) ⟨y8⟩ [.slice A8 y8.length c8] (fun _ => True) (fun k => some k = (Value.slice A7 s_.f0.length c7).ownBlock) rfl rfl (k47_mkM _ _ _ (⟨y8⟩ : S47) (Kd.R_lower HO8.out HB.out.size)) (fun k hk => ⟨trivial, fun e => by have h1 := HN7.out k hk; have h2 := Kd.S_lt HO.out k e.symm; omega⟩) (fun _ _ => trivial) (Kd.S_mono (Kd.S_below (Kd.S_bound HO.out) HB8.out) (fun k hk => ⟨trivial, fun e => by have h1 := HN7.out k e; have h2 := hk.2.2.1; omega⟩)) (below_step HB.out HB8.out) (Nat.le_trans HB.out.size HB8.out.size) (by have := HL.out; simp only [List.length_map, List.length_take]; omega) ?_; intro v9 w9 ho hb hgr hat; have HO9 := Gv.a0 ho; have HB9 := Gv.a0 hb; have BK2' := Gv.a0 (blk_grown (blk_below BK2.out HB8.out) hgr (Kd.S_ne HO.out BK2.out (by decide))); have BK4' := Gv.a0 (blk_grown (blk_below BK4.out HB8.out) hgr (Kd.S_ne HO.out BK4.out (by decide))); clear ho hb hgr hat))
      go_roundg (l1.length - (kk + 1))
      case measure => have := HGG.out; have := HLT.out; omega
      case rel =>
        have h1 := HLT.out
        have h2 := HGG.out
        refine ⟨kk + 1, by omega, by omega, by go_num, Gv.a0 ?_, BK2', BK4', HB9⟩
        rw [List.take_add_one, HSL.out, List.map_append]
        have h3 := HO9.out
        rw [show (⟨y8⟩ : S47) = F s_ by rw [HF.out, HY.out]] at h3
        exact h3
    · have hltz : ¬ (kk : Int) < (l1.length : Int) := by omega
      have hk : l1.take kk = l1 := List.take_of_length_le (by omega)
      rw [hk] at HO
      have HO2 := Gv.a0 HO.out
      obtain ⟨A9, c9, e9⟩ := Kd.S_slice HO2.out
      rw [List.length_map] at e9
      subst e9
      clear hk hgg hkk HO
      have hz0 := (blk_cell BK2.out 0).trans (rfl : _ = (some (.int .i64 a0) : Option Value))
      go_wp2_with (first
        | ((with_reducible refine gate_store (t := 24) (p := 4) rfl ?_); refine Gv.store_event (g := gb4) (cells := #[.int .i64 a0, .slice A9 l1.length c9]) rfl rfl rfl rfl rfl BK4.out (by kernel_rfl) rfl (by simp; and_intros <;> rfl) ?_; intro w6 hbox hoth hbel; have BK8 := Gv.a0 hbox; have HB6 := Gv.a0 (hbel w HB.out GE4.out); have HO6 := Gv.a0 (Kd.S_move (Kd.S_types HO2.out BK4.out (by decide)) (fun k hk => hoth k hk.2)); clear hbox hoth hbel))
      refine bodyPost_ret (results_cell_row rfl _ _ gb4 24 #[.int .i64 a0, .slice A9 l1.length c9] (0, 0) _ rfl BK8.out Try.underlying24 rfl (by kernel_rfl)) rfl ?_
      exact ⟨_, rfl, Kd.S_mono HO6.out (fun _ _ => trivial), HB6.out⟩
set_option maxHeartbeats 8000000 in
set_option maxRecDepth 100000 in
theorem impl_copyWheel_c38.clo (g0 : Nat) (c0_0 : Int) (x : S50) (b : Bool) (W : World) (hc0 : W.heap[g0]? = some (.cells #[.int .i64 c0_0] 3 (0, 0))) (h : (some (x.f0 == c0_0)) = some b) :
    Calls Try.prog 38 (#[.agg #[.int .i64 x.f0, .int .i64 x.f1]] ++ #[.pointer (some ⟨g0, 0, none⟩)]) W fun e w' => e = .returned (.bool b) ∧ Below W.heap.size W w' := by
  obtain rfl := Option.some.inj h
  have HC0 := Aside0.mk hc0
  clear hc0
  go_enter Try.func38, Try.ntmps38
  go_wp2_with (first | ((with_reducible refine gate_dst (N := 2) rfl ?_); refine box_event ?hg (N := 2) ?hd (cs := #[.int .i64 x.f0, .int .i64 x.f1]) (t := 50) ?hr ?_; (case hd => rfl); (case hg => rfl); (case hr => first | (go_simp; done) | (go_simp; rfl)); intro gbx hg w1 hbox hb; have n0_ := Aside0.mk (blk_below HC0.out hb); have HX := Aside0.mk hbox; have HB0 := Aside0.mk hb; clear HC0 hbox hb hg; have HC0 := n0_; clear n0_) | ((with_reducible refine Gv.gate_load (t := 3) rfl ?_); refine Gv.get_event (g := gbx) rfl rfl rfl HX.out rfl Try.underlying3 rfl ?_) | ((with_reducible refine Gv.gate_load (t := 3) rfl ?_); refine Gv.get_event (g := g0) rfl rfl rfl HC0.out rfl Try.underlying3 rfl ?_))
  all_goals go_ret
  all_goals exact ⟨by first | rfl | (simp; done) | (simp [eq_comm]; done), HB0.out⟩
def impl_copyWheel_c38.f (a0_0 : Int) (l0_1 : List (S47)) (c0_0 : Int) : Option (Int × List (S47)) := if l0_1.length ≤ 1048577 ∧ ∀ s ∈ l0_1, s.f0.length ≤ 1048577 then some (a0_0, l0_1.map fun s => ⟨s.f0.filter fun x => !(x.f0 == c0_0)⟩) else none
theorem impl_copyWheel_c38.calls (a0_0 : Int) (A0_1 : Option Addr) (c0_1 : Nat) (l0_1 : List (S47)) (g0 : Nat) (c0_0 : Int) (r1 : Int) (r2 : List (S47)) (w : World) (hr0_1 : Kd.C k47 w A0_1 l0_1.length l0_1) (hc0_1 : l0_1.length ≤ c0_1) (hc0 : w.heap[g0]? = some (.cells #[.int .i64 c0_0] 3 (0, 0))) (h : impl_copyWheel_c38.f a0_0 l0_1 c0_0 = some (r1, r2)) :
    Calls Try.prog 36 #[.agg #[.int .i64 a0_0, .slice A0_1 l0_1.length c0_1], .func (.func 38) #[] #[.pointer (some ⟨g0, 0, none⟩)]] w fun e w' => ∃ v1_ : Value, e = .returned (.agg #[.int .i64 r1, v1_]) ∧ Kd.S k47 47 w' w.heap.size (fun _ => True) v1_ r2 ∧ Below w.heap.size w w' := by
  unfold impl_copyWheel_c38.f at h
  by_cases hb : l0_1.length ≤ 1048577 ∧ ∀ s ∈ l0_1, s.f0.length ≤ 1048577
  rotate_left
  · rw [if_neg hb] at h
    cases h
  rw [if_pos hb] at h
  obtain ⟨rfl, rfl⟩ := Prod.mk.inj (Option.some.inj h)
  exact Dl.copy 38 #[.pointer (some ⟨g0, 0, none⟩)] (enters_of Try.func38 (by kernel_rfl) rfl) (fun x => x.f0 == c0_0) a0_0 A0_1 c0_1 l0_1 w hr0_1 hb.1 hb.2 (fun W x hk => impl_copyWheel_c38.clo g0 c0_0 x _ W ((hk.2 g0 (blk_lt hc0) (fun e => e)).trans hc0) rfl)

/-! ### impl_WheelSet: function 22 -/
def impl_WheelSet.j0 : Nat → Int → Bool → Int → List (S47) → Int → Option (Int × (List (S47)) × Int)
 | 0, _, _, _, _, _ => none
 | k + 1, x2, x10, x255000, x255001, x256000 => if x10 = true then (some (0, ([] : List (S47)), 1)) else ((impl_Wheel_isAhead.f x255000 x255001 x2).bind fun t259 => (if t259 = true then ((impl_Wheel_hasTimer.f k x255000 x255001 x256000).bind fun t260 => (if t260 = true then ((impl_copyWheel_c38.f x255000 x255001 x256000).bind fun bt261 => (some (bt261.1, bt261.2, 0))) else ((impl_Wheel_timers.f k x255000 x255001).bind fun t266 => (if (t266.length : Int) = 64 then (some (0, ([] : List (S47)), 3)) else ((impl_copyWheel_c38.f x255000 x255001 x256000).bind fun bt269 => (some (bt269.1, bt269.2, 0))))))) else (some (0, ([] : List (S47)), 2))))
def impl_WheelSet.f (k : Nat) (a0_0 : Int) (l0_1 : List (S47)) (a1 : Int) (a2 : Int) : Option (Int × (List (S47)) × Int) := (impl_WheelOk.f a0_0 l0_1).bind fun b0 => if b0 = true then ((impl_within.f a1 0 9999).bind fun b1 => if b1 = true then ((impl_Wheel_isAhead.f a0_0 l0_1 a2).bind fun b2 => if b2 = true then ((impl_Wheel_hasTimer.f k a0_0 l0_1 a1).bind fun b3 => (impl_Wheel_timers.f k a0_0 l0_1).bind fun ts => if b3 = false ∧ (ts.length : Int) = 64 then some (0, [], 3) else ((impl_copyWheel_c38.f a0_0 l0_1 a1).bind fun c => if 0 ≤ Int.tmod a2 8 ∧ Int.tmod a2 8 < (c.2.length : Int) ∧ (rd_T47 c.2 (Int.tmod a2 8)).f0.length < 8796093022208 then some (c.1, c.2.set (Int.tmod a2 8).toNat ⟨(rd_T47 c.2 (Int.tmod a2 8)).f0 ++ [⟨a1, a2⟩]⟩, 0) else none)) else some (0, [], 2)) else some (0, [], 1)) else some (0, [], 1)
theorem impl_WheelSet.mono_l : ∀ k, (∀ y0 y1 y2 y3 y4, LeO (impl_WheelSet.j0 k y0 y1 y2 y3 y4) (impl_WheelSet.j0 (k + 1) y0 y1 y2 y3 y4))
 | 0 => fun _ _ _ _ _ r h => by simp [impl_WheelSet.j0] at h
 | k + 1 => by
  have ih0 := impl_WheelSet.mono_l k
  ·intro y0 y1 y2 y3 y4
   unfold impl_WheelSet.j0
   repeat' first
   | (with_reducible exact ih0 _ _ _ _ _)
   | (with_reducible exact impl_Wheel_hasTimer.mono _ _ _ _)
   | (with_reducible exact impl_Wheel_timers.mono _ _ _)
   | (with_reducible exact LeO.refl _)
   | (with_reducible exact LeO.none _)
   | (with_reducible refine LeO.ite ?_ ?_)
   | (with_reducible refine LeO.bind ?_ (fun _ => ?_))
   | exact ih0 _ _ _ _ _
   | exact impl_Wheel_hasTimer.mono _ _ _ _
   | exact impl_Wheel_timers.mono _ _ _
   | exact LeO.none _
   | refine LeO.ite ?_ ?_
   | refine LeO.bind ?_ (fun _ => ?_)
theorem impl_WheelSet.mono : ∀ a0 a1 a2 a3 k, LeO (impl_WheelSet.f k a0 a1 a2 a3) (impl_WheelSet.f (k + 1) a0 a1 a2 a3) := by
 intro a0 a1 a2 a3 k
 have ih0 := impl_WheelSet.mono_l k
 unfold impl_WheelSet.f
 repeat' first
   | (with_reducible exact ih0 _ _ _ _ _)
   | (with_reducible exact impl_Wheel_hasTimer.mono _ _ _ _)
   | (with_reducible exact impl_Wheel_timers.mono _ _ _)
   | (with_reducible exact LeO.refl _)
   | (with_reducible exact LeO.none _)
   | (with_reducible refine LeO.ite ?_ ?_)
   | (with_reducible refine LeO.bind ?_ (fun _ => ?_))
   | exact ih0 _ _ _ _ _
   | exact impl_Wheel_hasTimer.mono _ _ _ _
   | exact impl_Wheel_timers.mono _ _ _
   | exact LeO.none _
   | refine LeO.ite ?_ ?_
   | refine LeO.bind ?_ (fun _ => ?_)
set_option maxHeartbeats 8000000 in
set_option maxRecDepth 100000 in
theorem impl_WheelSet.calls (k : Nat) (a0_0 : Int) (A0_1 : Option Addr) (c0_1 : Nat) (l0_1 : List (S47)) (a1 : Int) (a2 : Int) (r1 : Int) (r2 : List (S47)) (r3 : Int) (w : World) (hr0_1 : Kd.C k47 w A0_1 l0_1.length l0_1) (hc0_1 : l0_1.length ≤ c0_1) (h : impl_WheelSet.f k a0_0 l0_1 a1 a2 = some (r1, r2, r3)) :
  Calls Try.prog 22 #[.agg #[.int .i64 a0_0, .slice A0_1 l0_1.length c0_1], .int .i64 a1, .int .i64 a2] w fun e w' => ∃ v1_ : Value, e = .returned (.tuple #[.agg #[.int .i64 r1, v1_], .int .i64 r3]) ∧ Kd.S k47 47 w' w.heap.size (fun _ => True) v1_ r2 ∧ Below w.heap.size w w' := by
 have hu24 := Try.underlying24
 have hu45 := Try.underlying45
 have hu47 := Try.underlying47
 have HR := Gv.a0 hr0_1
 have HC := Gv.a0 hc0_1
 have HB := Gv.a0 (Below.refl w.heap.size w)
 unfold impl_WheelSet.f at h
 replace h := Option.bind_eq_some_iff.mp h
 obtain ⟨b0, h0, h⟩ := h
 have A0 := Gv.a0 h0
 clear h0 hr0_1 hc0_1
 cases b0
 ·rw [if_neg (by decide)] at h
  simp only [Option.some.injEq, Prod.mk.injEq] at h
  obtain ⟨rfl, rfl, rfl⟩ := h
  go_enter Try.func22, Try.ntmps22
  go_wp2_with (first
   | ((with_reducible refine gate_dst (N := 3) rfl ?_); refine box_event ?hg (N := 3) ?hd (cs := #[.int .i64 a0_0, .slice A0_1 l0_1.length c0_1]) (t := 24) ?hr ?_; (case hd => rfl); (case hg => rfl); (case hr => first | (go_simp; done) | (go_simp; rfl)); intro gb3 hg wn_ hbox hb; replace HB := Gv.a0 (below_step HB.out hb); have BK3 := Gv.a0 hbox; clear hg hbox hb)
   | ((with_reducible refine gate_dst (N := 4) rfl ?_); refine box_event ?hg (N := 4) ?hd (cs := #[.int .i64 a1]) (t := 3) ?hr ?_; (case hd => rfl); (case hg => rfl); (case hr => first | (go_simp; done) | (go_simp; rfl)); intro gb4 hg wn_ hbox hb; replace HB := Gv.a0 (below_step HB.out hb); replace BK3 := Gv.a0 (blk_below BK3.out hb); have BK4 := Gv.a0 hbox; clear hg hbox hb)
   | ((with_reducible refine gate_dst (N := 6) rfl ?_); refine box_event ?hg (N := 6) ?hd (cs := #[.int .i64 0, .slice none 0 0]) (t := 24) ?hr ?_; (case hd => rfl); (case hg => rfl); (case hr => first | (go_simp; done) | (go_simp; rfl)); intro gb6 hg wn_ hbox hb; have GE6 := Gv.a0 (Gv.ble hg HB.out); replace HB := Gv.a0 (below_step HB.out hb); replace BK3 := Gv.a0 (blk_below BK3.out hb); replace BK4 := Gv.a0 (blk_below BK4.out hb); have BK6 := Gv.a0 hbox; clear hg hbox hb)
   | ((with_reducible refine Gv.gate_load (t := 24) rfl ?_); (try (refine gate_guard (by rfl) ?_; dsimp only)); refine wpList_load_row rfl 24 _ rfl gb3 rfl 24 _ _ _ BK3.out Try.underlying24 rfl (by kernel_rfl) ?_)
   | ((with_reducible refine Gv.gate_load (t := 3) rfl ?_); (try (refine gate_guard (by rfl) ?_; dsimp only)); refine Gv.get_event (g := gb4) rfl rfl rfl BK4.out rfl Try.underlying3 rfl ?_)
   | (go_at_call 16; (with_reducible refine (impl_WheelOk.calls a0_0 _ _ l0_1 _ _ (Kd.C_below HR.out HB.out) HC.out A0.out).mono ?_); rintro e wn_ ⟨rfl, hb⟩; replace HB := Gv.a0 (below_step HB.out hb); replace BK3 := Gv.a0 (blk_below BK3.out hb); replace BK4 := Gv.a0 (blk_below BK4.out hb); replace BK6 := Gv.a0 (blk_below BK6.out hb); clear hb)
   | ((with_reducible refine gate_store (t := 24) (p := 6) rfl ?_); refine Gv.store_event (g := gb6) (cells := #[.int .i64 0, .slice none 0 0]) rfl rfl rfl rfl rfl BK6.out (by kernel_rfl) rfl (by simp; and_intros <;> rfl) ?_; intro wn_ hbox hoth hbel; replace BK6 := Gv.a0 hbox; replace HB := Gv.a0 (hbel w HB.out GE6.out); clear hbox hoth hbel))
  refine bodyPost_ret (results_ct rfl _ _ gb6 24 #[.int .i64 0, .slice none 0 0] (0, 0) _ rfl BK6.out Try.underlying24 rfl (by kernel_rfl)) rfl ?_
  exact ⟨_, rfl, Kd.S_nil _ _ _ _ _, HB.out⟩
 rw [if_pos rfl] at h
 replace h := Option.bind_eq_some_iff.mp h
 obtain ⟨b1, h1, h⟩ := h
 have A1 := Gv.a0 h1
 clear h1
 cases b1
 ·rw [if_neg (by decide)] at h
  simp only [Option.some.injEq, Prod.mk.injEq] at h
  obtain ⟨rfl, rfl, rfl⟩ := h
  go_enter Try.func22, Try.ntmps22
  go_wp2_with (first
   | ((with_reducible refine gate_dst (N := 3) rfl ?_); refine box_event ?hg (N := 3) ?hd (cs := #[.int .i64 a0_0, .slice A0_1 l0_1.length c0_1]) (t := 24) ?hr ?_; (case hd => rfl); (case hg => rfl); (case hr => first | (go_simp; done) | (go_simp; rfl)); intro gb3 hg wn_ hbox hb; replace HB := Gv.a0 (below_step HB.out hb); have BK3 := Gv.a0 hbox; clear hg hbox hb)
   | ((with_reducible refine gate_dst (N := 4) rfl ?_); refine box_event ?hg (N := 4) ?hd (cs := #[.int .i64 a1]) (t := 3) ?hr ?_; (case hd => rfl); (case hg => rfl); (case hr => first | (go_simp; done) | (go_simp; rfl)); intro gb4 hg wn_ hbox hb; replace HB := Gv.a0 (below_step HB.out hb); replace BK3 := Gv.a0 (blk_below BK3.out hb); have BK4 := Gv.a0 hbox; clear hg hbox hb)
   | ((with_reducible refine gate_dst (N := 6) rfl ?_); refine box_event ?hg (N := 6) ?hd (cs := #[.int .i64 0, .slice none 0 0]) (t := 24) ?hr ?_; (case hd => rfl); (case hg => rfl); (case hr => first | (go_simp; done) | (go_simp; rfl)); intro gb6 hg wn_ hbox hb; have GE6 := Gv.a0 (Gv.ble hg HB.out); replace HB := Gv.a0 (below_step HB.out hb); replace BK3 := Gv.a0 (blk_below BK3.out hb); replace BK4 := Gv.a0 (blk_below BK4.out hb); have BK6 := Gv.a0 hbox; clear hg hbox hb)
   | ((with_reducible refine Gv.gate_load (t := 24) rfl ?_); (try (refine gate_guard (by rfl) ?_; dsimp only)); refine wpList_load_row rfl 24 _ rfl gb3 rfl 24 _ _ _ BK3.out Try.underlying24 rfl (by kernel_rfl) ?_)
   | ((with_reducible refine Gv.gate_load (t := 3) rfl ?_); (try (refine gate_guard (by rfl) ?_; dsimp only)); refine Gv.get_event (g := gb4) rfl rfl rfl BK4.out rfl Try.underlying3 rfl ?_)
   | (go_at_call 16; (with_reducible refine (impl_WheelOk.calls a0_0 _ _ l0_1 _ _ (Kd.C_below HR.out HB.out) HC.out A0.out).mono ?_); rintro e wn_ ⟨rfl, hb⟩; replace HB := Gv.a0 (below_step HB.out hb); replace BK3 := Gv.a0 (blk_below BK3.out hb); replace BK4 := Gv.a0 (blk_below BK4.out hb); replace BK6 := Gv.a0 (blk_below BK6.out hb); clear hb)
   | (go_at_call 30; (with_reducible refine (impl_within.calls a1 0 9999 _ _ A1.out).mono ?_); rintro e wn_ ⟨rfl, hd⟩; have hb := hd.below; replace HB := Gv.a0 (below_step HB.out hb); replace BK3 := Gv.a0 (blk_below BK3.out hb); replace BK4 := Gv.a0 (blk_below BK4.out hb); replace BK6 := Gv.a0 (blk_below BK6.out hb); clear hb hd)
   | ((with_reducible refine gate_store (t := 24) (p := 6) rfl ?_); refine Gv.store_event (g := gb6) (cells := #[.int .i64 0, .slice none 0 0]) rfl rfl rfl rfl rfl BK6.out (by kernel_rfl) rfl (by simp; and_intros <;> rfl) ?_; intro wn_ hbox hoth hbel; replace BK6 := Gv.a0 hbox; replace HB := Gv.a0 (hbel w HB.out GE6.out); clear hbox hoth hbel))
  refine bodyPost_ret (results_ct rfl _ _ gb6 24 #[.int .i64 0, .slice none 0 0] (0, 0) _ rfl BK6.out Try.underlying24 rfl (by kernel_rfl)) rfl ?_
  exact ⟨_, rfl, Kd.S_nil _ _ _ _ _, HB.out⟩
 rw [if_pos rfl] at h
 replace h := Option.bind_eq_some_iff.mp h
 obtain ⟨b2, h2, h⟩ := h
 have A2 := Gv.a0 h2
 clear h2
 cases b2
 ·rw [if_neg (by decide)] at h
  simp only [Option.some.injEq, Prod.mk.injEq] at h
  obtain ⟨rfl, rfl, rfl⟩ := h
  go_enter Try.func22, Try.ntmps22
  go_wp2_with (first
   | ((with_reducible refine gate_dst (N := 3) rfl ?_); refine box_event ?hg (N := 3) ?hd (cs := #[.int .i64 a0_0, .slice A0_1 l0_1.length c0_1]) (t := 24) ?hr ?_; (case hd => rfl); (case hg => rfl); (case hr => first | (go_simp; done) | (go_simp; rfl)); intro gb3 hg wn_ hbox hb; replace HB := Gv.a0 (below_step HB.out hb); have BK3 := Gv.a0 hbox; clear hg hbox hb)
   | ((with_reducible refine gate_dst (N := 4) rfl ?_); refine box_event ?hg (N := 4) ?hd (cs := #[.int .i64 a1]) (t := 3) ?hr ?_; (case hd => rfl); (case hg => rfl); (case hr => first | (go_simp; done) | (go_simp; rfl)); intro gb4 hg wn_ hbox hb; replace HB := Gv.a0 (below_step HB.out hb); replace BK3 := Gv.a0 (blk_below BK3.out hb); have BK4 := Gv.a0 hbox; clear hg hbox hb)
   | ((with_reducible refine gate_dst (N := 6) rfl ?_); refine box_event ?hg (N := 6) ?hd (cs := #[.int .i64 0, .slice none 0 0]) (t := 24) ?hr ?_; (case hd => rfl); (case hg => rfl); (case hr => first | (go_simp; done) | (go_simp; rfl)); intro gb6 hg wn_ hbox hb; have GE6 := Gv.a0 (Gv.ble hg HB.out); replace HB := Gv.a0 (below_step HB.out hb); replace BK3 := Gv.a0 (blk_below BK3.out hb); replace BK4 := Gv.a0 (blk_below BK4.out hb); have BK6 := Gv.a0 hbox; clear hg hbox hb)
   | ((with_reducible refine Gv.gate_load (t := 24) rfl ?_); (try (refine gate_guard (by rfl) ?_; dsimp only)); refine wpList_load_row rfl 24 _ rfl gb3 rfl 24 _ _ _ BK3.out Try.underlying24 rfl (by kernel_rfl) ?_)
   | ((with_reducible refine Gv.gate_load (t := 3) rfl ?_); (try (refine gate_guard (by rfl) ?_; dsimp only)); refine Gv.get_event (g := gb4) rfl rfl rfl BK4.out rfl Try.underlying3 rfl ?_)
   | (go_at_call 16; (with_reducible refine (impl_WheelOk.calls a0_0 _ _ l0_1 _ _ (Kd.C_below HR.out HB.out) HC.out A0.out).mono ?_); rintro e wn_ ⟨rfl, hb⟩; replace HB := Gv.a0 (below_step HB.out hb); replace BK3 := Gv.a0 (blk_below BK3.out hb); replace BK4 := Gv.a0 (blk_below BK4.out hb); replace BK6 := Gv.a0 (blk_below BK6.out hb); clear hb)
   | (go_at_call 30; (with_reducible refine (impl_within.calls a1 0 9999 _ _ A1.out).mono ?_); rintro e wn_ ⟨rfl, hd⟩; have hb := hd.below; replace HB := Gv.a0 (below_step HB.out hb); replace BK3 := Gv.a0 (blk_below BK3.out hb); replace BK4 := Gv.a0 (blk_below BK4.out hb); replace BK6 := Gv.a0 (blk_below BK6.out hb); clear hb hd)
   | (go_at_call 31; (with_reducible refine (impl_Wheel_isAhead.calls a0_0 _ _ l0_1 a2 _ _ (Kd.C_below HR.out HB.out) HC.out A2.out).mono ?_); rintro e wn_ ⟨rfl, hb⟩; replace HB := Gv.a0 (below_step HB.out hb); replace BK3 := Gv.a0 (blk_below BK3.out hb); replace BK4 := Gv.a0 (blk_below BK4.out hb); replace BK6 := Gv.a0 (blk_below BK6.out hb); clear hb)
   | ((with_reducible refine gate_store (t := 24) (p := 6) rfl ?_); refine Gv.store_event (g := gb6) (cells := #[.int .i64 0, .slice none 0 0]) rfl rfl rfl rfl rfl BK6.out (by kernel_rfl) rfl (by simp; and_intros <;> rfl) ?_; intro wn_ hbox hoth hbel; replace BK6 := Gv.a0 hbox; replace HB := Gv.a0 (hbel w HB.out GE6.out); clear hbox hoth hbel))
  refine bodyPost_ret (results_ct rfl _ _ gb6 24 #[.int .i64 0, .slice none 0 0] (0, 0) _ rfl BK6.out Try.underlying24 rfl (by kernel_rfl)) rfl ?_
  exact ⟨_, rfl, Kd.S_nil _ _ _ _ _, HB.out⟩
 rw [if_pos rfl] at h
 replace h := Option.bind_eq_some_iff.mp h
 obtain ⟨b3, h3, h⟩ := h
 replace h := Option.bind_eq_some_iff.mp h
 obtain ⟨ts, h4, h⟩ := h
 have A3 := Gv.a0 h3
 have A4 := Gv.a0 h4
 clear h3 h4
 by_cases hf : b3 = false ∧ (ts.length : Int) = 64
 ·rw [if_pos hf] at h
  obtain ⟨rfl, hl⟩ := hf
  simp only [Option.some.injEq, Prod.mk.injEq] at h
  obtain ⟨rfl, rfl, rfl⟩ := h
  have hlb : ((ts.length : Int) == 64) = true := beq_iff_eq.2 hl
  have HL := Gv.a0 hl
  clear hl
  go_enter Try.func22, Try.ntmps22
  go_wp2_with (first
   | ((with_reducible refine gate_dst (N := 3) rfl ?_); refine box_event ?hg (N := 3) ?hd (cs := #[.int .i64 a0_0, .slice A0_1 l0_1.length c0_1]) (t := 24) ?hr ?_; (case hd => rfl); (case hg => rfl); (case hr => first | (go_simp; done) | (go_simp; rfl)); intro gb3 hg wn_ hbox hb; replace HB := Gv.a0 (below_step HB.out hb); have BK3 := Gv.a0 hbox; clear hg hbox hb)
   | ((with_reducible refine gate_dst (N := 4) rfl ?_); refine box_event ?hg (N := 4) ?hd (cs := #[.int .i64 a1]) (t := 3) ?hr ?_; (case hd => rfl); (case hg => rfl); (case hr => first | (go_simp; done) | (go_simp; rfl)); intro gb4 hg wn_ hbox hb; replace HB := Gv.a0 (below_step HB.out hb); replace BK3 := Gv.a0 (blk_below BK3.out hb); have BK4 := Gv.a0 hbox; clear hg hbox hb)
   | ((with_reducible refine gate_dst (N := 6) rfl ?_); refine box_event ?hg (N := 6) ?hd (cs := #[.int .i64 0, .slice none 0 0]) (t := 24) ?hr ?_; (case hd => rfl); (case hg => rfl); (case hr => first | (go_simp; done) | (go_simp; rfl)); intro gb6 hg wn_ hbox hb; have GE6 := Gv.a0 (Gv.ble hg HB.out); replace HB := Gv.a0 (below_step HB.out hb); replace BK3 := Gv.a0 (blk_below BK3.out hb); replace BK4 := Gv.a0 (blk_below BK4.out hb); have BK6 := Gv.a0 hbox; clear hg hbox hb)
   | ((with_reducible refine Gv.gate_load (t := 24) rfl ?_); (try (refine gate_guard (by rfl) ?_; dsimp only)); refine wpList_load_row rfl 24 _ rfl gb3 rfl 24 _ _ _ BK3.out Try.underlying24 rfl (by kernel_rfl) ?_)
   | ((with_reducible refine Gv.gate_load (t := 3) rfl ?_); (try (refine gate_guard (by rfl) ?_; dsimp only)); refine Gv.get_event (g := gb4) rfl rfl rfl BK4.out rfl Try.underlying3 rfl ?_)
   | (go_at_call 16; (with_reducible refine (impl_WheelOk.calls a0_0 _ _ l0_1 _ _ (Kd.C_below HR.out HB.out) HC.out A0.out).mono ?_); rintro e wn_ ⟨rfl, hb⟩; replace HB := Gv.a0 (below_step HB.out hb); replace BK3 := Gv.a0 (blk_below BK3.out hb); replace BK4 := Gv.a0 (blk_below BK4.out hb); replace BK6 := Gv.a0 (blk_below BK6.out hb); clear hb)
   | (go_at_call 30; (with_reducible refine (impl_within.calls a1 0 9999 _ _ A1.out).mono ?_); rintro e wn_ ⟨rfl, hd⟩; have hb := hd.below; replace HB := Gv.a0 (below_step HB.out hb); replace BK3 := Gv.a0 (blk_below BK3.out hb); replace BK4 := Gv.a0 (blk_below BK4.out hb); replace BK6 := Gv.a0 (blk_below BK6.out hb); clear hb hd)
   | (go_at_call 31; (with_reducible refine (impl_Wheel_isAhead.calls a0_0 _ _ l0_1 a2 _ _ (Kd.C_below HR.out HB.out) HC.out A2.out).mono ?_); rintro e wn_ ⟨rfl, hb⟩; replace HB := Gv.a0 (below_step HB.out hb); replace BK3 := Gv.a0 (blk_below BK3.out hb); replace BK4 := Gv.a0 (blk_below BK4.out hb); replace BK6 := Gv.a0 (blk_below BK6.out hb); clear hb)
   | (go_at_call 35; (with_reducible refine (impl_Wheel_hasTimer.calls k a0_0 _ _ l0_1 a1 _ _ (Kd.C_below HR.out HB.out) HC.out A3.out).mono ?_); rintro e wn_ ⟨rfl, hb⟩; replace HB := Gv.a0 (below_step HB.out hb); replace BK3 := Gv.a0 (blk_below BK3.out hb); replace BK4 := Gv.a0 (blk_below BK4.out hb); replace BK6 := Gv.a0 (blk_below BK6.out hb); clear hb)
   | (go_at_call 32; (with_reducible refine (impl_Wheel_timers.calls k a0_0 _ _ l0_1 ts _ (Kd.C_below HR.out HB.out) HC.out A4.out).mono ?_); rintro e wn_ ⟨v_, rfl, ho, hb⟩; obtain ⟨At, ct, rfl⟩ := Kd.R_slice ho; replace HB := Gv.a0 (below_step HB.out hb); replace BK3 := Gv.a0 (blk_below BK3.out hb); replace BK4 := Gv.a0 (blk_below BK4.out hb); replace BK6 := Gv.a0 (blk_below BK6.out hb); clear hb ho)
   | ((with_reducible refine gate_store (t := 24) (p := 6) rfl ?_); refine Gv.store_event (g := gb6) (cells := #[.int .i64 0, .slice none 0 0]) rfl rfl rfl rfl rfl BK6.out (by kernel_rfl) rfl (by simp; and_intros <;> rfl) ?_; intro wn_ hbox hoth hbel; replace BK6 := Gv.a0 hbox; replace HB := Gv.a0 (hbel w HB.out GE6.out); clear hbox hoth hbel))
  refine bodyPost_ret (results_ct rfl _ _ gb6 24 #[.int .i64 0, .slice none 0 0] (0, 0) _ rfl BK6.out Try.underlying24 rfl (by kernel_rfl)) rfl ?_
  exact ⟨_, rfl, Kd.S_nil _ _ _ _ _, HB.out⟩
 rw [if_neg hf] at h
 replace h := Option.bind_eq_some_iff.mp h
 obtain ⟨⟨c1, c2⟩, h5, h⟩ := h
 dsimp only at h
 obtain ⟨j, hj⟩ : ∃ j_ : Int, Int.tmod a2 8 = j_ := ⟨_, rfl⟩
 rw [hj] at h
 by_cases hc : 0 ≤ j ∧ j < (c2.length : Int) ∧ (rd_T47 c2 j).f0.length < 8796093022208
 rotate_left
 ·rw [if_neg hc] at h
  cases h
 rw [if_pos hc] at h
 obtain ⟨hj0, hj1, hlim⟩ := hc
 obtain ⟨x_, hx_⟩ : ∃ x_, x_ = rd_T47 c2 j := ⟨_, rfl⟩
 rw [← hx_] at h hlim
 have XE := Gv.a0 hx_
 clear hx_
 obtain ⟨y9, hy9⟩ : ∃ y_, y_ = x_.f0 ++ [(⟨a1, a2⟩ : S50)] := ⟨_, rfl⟩
 rw [← hy9] at h
 have YE := Gv.a0 hy9
 clear hy9
 simp only [Option.some.injEq, Prod.mk.injEq] at h
 obtain ⟨rfl, rfl, rfl⟩ := h
 have A5 := Gv.a0 h5
 have hpos := Gv.a0 (show 0 < c2.length by omega)
 have LIM := Gv.a0 hlim
 have J0 := Gv.a0 hj0
 have J1 := Gv.a0 hj1
 have j0b : decide (0 ≤ j) = true := decide_eq_true hj0
 have j1b : decide (j < (c2.length : Int)) = true := decide_eq_true hj1
 have j0e := eq_true hj0
 have j1e := eq_true hj1
 clear hj0 hj1 hlim h5
 have hmf : ∀ (fn : Fn) (first cap : Array Value) (w : World), (Instr.makeFunc fn first cap).run Try.prog w = .ok (.func fn first cap) w := fun _ _ _ _ => rfl
 suffices HS : ∀ (hz : b3 = true ∨ (b3 = false ∧ ((ts.length : Int) == 64) = false)), Calls Try.prog 22 #[.agg #[.int .i64 a0_0, .slice A0_1 l0_1.length c0_1], .int .i64 a1, .int .i64 a2] w fun e w' => ∃ v1_ : Value, e = .returned (.tuple #[.agg #[.int .i64 c1, v1_], .int .i64 0]) ∧ Kd.S k47 47 w' w.heap.size (fun _ => True) v1_ (c2.set j.toNat ⟨y9⟩) ∧ Below w.heap.size w w' from HS (by
  cases b3 with
  | true => exact .inl rfl
  | false => exact .inr ⟨rfl, beq_eq_false_iff_ne.2 (fun e => hf ⟨rfl, e⟩)⟩)
 clear hf
 intro hz
 rcases hz with rfl | ⟨rfl, hlb⟩
 all_goals
  go_enter Try.func22, Try.ntmps22
  go_wp2_with (first
   | ((with_reducible refine gate_dst (N := 3) rfl ?_); refine box_event ?hg (N := 3) ?hd (cs := #[.int .i64 a0_0, .slice A0_1 l0_1.length c0_1]) (t := 24) ?hr ?_; (case hd => rfl); (case hg => rfl); (case hr => first | (go_simp; done) | (go_simp; rfl)); intro gb3 hg wn_ hbox hb; replace HB := Gv.a0 (below_step HB.out hb); have BK3 := Gv.a0 hbox; clear hg hbox hb)
   | ((with_reducible refine gate_dst (N := 4) rfl ?_); refine box_event ?hg (N := 4) ?hd (cs := #[.int .i64 a1]) (t := 3) ?hr ?_; (case hd => rfl); (case hg => rfl); (case hr => first | (go_simp; done) | (go_simp; rfl)); intro gb4 hg wn_ hbox hb; replace HB := Gv.a0 (below_step HB.out hb); replace BK3 := Gv.a0 (blk_below BK3.out hb); have BK4 := Gv.a0 hbox; clear hg hbox hb)
   | ((with_reducible refine gate_dst (N := 6) rfl ?_); refine box_event ?hg (N := 6) ?hd (cs := #[.int .i64 0, .slice none 0 0]) (t := 24) ?hr ?_; (case hd => rfl); (case hg => rfl); (case hr => first | (go_simp; done) | (go_simp; rfl)); intro gb6 hg wn_ hbox hb; have GE6 := Gv.a0 (Gv.ble hg HB.out); replace HB := Gv.a0 (below_step HB.out hb); replace BK3 := Gv.a0 (blk_below BK3.out hb); replace BK4 := Gv.a0 (blk_below BK4.out hb); have BK6 := Gv.a0 hbox; clear hg hbox hb)
   | ((with_reducible refine Gv.gate_load (t := 24) rfl ?_); (try (refine gate_guard (by rfl) ?_; dsimp only)); refine wpList_load_row rfl 24 _ rfl gb3 rfl 24 _ _ _ BK3.out Try.underlying24 rfl (by kernel_rfl) ?_)
   | ((with_reducible refine Gv.gate_load (t := 3) rfl ?_); (try (refine gate_guard (by rfl) ?_; dsimp only)); refine Gv.get_event (g := gb4) rfl rfl rfl BK4.out rfl Try.underlying3 rfl ?_)
   | (go_at_call 16; (with_reducible refine (impl_WheelOk.calls a0_0 _ _ l0_1 _ _ (Kd.C_below HR.out HB.out) HC.out A0.out).mono ?_); rintro e wn_ ⟨rfl, hb⟩; replace HB := Gv.a0 (below_step HB.out hb); replace BK3 := Gv.a0 (blk_below BK3.out hb); replace BK4 := Gv.a0 (blk_below BK4.out hb); replace BK6 := Gv.a0 (blk_below BK6.out hb); clear hb)
   | (go_at_call 30; (with_reducible refine (impl_within.calls a1 0 9999 _ _ A1.out).mono ?_); rintro e wn_ ⟨rfl, hd⟩; have hb := hd.below; replace HB := Gv.a0 (below_step HB.out hb); replace BK3 := Gv.a0 (blk_below BK3.out hb); replace BK4 := Gv.a0 (blk_below BK4.out hb); replace BK6 := Gv.a0 (blk_below BK6.out hb); clear hb hd)
   | (go_at_call 31; (with_reducible refine (impl_Wheel_isAhead.calls a0_0 _ _ l0_1 a2 _ _ (Kd.C_below HR.out HB.out) HC.out A2.out).mono ?_); rintro e wn_ ⟨rfl, hb⟩; replace HB := Gv.a0 (below_step HB.out hb); replace BK3 := Gv.a0 (blk_below BK3.out hb); replace BK4 := Gv.a0 (blk_below BK4.out hb); replace BK6 := Gv.a0 (blk_below BK6.out hb); clear hb)
   | (go_at_call 35; (with_reducible refine (impl_Wheel_hasTimer.calls k a0_0 _ _ l0_1 a1 _ _ (Kd.C_below HR.out HB.out) HC.out A3.out).mono ?_); rintro e wn_ ⟨rfl, hb⟩; replace HB := Gv.a0 (below_step HB.out hb); replace BK3 := Gv.a0 (blk_below BK3.out hb); replace BK4 := Gv.a0 (blk_below BK4.out hb); replace BK6 := Gv.a0 (blk_below BK6.out hb); clear hb)
   | (go_at_call 32; (with_reducible refine (impl_Wheel_timers.calls k a0_0 _ _ l0_1 ts _ (Kd.C_below HR.out HB.out) HC.out A4.out).mono ?_); rintro e wn_ ⟨v_, rfl, ho, hb⟩; obtain ⟨At, ct, rfl⟩ := Kd.R_slice ho; replace HB := Gv.a0 (below_step HB.out hb); replace BK3 := Gv.a0 (blk_below BK3.out hb); replace BK4 := Gv.a0 (blk_below BK4.out hb); replace BK6 := Gv.a0 (blk_below BK6.out hb); clear hb ho)
   | (go_at_call 36; (with_reducible refine (impl_copyWheel_c38.calls a0_0 _ _ l0_1 gb4 a1 c1 c2 _ (Kd.C_below HR.out HB.out) HC.out BK4.out A5.out).mono ?_); rintro e wn_ ⟨v_, rfl, ho, hb⟩; obtain ⟨go, cap, rfl, hgo, hgl, hgt⟩ := Kd.S_form ho hpos.out; have HO := Gv.a0 (Kd.S_lower ho HB.out.size); have GO := Gv.a0 (Nat.le_trans HB.out.size hgo); replace HB := Gv.a0 (below_step HB.out hb); replace BK3 := Gv.a0 (blk_below BK3.out hb); replace BK4 := Gv.a0 (blk_below BK4.out hb); replace BK6 := Gv.a0 (blk_below BK6.out hb); clear ho hb hgo hgl hgt)
   | ((with_reducible refine gate_dst (N := 8) rfl ?_); refine box_event ?hg (N := 8) ?hd (cs := #[.int .i64 0, .slice none 0 0]) (t := 24) ?hr ?_; (case hd => rfl); (case hg => rfl); (case hr => first | (go_simp; done) | (go_simp; rfl)); intro gb8 hg wa_ hbox hb; have BK8 := Gv.a0 hbox; have HA_ := Gv.a0 hb; have HG_ := Gv.a0 (Nat.le_of_eq hg.symm); have GE8 := Gv.a0 (Gv.ble hg HB.out); clear hg hbox hb)
   | ((with_reducible refine gate_store (t := 24) (p := 8) rfl ?_); refine Gv.store_event (g := gb8) (cells := #[.int .i64 c1, .slice (some ⟨go, 0, none⟩) c2.length cap]) rfl rfl rfl rfl rfl BK8.out (by kernel_rfl) rfl (by simp; and_intros <;> rfl) ?_; intro wn_ hbox hoth hbel; have hb := hbel _ HA_.out HG_.out; replace HB := Gv.a0 (below_step HB.out hb); replace BK3 := Gv.a0 (blk_below BK3.out hb); replace BK4 := Gv.a0 (blk_below BK4.out hb); replace BK6 := Gv.a0 (blk_below BK6.out hb); replace HO := Gv.a0 (Kd.S_below HO.out hb); replace BK8 := Gv.a0 hbox; have hz8 := (blk_cell hbox 1).trans (rfl : _ = (some (.slice (some ⟨go, 0, none⟩) c2.length cap) : Option Value)); clear hb hbox hoth hbel HA_ HG_))
  clear hz8
  obtain ⟨oki, ce, hcl, hM, hcc, _, hoki, hH⟩ := Kd.S_elem HO.out z47 j J0.out J1.out
  obtain ⟨v0, rfl, ge⟩ := k47_openM hM
  rw [show c2.getD j.toNat z47 = x_ from XE.out.symm] at ge
  obtain ⟨A2_, c2_, rfl⟩ := Kd.R_slice ge
  have hx := hcc 0 _ rfl
  simp only [show (k47).sz = 1 from rfl, Nat.mul_one, Nat.add_zero] at hx
  have UU := Gv.a0 (Kd.R_drew ge)
  have HH := Gv.a0 (Kd.H_drew hH)
  have HX := Gv.a0 hx
  have NG : Aside0 (∀ k, some k = (.slice A2_ x_.f0.length c2_ : Value).ownBlock → k ≠ go) := Gv.a0 (fun k e => (hoki k (UU.out.1 k e.symm)).2)
  clear hcc hcl hM hx ge hH hoki
  replace HB := Gv.a0 (below_drew1 HB.out)
  replace BK3 := Gv.a0 (blk_drew BK3.out)
  replace BK4 := Gv.a0 (blk_drew BK4.out)
  replace BK6 := Gv.a0 (blk_drew BK6.out)
  replace BK8 := Gv.a0 (blk_drew BK8.out)
  replace HO := Gv.a0 (Kd.S_drew HO.out)
  refine start_ (n := 13) (S := fun w' => w'.cell? ⟨gb4, 0, none⟩ = some (.int .i64 a1) ∧ w'.cell? ⟨go, j.toNat, none⟩ = some (.slice A2_ x_.f0.length c2_)) (ds := [12]) #[false, false, false, false, false, false, false, false, false, false, false, false, false] (by kernel_rfl) rfl rfl ⟨(blk_cell BK4.out 0).trans rfl, HX.out⟩ (fun hHeld => ?_)
  generalize World.drew _ = wd_ at HB BK3 BK4 BK6 BK8 HO UU HH hHeld ⊢
  clear HX
  refine pure_ (i := 0) (N := some 46) (v := ?_) (a' := ?_) #[true, false, false, false, false, false, false, false, false, false, false, false, false] rfl rfl (by kernel_rfl) (fun _ _ _ h => h) (Or.inl ⟨by rfl, ?_⟩) ?_ ?_
  rotate_left
  ·intro w'
   go_simp
   with_reducible rfl
  rotate_left
  ·simp only [Act.put, List.setIfInBounds_toArray, List.set_cons_zero, List.set_cons_succ, i64_w, i32_w]
   rfl
  refine pure_ (i := 1) (N := some 47) (v := ?_) (a' := ?_) #[true, true, false, false, false, false, false, false, false, false, false, false, false] rfl rfl (by kernel_rfl) (fun _ _ _ h => h) (Or.inl ⟨by rfl, ?_⟩) ?_ ?_
  rotate_left
  ·intro w'
   go_simp
   with_reducible rfl
  rotate_left
  ·simp only [Act.put, List.setIfInBounds_toArray, List.set_cons_zero, List.set_cons_succ, i64_w, i32_w]
   rfl
  refine pure_ (i := 6) (N := some 52) (v := ?_) (a' := ?_) #[true, true, false, false, false, false, true, false, false, false, false, false, false] rfl rfl (by kernel_rfl) (fun _ _ _ h => h) (Or.inl ⟨by rfl, ?_⟩) ?_ ?_
  rotate_left
  ·intro w'
   go_simp
   with_reducible rfl
  rotate_left
  ·simp only [Act.put, List.setIfInBounds_toArray, List.set_cons_zero, List.set_cons_succ, i64_w, i32_w]
   rfl
  refine pure_ (i := 2) (N := some 48) (v := ?_) (a' := ?_) #[true, true, true, false, false, false, true, false, false, false, false, false, false] rfl rfl (by kernel_rfl) (fun _ _ _ h => h) (Or.inl ⟨by rfl, ?_⟩) ?_ ?_
  rotate_left
  ·intro w'
   go_simp
   with_reducible rfl
  rotate_left
  ·simp only [Act.put, List.setIfInBounds_toArray, List.set_cons_zero, List.set_cons_succ, i64_w, i32_w]
   rfl
  refine pure_ (i := 3) (N := some 49) (v := ?_) (a' := ?_) #[true, true, true, true, false, false, true, false, false, false, false, false, false] rfl rfl (by kernel_rfl) (fun _ _ _ h => h) (Or.inl ⟨by rfl, ?_⟩) ?_ ?_
  rotate_left
  ·intro w'
   go_simp
   with_reducible rfl
  rotate_left
  ·simp only [Act.put, List.setIfInBounds_toArray, List.set_cons_zero, List.set_cons_succ, i64_w, i32_w]
   rfl
  refine take_ (i := 4) (N := some 50) (v := ?_) (a' := ?_) #[true, true, true, true, true, false, true, false, false, false, false, false, false] rfl rfl (by kernel_rfl) (fun _ _ _ h => h) (Or.inl ⟨by rfl, ?_⟩) hHeld ?_ ?_
  rotate_left
  ·rintro w' ⟨s0, s1⟩
   go_simp
   with_reducible rfl
  rotate_left
  ·simp only [Act.put, List.setIfInBounds_toArray, List.set_cons_zero, List.set_cons_succ, i64_w, i32_w]
   rfl
  refine take_ (i := 5) (N := some 51) (v := ?_) (a' := ?_) #[true, true, true, true, true, true, true, false, false, false, false, false, false] rfl rfl (by kernel_rfl) (fun _ _ _ h => h) (Or.inl ⟨by rfl, ?_⟩) hHeld ?_ ?_
  rotate_left
  ·rintro w' ⟨s0, s1⟩
   go_simp
   with_reducible rfl
  rotate_left
  ·simp only [Act.put, List.setIfInBounds_toArray, List.set_cons_zero, List.set_cons_succ, i64_w, i32_w]
   rfl
  refine pure_ (i := 7) (N := some 53) (v := ?_) (a' := ?_) #[true, true, true, true, true, true, true, true, false, false, false, false, false] rfl rfl (by kernel_rfl) (fun _ _ _ h => h) (Or.inl ⟨by rfl, ?_⟩) ?_ ?_
  rotate_left
  ·intro w'
   go_simp
   with_reducible rfl
  rotate_left
  ·simp only [Act.put, List.setIfInBounds_toArray, List.set_cons_zero, List.set_cons_succ, i64_w, i32_w]
   rfl
  refine one_ (i := 8) (N := some 54) #[true, true, true, true, true, true, true, true, true, false, false, false, false] rfl rfl (by kernel_rfl) (by decide) (fun K hK => ?_)
  refine value_ (w1 := ?_) (v := ?_) (by rfl) rfl ?_ ?_
  rotate_left 2
  ·go_simp
   constructor
   ·rfl
   ·rfl
  refine hK.out _ _ ⟨(blk_cell (blk_alloc BK4.out _) 0).trans rfl, (World.cell?_alloc_lt _ _ _ (World.block_lt_of_cell? _ _ hHeld.2)).trans hHeld.2⟩ (fun hHeld => ?_)
  clear hK K
  refine norm_ (a' := ?_) ?_ ?_
  rotate_left
  ·show Act.put _ (some 54) _ = _
   simp only [Act.put, List.setIfInBounds_toArray, List.set_cons_zero, List.set_cons_succ, i64_w, i32_w]
   rfl
  refine one_ (i := 9) (N := some 55) #[true, true, true, true, true, true, true, true, true, true, false, false, false] rfl rfl (by kernel_rfl) (by decide) (fun K hK => ?_)
  refine Kd.R_append_step k50 (w0 := w) w.heap.size (by rfl) (.tmp 50) (.tmp 54) 45 50 (.agg #[(.int .i64 0), (.int .i64 0)]) 16 rfl Try.underlying45 info50 rfl (by decide) (by omega) (.slice A2_ x_.f0.length c2_) x_.f0 (⟨a1, a2⟩ : S50) [.int .i64 a1, .int .i64 a2] (fun k_ => oki k_ ∨ True ∧ wd_.heap.size ≤ k_) (fun _ => False) rfl rfl ?aP (fun _ hk => hk.elim) ?aF ?aO ?aB ?aS ?aL ?_
  (case aP => exact k50_mkM _ _ _ (⟨a1, a2⟩ : S50))
  (case aB => exact HB.out)
  (case aF => exact (fun k_ hk => .inr ⟨trivial, hk⟩))
  (case aO => exact Kd.R_mono UU.out (fun _ hk => .inl hk))
  (case aS => exact HB.out.size)
  (case aL => have := LIM.out; omega)
  intro v1_ w52 ho hb hg hat
  rw [← YE.out] at ho
  have HS2 := cell_grown hg (cell_unalloc hHeld.2 (Kd.S_lt HO.out _ rfl)) (fun e => NG.out _ e rfl)
  replace BK3 := Gv.a0 (blk_grown BK3.out hg (Kd.R_ne UU.out BK3.out (by decide)))
  replace BK4 := Gv.a0 (blk_grown BK4.out hg (Kd.R_ne UU.out BK4.out (by decide)))
  replace BK6 := Gv.a0 (blk_grown BK6.out hg (Kd.R_ne UU.out BK6.out (by decide)))
  replace BK8 := Gv.a0 (blk_grown BK8.out hg (Kd.R_ne UU.out BK8.out (by decide)))
  replace HH := Gv.a0 (Kd.H_grown (Kd.H_widen HH.out) hg (fun k_ e_ => .inl (UU.out.1 k_ e_)))
  replace HB := Gv.a0 hb
  have HO2 := Gv.a0 ho
  clear HO UU NG ho hb hg hat
  obtain ⟨A9, c9, eo⟩ := Kd.R_slice HO2.out
  subst eo
  obtain ⟨_, _, hraw, _, _, hcc, _⟩ := Kd.H_raw HH.out J0.out J1.out
  obtain ⟨_, hfr⟩ := Kd.H_at HH.out J0.out J1.out
  have hx0 := hcc 0 _ rfl
  have hf0 := hfr 0
  simp only [show (k47).sz = 1 from rfl, Nat.mul_one, Nat.add_zero] at hx0 hf0
  have HP := Kd.S_seg0 HH.out J0.out J1.out (seg := [.slice A9 y9.length c9]) (j := 0) (show 1 ≤ 1 from by decide) (x' := (⟨y9⟩ : S47)) (k47_mkM _ _ _ (⟨y9⟩ : S47) HO2.out) (fun _ hk => hk)
  have N3 : gb3 ≠ go := by have h_ := Kd.R_ne hraw BK3.out (by decide); intro e_; exact h_ (by rw [e_]; rfl)
  have N4 : gb4 ≠ go := by have h_ := Kd.R_ne hraw BK4.out (by decide); intro e_; exact h_ (by rw [e_]; rfl)
  have N6 : gb6 ≠ go := by have h_ := Kd.R_ne hraw BK6.out (by decide); intro e_; exact h_ (by rw [e_]; rfl)
  have N8 : gb8 ≠ go := by have h_ := Kd.R_ne hraw BK8.out (by decide); intro e_; exact h_ (by rw [e_]; rfl)
  have HQ := Gv.a0 HP.1
  clear HP hraw hcc hfr
  refine hK.out _ _ ⟨(blk_cell BK4.out 0).trans rfl, HS2⟩ (fun hHeld => ?_)
  clear hK K
  refine norm_ (a' := ?_) ?_ ?_
  rotate_left
  ·show Act.put _ (some 55) _ = _
   simp only [Act.put, List.setIfInBounds_toArray, List.set_cons_zero, List.set_cons_succ, i64_w, i32_w]
   rfl
  refine pure_ (i := 10) (N := some 56) (v := ?_) (a' := ?_) #[true, true, true, true, true, true, true, true, true, true, true, false, false] rfl rfl (by kernel_rfl) (fun _ _ _ h => h) (Or.inl ⟨by rfl, ?_⟩) ?_ ?_
  rotate_left
  ·intro w'
   go_simp
   with_reducible rfl
  rotate_left
  ·simp only [Act.put, List.setIfInBounds_toArray, List.set_cons_zero, List.set_cons_succ, i64_w, i32_w]
   rfl
  refine pure_ (i := 11) (N := some 57) (v := ?_) (a' := ?_) #[true, true, true, true, true, true, true, true, true, true, true, true, false] rfl rfl (by kernel_rfl) (fun _ _ _ h => h) (Or.inl ⟨by rfl, ?_⟩) ?_ ?_
  rotate_left
  ·intro w'
   go_simp
   with_reducible rfl
  rotate_left
  ·simp only [Act.put, List.setIfInBounds_toArray, List.set_cons_zero, List.set_cons_succ, i64_w, i32_w]
   rfl
  refine last_ (i := 12) (N := none) #[true, true, true, true, true, true, true, true, true, true, true, true, true] rfl rfl (by kernel_rfl) (by decide) (fun K hK => ?_)
  refine skip_ (w1 := ?_) (by rfl) rfl ?_ ?_
  rotate_left
  ·go_simp
   rfl
  refine hK.out _ _ ?_
  clear hK K
  refine done_ (by kernel_rfl) ?_
  have HQ2 := Gv.a0 (show Kd.S k47 47 (w52.setCell ⟨go, j.toNat, none⟩ (.slice A9 y9.length c9)) w.heap.size (fun _ => True) (.slice (some ⟨go, 0, none⟩) c2.length cap) (c2.set j.toNat ⟨y9⟩) from by have h_ := HQ.out; simp only [show (k47).sz = 1 from rfl, Nat.mul_one, Nat.add_zero] at h_; exact h_)
  have BK6' := Gv.a0 (blk_far BK6.out N6 (p := ⟨go, j.toNat, none⟩) (.slice A9 y9.length c9))
  have BK8' := Gv.a0 (blk_far BK8.out N8 (p := ⟨go, j.toNat, none⟩) (.slice A9 y9.length c9))
  have HB' := Gv.a0 (HB.out.setCell (p := ⟨go, j.toNat, none⟩) GO.out (.slice A9 y9.length c9))
  clear HQ BK3 BK4 BK6 BK8 HB HH HO2 hx0 hf0 N3 N4 N6 N8 HS2 hHeld
  have BK6 := BK6'
  have BK8 := BK8'
  have HB := HB'
  clear BK6' BK8' HB'
  generalize World.setCell _ _ _ = w54 at HQ2 BK6 BK8 HB ⊢
  go_wp2_with (first
   | ((with_reducible refine Gv.gate_load (t := 24) rfl ?_); (try (refine gate_guard (by rfl) ?_; dsimp only)); refine wpList_load_row rfl 24 _ rfl gb8 rfl 24 _ _ _ BK8.out Try.underlying24 rfl (by kernel_rfl) ?_)
   | ((with_reducible refine gate_store (t := 24) (p := 6) rfl ?_); refine Gv.store_event (g := gb6) (cells := #[.int .i64 c1, .slice (some ⟨go, 0, none⟩) c2.length cap]) rfl rfl rfl rfl rfl BK6.out (by kernel_rfl) rfl (by simp; and_intros <;> rfl) ?_; intro wn_ hbox hoth hbel; have HQ3 := Gv.a0 (Kd.S_move (Kd.S_types HQ2.out BK6.out (by decide)) (fun k hk => hoth k hk.2)); replace BK6 := Gv.a0 hbox; replace HB := Gv.a0 (hbel w HB.out GE6.out); clear hbox hoth hbel))
  refine bodyPost_ret (results_ct rfl _ _ gb6 24 #[.int .i64 c1, .slice (some ⟨go, 0, none⟩) c2.length cap] (0, 0) _ rfl BK6.out Try.underlying24 rfl (by kernel_rfl)) rfl ?_
  exact ⟨_, rfl, Kd.S_mono HQ3.out (fun _ _ => trivial), HB.out⟩

/-! ### laws_FnExactWheelSet: function 7 -/
/-- Every cell of every spoke's row takes a number of its own. -/
def Mk.markP : List S47 → Int → List S47 × Int
 | [], a => ([], a)
 | s :: l, a => (⟨Gv.mkL (fun a : Int => (⟨(Gv.stepN Gv.nx 0 a), (Gv.stepN Gv.nx 1 a)⟩ : S50)) (Gv.stepN Gv.nx 2) s.f0.length a⟩ :: (Mk.markP l (Gv.stepN (Gv.stepN Gv.nx 2) s.f0.length a)).1, (Mk.markP l (Gv.stepN (Gv.stepN Gv.nx 2) s.f0.length a)).2)
theorem Mk.markP_len : ∀ (l : List S47) (a : Int), (Mk.markP l a).1.length = l.length
 | [], a => rfl
 | s :: l, a => by simp [Mk.markP, Mk.markP_len l]
theorem Mk.markP_snoc : ∀ (l : List S47) (s : S47) (a : Int), Mk.markP (l ++ [s]) a = ((Mk.markP l a).1 ++ [⟨Gv.mkL (fun a : Int => (⟨(Gv.stepN Gv.nx 0 a), (Gv.stepN Gv.nx 1 a)⟩ : S50)) (Gv.stepN Gv.nx 2) s.f0.length (Mk.markP l a).2⟩], Gv.stepN (Gv.stepN Gv.nx 2) s.f0.length (Mk.markP l a).2)
 | [], s, a => rfl
 | x :: l, s, a => by simp [Mk.markP, Mk.markP_snoc l]
/-- A row of rows that lies in the span of blocks from lo on, below hi. -/
def Mk.Row (b lo hi : Nat) (W : World) (v : Value) (l : List S47) : Prop := b ≤ lo ∧ hi ≤ W.heap.size ∧ Kd.S k47 47 W b (fun k => lo ≤ k ∧ k < hi) v l
def Mk.foot (lo hi : Nat) (W : World) (k : Nat) : Prop := (lo ≤ k ∧ k < hi) ∧ ∃ q, q ∈ 47 :: k47.E ∧ ∃ cells, W.heap[k]? = some (.cells cells q (0, 0))
section
variable {b lo hi lo2 hi2 g t : Nat} {V W W' : World} {v u : Value} {l m : List S47} {cs : Array Value}
theorem Mk.Row.new (hb : b ≤ V.heap.size) (h : Kd.S k47 47 W V.heap.size (fun _ => True) v l) : Mk.Row b V.heap.size W.heap.size W v l :=
 ⟨hb, Nat.le_refl _, Kd.S_lower (Kd.S_mono (Kd.S_bound h) (fun k hk => ⟨hk.2.1, hk.2.2.1⟩)) hb⟩
theorem Mk.Row.below (h : Mk.Row b lo hi W v l) (hb : Below W.heap.size W W') : Mk.Row b lo hi W' v l := ⟨h.1, Nat.le_trans h.2.1 hb.size, Kd.S_below h.2.2 hb⟩
theorem Mk.Row.drew (h : Mk.Row b lo hi W v l) : Mk.Row b lo hi W.drew v l := ⟨h.1, h.2.1, Kd.S_drew h.2.2⟩
theorem Mk.Row.reads {A : Option Addr} {n c : Nat} (h : Mk.Row b lo hi W (.slice A n c) l) : n = l.length ∧ n ≤ c ∧ k47.C W A l.length l := Kd.S_reads' h.2.2
theorem Mk.Row.kept (h : Mk.Row b lo hi W v l) (p : Mk.Row b lo2 hi2 W u m) (hk : Kept W W' (Mk.foot lo2 hi2 W)) (hd : hi ≤ lo2 ∨ hi2 ≤ lo) : Mk.Row b lo hi W' v l :=
 ⟨h.1, Nat.le_trans h.2.1 hk.1, Kd.S_kept h.2.2 hk (fun k hk hf => by have := hf.1; omega)⟩
theorem Mk.Row.box (hg : W.heap[g]? = some (.cells cs t (0, 0))) (hk : Kept W W' (Mk.foot lo hi W)) (ht : ∀ q, q ∈ 47 :: k47.E → q ≠ t) : W'.heap[g]? = some (.cells cs t (0, 0)) :=
 (hk.2 g (blk_lt hg) (fun hf => by
  obtain ⟨_, q, hq, cells, hc⟩ := hf
  rw [hg] at hc
  injection hc with hc
  injection hc with _ hc
  exact ht q hq hc.symm)).trans hg
theorem Mk.kept_before (hb : Below W.heap.size W V) (hk : Kept V W' (Mk.foot lo hi V)) (hh : hi ≤ W.heap.size) : Kept W W' (Mk.foot lo hi W) :=
 ⟨Nat.le_trans hb.size hk.1, fun i hi' hn => (hk.2 i (Nat.lt_of_lt_of_le hi' hb.size) (fun hf => hn ⟨hf.1, by
  obtain ⟨q, hq, cells, hc⟩ := hf.2
  exact ⟨q, hq, cells, (hb.block i hi').symm.trans hc⟩⟩)).trans (hb.block i hi')⟩
end
set_option maxHeartbeats 8000000 in
set_option maxRecDepth 100000 in
theorem laws_markSpokeS.own (lo hi : Nat) (A : Option Addr) (c : Nat) (l0 : List S47) (a1 : Int) (w0 w : World) (hB : Below w0.heap.size w0 w) (hR : Mk.Row w0.heap.size lo hi w (.slice A l0.length c) l0) :
  Calls Try.prog 25 #[.slice A l0.length c, .int .i64 a1] w fun e w' => e = .returned (.int .i64 (Mk.markP l0 a1).2) ∧ Mk.Row w0.heap.size lo hi w' (.slice A l0.length c) (Mk.markP l0 a1).1 ∧ Below w0.heap.size w0 w' ∧ Kept w w' (Mk.foot lo hi w) := by
 have hu47 := Try.underlying47
 have HS0 := Gv.a0 (Kd.S_mono (Kd.S_bound hR.2.2) (fun k hk => (⟨hk.1, hk.2.2.2⟩ : Mk.foot lo hi w k)))
 have hlm := (Mk.Row.reads hR).2.2.2.1
 have HR := Gv.a0 hR
 have HB := Gv.a0 hB
 clear hR hB
 by_cases hl : l0.length = 0
 ·have e : l0 = [] := List.length_eq_zero_iff.1 hl
  subst e
  clear hl
  go_enter Try.func25, Try.ntmps25
  go_wp2
  go_loopg [1, 5] 0 (fun gg s1 s5 wr => s1 = .int .i64 a1 ∧ s5 = .int .i64 0 ∧ wr = w)
  case atStart => exact ⟨rfl, rfl, rfl⟩
  case round =>
   obtain ⟨rfl, rfl, rfl⟩ := hrel
   go_wp2_with fail
   go_ret
   exact ⟨rfl, HR.out, HB.out, Kept.refl _ _⟩
 ·obtain ⟨g, cap, e0, hbase, hlt, _⟩ := Kd.S_form HR.out.2.2 (by omega)
  injection e0 with e1 _ e2
  subst e1
  subst e2
  clear hl
  go_enter Try.func25, Try.ntmps25
  go_wp2
  go_loopg [1, 5] l0.length (fun gg s1 s5 wr => ∃ kk : Nat, kk ≤ l0.length ∧ l0.length - kk ≤ gg ∧ s1 = .int .i64 (Mk.markP (l0.take kk) a1).2 ∧ s5 = .int .i64 (kk : Int) ∧ Aside0 (Kd.S k47 47 wr w0.heap.size (Mk.foot lo hi w) (.slice (some ⟨g, 0, none⟩) l0.length c) ((Mk.markP (l0.take kk) a1).1 ++ l0.drop kk)) ∧ Aside0 (Below w0.heap.size w0 wr) ∧ Aside0 (Kept w wr (Mk.foot lo hi w)))
  case atStart => exact ⟨0, Nat.zero_le _, by omega, rfl, rfl, Gv.a0 (by rw [List.take_zero, List.drop_zero]; exact HS0.out), HB, Gv.a0 (Kept.refl _ _)⟩
  case round =>
   obtain ⟨kk, hkk, hgg, rfl, rfl, HS, HBr, HK⟩ := hrel
   obtain ⟨x_, hx_⟩ : ∃ x_, x_ = (Mk.markP (l0.take kk) a1).2 := ⟨_, rfl⟩
   rw [← hx_]
   have HX := Gv.a0 hx_
   clear hx_
   by_cases hlt : kk < l0.length
   ·have hltz : (kk : Int) < (l0.length : Int) := by omega
    have hk0 : 0 ≤ (kk : Int) := by omega
    obtain ⟨oki, c_, hcl, hM, hcc, hoki, hH⟩ := Kd.S_lend HS.out z47 (kk : Int) hk0 hltz
    have hget : ((Mk.markP (l0.take kk) a1).1 ++ l0.drop kk).getD (kk : Int).toNat z47 = l0[kk] := by
     rw [Int.toNat_natCast, List.getD_eq_getElem?_getD, List.getElem?_append_right (by rw [Mk.markP_len, List.length_take]; omega), Mk.markP_len, List.length_take, List.getElem?_drop]
     rw [show kk + (kk - min kk l0.length) = kk by omega, List.getElem?_eq_getElem hlt]
     rfl
    rw [hget] at hM
    obtain ⟨s_, hs_⟩ : ∃ s_, s_ = l0[kk] := ⟨_, rfl⟩
    rw [← hs_] at hM
    obtain ⟨v0, rfl, hR0⟩ := k47_openM hM
    obtain ⟨A1, c1, rfl⟩ := Kd.R_slice hR0
    have hx := hcc 0 _ rfl
    simp only [show (k47).sz = 1 from rfl, Nat.mul_one, Nat.add_zero, Int.toNat_natCast] at hx
    have HSL := Gv.a0 (show l0[kk]? = some s_ by rw [List.getElem?_eq_getElem hlt, hs_])
    have HR0 := Gv.a0 hR0
    have HH := Gv.a0 hH
    have HO := Gv.a0 hoki
    have HLT := Gv.a0 hlt
    have HGG := Gv.a0 hgg
    have HKK := Gv.a0 hkk
    clear hget hs_ hM hR0 hcc hcl hoki hH hlt hgg hkk
    go_wp2_with (go_at_call 40; refine (laws_markTimerS.calls oki (.slice A1 s_.f0.length c1) s_.f0 x_ _ _ w0 wr HBr.out HR0.out rfl).mono ?_; rintro e w1 ⟨rfl, ho, hb, hk⟩; have HR1 := Gv.a0 (Kd.R_reok rfl ho (fun k e => HR0.out.1 k e)); have HB1 := Gv.a0 hb; have HK1 := Gv.a0 hk; clear ho hb hk)
    go_roundg (l0.length - (kk + 1))
    case measure => have := HLT.out; have := HGG.out; omega
    case rel =>
     have h1 := HLT.out
     have h2 := HGG.out
     have hS := Kd.H_back (i := (kk : Int)) ⟨HH.out.1, HH.out.2.imp (fun f h => Kd.R_kept h HK1.out (fun k hk => hk.2))⟩ (k47_mkM w1 w0.heap.size oki (⟨Gv.mkL (fun a : Int => (⟨(Gv.stepN Gv.nx 0 a), (Gv.stepN Gv.nx 1 a)⟩ : S50)) (Gv.stepN Gv.nx 2) s_.f0.length x_⟩ : S47) HR1.out) (fun k hk => hk)
     have e1 : l0.take (kk + 1) = l0.take kk ++ [s_] := by rw [List.take_add_one, HSL.out]; rfl
     have e2 : l0.drop kk = s_ :: l0.drop (kk + 1) := by rw [List.drop_eq_getElem_cons h1]; congr 1; have := HSL.out; rw [List.getElem?_eq_getElem h1] at this; injection this
     refine ⟨kk + 1, by omega, by omega, by rw [e1, Mk.markP_snoc, ← HX.out], by go_num, Gv.a0 ?_, HB1, Gv.a0 (HK.out.then_ HK1.out (fun k hk => .inl (HO.out k hk).1))⟩
     rw [e1, Mk.markP_snoc, ← HX.out, List.append_assoc, List.singleton_append]
     rw [e2, Int.toNat_natCast, List.set_append_right _ _ (by rw [Mk.markP_len, List.length_take]; omega), Mk.markP_len, List.length_take, show kk - min kk l0.length = 0 by omega, List.set_cons_zero] at hS
     exact hS
   ·have hltz : ¬ (kk : Int) < (l0.length : Int) := by omega
    have hk : kk = l0.length := by omega
    have HKE := Gv.a0 hk
    clear hk
    go_wp2_with fail
    go_ret
    have hk := HKE.out
    have h1 := HS.out
    have h2 := HX.out
    rw [hk, List.take_length] at h2
    rw [hk, List.take_length, List.drop_length, List.append_nil] at h1
    exact ⟨by rw [h2]; rfl, ⟨HR.out.1, Nat.le_trans HR.out.2.1 HK.out.1, Kd.S_mono h1 (fun k hk => hk.1)⟩, HBr.out, HK.out⟩
set_option maxHeartbeats 8000000 in
set_option maxRecDepth 100000 in
theorem laws_markWheel.own (a0 : Int) (lo hi : Nat) (A : Option Addr) (c : Nat) (l0 : List S47) (a1 : Int) (w0 w : World) (hB : Below w0.heap.size w0 w) (hR : Mk.Row w0.heap.size lo hi w (.slice A l0.length c) l0) :
  Calls Try.prog 11 #[.agg #[.int .i64 a0, .slice A l0.length c], .int .i64 a1] w fun e w' => e = .returned (.int .i64 (Mk.markP l0 a1).2) ∧ Mk.Row w0.heap.size lo hi w' (.slice A l0.length c) (Mk.markP l0 a1).1 ∧ Below w0.heap.size w0 w' ∧ Kept w w' (Mk.foot lo hi w) := by
 have hu24 := Try.underlying24
 have HR := Gv.a0 hR
 have HB := Gv.a0 hB
 clear hR hB
 go_enter Try.func11, Try.ntmps11
 go_wp2_with (first
  | ((with_reducible refine gate_dst (N := 2) rfl ?_); refine box_event ?hg (N := 2) ?hd (cs := #[.int .i64 a0, .slice A l0.length c]) (t := 24) ?hr ?_; (case hd => rfl); (case hg => rfl); (case hr => first | (go_simp; done) | (go_simp; rfl)); intro gb2 hg w2 hbox hb; have HB2 := Gv.a0 hb; have hz0 := (blk_cell hbox 1).trans (rfl : _ = (some (.slice A l0.length c) : Option Value)); clear hbox hb hg)
  | (go_at_call 25; refine (laws_markSpokeS.own lo hi A c l0 a1 w0 _ (below_step HB.out HB2.out) (Mk.Row.below HR.out HB2.out)).mono ?_; rintro e w3 ⟨rfl, hR, hb, hk⟩; have HR3 := Gv.a0 hR; have HB3 := Gv.a0 hb; have HK3 := Gv.a0 (Mk.kept_before HB2.out hk HR.out.2.1); clear hR hb hk))
 go_ret
 exact ⟨rfl, HR3.out, HB3.out, HK3.out⟩
theorem laws_heldWheel.own (k : Nat) (g1 : Int) (b lo hi : Nat) (A : Option Addr) (c : Nat) (l m : List S47) (a r : Int) (W : World) (hlen : m.length = l.length) (hR : Mk.Row b lo hi W (.slice A l.length c) m) (h : laws_heldWheel.f k g1 m a = some r) :
  Calls Try.prog 12 #[.agg #[.int .i64 g1, .slice A l.length c], .int .i64 a] W fun e w' => e = .returned (.int .i64 r) ∧ Below W.heap.size W w' := by
 have hh := Mk.Row.reads hR
 rw [← hlen]
 exact laws_heldWheel.calls k g1 A c m a r W hh.2.2 (by have := hh.2.1; omega) h
def laws_FnExactWheelSet.f (k : Nat) (a0_0 : Int) (l0_1 : List (S65)) (a1 : Int) (a2 : Int) : Option (Bool) := (laws_szWheel.f k a0_0 l0_1 1048576).bind fun t1 => if t1 < 0 then some true else (laws_toWheel.f k a0_0 l0_1).bind fun x => (spec_WheelSet.f k x.1 x.2 a1 a2).bind fun wv => (impl_WheelSet.f k x.1 x.2 a1 a2).bind fun g => (laws_eqWheel.f k g.1 g.2.1 wv.1 wv.2.1).bind fun e1 => (laws_eqWheel.f k x.1 x.2 x.1 x.2).bind fun e2 => (laws_heldWheel.f k g.1 (Mk.markP g.2.1 1).1 1).bind fun q => if e1 = true ∧ e2 = true ∧ g.2.2 = wv.2.2 ∧ 0 ≤ (Mk.markP x.2 1).2 ∧ 0 ≤ q ∧ q = (Mk.markP g.2.1 1).2 then some true else none
theorem laws_FnExactWheelSet.mono : ∀ a0 a1 a2 a3 k, LeO (laws_FnExactWheelSet.f k a0 a1 a2 a3) (laws_FnExactWheelSet.f (k + 1) a0 a1 a2 a3) := by
 intro a0 a1 a2 a3 k
 unfold laws_FnExactWheelSet.f
 repeat' first
   | (with_reducible exact impl_WheelSet.mono _ _ _ _ _)
   | (with_reducible exact laws_eqWheel.mono _ _ _ _ _)
   | (with_reducible exact laws_heldWheel.mono _ _ _ _)
   | (with_reducible exact laws_szWheel.mono _ _ _ _)
   | (with_reducible exact laws_toWheel.mono _ _ _)
   | (with_reducible exact spec_WheelSet.mono _ _ _ _ _)
   | (with_reducible exact LeO.refl _)
   | (with_reducible exact LeO.none _)
   | (with_reducible refine LeO.ite ?_ ?_)
   | (with_reducible refine LeO.bind ?_ (fun _ => ?_))
   | exact impl_WheelSet.mono _ _ _ _ _
   | exact laws_eqWheel.mono _ _ _ _ _
   | exact laws_heldWheel.mono _ _ _ _
   | exact laws_szWheel.mono _ _ _ _
   | exact laws_toWheel.mono _ _ _
   | exact spec_WheelSet.mono _ _ _ _ _
   | exact LeO.none _
   | refine LeO.ite ?_ ?_
   | refine LeO.bind ?_ (fun _ => ?_)
set_option maxHeartbeats 8000000 in
set_option maxRecDepth 100000 in
theorem laws_FnExactWheelSet.calls (k : Nat) (a0_0 : Int) (A0_1 : Option Addr) (c0_1 : Nat) (l0_1 : List (S65)) (a1 : Int) (a2 : Int) (r : Bool) (w : World) (hr0_1 : Kd.C k65 w A0_1 l0_1.length l0_1) (hc0_1 : l0_1.length ≤ c0_1) (h : laws_FnExactWheelSet.f k a0_0 l0_1 a1 a2 = some r) :
  Calls Try.prog 7 #[.agg #[.int .i64 a0_0, .slice A0_1 l0_1.length c0_1], .int .i64 a1, .int .i64 a2] w fun e w' => e = .returned (.bool r) ∧ Below w.heap.size w w' := by
 have hu31 := Try.underlying31
 have hu24 := Try.underlying24
 have HR := Gv.a0 hr0_1
 have HC := Gv.a0 hc0_1
 unfold laws_FnExactWheelSet.f at h
 replace h := Option.bind_eq_some_iff.mp h
 obtain ⟨t1, h1, h⟩ := h
 have A1 := Gv.a0 h1
 by_cases c : t1 < 0
 ·rw [if_pos c] at h
  obtain rfl := Option.some.inj h
  have c0 : decide (t1 < 0) = true := decide_eq_true c
  clear c h h1 hr0_1 hc0_1
  go_enter Try.func7, Try.ntmps7
  go_wp2_with (first
    | ((with_reducible refine gate_dst (N := 3) rfl ?_); refine box_event ?hg (N := 3) ?hd (cs := #[.int .i64 a0_0, .slice A0_1 l0_1.length c0_1]) (t := 31) ?hr ?_; (case hd => rfl); (case hg => rfl); (case hr => first | (go_simp; done) | (go_simp; rfl)); intro gbA hg wn_ hbox hb; have HB := Gv.a0 hb; have BKA := Gv.a0 hbox; clear hg hbox hb)
    | ((with_reducible refine Gv.gate_load (t := 31) rfl ?_); (try (refine gate_guard (by rfl) ?_; dsimp only)); refine wpList_load_row rfl 31 _ rfl gbA rfl 31 _ _ _ BKA.out Try.underlying31 rfl (by kernel_rfl) ?_)
    | ((with_reducible refine gate_callee (f := 13) rfl ?_); refine goesL_ (some 20) rfl rfl Try.func13 (by kernel_rfl) rfl #[.agg #[.int .i64 a0_0, .slice A0_1 l0_1.length c0_1], .int .i64 1048576] rfl Gv.lm ?_; (with_reducible refine (laws_szWheel.calls k a0_0 _ _ l0_1 1048576 t1 _ (Kd.C_below HR.out HB.out) HC.out A1.out).mono ?_); rintro e wn_ ⟨rfl, hb⟩; refine ⟨_, rfl, ?_⟩; replace HB := Gv.a0 (below_step HB.out hb); replace BKA := Gv.a0 (blk_below BKA.out hb); clear hb))
  go_ret
  exact ⟨rfl, HB.out⟩
 rw [if_neg c] at h
 have c0 : decide (t1 < 0) = false := decide_eq_false c
 replace h := Option.bind_eq_some_iff.mp h
 obtain ⟨⟨x1, x2⟩, h2, h⟩ := h
 replace h := Option.bind_eq_some_iff.mp h
 obtain ⟨⟨w1, w2, w3⟩, h3, h⟩ := h
 replace h := Option.bind_eq_some_iff.mp h
 obtain ⟨⟨g1, g2, g3⟩, h4, h⟩ := h
 replace h := Option.bind_eq_some_iff.mp h
 obtain ⟨e1, h5, h⟩ := h
 replace h := Option.bind_eq_some_iff.mp h
 obtain ⟨e2, h6, h⟩ := h
 replace h := Option.bind_eq_some_iff.mp h
 obtain ⟨q, h7, h⟩ := h
 dsimp only at h2 h3 h4 h5 h6 h7 h
 by_cases hc : e1 = true ∧ e2 = true ∧ g3 = w3 ∧ 0 ≤ (Mk.markP x2 1).2 ∧ 0 ≤ q ∧ q = (Mk.markP g2 1).2
 rotate_left
 ·rw [if_neg hc] at h
  cases h
 rw [if_pos hc] at h
 obtain rfl := Option.some.inj h
 obtain ⟨rfl, rfl, e3, m0, q0, rfl⟩ := hc
 have e3' : w3 = g3 := e3.symm
 subst e3'
 have m1 : decide ((Mk.markP x2 1).2 < 0) = false := decide_eq_false (by omega)
 have q1 : decide ((Mk.markP g2 1).2 < 0) = false := decide_eq_false (by omega)
 have A2 := Gv.a0 h2
 have A3 := Gv.a0 h3
 have A4 := Gv.a0 h4
 have A5 := Gv.a0 h5
 have A6 := Gv.a0 h6
 have A7 := Gv.a0 h7
 clear h1 h2 h3 h4 h5 h6 h7 h c e3 m0 q0 hr0_1 hc0_1
 go_enter Try.func7, Try.ntmps7
 go_wp2_with (first
   | ((with_reducible refine gate_dst (N := 3) rfl ?_); refine box_event ?hg (N := 3) ?hd (cs := #[.int .i64 a0_0, .slice A0_1 l0_1.length c0_1]) (t := 31) ?hr ?_; (case hd => rfl); (case hg => rfl); (case hr => first | (go_simp; done) | (go_simp; rfl)); intro gbA hg wn_ hbox hb; have HB := Gv.a0 hb; have BKA := Gv.a0 hbox; clear hg hbox hb)
   | ((with_reducible refine Gv.gate_load (t := 31) rfl ?_); (try (refine gate_guard (by rfl) ?_; dsimp only)); refine wpList_load_row rfl 31 _ rfl gbA rfl 31 _ _ _ BKA.out Try.underlying31 rfl (by kernel_rfl) ?_)
   | ((with_reducible refine gate_callee (f := 13) rfl ?_); refine goesL_ (some 20) rfl rfl Try.func13 (by kernel_rfl) rfl #[.agg #[.int .i64 a0_0, .slice A0_1 l0_1.length c0_1], .int .i64 1048576] rfl Gv.lm ?_; (with_reducible refine (laws_szWheel.calls k a0_0 _ _ l0_1 1048576 t1 _ (Kd.C_below HR.out HB.out) HC.out A1.out).mono ?_); rintro e wn_ ⟨rfl, hb⟩; refine ⟨_, rfl, ?_⟩; replace HB := Gv.a0 (below_step HB.out hb); replace BKA := Gv.a0 (blk_below BKA.out hb); clear hb)
   | ((with_reducible refine gate_callee (f := 15) rfl ?_); refine goesL_ (some 25) rfl rfl Try.func15 (by kernel_rfl) rfl #[.agg #[.int .i64 a0_0, .slice A0_1 l0_1.length c0_1]] rfl Gv.lm ?_; (with_reducible refine (laws_toWheel.calls k a0_0 _ _ l0_1 x1 x2 _ (Kd.C_below HR.out HB.out) HC.out A2.out).mono ?_); rintro e wn_ ⟨v_, rfl, ho, hb⟩; refine ⟨_, rfl, ?_⟩; obtain ⟨AS, cS, rfl⟩ := Kd.S_slice ho; have rn_ := Gv.a0 (Mk.Row.new HB.out.size ho); replace HB := Gv.a0 (below_step HB.out hb); replace BKA := Gv.a0 (blk_below BKA.out hb); have RS := rn_; clear ho hb rn_)
   | ((with_reducible refine gate_callee (f := 21) rfl ?_); refine goesL_ (some 28) rfl rfl Try.func21 (by kernel_rfl) rfl #[.agg #[.int .i64 x1, .slice AS x2.length cS], .int .i64 a1, .int .i64 a2] rfl Gv.lm ?_; (with_reducible refine (spec_WheelSet.calls k x1 _ _ x2 a1 a2 w1 w2 w3 _ (Mk.Row.reads RS.out).2.2 (Mk.Row.reads RS.out).2.1 A3.out).mono ?_); rintro e wn_ ⟨v_, rfl, ho, hb⟩; refine ⟨_, rfl, ?_⟩; obtain ⟨AW, cW, rfl⟩ := Kd.S_slice ho; have rn_ := Gv.a0 (Mk.Row.new HB.out.size ho); clear RS; replace HB := Gv.a0 (below_step HB.out hb); replace BKA := Gv.a0 (blk_below BKA.out hb); have RW := rn_; clear ho hb rn_)
   | ((with_reducible refine gate_dst (N := 8) rfl ?_); refine box_event ?hg (N := 8) ?hd (cs := #[.int .i64 0, .slice none 0 0]) (t := 24) ?hr ?_; (case hd => rfl); (case hg => rfl); (case hr => first | (go_simp; done) | (go_simp; rfl)); intro gbW hg wa_ hbox hb; have BKW := Gv.a0 hbox; have HA_ := Gv.a0 hb; have HG_ := Gv.a0 (Nat.le_of_eq hg.symm); clear hg hbox hb)
   | ((with_reducible refine gate_store (t := 24) (p := 8) rfl ?_); refine Gv.store_event (g := gbW) (cells := #[.int .i64 w1, .slice AW w2.length cW]) rfl rfl rfl rfl rfl BKW.out (by kernel_rfl) rfl (by simp; and_intros <;> rfl) ?_; intro wn_ hbox hoth hbel; have hb := hbel _ HA_.out HG_.out; replace HB := Gv.a0 (below_step HB.out hb); replace BKA := Gv.a0 (blk_below BKA.out hb); replace RW := Gv.a0 (Mk.Row.below RW.out hb); replace BKW := Gv.a0 hbox; clear hb hbox hoth hbel HA_ HG_)
   | ((with_reducible refine gate_callee (f := 15) rfl ?_); refine goesL_ (some 32) rfl rfl Try.func15 (by kernel_rfl) rfl #[.agg #[.int .i64 a0_0, .slice A0_1 l0_1.length c0_1]] rfl Gv.lm ?_; (with_reducible refine (laws_toWheel.calls k a0_0 _ _ l0_1 x1 x2 _ (Kd.C_below HR.out HB.out) HC.out A2.out).mono ?_); rintro e wn_ ⟨v_, rfl, ho, hb⟩; refine ⟨_, rfl, ?_⟩; obtain ⟨AX, cX, rfl⟩ := Kd.S_slice ho; have DWX := Gv.a0 RW.out.2.1; have rn_ := Gv.a0 (Mk.Row.new HB.out.size ho); replace HB := Gv.a0 (below_step HB.out hb); replace BKA := Gv.a0 (blk_below BKA.out hb); replace BKW := Gv.a0 (blk_below BKW.out hb); replace RW := Gv.a0 (Mk.Row.below RW.out hb); have RX := rn_; clear ho hb rn_)
   | ((with_reducible refine gate_dst (N := 10) rfl ?_); refine box_event ?hg (N := 10) ?hd (cs := #[.int .i64 0, .slice none 0 0]) (t := 24) ?hr ?_; (case hd => rfl); (case hg => rfl); (case hr => first | (go_simp; done) | (go_simp; rfl)); intro gbX hg wa_ hbox hb; have BKX := Gv.a0 hbox; have HA_ := Gv.a0 hb; have HG_ := Gv.a0 (Nat.le_of_eq hg.symm); clear hg hbox hb)
   | ((with_reducible refine gate_store (t := 24) (p := 10) rfl ?_); refine Gv.store_event (g := gbX) (cells := #[.int .i64 x1, .slice AX x2.length cX]) rfl rfl rfl rfl rfl BKX.out (by kernel_rfl) rfl (by simp; and_intros <;> rfl) ?_; intro wn_ hbox hoth hbel; have hb := hbel _ HA_.out HG_.out; replace HB := Gv.a0 (below_step HB.out hb); replace BKA := Gv.a0 (blk_below BKA.out hb); replace BKW := Gv.a0 (blk_below BKW.out hb); replace RW := Gv.a0 (Mk.Row.below RW.out hb); replace RX := Gv.a0 (Mk.Row.below RX.out hb); replace BKX := Gv.a0 hbox; clear hb hbox hoth hbel HA_ HG_)
   | ((with_reducible refine Gv.gate_load (t := 24) rfl ?_); (try (refine gate_guard (by rfl) ?_; dsimp only)); refine wpList_load_row rfl 24 _ rfl gbX rfl 24 _ _ _ BKX.out Try.underlying24 rfl (by kernel_rfl) ?_)
   | ((with_reducible refine gate_callee (f := 22) rfl ?_); refine goesL_ (some 37) rfl rfl Try.func22 (by kernel_rfl) rfl #[.agg #[.int .i64 x1, .slice AX x2.length cX], .int .i64 a1, .int .i64 a2] rfl Gv.lm ?_; (with_reducible refine (impl_WheelSet.calls k x1 _ _ x2 a1 a2 g1 g2 w3 _ (Mk.Row.reads RX.out).2.2 (Mk.Row.reads RX.out).2.1 A4.out).mono ?_); rintro e wn_ ⟨v_, rfl, ho, hb⟩; refine ⟨_, rfl, ?_⟩; obtain ⟨AG, cG, rfl⟩ := Kd.S_slice ho; have DWG := Gv.a0 RW.out.2.1; have DXG := Gv.a0 RX.out.2.1; have rn_ := Gv.a0 (Mk.Row.new HB.out.size ho); replace HB := Gv.a0 (below_step HB.out hb); replace BKA := Gv.a0 (blk_below BKA.out hb); replace BKW := Gv.a0 (blk_below BKW.out hb); replace BKX := Gv.a0 (blk_below BKX.out hb); replace RW := Gv.a0 (Mk.Row.below RW.out hb); replace RX := Gv.a0 (Mk.Row.below RX.out hb); have RG := rn_; clear ho hb rn_)
   | ((with_reducible refine gate_dst (N := 11) rfl ?_); refine box_event ?hg (N := 11) ?hd (cs := #[.int .i64 0, .slice none 0 0]) (t := 24) ?hr ?_; (case hd => rfl); (case hg => rfl); (case hr => first | (go_simp; done) | (go_simp; rfl)); intro gbG hg wa_ hbox hb; have BKG := Gv.a0 hbox; have HA_ := Gv.a0 hb; have HG_ := Gv.a0 (Nat.le_of_eq hg.symm); clear hg hbox hb)
   | ((with_reducible refine gate_store (t := 24) (p := 11) rfl ?_); refine Gv.store_event (g := gbG) (cells := #[.int .i64 g1, .slice AG g2.length cG]) rfl rfl rfl rfl rfl BKG.out (by kernel_rfl) rfl (by simp; and_intros <;> rfl) ?_; intro wn_ hbox hoth hbel; have hb := hbel _ HA_.out HG_.out; replace HB := Gv.a0 (below_step HB.out hb); replace BKA := Gv.a0 (blk_below BKA.out hb); replace BKW := Gv.a0 (blk_below BKW.out hb); replace BKX := Gv.a0 (blk_below BKX.out hb); replace RW := Gv.a0 (Mk.Row.below RW.out hb); replace RX := Gv.a0 (Mk.Row.below RX.out hb); replace RG := Gv.a0 (Mk.Row.below RG.out hb); replace BKG := Gv.a0 hbox; clear hb hbox hoth hbel HA_ HG_)
   | ((with_reducible refine Gv.gate_load (t := 24) rfl ?_); (try (refine gate_guard (by rfl) ?_; dsimp only)); refine wpList_load_row rfl 24 _ rfl gbG rfl 24 _ _ _ BKG.out Try.underlying24 rfl (by kernel_rfl) ?_)
   | ((with_reducible refine Gv.gate_load (t := 24) rfl ?_); (try (refine gate_guard (by rfl) ?_; dsimp only)); refine wpList_load_row rfl 24 _ rfl gbW rfl 24 _ _ _ BKW.out Try.underlying24 rfl (by kernel_rfl) ?_)
   | ((with_reducible refine gate_callee (f := 10) rfl ?_); refine goesL_ (some 42) rfl rfl Try.func10 (by kernel_rfl) rfl #[.agg #[.int .i64 g1, .slice AG g2.length cG], .agg #[.int .i64 w1, .slice AW w2.length cW]] rfl Gv.lm ?_; (with_reducible refine (laws_eqWheel.calls k g1 _ _ g2 w1 _ _ w2 true _ (Mk.Row.reads RG.out).2.2 (Mk.Row.reads RG.out).2.1 (Mk.Row.reads RW.out).2.2 (Mk.Row.reads RW.out).2.1 A5.out).mono ?_); rintro e wn_ ⟨rfl, hb⟩; refine ⟨_, rfl, ?_⟩; replace HB := Gv.a0 (below_step HB.out hb); replace BKA := Gv.a0 (blk_below BKA.out hb); replace BKW := Gv.a0 (blk_below BKW.out hb); replace BKX := Gv.a0 (blk_below BKX.out hb); replace BKG := Gv.a0 (blk_below BKG.out hb); replace RW := Gv.a0 (Mk.Row.below RW.out hb); replace RX := Gv.a0 (Mk.Row.below RX.out hb); replace RG := Gv.a0 (Mk.Row.below RG.out hb); clear hb))
 replace HB := Gv.a0 (below_drew1 HB.out)
 replace BKA := Gv.a0 (blk_drew BKA.out)
 replace BKW := Gv.a0 (blk_drew BKW.out)
 replace BKX := Gv.a0 (blk_drew BKX.out)
 replace BKG := Gv.a0 (blk_drew BKG.out)
 replace RW := Gv.a0 (Mk.Row.drew RW.out)
 replace RX := Gv.a0 (Mk.Row.drew RX.out)
 replace RG := Gv.a0 (Mk.Row.drew RG.out)
 refine start_ (n := 5) (S := fun w' => w'.cell? ⟨gbX, 0, none⟩ = some (.int .i64 x1) ∧ w'.cell? ⟨gbX, 1, none⟩ = some (.slice AX x2.length cX) ∧ w'.cell? ⟨gbA, 0, none⟩ = some (.int .i64 a0_0) ∧ w'.cell? ⟨gbA, 1, none⟩ = some (.slice A0_1 l0_1.length c0_1)) (ds := []) #[false, false, false, false, false] (by kernel_rfl) rfl rfl ⟨(blk_cell BKX.out 0).trans rfl, (blk_cell BKX.out 1).trans rfl, (blk_cell BKA.out 0).trans rfl, (blk_cell BKA.out 1).trans rfl⟩ (fun hHeld => ?_)
 generalize World.drew _ = wd_ at BKA BKW BKX BKG RW RX RG HB hHeld ⊢
 refine take_ (i := 0) (N := some 49) (v := ?_) (a' := ?_) #[true, false, false, false, false] rfl rfl (by kernel_rfl) (fun _ _ _ h => h) (Or.inl ⟨by rfl, ?_⟩) hHeld ?_ ?_
 rotate_left
 ·rintro w' ⟨s0, s1, s2, s3⟩
  go_simp
  with_reducible rfl
 rotate_left
 ·simp only [Act.put, List.setIfInBounds_toArray, List.set_cons_zero, List.set_cons_succ, i64_w, i32_w]
  rfl
 refine take_ (i := 1) (N := some 50) (v := ?_) (a' := ?_) #[true, true, false, false, false] rfl rfl (by kernel_rfl) (fun _ _ _ h => h) (Or.inl ⟨by rfl, ?_⟩) hHeld ?_ ?_
 rotate_left
 ·rintro w' ⟨s0, s1, s2, s3⟩
  go_simp
  with_reducible rfl
 rotate_left
 ·simp only [Act.put, List.setIfInBounds_toArray, List.set_cons_zero, List.set_cons_succ, i64_w, i32_w]
  rfl
 refine one_ (i := 2) (N := some 51) #[true, true, true, false, false] rfl rfl (by kernel_rfl) (by decide) (fun K hK => ?_)
 refine goes_ Try.func15 (by kernel_rfl) rfl #[.agg #[.int .i64 a0_0, .slice A0_1 l0_1.length c0_1]] (by rfl) rfl rfl Gv.lm ?_
 with_reducible refine (laws_toWheel.calls k a0_0 _ _ l0_1 x1 x2 _ (Kd.C_below HR.out HB.out) HC.out A2.out).mono ?_
 rintro e wn_ ⟨v_, rfl, ho, hb⟩
 refine ⟨_, rfl, ?_⟩
 obtain ⟨AY, cY, rfl⟩ := Kd.S_slice ho
 have rn_ := Gv.a0 (Mk.Row.new HB.out.size ho)
 replace HB := Gv.a0 (below_step HB.out hb)
 replace BKA := Gv.a0 (blk_below BKA.out hb)
 replace BKW := Gv.a0 (blk_below BKW.out hb)
 replace BKX := Gv.a0 (blk_below BKX.out hb)
 replace BKG := Gv.a0 (blk_below BKG.out hb)
 replace RW := Gv.a0 (Mk.Row.below RW.out hb)
 replace RX := Gv.a0 (Mk.Row.below RX.out hb)
 replace RG := Gv.a0 (Mk.Row.below RG.out hb)
 have RY := rn_
 clear ho hb rn_
 refine hK.out _ _ ⟨(blk_cell BKX.out 0).trans rfl, (blk_cell BKX.out 1).trans rfl, (blk_cell BKA.out 0).trans rfl, (blk_cell BKA.out 1).trans rfl⟩ (fun hHeld => ?_)
 clear hK K
 refine norm_ (a' := ?_) ?_ ?_
 rotate_left
 ·show Act.put _ (some 51) _ = _
  simp only [Act.put, List.setIfInBounds_toArray, List.set_cons_zero, List.set_cons_succ, i64_w, i32_w]
  rfl
 refine one_ (i := 3) (N := some 52) #[true, true, true, true, false] rfl rfl (by kernel_rfl) (by decide) (fun K hK => ?_)
 refine goes_ Try.func10 (by kernel_rfl) rfl #[.agg #[.int .i64 x1, .slice AX x2.length cX], .agg #[.int .i64 x1, .slice AY x2.length cY]] (by rfl) rfl rfl Gv.lm ?_
 with_reducible refine (laws_eqWheel.calls k x1 _ _ x2 x1 _ _ x2 true _ (Mk.Row.reads RX.out).2.2 (Mk.Row.reads RX.out).2.1 (Mk.Row.reads RY.out).2.2 (Mk.Row.reads RY.out).2.1 A6.out).mono ?_
 rintro e wn_ ⟨rfl, hb⟩
 refine ⟨_, rfl, ?_⟩
 replace HB := Gv.a0 (below_step HB.out hb)
 replace BKA := Gv.a0 (blk_below BKA.out hb)
 replace BKW := Gv.a0 (blk_below BKW.out hb)
 replace BKX := Gv.a0 (blk_below BKX.out hb)
 replace BKG := Gv.a0 (blk_below BKG.out hb)
 replace RW := Gv.a0 (Mk.Row.below RW.out hb)
 replace RX := Gv.a0 (Mk.Row.below RX.out hb)
 replace RG := Gv.a0 (Mk.Row.below RG.out hb)
 clear hb RY
 refine hK.out _ _ ⟨(blk_cell BKX.out 0).trans rfl, (blk_cell BKX.out 1).trans rfl, (blk_cell BKA.out 0).trans rfl, (blk_cell BKA.out 1).trans rfl⟩ (fun hHeld => ?_)
 clear hK K
 refine norm_ (a' := ?_) ?_ ?_
 rotate_left
 ·show Act.put _ (some 52) _ = _
  simp only [Act.put, List.setIfInBounds_toArray, List.set_cons_zero, List.set_cons_succ, i64_w, i32_w]
  rfl
 refine pure_ (i := 4) (N := some 53) (v := ?_) (a' := ?_) #[true, true, true, true, true] rfl rfl (by kernel_rfl) (fun _ _ _ h => h) (Or.inl ⟨by rfl, ?_⟩) ?_ ?_
 rotate_left
 ·intro w'
  go_simp
  with_reducible rfl
 rotate_left
 ·simp only [Act.put, List.setIfInBounds_toArray, List.set_cons_zero, List.set_cons_succ, i64_w, i32_w]
  rfl
 refine done_ (by kernel_rfl) ?_
 go_wp2_with (first
   | ((with_reducible refine Gv.gate_load (t := 24) rfl ?_); (try (refine gate_guard (by rfl) ?_; dsimp only)); refine wpList_load_row rfl 24 _ rfl gbX rfl 24 _ _ _ BKX.out Try.underlying24 rfl (by kernel_rfl) ?_)
   | ((with_reducible refine Gv.gate_load (t := 24) rfl ?_); (try (refine gate_guard (by rfl) ?_; dsimp only)); refine wpList_load_row rfl 24 _ rfl gbG rfl 24 _ _ _ BKG.out Try.underlying24 rfl (by kernel_rfl) ?_)
   | ((with_reducible refine Gv.gate_load (t := 24) rfl ?_); (try (refine gate_guard (by rfl) ?_; dsimp only)); refine wpList_load_row rfl 24 _ rfl gbW rfl 24 _ _ _ BKW.out Try.underlying24 rfl (by kernel_rfl) ?_)
   | ((with_reducible refine Gv.gate_load (t := 31) rfl ?_); (try (refine gate_guard (by rfl) ?_; dsimp only)); refine wpList_load_row rfl 31 _ rfl gbA rfl 31 _ _ _ BKA.out Try.underlying31 rfl (by kernel_rfl) ?_)
   | ((with_reducible refine gate_callee (f := 11) rfl ?_); refine goesL_ (some 56) rfl rfl Try.func11 (by kernel_rfl) rfl #[.agg #[.int .i64 x1, .slice AX x2.length cX], .int .i64 1] rfl Gv.lm ?_; (with_reducible refine (laws_markWheel.own x1 _ _ _ _ x2 1 w _ HB.out RX.out).mono ?_); rintro e wn_ ⟨rfl, ho, hb, hk⟩; refine ⟨_, rfl, ?_⟩; replace HB := Gv.a0 hb; replace BKA := Gv.a0 (Mk.Row.box BKA.out hk (by decide)); replace BKW := Gv.a0 (Mk.Row.box BKW.out hk (by decide)); replace BKG := Gv.a0 (Mk.Row.box BKG.out hk (by decide)); replace RW := Gv.a0 (Mk.Row.kept RW.out RX.out hk (.inl DWX.out)); replace RG := Gv.a0 (Mk.Row.kept RG.out RX.out hk (.inr DXG.out)); clear ho hb hk RX BKX)
   | (go_at_call 10; (with_reducible refine (laws_eqWheel.calls k g1 _ _ g2 w1 _ _ w2 true _ (Mk.Row.reads RG.out).2.2 (Mk.Row.reads RG.out).2.1 (Mk.Row.reads RW.out).2.2 (Mk.Row.reads RW.out).2.1 A5.out).mono ?_); rintro e wn_ ⟨rfl, hb⟩; replace HB := Gv.a0 (below_step HB.out hb); replace BKA := Gv.a0 (blk_below BKA.out hb); replace BKW := Gv.a0 (blk_below BKW.out hb); replace BKG := Gv.a0 (blk_below BKG.out hb); replace RW := Gv.a0 (Mk.Row.below RW.out hb); replace RG := Gv.a0 (Mk.Row.below RG.out hb); clear hb; have TK_ := Gv.a0 trivial)
   | ((with_reducible refine gate_callee (f := 11) rfl ?_); refine goesL_ (some 72) rfl rfl Try.func11 (by kernel_rfl) rfl #[.agg #[.int .i64 g1, .slice AG g2.length cG], .int .i64 1] rfl Gv.lm ?_; (with_reducible refine (laws_markWheel.own g1 _ _ _ _ g2 1 w _ HB.out RG.out).mono ?_); rintro e wn_ ⟨rfl, ho, hb, hk⟩; refine ⟨_, rfl, ?_⟩; replace HB := Gv.a0 hb; replace BKA := Gv.a0 (Mk.Row.box BKA.out hk (by decide)); replace BKW := Gv.a0 (Mk.Row.box BKW.out hk (by decide)); replace BKG := Gv.a0 (Mk.Row.box BKG.out hk (by decide)); replace RW := Gv.a0 (Mk.Row.kept RW.out RG.out hk (.inl DWG.out)); replace RG := Gv.a0 ho; clear ho hb hk)
   | ((with_reducible refine gate_callee (f := 12) rfl ?_); refine goesL_ (some 75) rfl rfl Try.func12 (by kernel_rfl) rfl #[.agg #[.int .i64 g1, .slice AG g2.length cG], .int .i64 1] rfl Gv.lm ?_; (with_reducible refine (laws_heldWheel.own k g1 _ _ _ _ _ g2 (Mk.markP g2 1).1 1 (Mk.markP g2 1).2 _ (Mk.markP_len g2 1) RG.out A7.out).mono ?_); rintro e wn_ ⟨rfl, hb⟩; refine ⟨_, rfl, ?_⟩; replace HB := Gv.a0 (below_step HB.out hb); replace BKA := Gv.a0 (blk_below BKA.out hb); replace BKW := Gv.a0 (blk_below BKW.out hb); replace BKG := Gv.a0 (blk_below BKG.out hb); replace RW := Gv.a0 (Mk.Row.below RW.out hb); replace RG := Gv.a0 (Mk.Row.below RG.out hb); clear hb)
   | ((with_reducible refine gate_callee (f := 15) rfl ?_); refine goesL_ (some 83) rfl rfl Try.func15 (by kernel_rfl) rfl #[.agg #[.int .i64 a0_0, .slice A0_1 l0_1.length c0_1]] rfl Gv.lm ?_; (with_reducible refine (laws_toWheel.calls k a0_0 _ _ l0_1 x1 x2 _ (Kd.C_below HR.out HB.out) HC.out A2.out).mono ?_); rintro e wn_ ⟨v_, rfl, ho, hb⟩; refine ⟨_, rfl, ?_⟩; obtain ⟨AZ, cZ, rfl⟩ := Kd.S_slice ho; have rn_ := Gv.a0 (Mk.Row.new HB.out.size ho); replace HB := Gv.a0 (below_step HB.out hb); replace BKA := Gv.a0 (blk_below BKA.out hb); replace BKW := Gv.a0 (blk_below BKW.out hb); replace BKG := Gv.a0 (blk_below BKG.out hb); replace RW := Gv.a0 (Mk.Row.below RW.out hb); replace RG := Gv.a0 (Mk.Row.below RG.out hb); have RZ := rn_; clear ho hb rn_)
   | ((with_reducible refine gate_callee (f := 22) rfl ?_); refine goesL_ (some 86) rfl rfl Try.func22 (by kernel_rfl) rfl #[.agg #[.int .i64 x1, .slice AZ x2.length cZ], .int .i64 a1, .int .i64 a2] rfl Gv.lm ?_; (with_reducible refine (impl_WheelSet.calls k x1 _ _ x2 a1 a2 g1 g2 w3 _ (Mk.Row.reads RZ.out).2.2 (Mk.Row.reads RZ.out).2.1 A4.out).mono ?_); rintro e wn_ ⟨v_, rfl, ho, hb⟩; refine ⟨_, rfl, ?_⟩; obtain ⟨AH, cH, rfl⟩ := Kd.S_slice ho; have rn_ := Gv.a0 (Mk.Row.new HB.out.size ho); clear RZ; replace HB := Gv.a0 (below_step HB.out hb); replace BKA := Gv.a0 (blk_below BKA.out hb); replace BKW := Gv.a0 (blk_below BKW.out hb); replace BKG := Gv.a0 (blk_below BKG.out hb); replace RW := Gv.a0 (Mk.Row.below RW.out hb); replace RG := Gv.a0 (Mk.Row.below RG.out hb); have RH := rn_; clear ho hb rn_)
   | ((with_reducible refine gate_dst (N := 16) rfl ?_); refine box_event ?hg (N := 16) ?hd (cs := #[.int .i64 0, .slice none 0 0]) (t := 24) ?hr ?_; (case hd => rfl); (case hg => rfl); (case hr => first | (go_simp; done) | (go_simp; rfl)); intro gbH hg wa_ hbox hb; have BKH := Gv.a0 hbox; have HA_ := Gv.a0 hb; have HG_ := Gv.a0 (Nat.le_of_eq hg.symm); clear hg hbox hb)
   | ((with_reducible refine gate_store (t := 24) (p := 16) rfl ?_); refine Gv.store_event (g := gbH) (cells := #[.int .i64 g1, .slice AH g2.length cH]) rfl rfl rfl rfl rfl BKH.out (by kernel_rfl) rfl (by simp; and_intros <;> rfl) ?_; intro wn_ hbox hoth hbel; have hb := hbel _ HA_.out HG_.out; replace HB := Gv.a0 (below_step HB.out hb); replace BKA := Gv.a0 (blk_below BKA.out hb); replace BKW := Gv.a0 (blk_below BKW.out hb); replace BKG := Gv.a0 (blk_below BKG.out hb); replace RW := Gv.a0 (Mk.Row.below RW.out hb); replace RG := Gv.a0 (Mk.Row.below RG.out hb); replace RH := Gv.a0 (Mk.Row.below RH.out hb); replace BKH := Gv.a0 hbox; clear hb hbox hoth hbel HA_ HG_)
   | ((with_reducible refine Gv.gate_load (t := 24) rfl ?_); (try (refine gate_guard (by rfl) ?_; dsimp only)); refine wpList_load_row rfl 24 _ rfl gbH rfl 24 _ _ _ BKH.out Try.underlying24 rfl (by kernel_rfl) ?_)
   | ((with_reducible refine gate_callee (f := 10) rfl ?_); refine goesL_ (some 91) rfl rfl Try.func10 (by kernel_rfl) rfl #[.agg #[.int .i64 g1, .slice AH g2.length cH], .agg #[.int .i64 w1, .slice AW w2.length cW]] rfl Gv.lm ?_; (with_reducible refine (laws_eqWheel.calls k g1 _ _ g2 w1 _ _ w2 true _ (Mk.Row.reads RH.out).2.2 (Mk.Row.reads RH.out).2.1 (Mk.Row.reads RW.out).2.2 (Mk.Row.reads RW.out).2.1 A5.out).mono ?_); rintro e wn_ ⟨rfl, hb⟩; refine ⟨_, rfl, ?_⟩; replace HB := Gv.a0 (below_step HB.out hb); replace BKA := Gv.a0 (blk_below BKA.out hb); replace BKW := Gv.a0 (blk_below BKW.out hb); replace BKG := Gv.a0 (blk_below BKG.out hb); replace BKH := Gv.a0 (blk_below BKH.out hb); replace RW := Gv.a0 (Mk.Row.below RW.out hb); replace RG := Gv.a0 (Mk.Row.below RG.out hb); replace RH := Gv.a0 (Mk.Row.below RH.out hb); clear hb)
   | ((with_reducible refine gate_callee (f := 12) rfl ?_); refine goesL_ (some 100) rfl rfl Try.func12 (by kernel_rfl) rfl #[.agg #[.int .i64 g1, .slice AG g2.length cG], .int .i64 1] rfl Gv.lm ?_; (with_reducible refine (laws_heldWheel.own k g1 _ _ _ _ _ g2 (Mk.markP g2 1).1 1 (Mk.markP g2 1).2 _ (Mk.markP_len g2 1) RG.out A7.out).mono ?_); rintro e wn_ ⟨rfl, hb⟩; refine ⟨_, rfl, ?_⟩; replace HB := Gv.a0 (below_step HB.out hb); replace BKA := Gv.a0 (blk_below BKA.out hb); replace BKW := Gv.a0 (blk_below BKW.out hb); replace BKG := Gv.a0 (blk_below BKG.out hb); replace BKH := Gv.a0 (blk_below BKH.out hb); replace RW := Gv.a0 (Mk.Row.below RW.out hb); replace RG := Gv.a0 (Mk.Row.below RG.out hb); replace RH := Gv.a0 (Mk.Row.below RH.out hb); clear hb))
 go_ret
 exact ⟨rfl, HB.out⟩

end Go.Proofs.Ytbfbfaoolkbodaa.PWs
