/- Plain Lean functions of a law's Go functions, their contracts, by a program of this session (wip/pr.py over the kit's print). -/
import Derived.Test.YtbfbfaoolkbodaaPWox0
import Derived.Test.YtbfbfaoolkbodaaPWox1
import Derived.Test.YtbfbfaoolkbodaaPWox2
namespace Go.Proofs.Ytbfbfaoolkbodaa.PWo
open Go.RowKit Go.Proofs.YtbfbfaoolkbodaaW.PrintWords Go.Proofs.YtbfbfaoolkbodaaW.PrintLast Go.Proofs.YtbfbfaoolkbodaaW.PrintMore
attribute [local go_sem] max2_int min2_int max_two min_two max_three min_three max_four min_four   -- for this text's walks alone
set_option linter.unusedVariables false
set_option linter.unusedSimpArgs false

/-! ### impl_WheelOk: function 16 -/
def impl_WheelOk.f (a0_0 : Int) (l0_1 : List (S47)) : Option (Bool) := some (Gv.wheelOk (fun s : S47 => s.f0) (fun x : S50 => x.f0) (fun x : S50 => x.f1) a0_0 l0_1)
theorem impl_WheelOk.within (n a b : Int) : impl_within.f n a b = some (Gv.wi n a b) := by
 unfold impl_within.f Gv.wi
 by_cases h : n ≥ a
 ·rw [if_pos h, decide_eq_true h]; rfl
 ·rw [if_neg h, decide_eq_false h]; rfl
theorem impl_WheelOk.now (n : Int) : impl_isNow.f n = some (Gv.wi n 0 1000000000000) := by
 unfold impl_isNow.f
 rw [impl_WheelOk.within]
 rfl
theorem impl_WheelOk.ahead (n : Int) (l : List S47) (a : Int) : impl_Wheel_isAhead.f n l a = some (Gv.wi a (wrap64 (n + 1)) (wrap64 (n + 1000))) := by
 unfold impl_Wheel_isAhead.f
 rw [impl_WheelOk.within]
 rfl
theorem impl_WheelOk.nodup_le : ∀ (n : Nat) (l : List Int), l.Nodup → (∀ x, x ∈ l → 0 ≤ x ∧ x < (n : Int)) → l.length ≤ n
 | 0, [], _, _ => Nat.le_refl _
 | 0, x :: l, _, h => by have := h x List.mem_cons_self; omega
 | n + 1, l, hn, h => by
  have h1 := impl_WheelOk.nodup_le n (l.erase (n : Int)) (hn.erase _) (fun x hx => by
   obtain ⟨g1, g2⟩ := (hn.mem_erase_iff).1 hx
   have := h x g2
   omega)
  have h2 := List.length_erase (a := (n : Int)) (l := l)
  split at h2 <;> omega
theorem impl_WheelOk.size_put {H : Type} {D : DataW H} {k : Lit} (hD : Maps.IsMap D) (hh : Maps.has D k = false) (d : DataW H) : Maps.size (D.put k d) = Maps.size D + 1 := by
 obtain ⟨es, rfl⟩ := hD
 rw [DataW.put_eq]
 unfold ChangeMaps.putKey
 rw [Maps.size_eq, Maps.size_eq, length_insert, List.filter_eq_self.2]
 intro p hp
 rw [Maps.has_eq, List.any_eq_false] at hh
 have := hh p hp
 unfold ChangeMaps.notKey
 simpa using this
/-- A set of small numbers in a map of the call's own. -/
def impl_WheelOk.OM (W : World) (b : Nat) (seen : List Int) : Prop := ∃ D : DataW Unit, W.ownsMap Try.prog 3 (plainElem Try.prog 4) b seen.length D ∧ Maps.size D = seen.length ∧ ∀ id : Int, 0 ≤ id → id ≤ 9999 → D.atKey (.int .i64 id) (.lit (.bool false)) = .lit (.bool (seen.contains id)) ∧ Maps.has D (.int .i64 id) = seen.contains id
theorem impl_WheelOk.OM_made (W : World) : impl_WheelOk.OM (W.alloc (.map #[] 0)) W.heap.size [] := ⟨.map [], World.ownsMap_made W _ _ _, rfl, fun _ _ _ => ⟨rfl, rfl⟩⟩
theorem impl_WheelOk.OM_move {W W' : World} {b : Nat} {seen : List Int} (h : impl_WheelOk.OM W b seen) (e : W'.heap[b]? = W.heap[b]?) : impl_WheelOk.OM W' b seen := by
 obtain ⟨D, ⟨es, clock, hb, F, hs, hD⟩, h2, h3⟩ := h
 exact ⟨D, ⟨es, clock, e.trans hb, F, hs, hD⟩, h2, h3⟩
theorem impl_WheelOk.OM_lt {W : World} {b : Nat} {seen : List Int} (h : impl_WheelOk.OM W b seen) : b < W.heap.size := h.choose_spec.1.lt
theorem impl_WheelOk.OM_below {W W' : World} {b : Nat} {seen : List Int} (h : impl_WheelOk.OM W b seen) (hb : Below W.heap.size W W') : impl_WheelOk.OM W' b seen := by
 refine impl_WheelOk.OM_move h ?_
 have hlt := impl_WheelOk.OM_lt h
 have e := Array.getElem?_eq_getElem hlt
 rw [e]
 exact blk_below e hb
theorem impl_WheelOk.wf {id : Int} (h0 : 0 ≤ id) (h1 : id ≤ 9999) : (Lit.int .i64 id).wf = true := by
 have e1 : IntKind.i64.min = -9223372036854775808 := rfl
 have e2 : IntKind.i64.max = 9223372036854775807 := rfl
 simp only [Lit.wf, e1, e2, Bool.and_eq_true, decide_eq_true_eq]
 omega
theorem impl_WheelOk.look {ops : Array Oper} {rest : List Oper} {o : Oper} {a : Act} {W : World} {Q : Exit → Act → World → Prop} {m x : Operand} {b : Nat} {id : Int} {seen : List Int} (hg : o.guard = none) (hop : o.op = .lookup 52 m x false) (hm : a.eval m = .map (some b)) (hx : a.eval x = .int .i64 id) (h : impl_WheelOk.OM W b seen) (h0 : 0 ≤ id) (h1 : id ≤ 9999)
  (hK : wpList Try.prog ops Q rest (a.put o.dst (.bool (seen.contains id))) W) : wpList Try.prog ops Q (o :: rest) a W := by
 obtain ⟨D, hown, _, hat⟩ := h
 obtain ⟨v, ps, hrun, hv⟩ := hown.lookup (Maps.int_keyed Try.underlying3) Try.underlying52 (Try.zeroValue4 W) (plainElem_bool Try.underlying4 false) (Maps.keyOf_int_mk Try.underlying3 (impl_WheelOk.wf h0 h1))
 rw [(hat id h0 h1).1] at hv
 have e : v = .bool (seen.contains id) := by
  unfold plainElem at hv
  rw [Try.underlying4] at hv
  cases v <;> simp at hv
  exact congrArg Value.bool (hv.1.trans (by simp))
 subst e
 refine wpList_plain hg fun K' hK' => ?_
 unfold Oper.wp
 simp [execOp, hop, hm, hx, hrun, Result.andThen]
 rw [show seen.contains id = decide (id ∈ seen) by simp] at hK
 exact hK' _ _ hK
theorem impl_WheelOk.mkmap {ops : Array Oper} {rest : List Oper} {o : Oper} {a : Act} {W : World} {Q : Exit → Act → World → Prop} (hg : o.guard = none) (hop : o.op = .makeMap 52 none)
  (hK : ∀ (W' : World) (b : Nat), impl_WheelOk.OM W' b [] → W.heap.size ≤ b → b = W.heap.size → Below W.heap.size W W' → wpList Try.prog ops Q rest (a.put o.dst (.map (some b))) W') : wpList Try.prog ops Q (o :: rest) a W := by
 refine wpList_plain hg fun K' hK' => ?_
 unfold Oper.wp
 simp [execOp, hop, run_makeMap, Result.andThen]
 exact hK' _ _ (hK _ _ (impl_WheelOk.OM_made W) (Nat.le_refl _) rfl ((Below.refl _ W).alloc (Nat.le_refl _) _))
theorem impl_WheelOk.upd {ops : Array Oper} {rest : List Oper} {o : Oper} {a : Act} {W : World} {Q : Exit → Act → World → Prop} {m x v : Operand} {b : Nat} {id : Int} {seen : List Int} (hg : o.guard = none) (hop : o.op = .mapUpdate 52 m x v) (hd : o.dst = none) (hm : a.eval m = .map (some b)) (hx : a.eval x = .int .i64 id) (hy : a.eval v = .bool true) (h : impl_WheelOk.OM W b seen) (h0 : 0 ≤ id) (h1 : id ≤ 9999) (hn : seen.contains id = false) (hlen : seen.length < maxLen)
  (hK : ∀ W' : World, impl_WheelOk.OM W' b (seen ++ [id]) → (∀ j, j < W.heap.size → j ≠ b → W'.heap[j]? = W.heap[j]?) → (∀ w0 : World, Below w0.heap.size w0 W → w0.heap.size ≤ b → Below w0.heap.size w0 W') → wpList Try.prog ops Q rest a W') : wpList Try.prog ops Q (o :: rest) a W := by
 obtain ⟨D, hown, hs, hat⟩ := h
 have hwf := impl_WheelOk.wf h0 h1
 have K := Maps.int_keyed (P := Try.prog) Try.underlying3
 have hkey := Maps.keyOf_int_mk (P := Try.prog) Try.underlying3 hwf
 obtain ⟨W', hrun, r1, r2⟩ := hown.update K Try.underlying52 hlen hkey (plainElem_bool Try.underlying4 true)
 have hM : Maps.IsMap D := hown.isMap
 refine wpList_plain hg fun K' hK' => ?_
 unfold Oper.wp
 simp [execOp, hop, hm, hx, hy, hrun, Result.andThen]
 refine hK' _ _ ?_
 rw [hd]
 refine hK W' ⟨D.put (.int .i64 id) (.lit (.bool true)), by rw [List.length_append]; exact r1, ?_, fun id' g0 g1 => ?_⟩ ?_ ?_
 ·rw [impl_WheelOk.size_put hM ((hat id h0 h1).2.trans hn), hs]
  first | done | simp
 ·by_cases e : id' = id
  ·subst e
   rw [Maps.atKey_put_same hM (K.key hkey), Maps.has_put_same hM (K.key hkey)]
   have hc : (seen ++ [id']).contains id' = true := by simp
   rw [hc]
   exact ⟨rfl, rfl⟩
  ·have ne : (Lit.int .i64 id') ≠ (Lit.int .i64 id) := fun q => e (by injection q)
   rw [Maps.atKey_put_other ne, Maps.has_put_other ne, (hat id' g0 g1).1, (hat id' g0 g1).2]
   simp [e]
 ·intro j hl hj
  exact r2.block j hl (fun e => hj (Option.some.inj e))
 ·intro w0 hb hle
  exact hb.grown r2 hb.size (fun k e => by cases e; exact hle)
set_option maxHeartbeats 8000000 in
set_option maxRecDepth 100000 in
theorem impl_WheelOk.calls (a0_0 : Int) (A0_1 : Option Addr) (c0_1 : Nat) (l0_1 : List (S47)) (r : Bool) (w : World) (hr0_1 : Kd.C k47 w A0_1 l0_1.length l0_1) (hc0_1 : l0_1.length ≤ c0_1) (h : impl_WheelOk.f a0_0 l0_1 = some r) :
  Calls Try.prog 16 #[.agg #[.int .i64 a0_0, .slice A0_1 l0_1.length c0_1]] w fun e w' => e = .returned (.bool r) ∧ Below w.heap.size w w' := by
 have hu24 := Try.underlying24
 have hu47 := Try.underlying47
 have hu50 := Try.underlying50
 have HR0 := Gv.a0 hr0_1
 have HC0 := Gv.a0 hc0_1
 have HRr := Gv.a0 (show Gv.wheelOk (fun s : S47 => s.f0) (fun x : S50 => x.f0) (fun x : S50 => x.f1) a0_0 l0_1 = r from Option.some.inj h)
 clear hr0_1 hc0_1 h
 have HB := Gv.a0 (Below.refl w.heap.size w)
 cases hn : Gv.wi a0_0 0 1000000000000 with
 | false =>
  have A1 := Gv.a0 ((impl_WheelOk.now a0_0).trans (congrArg some hn))
  have Hr : r = false := by rw [← HRr.out]; unfold Gv.wheelOk; rw [hn]; rfl
  subst Hr
  clear HRr hn
  go_enter Try.func16, Try.ntmps16
  go_wp2_with (first | ((with_reducible refine gate_dst (N := 1) rfl ?_); refine box_event ?hg (N := 1) ?hd (cs := #[.int .i64 a0_0, .slice A0_1 l0_1.length c0_1]) (t := 24) ?hr ?_; (case hd => rfl); (case hg => rfl); (case hr => first | (go_simp; done) | (go_simp; rfl)); intro gb1 hg w1 hbox hb; have n0_ := Gv.a0 (below_step Gv.bw hb); have n1_ := Gv.a0 hbox; have n2_ := Gv.a0 ((Gv.ble hg Gv.bw : w.heap.size ≤ gb1)); (try clear HB); clear hb hbox hg; have HB := n0_; have BK1 := n1_; have GE1 := n2_; clear n0_ n1_ n2_; (try clear hz1_0); have hz1_0 := (blk_cell BK1.out 0).trans (rfl : _ = (some (.int .i64 a0_0) : Option Value)); (try clear hz1_1); have hz1_1 := (blk_cell BK1.out 1).trans (rfl : _ = (some (.slice A0_1 l0_1.length c0_1) : Option Value)); (try clear hf1_0); have hf1_0 := blk_frozen BK1.out 0; (try clear hf1_1); have hf1_1 := blk_frozen BK1.out 1) | ((with_reducible refine gate_callee (f := 23) rfl ?_); (try (refine gate_guard (by rfl) ?_; dsimp only)); refine goesL_ (some 10) rfl rfl Try.func23 (by kernel_rfl) rfl #[.int .i64 a0_0] rfl Gv.lm ?_; (with_reducible refine (impl_isNow.calls a0_0 false _ A1.out).mono ?_); rintro e wc ⟨rfl, hd⟩; refine ⟨_, rfl, ?_⟩; have hb := hd.below; clear hd; have n0_ := Gv.a0 (below_step Gv.bw hb); have n1_ := Gv.a0 (Gv.bb BK1.out hb); clear HB BK1 hb; have HB := n0_; have BK1 := n1_; clear n0_ n1_; (try clear hz1_0); have hz1_0 := (blk_cell BK1.out 0).trans (rfl : _ = (some (.int .i64 a0_0) : Option Value)); (try clear hz1_1); have hz1_1 := (blk_cell BK1.out 1).trans (rfl : _ = (some (.slice A0_1 l0_1.length c0_1) : Option Value)); (try clear hf1_0); have hf1_0 := blk_frozen BK1.out 0; (try clear hf1_1); have hf1_1 := blk_frozen BK1.out 1))
  go_ret
  exact ⟨rfl, HB.out⟩
 | true =>
  have A1 := Gv.a0 ((impl_WheelOk.now a0_0).trans (congrArg some hn))
  by_cases hl : l0_1.length = 8
  rotate_left
  ·have e8 : ((l0_1.length : Int) == 8) = false := beq_eq_false_iff_ne.2 (by omega)
   have e9 : ((l0_1.length : Int) != 8) = true := bne_iff_ne.2 (by omega)
   have Hr : r = false := by rw [← HRr.out]; unfold Gv.wheelOk; rw [hn, decide_eq_false hl]; rfl
   subst Hr
   clear HRr hn hl
   go_enter Try.func16, Try.ntmps16
   go_wp2_with (first | ((with_reducible refine gate_dst (N := 1) rfl ?_); refine box_event ?hg (N := 1) ?hd (cs := #[.int .i64 a0_0, .slice A0_1 l0_1.length c0_1]) (t := 24) ?hr ?_; (case hd => rfl); (case hg => rfl); (case hr => first | (go_simp; done) | (go_simp; rfl)); intro gb1 hg w1 hbox hb; have n0_ := Gv.a0 (below_step Gv.bw hb); have n1_ := Gv.a0 hbox; have n2_ := Gv.a0 ((Gv.ble hg Gv.bw : w.heap.size ≤ gb1)); (try clear HB); clear hb hbox hg; have HB := n0_; have BK1 := n1_; have GE1 := n2_; clear n0_ n1_ n2_; (try clear hz1_0); have hz1_0 := (blk_cell BK1.out 0).trans (rfl : _ = (some (.int .i64 a0_0) : Option Value)); (try clear hz1_1); have hz1_1 := (blk_cell BK1.out 1).trans (rfl : _ = (some (.slice A0_1 l0_1.length c0_1) : Option Value)); (try clear hf1_0); have hf1_0 := blk_frozen BK1.out 0; (try clear hf1_1); have hf1_1 := blk_frozen BK1.out 1) | ((with_reducible refine gate_callee (f := 23) rfl ?_); (try (refine gate_guard (by rfl) ?_; dsimp only)); refine goesL_ (some 10) rfl rfl Try.func23 (by kernel_rfl) rfl #[.int .i64 a0_0] rfl Gv.lm ?_; (with_reducible refine (impl_isNow.calls a0_0 true _ A1.out).mono ?_); rintro e wc ⟨rfl, hd⟩; refine ⟨_, rfl, ?_⟩; have hb := hd.below; clear hd; have n0_ := Gv.a0 (below_step Gv.bw hb); have n1_ := Gv.a0 (Gv.bb BK1.out hb); clear HB BK1 hb; have HB := n0_; have BK1 := n1_; clear n0_ n1_; (try clear hz1_0); have hz1_0 := (blk_cell BK1.out 0).trans (rfl : _ = (some (.int .i64 a0_0) : Option Value)); (try clear hz1_1); have hz1_1 := (blk_cell BK1.out 1).trans (rfl : _ = (some (.slice A0_1 l0_1.length c0_1) : Option Value)); (try clear hf1_0); have hf1_0 := blk_frozen BK1.out 0; (try clear hf1_1); have hf1_1 := blk_frozen BK1.out 1))
   go_ret
   exact ⟨rfl, HB.out⟩
  ·have e8 : ((l0_1.length : Int) == 8) = true := beq_iff_eq.2 (by omega)
   have e9 : ((l0_1.length : Int) != 8) = false := bne_eq_false_iff_eq.2 (by omega)
   have HN := Gv.a0 (show Gv.wkEnd (Gv.wkOut (fun s : S47 => s.f0) (fun x : S50 => x.f0) (fun x : S50 => x.f1) a0_0 l0_1 0 []) = r from by rw [← HRr.out]; unfold Gv.wheelOk; rw [hn, decide_eq_true hl]; rfl)
   have HL := Gv.a0 hl
   clear HRr hn hl
   go_enter Try.func16, Try.ntmps16
   go_wp2_with (first | ((with_reducible refine gate_dst (N := 1) rfl ?_); refine box_event ?hg (N := 1) ?hd (cs := #[.int .i64 a0_0, .slice A0_1 l0_1.length c0_1]) (t := 24) ?hr ?_; (case hd => rfl); (case hg => rfl); (case hr => first | (go_simp; done) | (go_simp; rfl)); intro gb1 hg w1 hbox hb; have n0_ := Gv.a0 (below_step Gv.bw hb); have n1_ := Gv.a0 hbox; have n2_ := Gv.a0 ((Gv.ble hg Gv.bw : w.heap.size ≤ gb1)); (try clear HB); clear hb hbox hg; have HB := n0_; have BK1 := n1_; have GE1 := n2_; clear n0_ n1_ n2_; (try clear hz1_0); have hz1_0 := (blk_cell BK1.out 0).trans (rfl : _ = (some (.int .i64 a0_0) : Option Value)); (try clear hz1_1); have hz1_1 := (blk_cell BK1.out 1).trans (rfl : _ = (some (.slice A0_1 l0_1.length c0_1) : Option Value)); (try clear hf1_0); have hf1_0 := blk_frozen BK1.out 0; (try clear hf1_1); have hf1_1 := blk_frozen BK1.out 1) | ((with_reducible refine gate_callee (f := 23) rfl ?_); (try (refine gate_guard (by rfl) ?_; dsimp only)); refine goesL_ (some 10) rfl rfl Try.func23 (by kernel_rfl) rfl #[.int .i64 a0_0] rfl Gv.lm ?_; (with_reducible refine (impl_isNow.calls a0_0 true _ A1.out).mono ?_); rintro e wc ⟨rfl, hd⟩; refine ⟨_, rfl, ?_⟩; have hb := hd.below; clear hd; have n0_ := Gv.a0 (below_step Gv.bw hb); have n1_ := Gv.a0 (Gv.bb BK1.out hb); clear HB BK1 hb; have HB := n0_; have BK1 := n1_; clear n0_ n1_; (try clear hz1_0); have hz1_0 := (blk_cell BK1.out 0).trans (rfl : _ = (some (.int .i64 a0_0) : Option Value)); (try clear hz1_1); have hz1_1 := (blk_cell BK1.out 1).trans (rfl : _ = (some (.slice A0_1 l0_1.length c0_1) : Option Value)); (try clear hf1_0); have hf1_0 := blk_frozen BK1.out 0; (try clear hf1_1); have hf1_1 := blk_frozen BK1.out 1) | ((with_reducible refine gate_dst (N := 18) rfl ?_); refine impl_WheelOk.mkmap rfl rfl ?_; intro wm bm hM hge hbm hb; have n0_ := Gv.a0 (below_step Gv.bw hb); have n1_ := Gv.a0 (Gv.bb BK1.out hb); have n2_ := Gv.a0 hM; have n3_ := Gv.a0 (show w.heap.size ≤ bm from Nat.le_trans (below_size Gv.bw) hge); have n4_ := Gv.a0 (show gb1 ≠ bm from by rw [hbm]; exact Nat.ne_of_lt (blk_lt BK1.out)); clear HB BK1 hM hge hbm hb; have HB := n0_; have BK1 := n1_; have HM := n2_; have GEM := n3_; have NM1 := n4_; clear n0_ n1_ n2_ n3_ n4_; (try clear hz1_0); have hz1_0 := (blk_cell BK1.out 0).trans (rfl : _ = (some (.int .i64 a0_0) : Option Value)); (try clear hz1_1); have hz1_1 := (blk_cell BK1.out 1).trans (rfl : _ = (some (.slice A0_1 l0_1.length c0_1) : Option Value)); (try clear hf1_0); have hf1_0 := blk_frozen BK1.out 0; (try clear hf1_1); have hf1_1 := blk_frozen BK1.out 1))
   go_loopg [22] l0_1.length (fun gg s22 wr => ∃ (kk : Nat) (seen : List Int), kk ≤ l0_1.length ∧ l0_1.length - kk ≤ gg ∧ s22 = .int .i64 (kk : Int) ∧ Aside0 (Gv.wkEnd (Gv.wkOut (fun s : S47 => s.f0) (fun x : S50 => x.f0) (fun x : S50 => x.f1) a0_0 (l0_1.drop kk) kk seen) = r) ∧ Aside0 (seen.Nodup ∧ ∀ x, x ∈ seen → 0 ≤ x ∧ x < (10000 : Nat)) ∧ Aside0 (impl_WheelOk.OM wr bm seen) ∧ Aside0 (wr.heap[gb1]? = some (.cells #[.int .i64 a0_0, .slice A0_1 l0_1.length c0_1] 24 (0, 0))) ∧ Aside0 (Below w.heap.size w wr))
   case atStart => exact ⟨0, [], Nat.zero_le _, by omega, rfl, ⟨by rw [List.drop_zero]; exact HN.out⟩, ⟨List.nodup_nil, fun x hx => by cases hx⟩, ⟨HM.out⟩, ⟨BK1.out⟩, ⟨HB.out⟩⟩
   case round =>
    clear HN HM BK1 HB
    (try clear hz1_0); (try clear hz1_1); (try clear hf1_0); (try clear hf1_1)
    obtain ⟨kk, seen, hkk, hg, rfl, HN, HI, HM, BK1, HB⟩ := hrel
    have HKK := Gv.a0 hkk
    have HG := Gv.a0 hg
    clear hkk hg
    by_cases hlt : kk < l0_1.length
    ·have hltz : (kk : Int) < (l0_1.length : Int) := by omega
     have hk0 : 0 ≤ (kk : Int) := by omega
     obtain ⟨ad, A1, c1, e1, hx, hl1, hi1⟩ := at_T47 HR0.out (kk : Int) hk0 hltz
     cases e1
     rw [Int.toNat_natCast] at hx
     replace hx := Gv.bx HB.out hx
     have hget : l0_1.drop kk = rd_T47 l0_1 (kk : Int) :: l0_1.drop (kk + 1) := by
      rw [List.drop_eq_getElem_cons hlt]
      congr 1
      unfold rd_T47
      rw [Int.toNat_natCast, List.getD_eq_getElem?_getD, List.getElem?_eq_getElem hlt]
      rfl
     have hN := HN.out
     rw [hget, Gv.wkOut] at hN
     clear HN hget
     have HN := Gv.a0 hN
     have HR1 := Gv.a0 hi1
     have HC1 := Gv.a0 hl1
     have HLT := Gv.a0 hlt
     clear hN hi1 hl1 hlt
     (try clear hz1_0); have hz1_0 := (blk_cell BK1.out 0).trans (rfl : _ = (some (.int .i64 a0_0) : Option Value)); (try clear hz1_1); have hz1_1 := (blk_cell BK1.out 1).trans (rfl : _ = (some (.slice (some ad) l0_1.length c0_1) : Option Value)); (try clear hf1_0); have hf1_0 := blk_frozen BK1.out 0; (try clear hf1_1); have hf1_1 := blk_frozen BK1.out 1
     go_wp2_with (first | ((with_reducible refine gate_dst (N := 5) rfl ?_); refine box_event ?hg (N := 5) ?hd (cs := #[.slice none 0 0]) (t := 47) ?hr ?_; (case hd => rfl); (case hg => rfl); (case hr => first | (go_simp; done) | (go_simp; rfl)); intro gb5 hg w5 hbox hb; have n0_ := Gv.a0 (below_step Gv.bw hb); have n1_ := Gv.a0 hbox; have n2_ := Gv.a0 ((Gv.ble hg Gv.bw : w.heap.size ≤ gb5)); have n3_ := Gv.a0 (Gv.bb BK1.out hb); have n4_ := Gv.a0 ((Gv.ngt hg (Gv.kb BK1.out) : gb5 ≠ gb1)); have n5_ := Gv.a0 (impl_WheelOk.OM_below HM.out hb); have n6_ := Gv.a0 (show gb5 ≠ bm from by rw [hg]; exact Nat.ne_of_gt (impl_WheelOk.OM_lt HM.out)); (try clear HB BK1 HM); clear hb hbox hg; have HB := n0_; have BK5 := n1_; have GE5 := n2_; have BK1 := n3_; have NB5_1 := n4_; have HM := n5_; have NM5 := n6_; clear n0_ n1_ n2_ n3_ n4_ n5_ n6_) | ((with_reducible refine gate_store (t := 47) (p := 5) rfl ?_); refine Gv.store_event rfl rfl rfl rfl rfl (Gv.kb BK5.out) (by kernel_rfl) rfl (by first | rfl | (simp; done) | (simp; and_intros <;> rfl)) ?_; intro w5s hbox hoth hbel; have n0_ := Gv.a0 hbox; have n1_ := Gv.a0 (hbel w Gv.bw GE5.out); have n2_ := Gv.a0 ((hoth gb1 NB5_1.out.symm).trans (Gv.kb BK1.out)); have n3_ := Gv.a0 (impl_WheelOk.OM_move HM.out (hoth bm NM5.out.symm)); clear BK5 HB BK1 HM hbox hoth hbel; have BK5 := n0_; have HB := n1_; have BK1 := n2_; have HM := n3_; clear n0_ n1_ n2_ n3_; (try clear hz1_0); have hz1_0 := (blk_cell BK1.out 0).trans (rfl : _ = (some (.int .i64 a0_0) : Option Value)); (try clear hz1_1); have hz1_1 := (blk_cell BK1.out 1).trans (rfl : _ = (some (.slice (some ad) l0_1.length c0_1) : Option Value)); (try clear hf1_0); have hf1_0 := blk_frozen BK1.out 0; (try clear hf1_1); have hf1_1 := blk_frozen BK1.out 1; (try clear hz5_0); have hz5_0 := (blk_cell BK5.out 0).trans (rfl : _ = (some (.slice A1 (rd_T47 l0_1 (kk : Int)).f0.length c1) : Option Value)); (try clear hf5_0); have hf5_0 := blk_frozen BK5.out 0))
     go_loopg [30] (rd_T47 l0_1 (kk : Int)).f0.length (fun gg s30 wr => ∃ (jj : Nat) (seen : List Int), jj ≤ (rd_T47 l0_1 (kk : Int)).f0.length ∧ (rd_T47 l0_1 (kk : Int)).f0.length - jj ≤ gg ∧ s30 = .int .i64 (jj : Int) ∧ Aside0 (Gv.wkEnd ((Gv.wkIn (fun x : S50 => x.f0) (fun x : S50 => x.f1) a0_0 (kk : Int) ((rd_T47 l0_1 (kk : Int)).f0.drop jj) seen).bind fun seen' => Gv.wkOut (fun s : S47 => s.f0) (fun x : S50 => x.f0) (fun x : S50 => x.f1) a0_0 (l0_1.drop (kk + 1)) (kk + 1) seen') = r) ∧ Aside0 (seen.Nodup ∧ ∀ x, x ∈ seen → 0 ≤ x ∧ x < (10000 : Nat)) ∧ Aside0 (impl_WheelOk.OM wr bm seen) ∧ Aside0 (wr.heap[gb1]? = some (.cells #[.int .i64 a0_0, .slice (some ad) l0_1.length c0_1] 24 (0, 0))) ∧ Aside0 (Below w.heap.size w wr))
     case atStart => exact ⟨0, seen, Nat.zero_le _, by omega, rfl, ⟨by rw [List.drop_zero]; exact HN.out⟩, ⟨HI.out⟩, ⟨HM.out⟩, ⟨BK1.out⟩, ⟨HB.out⟩⟩
     case round =>
      clear HN HM BK1 HB HI BK5 hx
      (try clear hz1_0); (try clear hz1_1); (try clear hf1_0); (try clear hf1_1); (try clear hz5_0); (try clear hf5_0)
      obtain ⟨jj, seen, hjj, hg, rfl, HN, HI, HM, BK1, HB⟩ := hrel
      have HJJ := Gv.a0 hjj
      have HG2 := Gv.a0 hg
      clear hjj hg
      by_cases hlt : jj < (rd_T47 l0_1 (kk : Int)).f0.length
      ·have hltz2 : (jj : Int) < ((rd_T47 l0_1 (kk : Int)).f0.length : Int) := by omega
       have hj0 : 0 ≤ (jj : Int) := by omega
       obtain ⟨ad2, e2, hy0, hy1⟩ := at_T50 (Kd.C_below HR1.out HB.out) (jj : Int) hj0 hltz2
       cases e2
       obtain ⟨x_, hx_⟩ : ∃ x_, x_ = rd_T50 (rd_T47 l0_1 (kk : Int)).f0 (jj : Int) := ⟨_, rfl⟩
       rw [← hx_, Int.toNat_natCast] at hy0 hy1
       have hget : (rd_T47 l0_1 (kk : Int)).f0.drop jj = x_ :: (rd_T47 l0_1 (kk : Int)).f0.drop (jj + 1) := by
        rw [List.drop_eq_getElem_cons hlt, hx_]
        congr 1
        unfold rd_T50
        rw [Int.toNat_natCast, List.getD_eq_getElem?_getD, List.getElem?_eq_getElem hlt]
        rfl
       have hN := HN.out
       rw [hget, Gv.wkIn] at hN
       clear HN hget hx_
       have HN := Gv.a0 hN
       have HLT2 := Gv.a0 hlt
       clear hN hlt
       (try clear hz1_0); have hz1_0 := (blk_cell BK1.out 0).trans (rfl : _ = (some (.int .i64 a0_0) : Option Value)); (try clear hz1_1); have hz1_1 := (blk_cell BK1.out 1).trans (rfl : _ = (some (.slice (some ad) l0_1.length c0_1) : Option Value)); (try clear hf1_0); have hf1_0 := blk_frozen BK1.out 0; (try clear hf1_1); have hf1_1 := blk_frozen BK1.out 1
       cases h1 : Gv.wi x_.f0 0 9999 with
       | false =>
        have A2 := Gv.a0 ((impl_WheelOk.within x_.f0 0 9999).trans (congrArg some h1))
        have Hr := Gv.a0 (show false = r from by
         have hN := HN.out
         unfold Gv.wkBad at hN
         rw [h1, Bool.not_false, Bool.true_or, if_pos rfl] at hN
         exact hN)
        clear HN h1
        go_wp2_with (first | ((with_reducible refine gate_dst (N := 7) rfl ?_); refine box_event ?hg (N := 7) ?hd (cs := #[.int .i64 0, .int .i64 0]) (t := 50) ?hr ?_; (case hd => rfl); (case hg => rfl); (case hr => first | (go_simp; done) | (go_simp; rfl)); intro gb7 hg w7 hbox hb; have n0_ := Gv.a0 (below_step Gv.bw hb); have n1_ := Gv.a0 hbox; have n2_ := Gv.a0 ((Gv.ble hg Gv.bw : w.heap.size ≤ gb7)); have n3_ := Gv.a0 (Gv.bb BK1.out hb); have n4_ := Gv.a0 ((Gv.ngt hg (Gv.kb BK1.out) : gb7 ≠ gb1)); have n5_ := Gv.a0 (impl_WheelOk.OM_below HM.out hb); have n6_ := Gv.a0 (show gb7 ≠ bm from by rw [hg]; exact Nat.ne_of_gt (impl_WheelOk.OM_lt HM.out)); (try clear HB BK1 HM); clear hb hbox hg; have HB := n0_; have BK7 := n1_; have GE7 := n2_; have BK1 := n3_; have NB7_1 := n4_; have HM := n5_; have NM7 := n6_; clear n0_ n1_ n2_ n3_ n4_ n5_ n6_) | ((with_reducible refine gate_store (t := 50) (p := 7) rfl ?_); refine Gv.store_event rfl rfl rfl rfl rfl (Gv.kb BK7.out) (by kernel_rfl) rfl (by first | rfl | (simp; done) | (simp; and_intros <;> rfl)) ?_; intro w7s hbox hoth hbel; have n0_ := Gv.a0 hbox; have n1_ := Gv.a0 (hbel w Gv.bw GE7.out); have n2_ := Gv.a0 ((hoth gb1 NB7_1.out.symm).trans (Gv.kb BK1.out)); have n3_ := Gv.a0 (impl_WheelOk.OM_move HM.out (hoth bm NM7.out.symm)); clear BK7 HB BK1 HM hbox hoth hbel; have BK7 := n0_; have HB := n1_; have BK1 := n2_; have HM := n3_; clear n0_ n1_ n2_ n3_; (try clear hz1_0); have hz1_0 := (blk_cell BK1.out 0).trans (rfl : _ = (some (.int .i64 a0_0) : Option Value)); (try clear hz1_1); have hz1_1 := (blk_cell BK1.out 1).trans (rfl : _ = (some (.slice (some ad) l0_1.length c0_1) : Option Value)); (try clear hf1_0); have hf1_0 := blk_frozen BK1.out 0; (try clear hf1_1); have hf1_1 := blk_frozen BK1.out 1; (try clear hz7_0); have hz7_0 := (blk_cell BK7.out 0).trans (rfl : _ = (some (.int .i64 x_.f0) : Option Value)); (try clear hz7_1); have hz7_1 := (blk_cell BK7.out 1).trans (rfl : _ = (some (.int .i64 x_.f1) : Option Value)); (try clear hf7_0); have hf7_0 := blk_frozen BK7.out 0; (try clear hf7_1); have hf7_1 := blk_frozen BK7.out 1) | ((with_reducible refine gate_callee (f := 30) rfl ?_); (try (refine gate_guard (by rfl) ?_; dsimp only)); refine goesL_ (some 36) rfl rfl Try.func30 (by kernel_rfl) rfl #[.int .i64 x_.f0, .int .i64 0, .int .i64 9999] rfl Gv.lm ?_; (with_reducible refine (impl_within.calls x_.f0 0 9999 false _ A2.out).mono ?_); rintro e wc ⟨rfl, hd⟩; refine ⟨_, rfl, ?_⟩; have hb := hd.below; clear hd; have n0_ := Gv.a0 (below_step Gv.bw hb); have n1_ := Gv.a0 (Gv.bb BK1.out hb); have n2_ := Gv.a0 (Gv.bb BK7.out hb); have n3_ := Gv.a0 (impl_WheelOk.OM_below HM.out hb); clear HB BK1 BK7 HM hb; have HB := n0_; have BK1 := n1_; have BK7 := n2_; have HM := n3_; clear n0_ n1_ n2_ n3_; (try clear hz1_0); have hz1_0 := (blk_cell BK1.out 0).trans (rfl : _ = (some (.int .i64 a0_0) : Option Value)); (try clear hz1_1); have hz1_1 := (blk_cell BK1.out 1).trans (rfl : _ = (some (.slice (some ad) l0_1.length c0_1) : Option Value)); (try clear hf1_0); have hf1_0 := blk_frozen BK1.out 0; (try clear hf1_1); have hf1_1 := blk_frozen BK1.out 1; (try clear hz7_0); have hz7_0 := (blk_cell BK7.out 0).trans (rfl : _ = (some (.int .i64 x_.f0) : Option Value)); (try clear hz7_1); have hz7_1 := (blk_cell BK7.out 1).trans (rfl : _ = (some (.int .i64 x_.f1) : Option Value)); (try clear hf7_0); have hf7_0 := blk_frozen BK7.out 0; (try clear hf7_1); have hf7_1 := blk_frozen BK7.out 1))
        go_ret
        exact ⟨by rw [← Hr.out]; rfl, HB.out⟩
       | true =>
        have A2 := Gv.a0 ((impl_WheelOk.within x_.f0 0 9999).trans (congrArg some h1))
        have hr1 : 0 ≤ x_.f0 ∧ x_.f0 ≤ 9999 := by
         unfold Gv.wi at h1
         rw [Bool.and_eq_true, decide_eq_true_eq, decide_eq_true_eq] at h1
         exact h1
        have HW := Gv.a0 hr1
        clear hr1
        cases h2 : seen.contains x_.f0 with
        | true =>
         have Hr := Gv.a0 (show false = r from by
          have hN := HN.out
          unfold Gv.wkBad at hN
          rw [h1, h2, Bool.not_true, Bool.false_or, Bool.true_or, if_pos rfl] at hN
          exact hN)
         have H2 := Gv.a0 h2
         clear HN h1 h2
         go_wp2_with (first | ((with_reducible refine gate_dst (N := 7) rfl ?_); refine box_event ?hg (N := 7) ?hd (cs := #[.int .i64 0, .int .i64 0]) (t := 50) ?hr ?_; (case hd => rfl); (case hg => rfl); (case hr => first | (go_simp; done) | (go_simp; rfl)); intro gb7 hg w7 hbox hb; have n0_ := Gv.a0 (below_step Gv.bw hb); have n1_ := Gv.a0 hbox; have n2_ := Gv.a0 ((Gv.ble hg Gv.bw : w.heap.size ≤ gb7)); have n3_ := Gv.a0 (Gv.bb BK1.out hb); have n4_ := Gv.a0 ((Gv.ngt hg (Gv.kb BK1.out) : gb7 ≠ gb1)); have n5_ := Gv.a0 (impl_WheelOk.OM_below HM.out hb); have n6_ := Gv.a0 (show gb7 ≠ bm from by rw [hg]; exact Nat.ne_of_gt (impl_WheelOk.OM_lt HM.out)); (try clear HB BK1 HM); clear hb hbox hg; have HB := n0_; have BK7 := n1_; have GE7 := n2_; have BK1 := n3_; have NB7_1 := n4_; have HM := n5_; have NM7 := n6_; clear n0_ n1_ n2_ n3_ n4_ n5_ n6_) | ((with_reducible refine gate_store (t := 50) (p := 7) rfl ?_); refine Gv.store_event rfl rfl rfl rfl rfl (Gv.kb BK7.out) (by kernel_rfl) rfl (by first | rfl | (simp; done) | (simp; and_intros <;> rfl)) ?_; intro w7s hbox hoth hbel; have n0_ := Gv.a0 hbox; have n1_ := Gv.a0 (hbel w Gv.bw GE7.out); have n2_ := Gv.a0 ((hoth gb1 NB7_1.out.symm).trans (Gv.kb BK1.out)); have n3_ := Gv.a0 (impl_WheelOk.OM_move HM.out (hoth bm NM7.out.symm)); clear BK7 HB BK1 HM hbox hoth hbel; have BK7 := n0_; have HB := n1_; have BK1 := n2_; have HM := n3_; clear n0_ n1_ n2_ n3_; (try clear hz1_0); have hz1_0 := (blk_cell BK1.out 0).trans (rfl : _ = (some (.int .i64 a0_0) : Option Value)); (try clear hz1_1); have hz1_1 := (blk_cell BK1.out 1).trans (rfl : _ = (some (.slice (some ad) l0_1.length c0_1) : Option Value)); (try clear hf1_0); have hf1_0 := blk_frozen BK1.out 0; (try clear hf1_1); have hf1_1 := blk_frozen BK1.out 1; (try clear hz7_0); have hz7_0 := (blk_cell BK7.out 0).trans (rfl : _ = (some (.int .i64 x_.f0) : Option Value)); (try clear hz7_1); have hz7_1 := (blk_cell BK7.out 1).trans (rfl : _ = (some (.int .i64 x_.f1) : Option Value)); (try clear hf7_0); have hf7_0 := blk_frozen BK7.out 0; (try clear hf7_1); have hf7_1 := blk_frozen BK7.out 1) | ((with_reducible refine gate_callee (f := 30) rfl ?_); (try (refine gate_guard (by rfl) ?_; dsimp only)); refine goesL_ (some 36) rfl rfl Try.func30 (by kernel_rfl) rfl #[.int .i64 x_.f0, .int .i64 0, .int .i64 9999] rfl Gv.lm ?_; (with_reducible refine (impl_within.calls x_.f0 0 9999 true _ A2.out).mono ?_); rintro e wc ⟨rfl, hd⟩; refine ⟨_, rfl, ?_⟩; have hb := hd.below; clear hd; have n0_ := Gv.a0 (below_step Gv.bw hb); have n1_ := Gv.a0 (Gv.bb BK1.out hb); have n2_ := Gv.a0 (Gv.bb BK7.out hb); have n3_ := Gv.a0 (impl_WheelOk.OM_below HM.out hb); clear HB BK1 BK7 HM hb; have HB := n0_; have BK1 := n1_; have BK7 := n2_; have HM := n3_; clear n0_ n1_ n2_ n3_; (try clear hz1_0); have hz1_0 := (blk_cell BK1.out 0).trans (rfl : _ = (some (.int .i64 a0_0) : Option Value)); (try clear hz1_1); have hz1_1 := (blk_cell BK1.out 1).trans (rfl : _ = (some (.slice (some ad) l0_1.length c0_1) : Option Value)); (try clear hf1_0); have hf1_0 := blk_frozen BK1.out 0; (try clear hf1_1); have hf1_1 := blk_frozen BK1.out 1; (try clear hz7_0); have hz7_0 := (blk_cell BK7.out 0).trans (rfl : _ = (some (.int .i64 x_.f0) : Option Value)); (try clear hz7_1); have hz7_1 := (blk_cell BK7.out 1).trans (rfl : _ = (some (.int .i64 x_.f1) : Option Value)); (try clear hf7_0); have hf7_0 := blk_frozen BK7.out 0; (try clear hf7_1); have hf7_1 := blk_frozen BK7.out 1) | ((with_reducible refine gate_dst (N := 42) rfl ?_); (try (refine gate_guard (by rfl) ?_; dsimp only)); refine impl_WheelOk.look rfl rfl rfl rfl HM.out HW.out.1 HW.out.2 ?_; rw [H2.out]))
         go_ret
         exact ⟨by rw [← Hr.out]; rfl, HB.out⟩
        | false =>
         have H2 := Gv.a0 h2
         cases h3 : Gv.wi x_.f1 (wrap64 (a0_0 + 1)) (wrap64 (a0_0 + 1000)) with
         | false =>
          have A3 := Gv.a0 ((impl_WheelOk.ahead a0_0 l0_1 x_.f1).trans (congrArg some h3))
          have Hr := Gv.a0 (show false = r from by
           have hN := HN.out
           unfold Gv.wkBad at hN
           rw [h1, h2, h3, Bool.not_true, Bool.false_or, Bool.false_or, Bool.not_false, Bool.true_or, if_pos rfl] at hN
           exact hN)
          clear HN h1 h2 h3
          go_wp2_with (first | ((with_reducible refine gate_dst (N := 7) rfl ?_); refine box_event ?hg (N := 7) ?hd (cs := #[.int .i64 0, .int .i64 0]) (t := 50) ?hr ?_; (case hd => rfl); (case hg => rfl); (case hr => first | (go_simp; done) | (go_simp; rfl)); intro gb7 hg w7 hbox hb; have n0_ := Gv.a0 (below_step Gv.bw hb); have n1_ := Gv.a0 hbox; have n2_ := Gv.a0 ((Gv.ble hg Gv.bw : w.heap.size ≤ gb7)); have n3_ := Gv.a0 (Gv.bb BK1.out hb); have n4_ := Gv.a0 ((Gv.ngt hg (Gv.kb BK1.out) : gb7 ≠ gb1)); have n5_ := Gv.a0 (impl_WheelOk.OM_below HM.out hb); have n6_ := Gv.a0 (show gb7 ≠ bm from by rw [hg]; exact Nat.ne_of_gt (impl_WheelOk.OM_lt HM.out)); (try clear HB BK1 HM); clear hb hbox hg; have HB := n0_; have BK7 := n1_; have GE7 := n2_; have BK1 := n3_; have NB7_1 := n4_; have HM := n5_; have NM7 := n6_; clear n0_ n1_ n2_ n3_ n4_ n5_ n6_) | ((with_reducible refine gate_store (t := 50) (p := 7) rfl ?_); refine Gv.store_event rfl rfl rfl rfl rfl (Gv.kb BK7.out) (by kernel_rfl) rfl (by first | rfl | (simp; done) | (simp; and_intros <;> rfl)) ?_; intro w7s hbox hoth hbel; have n0_ := Gv.a0 hbox; have n1_ := Gv.a0 (hbel w Gv.bw GE7.out); have n2_ := Gv.a0 ((hoth gb1 NB7_1.out.symm).trans (Gv.kb BK1.out)); have n3_ := Gv.a0 (impl_WheelOk.OM_move HM.out (hoth bm NM7.out.symm)); clear BK7 HB BK1 HM hbox hoth hbel; have BK7 := n0_; have HB := n1_; have BK1 := n2_; have HM := n3_; clear n0_ n1_ n2_ n3_; (try clear hz1_0); have hz1_0 := (blk_cell BK1.out 0).trans (rfl : _ = (some (.int .i64 a0_0) : Option Value)); (try clear hz1_1); have hz1_1 := (blk_cell BK1.out 1).trans (rfl : _ = (some (.slice (some ad) l0_1.length c0_1) : Option Value)); (try clear hf1_0); have hf1_0 := blk_frozen BK1.out 0; (try clear hf1_1); have hf1_1 := blk_frozen BK1.out 1; (try clear hz7_0); have hz7_0 := (blk_cell BK7.out 0).trans (rfl : _ = (some (.int .i64 x_.f0) : Option Value)); (try clear hz7_1); have hz7_1 := (blk_cell BK7.out 1).trans (rfl : _ = (some (.int .i64 x_.f1) : Option Value)); (try clear hf7_0); have hf7_0 := blk_frozen BK7.out 0; (try clear hf7_1); have hf7_1 := blk_frozen BK7.out 1) | ((with_reducible refine gate_callee (f := 30) rfl ?_); (try (refine gate_guard (by rfl) ?_; dsimp only)); refine goesL_ (some 36) rfl rfl Try.func30 (by kernel_rfl) rfl #[.int .i64 x_.f0, .int .i64 0, .int .i64 9999] rfl Gv.lm ?_; (with_reducible refine (impl_within.calls x_.f0 0 9999 true _ A2.out).mono ?_); rintro e wc ⟨rfl, hd⟩; refine ⟨_, rfl, ?_⟩; have hb := hd.below; clear hd; have n0_ := Gv.a0 (below_step Gv.bw hb); have n1_ := Gv.a0 (Gv.bb BK1.out hb); have n2_ := Gv.a0 (Gv.bb BK7.out hb); have n3_ := Gv.a0 (impl_WheelOk.OM_below HM.out hb); clear HB BK1 BK7 HM hb; have HB := n0_; have BK1 := n1_; have BK7 := n2_; have HM := n3_; clear n0_ n1_ n2_ n3_; (try clear hz1_0); have hz1_0 := (blk_cell BK1.out 0).trans (rfl : _ = (some (.int .i64 a0_0) : Option Value)); (try clear hz1_1); have hz1_1 := (blk_cell BK1.out 1).trans (rfl : _ = (some (.slice (some ad) l0_1.length c0_1) : Option Value)); (try clear hf1_0); have hf1_0 := blk_frozen BK1.out 0; (try clear hf1_1); have hf1_1 := blk_frozen BK1.out 1; (try clear hz7_0); have hz7_0 := (blk_cell BK7.out 0).trans (rfl : _ = (some (.int .i64 x_.f0) : Option Value)); (try clear hz7_1); have hz7_1 := (blk_cell BK7.out 1).trans (rfl : _ = (some (.int .i64 x_.f1) : Option Value)); (try clear hf7_0); have hf7_0 := blk_frozen BK7.out 0; (try clear hf7_1); have hf7_1 := blk_frozen BK7.out 1) | ((with_reducible refine gate_dst (N := 42) rfl ?_); (try (refine gate_guard (by rfl) ?_; dsimp only)); refine impl_WheelOk.look rfl rfl rfl rfl HM.out HW.out.1 HW.out.2 ?_; rw [H2.out]) | ((with_reducible refine gate_callee (f := 31) rfl ?_); (try (refine gate_guard (by rfl) ?_; dsimp only)); refine goesL_ (some 48) rfl rfl Try.func31 (by kernel_rfl) rfl #[.agg #[.int .i64 a0_0, .slice (some ad) l0_1.length c0_1], .int .i64 x_.f1] rfl Gv.lm ?_; (with_reducible refine (impl_Wheel_isAhead.calls a0_0 _ _ l0_1 x_.f1 false _ (Kd.C_below HR0.out HB.out) HC0.out A3.out).mono ?_); rintro e wc ⟨rfl, hd⟩; refine ⟨_, rfl, ?_⟩; have hb := hd; clear hd; have n0_ := Gv.a0 (below_step Gv.bw hb); have n1_ := Gv.a0 (Gv.bb BK1.out hb); have n2_ := Gv.a0 (Gv.bb BK7.out hb); have n3_ := Gv.a0 (impl_WheelOk.OM_below HM.out hb); clear HB BK1 BK7 HM hb; have HB := n0_; have BK1 := n1_; have BK7 := n2_; have HM := n3_; clear n0_ n1_ n2_ n3_; (try clear hz1_0); have hz1_0 := (blk_cell BK1.out 0).trans (rfl : _ = (some (.int .i64 a0_0) : Option Value)); (try clear hz1_1); have hz1_1 := (blk_cell BK1.out 1).trans (rfl : _ = (some (.slice (some ad) l0_1.length c0_1) : Option Value)); (try clear hf1_0); have hf1_0 := blk_frozen BK1.out 0; (try clear hf1_1); have hf1_1 := blk_frozen BK1.out 1; (try clear hz7_0); have hz7_0 := (blk_cell BK7.out 0).trans (rfl : _ = (some (.int .i64 x_.f0) : Option Value)); (try clear hz7_1); have hz7_1 := (blk_cell BK7.out 1).trans (rfl : _ = (some (.int .i64 x_.f1) : Option Value)); (try clear hf7_0); have hf7_0 := blk_frozen BK7.out 0; (try clear hf7_1); have hf7_1 := blk_frozen BK7.out 1))
          go_ret
          exact ⟨by rw [← Hr.out]; rfl, HB.out⟩
         | true =>
          have A3 := Gv.a0 ((impl_WheelOk.ahead a0_0 l0_1 x_.f1).trans (congrArg some h3))
          by_cases h4 : Int.tmod x_.f1 8 = (kk : Int)
          rotate_left
          ·have h4a : (Int.tmod x_.f1 8 == (kk : Int)) = false := beq_eq_false_iff_ne.2 h4
           have h4b : (Int.tmod x_.f1 8 != (kk : Int)) = true := bne_iff_ne.2 h4
           have Hr := Gv.a0 (show false = r from by
            have hN := HN.out
            unfold Gv.wkBad at hN
            rw [h1, h2, h3, h4a, Bool.not_true, Bool.false_or, Bool.false_or, Bool.false_or, Bool.not_false, if_pos rfl] at hN
            exact hN)
           clear HN h1 h2 h3 h4
           go_wp2_with (first | ((with_reducible refine gate_dst (N := 7) rfl ?_); refine box_event ?hg (N := 7) ?hd (cs := #[.int .i64 0, .int .i64 0]) (t := 50) ?hr ?_; (case hd => rfl); (case hg => rfl); (case hr => first | (go_simp; done) | (go_simp; rfl)); intro gb7 hg w7 hbox hb; have n0_ := Gv.a0 (below_step Gv.bw hb); have n1_ := Gv.a0 hbox; have n2_ := Gv.a0 ((Gv.ble hg Gv.bw : w.heap.size ≤ gb7)); have n3_ := Gv.a0 (Gv.bb BK1.out hb); have n4_ := Gv.a0 ((Gv.ngt hg (Gv.kb BK1.out) : gb7 ≠ gb1)); have n5_ := Gv.a0 (impl_WheelOk.OM_below HM.out hb); have n6_ := Gv.a0 (show gb7 ≠ bm from by rw [hg]; exact Nat.ne_of_gt (impl_WheelOk.OM_lt HM.out)); (try clear HB BK1 HM); clear hb hbox hg; have HB := n0_; have BK7 := n1_; have GE7 := n2_; have BK1 := n3_; have NB7_1 := n4_; have HM := n5_; have NM7 := n6_; clear n0_ n1_ n2_ n3_ n4_ n5_ n6_) | ((with_reducible refine gate_store (t := 50) (p := 7) rfl ?_); refine Gv.store_event rfl rfl rfl rfl rfl (Gv.kb BK7.out) (by kernel_rfl) rfl (by first | rfl | (simp; done) | (simp; and_intros <;> rfl)) ?_; intro w7s hbox hoth hbel; have n0_ := Gv.a0 hbox; have n1_ := Gv.a0 (hbel w Gv.bw GE7.out); have n2_ := Gv.a0 ((hoth gb1 NB7_1.out.symm).trans (Gv.kb BK1.out)); have n3_ := Gv.a0 (impl_WheelOk.OM_move HM.out (hoth bm NM7.out.symm)); clear BK7 HB BK1 HM hbox hoth hbel; have BK7 := n0_; have HB := n1_; have BK1 := n2_; have HM := n3_; clear n0_ n1_ n2_ n3_; (try clear hz1_0); have hz1_0 := (blk_cell BK1.out 0).trans (rfl : _ = (some (.int .i64 a0_0) : Option Value)); (try clear hz1_1); have hz1_1 := (blk_cell BK1.out 1).trans (rfl : _ = (some (.slice (some ad) l0_1.length c0_1) : Option Value)); (try clear hf1_0); have hf1_0 := blk_frozen BK1.out 0; (try clear hf1_1); have hf1_1 := blk_frozen BK1.out 1; (try clear hz7_0); have hz7_0 := (blk_cell BK7.out 0).trans (rfl : _ = (some (.int .i64 x_.f0) : Option Value)); (try clear hz7_1); have hz7_1 := (blk_cell BK7.out 1).trans (rfl : _ = (some (.int .i64 x_.f1) : Option Value)); (try clear hf7_0); have hf7_0 := blk_frozen BK7.out 0; (try clear hf7_1); have hf7_1 := blk_frozen BK7.out 1) | ((with_reducible refine gate_callee (f := 30) rfl ?_); (try (refine gate_guard (by rfl) ?_; dsimp only)); refine goesL_ (some 36) rfl rfl Try.func30 (by kernel_rfl) rfl #[.int .i64 x_.f0, .int .i64 0, .int .i64 9999] rfl Gv.lm ?_; (with_reducible refine (impl_within.calls x_.f0 0 9999 true _ A2.out).mono ?_); rintro e wc ⟨rfl, hd⟩; refine ⟨_, rfl, ?_⟩; have hb := hd.below; clear hd; have n0_ := Gv.a0 (below_step Gv.bw hb); have n1_ := Gv.a0 (Gv.bb BK1.out hb); have n2_ := Gv.a0 (Gv.bb BK7.out hb); have n3_ := Gv.a0 (impl_WheelOk.OM_below HM.out hb); clear HB BK1 BK7 HM hb; have HB := n0_; have BK1 := n1_; have BK7 := n2_; have HM := n3_; clear n0_ n1_ n2_ n3_; (try clear hz1_0); have hz1_0 := (blk_cell BK1.out 0).trans (rfl : _ = (some (.int .i64 a0_0) : Option Value)); (try clear hz1_1); have hz1_1 := (blk_cell BK1.out 1).trans (rfl : _ = (some (.slice (some ad) l0_1.length c0_1) : Option Value)); (try clear hf1_0); have hf1_0 := blk_frozen BK1.out 0; (try clear hf1_1); have hf1_1 := blk_frozen BK1.out 1; (try clear hz7_0); have hz7_0 := (blk_cell BK7.out 0).trans (rfl : _ = (some (.int .i64 x_.f0) : Option Value)); (try clear hz7_1); have hz7_1 := (blk_cell BK7.out 1).trans (rfl : _ = (some (.int .i64 x_.f1) : Option Value)); (try clear hf7_0); have hf7_0 := blk_frozen BK7.out 0; (try clear hf7_1); have hf7_1 := blk_frozen BK7.out 1) | ((with_reducible refine gate_dst (N := 42) rfl ?_); (try (refine gate_guard (by rfl) ?_; dsimp only)); refine impl_WheelOk.look rfl rfl rfl rfl HM.out HW.out.1 HW.out.2 ?_; rw [H2.out]) | ((with_reducible refine gate_callee (f := 31) rfl ?_); (try (refine gate_guard (by rfl) ?_; dsimp only)); refine goesL_ (some 48) rfl rfl Try.func31 (by kernel_rfl) rfl #[.agg #[.int .i64 a0_0, .slice (some ad) l0_1.length c0_1], .int .i64 x_.f1] rfl Gv.lm ?_; (with_reducible refine (impl_Wheel_isAhead.calls a0_0 _ _ l0_1 x_.f1 true _ (Kd.C_below HR0.out HB.out) HC0.out A3.out).mono ?_); rintro e wc ⟨rfl, hd⟩; refine ⟨_, rfl, ?_⟩; have hb := hd; clear hd; have n0_ := Gv.a0 (below_step Gv.bw hb); have n1_ := Gv.a0 (Gv.bb BK1.out hb); have n2_ := Gv.a0 (Gv.bb BK7.out hb); have n3_ := Gv.a0 (impl_WheelOk.OM_below HM.out hb); clear HB BK1 BK7 HM hb; have HB := n0_; have BK1 := n1_; have BK7 := n2_; have HM := n3_; clear n0_ n1_ n2_ n3_; (try clear hz1_0); have hz1_0 := (blk_cell BK1.out 0).trans (rfl : _ = (some (.int .i64 a0_0) : Option Value)); (try clear hz1_1); have hz1_1 := (blk_cell BK1.out 1).trans (rfl : _ = (some (.slice (some ad) l0_1.length c0_1) : Option Value)); (try clear hf1_0); have hf1_0 := blk_frozen BK1.out 0; (try clear hf1_1); have hf1_1 := blk_frozen BK1.out 1; (try clear hz7_0); have hz7_0 := (blk_cell BK7.out 0).trans (rfl : _ = (some (.int .i64 x_.f0) : Option Value)); (try clear hz7_1); have hz7_1 := (blk_cell BK7.out 1).trans (rfl : _ = (some (.int .i64 x_.f1) : Option Value)); (try clear hf7_0); have hf7_0 := blk_frozen BK7.out 0; (try clear hf7_1); have hf7_1 := blk_frozen BK7.out 1))
           go_ret
           exact ⟨by rw [← Hr.out]; rfl, HB.out⟩
          ·have h4a : (Int.tmod x_.f1 8 == (kk : Int)) = true := beq_iff_eq.2 h4
           have h4b : (Int.tmod x_.f1 8 != (kk : Int)) = false := bne_eq_false_iff_eq.2 h4
           have hN := HN.out
           unfold Gv.wkBad at hN
           rw [h1, h2, h3, h4a, Bool.not_true, Bool.false_or, Bool.false_or, Bool.false_or, if_neg (by decide)] at hN
           clear HN
           have HN := Gv.a0 hN
           have HI2 := Gv.a0 (show (seen ++ [x_.f0]).Nodup ∧ ∀ x, x ∈ seen ++ [x_.f0] → 0 ≤ x ∧ x < (10000 : Nat) from by
            obtain ⟨i1, i2⟩ := HI.out
            have hw := HW.out
            have hc : x_.f0 ∉ seen := by simpa using h2
            refine ⟨List.nodup_append.2 ⟨i1, by simp, fun a ha b hb e => hc (by simp at hb; rw [← hb, ← e]; exact ha)⟩, fun x hx => ?_⟩
            rw [List.mem_append, List.mem_singleton] at hx
            rcases hx with hx | rfl
            ·exact i2 x hx
            ·omega)
           have HLM := Gv.a0 (show seen.length < maxLen from by
            have := impl_WheelOk.nodup_le 10000 seen HI.out.1 HI.out.2
            unfold maxLen
            omega)
           clear hN HI h1 h2 h3 h4
           go_wp2_with (first | ((with_reducible refine gate_dst (N := 7) rfl ?_); refine box_event ?hg (N := 7) ?hd (cs := #[.int .i64 0, .int .i64 0]) (t := 50) ?hr ?_; (case hd => rfl); (case hg => rfl); (case hr => first | (go_simp; done) | (go_simp; rfl)); intro gb7 hg w7 hbox hb; have n0_ := Gv.a0 (below_step Gv.bw hb); have n1_ := Gv.a0 hbox; have n2_ := Gv.a0 ((Gv.ble hg Gv.bw : w.heap.size ≤ gb7)); have n3_ := Gv.a0 (Gv.bb BK1.out hb); have n4_ := Gv.a0 ((Gv.ngt hg (Gv.kb BK1.out) : gb7 ≠ gb1)); have n5_ := Gv.a0 (impl_WheelOk.OM_below HM.out hb); have n6_ := Gv.a0 (show gb7 ≠ bm from by rw [hg]; exact Nat.ne_of_gt (impl_WheelOk.OM_lt HM.out)); (try clear HB BK1 HM); clear hb hbox hg; have HB := n0_; have BK7 := n1_; have GE7 := n2_; have BK1 := n3_; have NB7_1 := n4_; have HM := n5_; have NM7 := n6_; clear n0_ n1_ n2_ n3_ n4_ n5_ n6_) | ((with_reducible refine gate_store (t := 50) (p := 7) rfl ?_); refine Gv.store_event rfl rfl rfl rfl rfl (Gv.kb BK7.out) (by kernel_rfl) rfl (by first | rfl | (simp; done) | (simp; and_intros <;> rfl)) ?_; intro w7s hbox hoth hbel; have n0_ := Gv.a0 hbox; have n1_ := Gv.a0 (hbel w Gv.bw GE7.out); have n2_ := Gv.a0 ((hoth gb1 NB7_1.out.symm).trans (Gv.kb BK1.out)); have n3_ := Gv.a0 (impl_WheelOk.OM_move HM.out (hoth bm NM7.out.symm)); clear BK7 HB BK1 HM hbox hoth hbel; have BK7 := n0_; have HB := n1_; have BK1 := n2_; have HM := n3_; clear n0_ n1_ n2_ n3_; (try clear hz1_0); have hz1_0 := (blk_cell BK1.out 0).trans (rfl : _ = (some (.int .i64 a0_0) : Option Value)); (try clear hz1_1); have hz1_1 := (blk_cell BK1.out 1).trans (rfl : _ = (some (.slice (some ad) l0_1.length c0_1) : Option Value)); (try clear hf1_0); have hf1_0 := blk_frozen BK1.out 0; (try clear hf1_1); have hf1_1 := blk_frozen BK1.out 1; (try clear hz7_0); have hz7_0 := (blk_cell BK7.out 0).trans (rfl : _ = (some (.int .i64 x_.f0) : Option Value)); (try clear hz7_1); have hz7_1 := (blk_cell BK7.out 1).trans (rfl : _ = (some (.int .i64 x_.f1) : Option Value)); (try clear hf7_0); have hf7_0 := blk_frozen BK7.out 0; (try clear hf7_1); have hf7_1 := blk_frozen BK7.out 1) | ((with_reducible refine gate_callee (f := 30) rfl ?_); (try (refine gate_guard (by rfl) ?_; dsimp only)); refine goesL_ (some 36) rfl rfl Try.func30 (by kernel_rfl) rfl #[.int .i64 x_.f0, .int .i64 0, .int .i64 9999] rfl Gv.lm ?_; (with_reducible refine (impl_within.calls x_.f0 0 9999 true _ A2.out).mono ?_); rintro e wc ⟨rfl, hd⟩; refine ⟨_, rfl, ?_⟩; have hb := hd.below; clear hd; have n0_ := Gv.a0 (below_step Gv.bw hb); have n1_ := Gv.a0 (Gv.bb BK1.out hb); have n2_ := Gv.a0 (Gv.bb BK7.out hb); have n3_ := Gv.a0 (impl_WheelOk.OM_below HM.out hb); clear HB BK1 BK7 HM hb; have HB := n0_; have BK1 := n1_; have BK7 := n2_; have HM := n3_; clear n0_ n1_ n2_ n3_; (try clear hz1_0); have hz1_0 := (blk_cell BK1.out 0).trans (rfl : _ = (some (.int .i64 a0_0) : Option Value)); (try clear hz1_1); have hz1_1 := (blk_cell BK1.out 1).trans (rfl : _ = (some (.slice (some ad) l0_1.length c0_1) : Option Value)); (try clear hf1_0); have hf1_0 := blk_frozen BK1.out 0; (try clear hf1_1); have hf1_1 := blk_frozen BK1.out 1; (try clear hz7_0); have hz7_0 := (blk_cell BK7.out 0).trans (rfl : _ = (some (.int .i64 x_.f0) : Option Value)); (try clear hz7_1); have hz7_1 := (blk_cell BK7.out 1).trans (rfl : _ = (some (.int .i64 x_.f1) : Option Value)); (try clear hf7_0); have hf7_0 := blk_frozen BK7.out 0; (try clear hf7_1); have hf7_1 := blk_frozen BK7.out 1) | ((with_reducible refine gate_dst (N := 42) rfl ?_); (try (refine gate_guard (by rfl) ?_; dsimp only)); refine impl_WheelOk.look rfl rfl rfl rfl HM.out HW.out.1 HW.out.2 ?_; rw [H2.out]) | ((with_reducible refine gate_callee (f := 31) rfl ?_); (try (refine gate_guard (by rfl) ?_; dsimp only)); refine goesL_ (some 48) rfl rfl Try.func31 (by kernel_rfl) rfl #[.agg #[.int .i64 a0_0, .slice (some ad) l0_1.length c0_1], .int .i64 x_.f1] rfl Gv.lm ?_; (with_reducible refine (impl_Wheel_isAhead.calls a0_0 _ _ l0_1 x_.f1 true _ (Kd.C_below HR0.out HB.out) HC0.out A3.out).mono ?_); rintro e wc ⟨rfl, hd⟩; refine ⟨_, rfl, ?_⟩; have hb := hd; clear hd; have n0_ := Gv.a0 (below_step Gv.bw hb); have n1_ := Gv.a0 (Gv.bb BK1.out hb); have n2_ := Gv.a0 (Gv.bb BK7.out hb); have n3_ := Gv.a0 (impl_WheelOk.OM_below HM.out hb); clear HB BK1 BK7 HM hb; have HB := n0_; have BK1 := n1_; have BK7 := n2_; have HM := n3_; clear n0_ n1_ n2_ n3_; (try clear hz1_0); have hz1_0 := (blk_cell BK1.out 0).trans (rfl : _ = (some (.int .i64 a0_0) : Option Value)); (try clear hz1_1); have hz1_1 := (blk_cell BK1.out 1).trans (rfl : _ = (some (.slice (some ad) l0_1.length c0_1) : Option Value)); (try clear hf1_0); have hf1_0 := blk_frozen BK1.out 0; (try clear hf1_1); have hf1_1 := blk_frozen BK1.out 1; (try clear hz7_0); have hz7_0 := (blk_cell BK7.out 0).trans (rfl : _ = (some (.int .i64 x_.f0) : Option Value)); (try clear hz7_1); have hz7_1 := (blk_cell BK7.out 1).trans (rfl : _ = (some (.int .i64 x_.f1) : Option Value)); (try clear hf7_0); have hf7_0 := blk_frozen BK7.out 0; (try clear hf7_1); have hf7_1 := blk_frozen BK7.out 1) | (at_mapUpdate; refine impl_WheelOk.upd rfl rfl rfl rfl rfl rfl HM.out HW.out.1 HW.out.2 H2.out HLM.out ?_; intro wm2 hM hoth hbel; have n0_ := Gv.a0 (hbel w HB.out GEM.out); have n1_ := Gv.a0 ((hoth gb1 (blk_lt BK1.out) NM1.out).trans BK1.out); have n2_ := Gv.a0 hM; clear HB BK1 HM hM hoth hbel; have HB := n0_; have BK1 := n1_; have HM := n2_; clear n0_ n1_ n2_))
           go_roundg ((rd_T47 l0_1 (kk : Int)).f0.length - (jj + 1))
           case measure => have := HLT2.out; have := HG2.out; omega
           case rel =>
            have hlm := HR1.out.2.1
            have h9 := HLT2.out
            exact ⟨jj + 1, seen ++ [x_.f0], by omega, by omega, by rw [show wrap64 ((jj : Int) + 1) = ((jj + 1 : Nat) : Int) from by unfold wrap64; omega], HN, HI2, HM, BK1, HB⟩
      ·have hltz2 : ¬ (jj : Int) < ((rd_T47 l0_1 (kk : Int)).f0.length : Int) := by omega
       have hN := HN.out
       rw [List.drop_eq_nil_of_le (by have := HJJ.out; omega), Gv.wkIn, Option.bind_some] at hN
       clear HN
       have HN := Gv.a0 hN
       clear hN
       go_wp2_with fail
       go_roundg (l0_1.length - (kk + 1))
       case measure => have := HLT.out; have := HG.out; omega
       case rel => 
        have h8 := HL.out
        have h9 := HLT.out
        exact ⟨kk + 1, seen, by omega, by omega, by rw [show wrap64 ((kk : Int) + 1) = ((kk + 1 : Nat) : Int) from by unfold wrap64; omega], HN, HI, HM, BK1, HB⟩
    ·have hltz : ¬ (kk : Int) < (l0_1.length : Int) := by omega
     have hN := HN.out
     rw [List.drop_eq_nil_of_le (by have := HKK.out; omega), Gv.wkOut] at hN
     obtain ⟨D, hown, hsz, hat⟩ := HM.out
     have HRr := Gv.a0 (show decide (seen.length ≤ 64) = r from hN)
     go_wp2_with (at_len; refine wpList_len_own _ rfl _ 52 rfl 3 4 Try.underlying52 _ bm _ D rfl hown ?_)
     go_ret
     exact ⟨by rw [← HRr.out]; exact congrArg (fun b => Ending.returned (Value.bool b)) (decide_eq_decide.2 (by omega)), HB.out⟩

/-! ### laws_FnExactWheelOk: function 4 -/
def laws_FnExactWheelOk.f (k : Nat) (a0_0 : Int) (l0_1 : List (S65)) : Option (Bool) := (laws_szWheel.f k a0_0 l0_1 1048576).bind fun t178 => (if t178 < 0 then (some true) else ((laws_toWheel.f k a0_0 l0_1).bind fun bt179 => ((spec_WheelOk.f k bt179.1 bt179.2).bind fun t183 => ((laws_toWheel.f k a0_0 l0_1).bind fun bt184 => ((impl_WheelOk.f bt184.1 bt184.2).bind fun t189 => (if (t189 != t183) = true then (none) else ((laws_toWheel.f k a0_0 l0_1).bind fun bt190 => ((laws_eqWheel.f k bt184.1 bt184.2 bt190.1 bt190.2).bind fun t194 => (if t194 = true then (some true) else (none))))))))))
theorem laws_FnExactWheelOk.mono : ∀ a0 a1 k, LeO (laws_FnExactWheelOk.f k a0 a1) (laws_FnExactWheelOk.f (k + 1) a0 a1) := by
 intro a0 a1 k
 unfold laws_FnExactWheelOk.f
 repeat' first
   | (with_reducible exact laws_eqWheel.mono _ _ _ _ _)
   | (with_reducible exact laws_szWheel.mono _ _ _ _)
   | (with_reducible exact laws_toWheel.mono _ _ _)
   | (with_reducible exact spec_WheelOk.mono _ _ _)
   | (with_reducible exact LeO.refl _)
   | (with_reducible exact LeO.none _)
   | (with_reducible refine LeO.ite ?_ ?_)
   | (with_reducible refine LeO.bind ?_ (fun _ => ?_))
   | exact laws_eqWheel.mono _ _ _ _ _
   | exact laws_szWheel.mono _ _ _ _
   | exact laws_toWheel.mono _ _ _
   | exact spec_WheelOk.mono _ _ _
   | exact LeO.none _
   | refine LeO.ite ?_ ?_
   | refine LeO.bind ?_ (fun _ => ?_)
set_option maxHeartbeats 8000000 in
set_option maxRecDepth 100000 in
theorem laws_FnExactWheelOk.calls (k : Nat) (a0_0 : Int) (A0_1 : Option Addr) (c0_1 : Nat) (l0_1 : List (S65)) (r : Bool) (w : World) (hr0_1 : Kd.C k65 w A0_1 l0_1.length l0_1) (hc0_1 : l0_1.length ≤ c0_1) (h : laws_FnExactWheelOk.f k a0_0 l0_1 = some r) :
  Calls Try.prog 4 #[.agg #[.int .i64 a0_0, .slice A0_1 l0_1.length c0_1]] w fun e w' => e = .returned (.bool r) ∧ Below w.heap.size w w' := by
 have hu31 := Try.underlying31
 have hu24 := Try.underlying24
 have HR0_1 := Gv.a0 hr0_1
 have HC0_1 := Gv.a0 hc0_1
 clear hr0_1 hc0_1
 have HB := Gv.a0 (Below.refl w.heap.size w)
 have H : ((laws_szWheel.f k a0_0 l0_1 1048576).bind fun t178 => (if t178 < 0 then (some true) else ((laws_toWheel.f k a0_0 l0_1).bind fun bt179 => ((spec_WheelOk.f k bt179.1 bt179.2).bind fun t183 => ((laws_toWheel.f k a0_0 l0_1).bind fun bt184 => ((impl_WheelOk.f bt184.1 bt184.2).bind fun t189 => (if (t189 != t183) = true then (none) else ((laws_toWheel.f k a0_0 l0_1).bind fun bt190 => ((laws_eqWheel.f k bt184.1 bt184.2 bt190.1 bt190.2).bind fun t194 => (if t194 = true then (some true) else (none))))))))))) = some r := h
 clear h
 replace H := Option.bind_eq_some_iff.mp H
 obtain ⟨t178, A20, H⟩ := H
 replace H : (if t178 < 0 then (some true) else ((laws_toWheel.f k a0_0 l0_1).bind fun bt179 => ((spec_WheelOk.f k bt179.1 bt179.2).bind fun t183 => ((laws_toWheel.f k a0_0 l0_1).bind fun bt184 => ((impl_WheelOk.f bt184.1 bt184.2).bind fun t189 => (if (t189 != t183) = true then (none) else ((laws_toWheel.f k a0_0 l0_1).bind fun bt190 => ((laws_eqWheel.f k bt184.1 bt184.2 bt190.1 bt190.2).bind fun t194 => (if t194 = true then (some true) else (none)))))))))) = some r := H
 have A2 := Gv.a0 A20
 clear A20
 by_cases c3 : t178 < 0
 ·rw [if_pos c3] at H
  have c3b0 : decide (t178 < 0) = true := decide_eq_true c3
  clear c3
  obtain rfl := Option.some.inj H
  go_enter Try.func4, Try.ntmps4
  go_wp2_with (first | ((with_reducible refine gate_dst (N := 1) rfl ?_); refine box_event ?hg (N := 1) ?hd (cs := #[.int .i64 a0_0, .slice A0_1 l0_1.length c0_1]) (t := 31) ?hr ?_; (case hd => rfl); (case hg => rfl); (case hr => first | (go_simp; done) | (go_simp; rfl)); intro gb177 hg w4 hbox hb; have n0_ := Gv.a0 (below_step Gv.bw hb); have n1_ := Gv.a0 (hbox); have n2_ := Gv.a0 ((Gv.ble hg Gv.bw : w.heap.size ≤ gb177)); have n3_ := Gv.a0 ((Gv.ble hg Gv.bw : w.heap.size ≤ gb177)); clear HB; have HB := n0_; have BK177 := n1_; have GW177 := n2_; have GE177 := n3_; clear n0_ n1_ n2_ n3_; clear hb hbox hg; have hcz5_0 : w4.cell? ⟨gb177, 0, none⟩ = some (.int .i64 a0_0) := (blk_cell BK177.out 0).trans rfl; have hcz5_1 : w4.cell? ⟨gb177, 1, none⟩ = some (.slice A0_1 l0_1.length c0_1) := (blk_cell BK177.out 1).trans rfl; have hfz5_0 := blk_frozen BK177.out 0; have hfz5_1 := blk_frozen BK177.out 1) | ((with_reducible refine gate_callee (f := 13) rfl ?_); refine goesL_ (some 9) rfl rfl Try.func13 (by kernel_rfl) rfl #[.agg #[.int .i64 a0_0, .slice A0_1 l0_1.length c0_1], .int .i64 1048576] rfl Gv.lm ?_; (with_reducible refine (laws_szWheel.calls k a0_0 _ _ l0_1 1048576 t178 _ ?side1 ?side2 A2.out).mono ?_); (case side1 => repeat (first | exact (Kd.C_below HR0_1.out HB.out) | (with_reducible refine Kd.C_alloc ?_ _) | (with_reducible refine Kd.C_drewN ?_ _) | (with_reducible refine Kd.C_drew ?_))); (case side2 => exact HC0_1.out); rintro e w6 ⟨rfl, hb⟩; refine ⟨_, rfl, ?_⟩; have n0_ := Gv.a0 (Gv.bb BK177.out hb); have n1_ := Gv.a0 (below_step Gv.bw hb); clear BK177; clear HB; have BK177 := n0_; have HB := n1_; clear n0_ n1_; (try clear hb); (try clear hb2); (try clear hk); (try clear hi)))
  go_ret
  exact ⟨Gv.rt, Gv.bw⟩
 ·rw [if_neg c3] at H
  have c3b0 : decide (t178 < 0) = false := decide_eq_false c3
  clear c3
  replace H := Option.bind_eq_some_iff.mp H
  obtain ⟨⟨t179, t180⟩, A70, H⟩ := H
  replace H : ((spec_WheelOk.f k t179 t180).bind fun t183 => ((laws_toWheel.f k a0_0 l0_1).bind fun bt184 => ((impl_WheelOk.f bt184.1 bt184.2).bind fun t189 => (if (t189 != t183) = true then (none) else ((laws_toWheel.f k a0_0 l0_1).bind fun bt190 => ((laws_eqWheel.f k bt184.1 bt184.2 bt190.1 bt190.2).bind fun t194 => (if t194 = true then (some true) else (none)))))))) = some r := H
  have A7 := Gv.a0 A70
  clear A70
  replace H := Option.bind_eq_some_iff.mp H
  obtain ⟨t183, A80, H⟩ := H
  replace H : ((laws_toWheel.f k a0_0 l0_1).bind fun bt184 => ((impl_WheelOk.f bt184.1 bt184.2).bind fun t189 => (if (t189 != t183) = true then (none) else ((laws_toWheel.f k a0_0 l0_1).bind fun bt190 => ((laws_eqWheel.f k bt184.1 bt184.2 bt190.1 bt190.2).bind fun t194 => (if t194 = true then (some true) else (none))))))) = some r := H
  have A8 := Gv.a0 A80
  clear A80
  replace H := Option.bind_eq_some_iff.mp H
  obtain ⟨⟨t184, t185⟩, A90, H⟩ := H
  replace H : ((impl_WheelOk.f t184 t185).bind fun t189 => (if (t189 != t183) = true then (none) else ((laws_toWheel.f k a0_0 l0_1).bind fun bt190 => ((laws_eqWheel.f k t184 t185 bt190.1 bt190.2).bind fun t194 => (if t194 = true then (some true) else (none)))))) = some r := H
  have A9 := Gv.a0 A90
  clear A90
  replace H := Option.bind_eq_some_iff.mp H
  obtain ⟨t189, A100, H⟩ := H
  replace H : (if (t189 != t183) = true then (none) else ((laws_toWheel.f k a0_0 l0_1).bind fun bt190 => ((laws_eqWheel.f k t184 t185 bt190.1 bt190.2).bind fun t194 => (if t194 = true then (some true) else (none))))) = some r := H
  have A10 := Gv.a0 A100
  clear A100
  by_cases c11 : (t189 != t183) = true
  ·rw [if_pos c11] at H
   exact absurd H (by simp)
  ·rw [if_neg c11] at H
   have c11b0 : (t189 != t183) = false := by simpa using c11
   (try (have c11b1 : decide (t189 = t183) = true := by simpa using c11))
   (try (have c11b2 : (t189 == t183) = true := by simpa using c11))
   clear c11
   replace H := Option.bind_eq_some_iff.mp H
   obtain ⟨⟨t190, t191⟩, A120, H⟩ := H
   replace H : ((laws_eqWheel.f k t184 t185 t190 t191).bind fun t194 => (if t194 = true then (some true) else (none))) = some r := H
   have A12 := Gv.a0 A120
   clear A120
   replace H := Option.bind_eq_some_iff.mp H
   obtain ⟨t194, A130, H⟩ := H
   replace H : (if t194 = true then (some true) else (none)) = some r := H
   have A13 := Gv.a0 A130
   clear A130
   by_cases c14 : t194 = true
   ·subst c14
    have H1 : (some true) = some r := by rw [if_pos rfl] at H; exact H
    clear H
    have H := H1
    clear H1
    obtain rfl := Option.some.inj H
    go_enter Try.func4, Try.ntmps4
    try go_wp2_with (first | ((with_reducible refine gate_dst (N := 1) rfl ?_); refine box_event ?hg (N := 1) ?hd (cs := #[.int .i64 a0_0, .slice A0_1 l0_1.length c0_1]) (t := 31) ?hr ?_; (case hd => rfl); (case hg => rfl); (case hr => first | (go_simp; done) | (go_simp; rfl)); intro gb177 hg w15 hbox hb; have n0_ := Gv.a0 (below_step Gv.bw hb); have n1_ := Gv.a0 (hbox); have n2_ := Gv.a0 ((Gv.ble hg Gv.bw : w.heap.size ≤ gb177)); have n3_ := Gv.a0 ((Gv.ble hg Gv.bw : w.heap.size ≤ gb177)); clear HB; have HB := n0_; have BK177 := n1_; have GW177 := n2_; have GE177 := n3_; clear n0_ n1_ n2_ n3_; clear hb hbox hg; have hcz16_0 : w15.cell? ⟨gb177, 0, none⟩ = some (.int .i64 a0_0) := (blk_cell BK177.out 0).trans rfl; have hcz16_1 : w15.cell? ⟨gb177, 1, none⟩ = some (.slice A0_1 l0_1.length c0_1) := (blk_cell BK177.out 1).trans rfl; have hfz16_0 := blk_frozen BK177.out 0; have hfz16_1 := blk_frozen BK177.out 1) | ((with_reducible refine gate_callee (f := 13) rfl ?_); refine goesL_ (some 9) rfl rfl Try.func13 (by kernel_rfl) rfl #[.agg #[.int .i64 a0_0, .slice A0_1 l0_1.length c0_1], .int .i64 1048576] rfl Gv.lm ?_; (with_reducible refine (laws_szWheel.calls k a0_0 _ _ l0_1 1048576 t178 _ ?side1 ?side2 A2.out).mono ?_); (case side1 => repeat (first | exact (Kd.C_below HR0_1.out HB.out) | (with_reducible refine Kd.C_alloc ?_ _) | (with_reducible refine Kd.C_drewN ?_ _) | (with_reducible refine Kd.C_drew ?_))); (case side2 => exact HC0_1.out); rintro e w17 ⟨rfl, hb⟩; refine ⟨_, rfl, ?_⟩; have n0_ := Gv.a0 (Gv.bb BK177.out hb); have n1_ := Gv.a0 (below_step Gv.bw hb); clear BK177; clear HB; have BK177 := n0_; have HB := n1_; clear n0_ n1_; (try clear hb); (try clear hb2); (try clear hk); (try clear hi); have hcz18_0 : w17.cell? ⟨gb177, 0, none⟩ = some (.int .i64 a0_0) := (blk_cell BK177.out 0).trans rfl; have hcz18_1 : w17.cell? ⟨gb177, 1, none⟩ = some (.slice A0_1 l0_1.length c0_1) := (blk_cell BK177.out 1).trans rfl; have hfz18_0 := blk_frozen BK177.out 0; have hfz18_1 := blk_frozen BK177.out 1) | ((with_reducible refine gate_callee (f := 15) rfl ?_); refine goesL_ (some 13) rfl rfl Try.func15 (by kernel_rfl) rfl #[.agg #[.int .i64 a0_0, .slice A0_1 l0_1.length c0_1]] rfl Gv.lm ?_; (with_reducible refine (laws_toWheel.calls k a0_0 _ _ l0_1 t179 t180 _ ?side1 ?side2 A7.out).mono ?_); (case side1 => repeat (first | exact (Kd.C_below HR0_1.out HB.out) | (with_reducible refine Kd.C_alloc ?_ _) | (with_reducible refine Kd.C_drewN ?_ _) | (with_reducible refine Kd.C_drew ?_))); (case side2 => exact HC0_1.out); rintro e w19 ⟨v181, rfl, ho0, hb⟩; refine ⟨_, rfl, ?_⟩; have n0_ := Gv.a0 (Kd.S_lower ho0 (below_size Gv.bw)); have n1_ := Gv.a0 (Gv.bb BK177.out hb); have n2_ := Gv.a0 (below_step Gv.bw hb); clear BK177; clear HB; have HO182 := n0_; have BK177 := n1_; have HB := n2_; clear n0_ n1_ n2_; (try clear hb); (try clear hb2); (try clear hk); (try clear hi); (try clear ho0); obtain ⟨Ao20, co20, eo20⟩ := Kd.S_slice HO182.out; subst eo20) | ((with_reducible refine gate_callee (f := 14) rfl ?_); refine goesL_ (some 14) rfl rfl Try.func14 (by kernel_rfl) rfl #[.agg #[.int .i64 t179, .slice Ao20 t180.length co20]] rfl Gv.lm ?_; (with_reducible refine (spec_WheelOk.calls k t179 _ _ t180 t183 _ ?side1 ?side2 A8.out).mono ?_); (case side1 => repeat (first | exact (Kd.S_reads' HO182.out).2.2 | (with_reducible refine Kd.C_alloc ?_ _) | (with_reducible refine Kd.C_drewN ?_ _) | (with_reducible refine Kd.C_drew ?_))); (case side2 => exact (Kd.S_reads' HO182.out).2.1); rintro e w21 ⟨rfl, hb⟩; refine ⟨_, rfl, ?_⟩; have n0_ := Gv.a0 (Kd.S_below (by (with_reducible repeat (first | apply Kd.S_alloc | apply Kd.S_drewN | apply Kd.S_drew)); exact HO182.out) hb); have n1_ := Gv.a0 (Gv.bb BK177.out hb); have n2_ := Gv.a0 (below_step Gv.bw hb); clear HO182; clear BK177; clear HB; have HO182 := n0_; have BK177 := n1_; have HB := n2_; clear n0_ n1_ n2_; (try clear hb); (try clear hb2); (try clear hk); (try clear hi); have hcz22_0 : w21.cell? ⟨gb177, 0, none⟩ = some (.int .i64 a0_0) := (blk_cell BK177.out 0).trans rfl; have hcz22_1 : w21.cell? ⟨gb177, 1, none⟩ = some (.slice A0_1 l0_1.length c0_1) := (blk_cell BK177.out 1).trans rfl; have hfz22_0 := blk_frozen BK177.out 0; have hfz22_1 := blk_frozen BK177.out 1) | ((with_reducible refine gate_callee (f := 15) rfl ?_); refine goesL_ (some 16) rfl rfl Try.func15 (by kernel_rfl) rfl #[.agg #[.int .i64 a0_0, .slice A0_1 l0_1.length c0_1]] rfl Gv.lm ?_; (with_reducible refine (laws_toWheel.calls k a0_0 _ _ l0_1 t184 t185 _ ?side1 ?side2 A9.out).mono ?_); (case side1 => repeat (first | exact (Kd.C_below HR0_1.out HB.out) | (with_reducible refine Kd.C_alloc ?_ _) | (with_reducible refine Kd.C_drewN ?_ _) | (with_reducible refine Kd.C_drew ?_))); (case side2 => exact HC0_1.out); rintro e w23 ⟨v186, rfl, ho0, hb⟩; refine ⟨_, rfl, ?_⟩; have n0_ := Gv.a0 (Kd.S_elder' (by (with_reducible repeat (first | apply Kd.S_alloc | apply Kd.S_drewN | apply Kd.S_drew)); exact HO182.out) (Kd.S_base ho0) hb); have n1_ := Gv.a0 (Kd.S_lower (Kd.S_new' ho0 (Kd.S_lt (by (with_reducible repeat (first | apply Kd.S_alloc | apply Kd.S_drewN | apply Kd.S_drew)); exact HO182.out))) (below_size Gv.bw)); have n2_ := Gv.a0 (Gv.bb BK177.out hb); have n3_ := Gv.a0 (below_step Gv.bw hb); clear HO182; clear BK177; clear HB; have HO182 := n0_; have HO187 := n1_; have BK177 := n2_; have HB := n3_; clear n0_ n1_ n2_ n3_; (try clear hb); (try clear hb2); (try clear hk); (try clear hi); (try clear ho0)) | ((with_reducible refine gate_dst (N := 5) rfl ?_); refine box_event ?hg (N := 5) ?hd (cs := #[.int .i64 0, .slice none 0 0]) (t := 24) ?hr ?_; (case hd => rfl); (case hg => rfl); (case hr => first | (go_simp; done) | (go_simp; rfl)); intro gb188 hg w24 hbox hb; have n0_ := Gv.a0 (Kd.S_below (by (with_reducible repeat (first | apply Kd.S_alloc | apply Kd.S_drewN | apply Kd.S_drew)); exact HO182.out) hb); have n1_ := Gv.a0 (Kd.S_below (by (with_reducible repeat (first | apply Kd.S_alloc | apply Kd.S_drewN | apply Kd.S_drew)); exact HO187.out) hb); have n2_ := Gv.a0 (Gv.bb BK177.out hb); have n3_ := Gv.a0 (below_step Gv.bw hb); have n4_ := Gv.a0 (hbox); have n5_ := Gv.a0 ((Gv.ble hg Gv.bw : w.heap.size ≤ gb188)); have n6_ := Gv.a0 ((Gv.ble hg Gv.bw : w.heap.size ≤ gb188)); have n7_ := Gv.a0 ((Gv.nlt hg (Gv.kb BK177.out) : gb177 ≠ gb188)); have n8_ := Gv.a0 ((Gv.ngt hg (Gv.kb BK177.out) : gb188 ≠ gb177)); clear HO182; clear HO187; clear BK177; clear HB; have HO182 := n0_; have HO187 := n1_; have BK177 := n2_; have HB := n3_; have BK188 := n4_; have GW188 := n5_; have GE188 := n6_; have NB177_188 := n7_; have NB188_177 := n8_; clear n0_ n1_ n2_ n3_ n4_ n5_ n6_ n7_ n8_; clear hb hbox hg; have hnb25 := NB188_177.out; have hnc25 := NB177_188.out; have hcz26_0 : w24.cell? ⟨gb188, 0, none⟩ = some (.int .i64 0) := (blk_cell BK188.out 0).trans rfl; have hcz26_1 : w24.cell? ⟨gb188, 1, none⟩ = some (.slice none 0 0) := (blk_cell BK188.out 1).trans rfl; have hfz26_0 := blk_frozen BK188.out 0; have hfz26_1 := blk_frozen BK188.out 1; obtain ⟨Ao27, co27, eo27⟩ := Kd.S_slice HO187.out; subst eo27) | ((with_reducible refine gate_callee (f := 16) rfl ?_); refine goesL_ (some 18) rfl rfl Try.func16 (by kernel_rfl) rfl #[.agg #[.int .i64 t184, .slice Ao27 t185.length co27]] rfl Gv.lm ?_; (with_reducible refine (impl_WheelOk.calls t184 _ _ t185 t189 _ ?side1 ?side2 A10.out).mono ?_); (case side1 => refine (Kd.S_reads' (e := 47) (base := w.heap.size) (ok := fun k_ => (True ∧ some k_ ≠ (.slice Ao20 t180.length co20 : Value).ownBlock)) (n := t185.length) (c := co27) ?_).2.2; exact (by (with_reducible repeat (first | apply Kd.S_alloc | apply Kd.S_drewN | apply Kd.S_drew)); exact (Kd.S_mono (Kd.S_far (p := ⟨gb188, 1, none⟩) (Kd.S_far (p := ⟨gb188, 0, none⟩) (Kd.S_types HO187.out BK188.out (by decide)) (fun _ hk => hk.2) (.int .i64 t184)) (fun _ hk => hk.2) (.slice Ao27 t185.length co27)) (fun _ h_ => h_.1)))); (case side2 => exact (Kd.S_reads' HO187.out).2.1); rintro e w28 ⟨rfl, hb⟩; refine ⟨_, rfl, ?_⟩; have n0_ := Gv.a0 (Kd.S_below (by (with_reducible repeat (first | apply Kd.S_alloc | apply Kd.S_drewN | apply Kd.S_drew)); exact (Kd.S_mono (Kd.S_far (p := ⟨gb188, 1, none⟩) (Kd.S_far (p := ⟨gb188, 0, none⟩) (Kd.S_types HO182.out BK188.out (by decide)) (fun _ hk => hk.2) (.int .i64 t184)) (fun _ hk => hk.2) (.slice Ao27 t185.length co27)) (fun _ h_ => h_.1))) hb); have n1_ := Gv.a0 (Kd.S_below (by (with_reducible repeat (first | apply Kd.S_alloc | apply Kd.S_drewN | apply Kd.S_drew)); exact (Kd.S_mono (Kd.S_far (p := ⟨gb188, 1, none⟩) (Kd.S_far (p := ⟨gb188, 0, none⟩) (Kd.S_types HO187.out BK188.out (by decide)) (fun _ hk => hk.2) (.int .i64 t184)) (fun _ hk => hk.2) (.slice Ao27 t185.length co27)) (fun _ h_ => h_.1))) hb); have n2_ := Gv.a0 (blk_below (g := gb177) (o := .cells #[.int .i64 a0_0, .slice A0_1 l0_1.length c0_1] 31 (0, 0)) Gv.bkf hb); have n3_ := Gv.a0 (blk_below (g := gb188) (o := .cells #[.int .i64 t184, .slice Ao27 t185.length co27] 24 (0, 0)) (by (with_reducible repeat (first | refine blk_drewN ?_ _ | refine blk_drew ?_ | refine blk_alloc ?_ _)); refine blk_put (cs := #[.int .i64 t184, .slice none 0 0]) ?_ 1 _ rfl; (with_reducible repeat (first | refine blk_drewN ?_ _ | refine blk_drew ?_ | refine blk_alloc ?_ _)); refine blk_put (cs := #[.int .i64 0, .slice none 0 0]) ?_ 0 _ rfl; (with_reducible repeat (first | refine blk_drewN ?_ _ | refine blk_drew ?_ | refine blk_alloc ?_ _)); exact BK188.out) hb); have n4_ := Gv.a0 (below_step Gv.bw hb); clear HO182; clear HO187; clear BK177; clear BK188; clear HB; have HO182 := n0_; have HO187 := n1_; have BK177 := n2_; have BK188 := n3_; have HB := n4_; clear n0_ n1_ n2_ n3_ n4_; (try clear hb); (try clear hb2); (try clear hk); (try clear hi)))
    have n0_ := Gv.a0 (Kd.S_drew HO182.out)
    have n1_ := Gv.a0 (Kd.S_drew HO187.out)
    have n2_ := Gv.a0 (blk_drew BK177.out)
    have n3_ := Gv.a0 (blk_drew BK188.out)
    have n4_ := Gv.a0 (below_drew1 HB.out)
    clear HO182
    clear HO187
    clear BK177
    clear BK188
    clear HB
    have HO182 := n0_
    have HO187 := n1_
    have BK177 := n2_
    have BK188 := n3_
    have HB := n4_
    clear n0_ n1_ n2_ n3_ n4_
    refine start_ (n := 5) (S := fun w' => w'.cell? ⟨gb188, 0, none⟩ = some (.int .i64 t184) ∧ w'.cell? ⟨gb188, 1, none⟩ = some (.slice Ao27 t185.length co27) ∧ w'.cell? ⟨gb177, 0, none⟩ = some (.int .i64 a0_0) ∧ w'.cell? ⟨gb177, 1, none⟩ = some (.slice A0_1 l0_1.length c0_1)) (ds := []) #[false, false, false, false, false] (by kernel_rfl) rfl rfl ⟨(blk_cell BK188.out 0).trans rfl, (blk_cell BK188.out 1).trans rfl, (blk_cell BK177.out 0).trans rfl, (blk_cell BK177.out 1).trans rfl⟩ (fun hHeld => ?_)
    generalize w28.drew = w29 at HO182 HO187 BK177 BK188 HB hHeld ⊢
    refine take_ (i := 0) (N := some 22) (v := ?_) (a' := ?_) #[true, false, false, false, false] rfl rfl (by kernel_rfl) (fun _ _ _ h => h) (Or.inl ⟨by rfl, ?_⟩) hHeld ?_ ?_
    rotate_left
    ·rintro w' ⟨s0, s1, s2, s3⟩
     go_simp
     with_reducible rfl
    rotate_left
    ·simp only [Act.put, List.setIfInBounds_toArray, List.set_cons_zero, List.set_cons_succ, i64_w, i32_w]
     rfl
    refine take_ (i := 1) (N := some 23) (v := ?_) (a' := ?_) #[true, true, false, false, false] rfl rfl (by kernel_rfl) (fun _ _ _ h => h) (Or.inl ⟨by rfl, ?_⟩) hHeld ?_ ?_
    rotate_left
    ·rintro w' ⟨s0, s1, s2, s3⟩
     go_simp
     with_reducible rfl
    rotate_left
    ·simp only [Act.put, List.setIfInBounds_toArray, List.set_cons_zero, List.set_cons_succ, i64_w, i32_w]
     rfl
    refine one_ (i := 2) (N := some 24) #[true, true, true, false, false] rfl rfl (by kernel_rfl) (by decide) (fun K hK => ?_)
    refine goes_ Try.func15 (by kernel_rfl) rfl #[.agg #[.int .i64 a0_0, .slice A0_1 l0_1.length c0_1]] (by rfl) rfl rfl Gv.lm ?_
    with_reducible refine (laws_toWheel.calls k a0_0 _ _ l0_1 t190 t191 _ ?side1 ?side2 A12.out).mono ?_
    (case side1 => repeat (first | exact (Kd.C_below HR0_1.out HB.out) | (with_reducible refine Kd.C_alloc ?_ _) | (with_reducible refine Kd.C_drewN ?_ _) | (with_reducible refine Kd.C_drew ?_)))
    (case side2 => exact HC0_1.out)
    rintro e w30 ⟨v192, rfl, ho0, hb⟩
    refine ⟨_, rfl, ?_⟩
    have n0_ := Gv.a0 (Kd.S_elder' (by (with_reducible repeat (first | apply Kd.S_alloc | apply Kd.S_drewN | apply Kd.S_drew)); exact HO182.out) (Kd.S_base ho0) hb)
    have n1_ := Gv.a0 (Kd.S_elder' (by (with_reducible repeat (first | apply Kd.S_alloc | apply Kd.S_drewN | apply Kd.S_drew)); exact HO187.out) (Kd.S_base ho0) hb)
    have n2_ := Gv.a0 (Kd.S_lower (Kd.S_new' (Kd.S_new' ho0 (Kd.S_lt (by (with_reducible repeat (first | apply Kd.S_alloc | apply Kd.S_drewN | apply Kd.S_drew)); exact HO182.out))) (Kd.S_lt (by (with_reducible repeat (first | apply Kd.S_alloc | apply Kd.S_drewN | apply Kd.S_drew)); exact HO187.out))) (below_size Gv.bw))
    have n3_ := Gv.a0 (Gv.bb BK177.out hb)
    have n4_ := Gv.a0 (Gv.bb BK188.out hb)
    have n5_ := Gv.a0 (below_step Gv.bw hb)
    clear HO182
    clear HO187
    clear BK177
    clear BK188
    clear HB
    have HO182 := n0_
    have HO187 := n1_
    have HO193 := n2_
    have BK177 := n3_
    have BK188 := n4_
    have HB := n5_
    clear n0_ n1_ n2_ n3_ n4_ n5_
    (try clear hb)
    (try clear hb2)
    (try clear hk)
    (try clear hi)
    (try clear ho0)
    obtain ⟨Ao31, co31, eo31⟩ := Kd.S_slice HO193.out
    (first | subst eo31 | (injection eo31 with f1_ f2_ f3_; have f4_ := f1_.symm; have f5_ := f3_.symm; clear f1_ f2_ f3_; subst f4_; subst f5_))
    refine hK.out _ _ ⟨(blk_cell BK188.out 0).trans rfl, (blk_cell BK188.out 1).trans rfl, (blk_cell BK177.out 0).trans rfl, (blk_cell BK177.out 1).trans rfl⟩ (fun hHeld => ?_)
    clear hK K
    refine norm_ (a' := ?_) ?_ ?_
    rotate_left
    ·show Act.put _ (some 24) _ = _
     simp only [Act.put, List.setIfInBounds_toArray, List.set_cons_zero, List.set_cons_succ, i64_w, i32_w]
     rfl
    refine one_ (i := 3) (N := some 25) #[true, true, true, true, false] rfl rfl (by kernel_rfl) (by decide) (fun K hK => ?_)
    refine goes_ Try.func10 (by kernel_rfl) rfl #[.agg #[.int .i64 t184, .slice Ao27 t185.length co27], .agg #[.int .i64 t190, .slice Ao31 t191.length co31]] (by rfl) rfl rfl Gv.lm ?_
    with_reducible refine (laws_eqWheel.calls k t184 _ _ t185 t190 _ _ t191 true _ ?side1 ?side2 ?side3 ?side4 A13.out).mono ?_
    (case side1 => repeat (first | exact (Kd.S_reads' HO187.out).2.2 | (with_reducible refine Kd.C_alloc ?_ _) | (with_reducible refine Kd.C_drewN ?_ _) | (with_reducible refine Kd.C_drew ?_)))
    (case side2 => exact (Kd.S_reads' HO187.out).2.1)
    (case side3 => repeat (first | exact (Kd.S_reads' HO193.out).2.2 | (with_reducible refine Kd.C_alloc ?_ _) | (with_reducible refine Kd.C_drewN ?_ _) | (with_reducible refine Kd.C_drew ?_)))
    (case side4 => exact (Kd.S_reads' HO193.out).2.1)
    rintro e w32 ⟨rfl, hb⟩
    refine ⟨_, rfl, ?_⟩
    have n0_ := Gv.a0 (Kd.S_below (by (with_reducible repeat (first | apply Kd.S_alloc | apply Kd.S_drewN | apply Kd.S_drew)); exact HO182.out) hb)
    have n1_ := Gv.a0 (Kd.S_below (by (with_reducible repeat (first | apply Kd.S_alloc | apply Kd.S_drewN | apply Kd.S_drew)); exact HO187.out) hb)
    have n2_ := Gv.a0 (Kd.S_below (by (with_reducible repeat (first | apply Kd.S_alloc | apply Kd.S_drewN | apply Kd.S_drew)); exact HO193.out) hb)
    have n3_ := Gv.a0 (Gv.bb BK177.out hb)
    have n4_ := Gv.a0 (Gv.bb BK188.out hb)
    have n5_ := Gv.a0 (below_step Gv.bw hb)
    clear HO182
    clear HO187
    clear HO193
    clear BK177
    clear BK188
    clear HB
    have HO182 := n0_
    have HO187 := n1_
    have HO193 := n2_
    have BK177 := n3_
    have BK188 := n4_
    have HB := n5_
    clear n0_ n1_ n2_ n3_ n4_ n5_
    (try clear hb)
    (try clear hb2)
    (try clear hk)
    (try clear hi)
    refine hK.out _ _ ⟨(blk_cell BK188.out 0).trans rfl, (blk_cell BK188.out 1).trans rfl, (blk_cell BK177.out 0).trans rfl, (blk_cell BK177.out 1).trans rfl⟩ (fun hHeld => ?_)
    clear hK K
    refine norm_ (a' := ?_) ?_ ?_
    rotate_left
    ·show Act.put _ (some 25) _ = _
     simp only [Act.put, List.setIfInBounds_toArray, List.set_cons_zero, List.set_cons_succ, i64_w, i32_w]
     rfl
    refine pure_ (i := 4) (N := some 26) (v := ?_) (a' := ?_) #[true, true, true, true, true] rfl rfl (by kernel_rfl) (fun _ _ _ h => h) (Or.inl ⟨by rfl, ?_⟩) ?_ ?_
    rotate_left
    ·intro w'
     go_simp
     with_reducible rfl
    rotate_left
    ·simp only [Act.put, List.setIfInBounds_toArray, List.set_cons_zero, List.set_cons_succ, i64_w, i32_w]
     rfl
    refine done_ (by kernel_rfl) ?_
    try go_wp2
    go_ret
    exact ⟨Gv.rt, Gv.bw⟩
   ·replace c14 := Bool.eq_false_iff.mpr c14
    subst c14
    have H1 : (none) = some r := by rw [if_neg (show ¬ (false = true) by decide)] at H; exact H
    clear H
    have H := H1
    clear H1
    exact absurd H (by simp)

end Go.Proofs.Ytbfbfaoolkbodaa.PWo
