/- Plain Lean functions of a law's Go functions, their contracts, by a program of this session (wip/pr.py over the kit's print). -/
import Derived.Test.YtfnpodebjejhpaaPTpx0
import Derived.Test.YtfnpodebjejhpaaPTpx3
import Derived.Test.YtfnpodebjejhpaaPTpx5
namespace Go.Proofs.Ytfnpodebjejhpaa.PTp
open Go.RowKit Go.Proofs.YtfnpodebjejhpaaW.PrintWords Go.Proofs.YtfnpodebjejhpaaW.PrintLast Go.Proofs.YtfnpodebjejhpaaW.PrintMore
attribute [local go_sem] max2_int min2_int max_two min_two max_three min_three max_four min_four   -- for this text's walks alone
set_option linter.unusedVariables false
set_option linter.unusedSimpArgs false

/-! ### spec_TablePut: function 38 -/
def spec_TablePut.j0 : Nat → Int → Bool → Int → List (S75) → Int → Int → Int → Int → Int → Int → Int → Int → Int → Int → Int → Int → Int → Int → Option (Int × (List (S75)) × Int)
 | 0, _, _, _, _, _, _, _, _, _, _, _, _, _, _, _, _, _, _ => none
 | k + 1, x2, x25, x329000, x329001, x330000, x330001, x330002, x330003, x330004, x330005, x330006, x330007, x330008, x330009, x330010, x330011, x330012, x330013 => if x25 = true then (some (0, ([] : List (S75)), 1)) else ((spec_l11Copy.f x329000 x329001).bind fun bt333 => ((spec_l11Place.f k x329000 x329001 x330000 x330001 x330002 x330003 x330004 x330005 x330006 x330007 x330008 x330009 x330010 x330011 x330012 x330013).bind fun t338 => (if t338 ≥ 0 then (if 0 ≤ t338 then (if t338 < (bt333.2.length : Int) then (some (bt333.1, (bt333.2.set (t338 : Int).toNat (⟨(rd_T75 bt333.2 t338).f0, (⟨(rd_T75 bt333.2 t338).f1.f0, (⟨(⟨(rd_T75 bt333.2 t338).f1.f1.f0.f0, (rd_T75 bt333.2 t338).f1.f1.f0.f1, (rd_T75 bt333.2 t338).f1.f1.f0.f2, (rd_T75 bt333.2 t338).f1.f1.f0.f3, (rd_T75 bt333.2 t338).f1.f1.f0.f4⟩ : S29), (⟨(rd_T75 bt333.2 t338).f1.f1.f1.f0, (rd_T75 bt333.2 t338).f1.f1.f1.f1, (rd_T75 bt333.2 t338).f1.f1.f1.f2, (rd_T75 bt333.2 t338).f1.f1.f1.f3, (rd_T75 bt333.2 t338).f1.f1.f1.f4⟩ : S29), (rd_T75 bt333.2 t338).f1.f1.f2, (rd_T75 bt333.2 t338).f1.f1.f3, (rd_T75 bt333.2 t338).f1.f1.f4⟩ : S31)⟩ : S33), x2⟩ : S75)), 0)) else (none)) else (none)) else ((spec_l11Count.f k x329000 x329001).bind fun t340 => (if (wrap64 (4 * (wrap64 (t340 + 1)))) > (wrap64 (3 * (x329001.length : Int))) then (some (0, ([] : List (S75)), 2)) else ((spec_l11Into.f k bt333.1 bt333.2 x330000 x330001 x330002 x330003 x330004 x330005 x330006 x330007 x330008 x330009 x330010 x330011 x330012 x330013 x2).bind fun t341 => (some (bt333.1, t341, 0))))))))
def spec_TablePut.f (k : Nat) (a0_0 : Int) (l0_1 : List (S75)) (a1_0 : Int) (a1_1 : Int) (a1_2 : Int) (a1_3 : Int) (a1_4 : Int) (a1_5 : Int) (a1_6 : Int) (a1_7 : Int) (a1_8 : Int) (a1_9 : Int) (a1_10 : Int) (a1_11 : Int) (a1_12 : Int) (a1_13 : Int) (a2 : Int) : Option (Int × (List (S75)) × Int) := (spec_TableOk.f k a0_0 l0_1).bind fun t331 => (if t331 = true then ((spec_FlowKeyOk.f a1_0 a1_1 a1_2 a1_3 a1_4 a1_5 a1_6 a1_7 a1_8 a1_9 a1_10 a1_11 a1_12 a1_13).bind fun t332 => (if t332 = true then (if a2 < 0 then (spec_TablePut.j0 k a2 true a0_0 l0_1 a1_0 a1_1 a1_2 a1_3 a1_4 a1_5 a1_6 a1_7 a1_8 a1_9 a1_10 a1_11 a1_12 a1_13) else (spec_TablePut.j0 k a2 (decide (a2 > 1000000000000)) a0_0 l0_1 a1_0 a1_1 a1_2 a1_3 a1_4 a1_5 a1_6 a1_7 a1_8 a1_9 a1_10 a1_11 a1_12 a1_13)) else (spec_TablePut.j0 k a2 true a0_0 l0_1 a1_0 a1_1 a1_2 a1_3 a1_4 a1_5 a1_6 a1_7 a1_8 a1_9 a1_10 a1_11 a1_12 a1_13))) else (spec_TablePut.j0 k a2 true a0_0 l0_1 a1_0 a1_1 a1_2 a1_3 a1_4 a1_5 a1_6 a1_7 a1_8 a1_9 a1_10 a1_11 a1_12 a1_13))
def spec_TablePut.T8 : Bool × List (List Nat × List Nat) := (true, [([], []), ([0], [0]), ([1], [1]), ([2], [2]), ([], []), ([4], [4]), ([5], [5]), ([6], [6]), ([3, 7], [3, 7])])
def spec_TablePut.B8 : List Nat := [0, 1, 3, 7, 0, 16, 48, 112, 255]
theorem spec_TablePut.tab8 : rtab .any (opsOf Try.f38 8) = spec_TablePut.T8 := by kernel_rfl
theorem spec_TablePut.bits8 : waitsOk spec_TablePut.T8.2 spec_TablePut.B8 = true := by kernel_rfl
set_option maxHeartbeats 8000000 in
set_option maxRecDepth 100000 in
theorem spec_TablePut.calls (k : Nat) (a0_0 : Int) (A0_1 : Option Addr) (c0_1 : Nat) (l0_1 : List (S75)) (a1_0 : Int) (a1_1 : Int) (a1_2 : Int) (a1_3 : Int) (a1_4 : Int) (a1_5 : Int) (a1_6 : Int) (a1_7 : Int) (a1_8 : Int) (a1_9 : Int) (a1_10 : Int) (a1_11 : Int) (a1_12 : Int) (a1_13 : Int) (a2 : Int) (r1 : Int) (r2 : List (S75)) (r3 : Int) (w : World) (hr0_1 : Kd.C k75 w A0_1 l0_1.length l0_1) (hc0_1 : l0_1.length ≤ c0_1) (h : spec_TablePut.f k a0_0 l0_1 a1_0 a1_1 a1_2 a1_3 a1_4 a1_5 a1_6 a1_7 a1_8 a1_9 a1_10 a1_11 a1_12 a1_13 a2 = some (r1, r2, r3)) :
  Calls Try.prog 38 #[.agg #[.int .i64 a0_0, .slice A0_1 l0_1.length c0_1], .agg #[.int .i64 a1_0, .int .i64 a1_1, .int .i64 a1_2, .int .i64 a1_3, .int .i64 a1_4, .int .i64 a1_5, .int .i64 a1_6, .int .i64 a1_7, .int .i64 a1_8, .int .i64 a1_9, .int .i64 a1_10, .int .i64 a1_11, .int .i64 a1_12, .int .i64 a1_13], .int .i64 a2] w fun e w' => ∃ v1_ : Value, e = .returned (.tuple #[.agg #[.int .i64 r1, v1_], .int .i64 r3]) ∧ Kd.R k75 75 w' w.heap.size (fun _ => True) v1_ r2 ∧ Below w.heap.size w w' := by
 have hu40 := Try.underlying40
 have hu33 := Try.underlying33
 have HR0_1 := Gv.a0 hr0_1
 have HC0_1 := Gv.a0 hc0_1
 clear hr0_1 hc0_1
 have HB := Gv.a0 (Below.refl w.heap.size w)
 have H : ((spec_TableOk.f k a0_0 l0_1).bind fun t331 => (if t331 = true then ((spec_FlowKeyOk.f a1_0 a1_1 a1_2 a1_3 a1_4 a1_5 a1_6 a1_7 a1_8 a1_9 a1_10 a1_11 a1_12 a1_13).bind fun t332 => (if t332 = true then (if a2 < 0 then (spec_TablePut.j0 k a2 true a0_0 l0_1 a1_0 a1_1 a1_2 a1_3 a1_4 a1_5 a1_6 a1_7 a1_8 a1_9 a1_10 a1_11 a1_12 a1_13) else (spec_TablePut.j0 k a2 (decide (a2 > 1000000000000)) a0_0 l0_1 a1_0 a1_1 a1_2 a1_3 a1_4 a1_5 a1_6 a1_7 a1_8 a1_9 a1_10 a1_11 a1_12 a1_13)) else (spec_TablePut.j0 k a2 true a0_0 l0_1 a1_0 a1_1 a1_2 a1_3 a1_4 a1_5 a1_6 a1_7 a1_8 a1_9 a1_10 a1_11 a1_12 a1_13))) else (spec_TablePut.j0 k a2 true a0_0 l0_1 a1_0 a1_1 a1_2 a1_3 a1_4 a1_5 a1_6 a1_7 a1_8 a1_9 a1_10 a1_11 a1_12 a1_13))) = some (r1, r2, r3) := h
 clear h
 have HC4 := Gv.a0 H
 clear H
 go_enter Try.func38, Try.ntmps38
 go_upto_region 1 with (first | ((with_reducible refine gate_dst (N := 3) rfl ?_); refine Gv.bev 3 40 #[.int .i64 a0_0, .slice A0_1 l0_1.length c0_1] ?_; intro gb328 hg w5 hbox hb; have BK328 := Gv.a0 (hbox); have GW328 := Gv.a0 ((Gv.ble hg Gv.bw : w.heap.size ≤ gb328)); have GE328 := Gv.a0 ((Gv.ble hg Gv.bw : w.heap.size ≤ gb328)); replace HB := Gv.a0 (below_step Gv.bw hb); clear hb hbox hg) | ((with_reducible refine gate_dst (N := 4) rfl ?_); refine Gv.bev 4 33 #[.int .i64 a1_0, .int .i64 a1_1, .int .i64 a1_2, .int .i64 a1_3, .int .i64 a1_4, .int .i64 a1_5, .int .i64 a1_6, .int .i64 a1_7, .int .i64 a1_8, .int .i64 a1_9, .int .i64 a1_10, .int .i64 a1_11, .int .i64 a1_12, .int .i64 a1_13] ?_; intro gb329 hg w6 hbox hb; have BK329 := Gv.a0 (hbox); have GW329 := Gv.a0 ((Gv.ble hg Gv.bw : w.heap.size ≤ gb329)); have GE329 := Gv.a0 ((Gv.ble hg Gv.bw : w.heap.size ≤ gb329)); replace HB := Gv.a0 (below_step Gv.bw hb); have NB328_329 := Gv.a0 ((Gv.nlt hg (Gv.kb BK328.out) : gb328 ≠ gb329)); have NB329_328 := Gv.a0 ((Gv.ngt hg (Gv.kb BK328.out) : gb329 ≠ gb328)); replace BK328 := Gv.b1 BK328 hb; clear hb hbox hg) | ((with_reducible refine gate_store (t := 33) (p := 4) rfl ?_); refine Gv.store_event rfl rfl rfl rfl rfl (Gv.kb BK329.out) (by kernel_rfl) rfl (by simp; and_intros <;> rfl) ?_; intro w6s hbox hoth hbel; replace BK329 := Gv.a0 (hbox); replace HB := Gv.a0 (hbel w Gv.bw GE329.out); replace BK328 := Gv.a0 ((hoth gb328 NB328_329.out).trans (Gv.kb BK328.out)); clear hbox hoth hbel) | ((with_reducible refine gate_dst (N := 6) rfl ?_); refine Gv.bev 6 40 #[.int .i64 0, .slice none 0 0] ?_; intro gb330 hg w7 hbox hb; have BK330 := Gv.a0 (hbox); have GW330 := Gv.a0 ((Gv.ble hg Gv.bw : w.heap.size ≤ gb330)); have GE330 := Gv.a0 ((Gv.ble hg Gv.bw : w.heap.size ≤ gb330)); replace HB := Gv.a0 (below_step Gv.bw hb); have NB328_330 := Gv.a0 ((Gv.nlt hg (Gv.kb BK328.out) : gb328 ≠ gb330)); have NB330_328 := Gv.a0 ((Gv.ngt hg (Gv.kb BK328.out) : gb330 ≠ gb328)); replace BK328 := Gv.b1 BK328 hb; have NB329_330 := Gv.a0 ((Gv.nlt hg (Gv.kb BK329.out) : gb329 ≠ gb330)); have NB330_329 := Gv.a0 ((Gv.ngt hg (Gv.kb BK329.out) : gb330 ≠ gb329)); replace BK329 := Gv.b1 BK329 hb; clear hb hbox hg) | ((with_reducible refine Gv.gate_load (t := 33) rfl ?_); (try (refine gate_guard (by rfl) ?_; dsimp only)); refine wpList_load_row rfl 33 _ rfl gb329 rfl 33 _ _ _ (by first | exact Gv.kb0 BK329.out | exact Gv.kb1 (Gv.kb0 BK329.out)) Try.underlying33 rfl (by kernel_rfl) ?_) | ((with_reducible refine Gv.gate_load (t := 31) rfl ?_); (try (refine gate_guard (by rfl) ?_; dsimp only)); refine Gv.sub_event (g := gb329) 13 rfl rfl rfl (by first | exact Gv.kb0 BK329.out | exact Gv.kb1 (Gv.kb0 BK329.out)) Try.underlying31 rfl (by kernel_rfl) ?_))
 (try simp only [Act.put, List.setIfInBounds_toArray, List.set_cons_zero, List.set_cons_succ])
 go_cut [25] (fun v25 wc => ∃ (kq : Nat) (x25_3 : Bool), v25 = .bool x25_3 ∧ Aside0 (spec_TablePut.j0 kq a2 x25_3 a0_0 l0_1 a1_0 a1_1 a1_2 a1_3 a1_4 a1_5 a1_6 a1_7 a1_8 a1_9 a1_10 a1_11 a1_12 a1_13 = some (r1, r2, r3)) ∧ Aside0 (kq ≤ k) ∧ Aside0 (wc.heap[gb328]? = some (.cells #[.int .i64 a0_0, (.slice A0_1 l0_1.length c0_1)] 40 (0, 0))) ∧ Aside0 (wc.heap[gb329]? = some (.cells #[.int .i64 a1_0, .int .i64 a1_1, .int .i64 a1_2, .int .i64 a1_3, .int .i64 a1_4, .int .i64 a1_5, .int .i64 a1_6, .int .i64 a1_7, .int .i64 a1_8, .int .i64 a1_9, .int .i64 a1_10, .int .i64 a1_11, .int .i64 a1_12, .int .i64 a1_13] 33 (0, 0))) ∧ Aside0 (wc.heap[gb330]? = some (.cells #[.int .i64 0, (.slice none 0 0)] 40 (0, 0))) ∧ Aside0 (Below w.heap.size w wc))
 case first =>
  have H := HC4.out
  clear HC4
  replace H := Option.bind_eq_some_iff.mp H
  obtain ⟨t331, A80, H⟩ := H
  (try dsimp only at H)
  have A8 := Gv.a0 A80
  clear A80
  by_cases c9 : t331 = true
  ·subst c9
   rw [if_pos rfl] at H
   (try dsimp only at H)
   replace H := Option.bind_eq_some_iff.mp H
   obtain ⟨t332, A100, H⟩ := H
   (try dsimp only at H)
   have A10 := Gv.a0 A100
   clear A100
   by_cases c11 : t332 = true
   ·subst c11
    rw [if_pos rfl] at H
    (try dsimp only at H)
    by_cases c12 : a2 < 0
    ·rw [if_pos c12] at H
     have c12b0 : decide (a2 < 0) = true := decide_eq_true c12
     clear c12
     (first | rw [c12b0] | (simp only [i64_w, i32_w]; rw [c12b0]) | skip)
     have H' := Gv.a0 H
     clear H
     have hnb13 := NB328_329.out
     have hnc13 := NB329_328.out
     have hnb14 := NB328_330.out
     have hnc14 := NB330_328.out
     have hcz15_0 : w7.cell? ⟨gb328, 0, none⟩ = some (.int .i64 a0_0) := (blk_cell BK328.out 0).trans rfl
     have hcz15_1 : w7.cell? ⟨gb328, 1, none⟩ = some (.slice A0_1 l0_1.length c0_1) := (blk_cell BK328.out 1).trans rfl
     have hfz15_0 := blk_frozen BK328.out 0
     have hfz15_1 := blk_frozen BK328.out 1
     go_wp2_with (first | ((with_reducible refine gate_callee (f := 24) rfl ?_); refine goesL_ (some 11) rfl rfl Try.func24 (by kernel_rfl) rfl #[.agg #[.int .i64 a0_0, .slice A0_1 l0_1.length c0_1]] rfl Gv.lm ?_; (with_reducible refine (spec_TableOk.calls k a0_0 _ _ l0_1 true _ ?side1 ?side2 A8.out).mono ?_); (case side1 => exact Gv.sd (Kd.C_below HR0_1.out HB.out)); (case side2 => exact HC0_1.out); rintro e w16 ⟨rfl, hb⟩; refine ⟨_, rfl, ?_⟩; replace BK328 := Gv.b1 BK328 hb; replace BK329 := Gv.b1 BK329 hb; replace BK330 := Gv.b1 BK330 hb; replace HB := Gv.a0 (below_step Gv.bw hb); clear hb; have hnb17 := NB329_330.out; have hnc17 := NB330_329.out; obtain ⟨hcz18_0, hcz18_1, hcz18_2, hcz18_3, hcz18_4, hcz18_5, hcz18_6, hcz18_7, hcz18_8, hcz18_9, hcz18_10, hcz18_11, hcz18_12, hcz18_13⟩ := Gv.c14 BK329.out; obtain ⟨hfz18_0, hfz18_1, hfz18_2, hfz18_3, hfz18_4, hfz18_5, hfz18_6, hfz18_7, hfz18_8, hfz18_9, hfz18_10, hfz18_11, hfz18_12, hfz18_13⟩ := Gv.f14 BK329.out) | (go_at_call 13; (with_reducible refine (spec_FlowKeyOk.calls a1_0 a1_1 a1_2 a1_3 a1_4 a1_5 a1_6 a1_7 a1_8 a1_9 a1_10 a1_11 a1_12 a1_13 true _ A10.out).mono ?_); rintro e w19 ⟨rfl, hb⟩; replace BK328 := Gv.b1 BK328 hb; replace BK329 := Gv.b1 BK329 hb; replace BK330 := Gv.b1 BK330 hb; replace HB := Gv.a0 (below_step Gv.bw hb); clear hb) | ((with_reducible refine Gv.gate_load (t := 33) rfl ?_); (try (refine gate_guard (by rfl) ?_; dsimp only)); refine wpList_load_row rfl 33 _ rfl gb329 rfl 33 _ _ _ (by first | exact Gv.kb0 BK329.out | exact Gv.kb1 (Gv.kb0 BK329.out)) Try.underlying33 rfl (by kernel_rfl) ?_) | ((with_reducible refine Gv.gate_load (t := 31) rfl ?_); (try (refine gate_guard (by rfl) ?_; dsimp only)); refine Gv.sub_event (g := gb329) 13 rfl rfl rfl (by first | exact Gv.kb0 BK329.out | exact Gv.kb1 (Gv.kb0 BK329.out)) Try.underlying31 rfl (by kernel_rfl) ?_))
     go_meet
     case rel => exact ⟨_, (true), Gv.rq, H', ⟨by first | omega | exact Nat.le_refl _⟩, ⟨by (with_reducible repeat (first | refine blk_drewN ?_ _ | refine blk_drew ?_ | refine blk_alloc ?_ _)); exact BK328.out⟩, ⟨by (with_reducible repeat (first | refine blk_drewN ?_ _ | refine blk_drew ?_ | refine blk_alloc ?_ _)); exact BK329.out⟩, ⟨by (with_reducible repeat (first | refine blk_drewN ?_ _ | refine blk_drew ?_ | refine blk_alloc ?_ _)); exact BK330.out⟩, ⟨Gv.bw⟩⟩
    ·rw [if_neg c12] at H
     have c12b0 : decide (a2 < 0) = false := decide_eq_false c12
     clear c12
     (first | rw [c12b0] | (simp only [i64_w, i32_w]; rw [c12b0]) | skip)
     have H' := Gv.a0 H
     clear H
     have hnb20 := NB328_329.out
     have hnc20 := NB329_328.out
     have hnb21 := NB328_330.out
     have hnc21 := NB330_328.out
     have hcz22_0 : w7.cell? ⟨gb328, 0, none⟩ = some (.int .i64 a0_0) := (blk_cell BK328.out 0).trans rfl
     have hcz22_1 : w7.cell? ⟨gb328, 1, none⟩ = some (.slice A0_1 l0_1.length c0_1) := (blk_cell BK328.out 1).trans rfl
     have hfz22_0 := blk_frozen BK328.out 0
     have hfz22_1 := blk_frozen BK328.out 1
     go_wp2_with (first | ((with_reducible refine gate_callee (f := 24) rfl ?_); refine goesL_ (some 11) rfl rfl Try.func24 (by kernel_rfl) rfl #[.agg #[.int .i64 a0_0, .slice A0_1 l0_1.length c0_1]] rfl Gv.lm ?_; (with_reducible refine (spec_TableOk.calls k a0_0 _ _ l0_1 true _ ?side1 ?side2 A8.out).mono ?_); (case side1 => exact Gv.sd (Kd.C_below HR0_1.out HB.out)); (case side2 => exact HC0_1.out); rintro e w23 ⟨rfl, hb⟩; refine ⟨_, rfl, ?_⟩; replace BK328 := Gv.b1 BK328 hb; replace BK329 := Gv.b1 BK329 hb; replace BK330 := Gv.b1 BK330 hb; replace HB := Gv.a0 (below_step Gv.bw hb); clear hb; have hnb24 := NB329_330.out; have hnc24 := NB330_329.out; obtain ⟨hcz25_0, hcz25_1, hcz25_2, hcz25_3, hcz25_4, hcz25_5, hcz25_6, hcz25_7, hcz25_8, hcz25_9, hcz25_10, hcz25_11, hcz25_12, hcz25_13⟩ := Gv.c14 BK329.out; obtain ⟨hfz25_0, hfz25_1, hfz25_2, hfz25_3, hfz25_4, hfz25_5, hfz25_6, hfz25_7, hfz25_8, hfz25_9, hfz25_10, hfz25_11, hfz25_12, hfz25_13⟩ := Gv.f14 BK329.out) | (go_at_call 13; (with_reducible refine (spec_FlowKeyOk.calls a1_0 a1_1 a1_2 a1_3 a1_4 a1_5 a1_6 a1_7 a1_8 a1_9 a1_10 a1_11 a1_12 a1_13 true _ A10.out).mono ?_); rintro e w26 ⟨rfl, hb⟩; replace BK328 := Gv.b1 BK328 hb; replace BK329 := Gv.b1 BK329 hb; replace BK330 := Gv.b1 BK330 hb; replace HB := Gv.a0 (below_step Gv.bw hb); clear hb) | ((with_reducible refine Gv.gate_load (t := 33) rfl ?_); (try (refine gate_guard (by rfl) ?_; dsimp only)); refine wpList_load_row rfl 33 _ rfl gb329 rfl 33 _ _ _ (by first | exact Gv.kb0 BK329.out | exact Gv.kb1 (Gv.kb0 BK329.out)) Try.underlying33 rfl (by kernel_rfl) ?_) | ((with_reducible refine Gv.gate_load (t := 31) rfl ?_); (try (refine gate_guard (by rfl) ?_; dsimp only)); refine Gv.sub_event (g := gb329) 13 rfl rfl rfl (by first | exact Gv.kb0 BK329.out | exact Gv.kb1 (Gv.kb0 BK329.out)) Try.underlying31 rfl (by kernel_rfl) ?_))
     go_meet
     case rel => exact ⟨_, (decide (a2 > 1000000000000)), Gv.rq, H', ⟨by first | omega | exact Nat.le_refl _⟩, ⟨by (with_reducible repeat (first | refine blk_drewN ?_ _ | refine blk_drew ?_ | refine blk_alloc ?_ _)); exact BK328.out⟩, ⟨by (with_reducible repeat (first | refine blk_drewN ?_ _ | refine blk_drew ?_ | refine blk_alloc ?_ _)); exact BK329.out⟩, ⟨by (with_reducible repeat (first | refine blk_drewN ?_ _ | refine blk_drew ?_ | refine blk_alloc ?_ _)); exact BK330.out⟩, ⟨Gv.bw⟩⟩
   ·replace c11 := Bool.eq_false_iff.mpr c11
    subst c11
    rw [if_neg (show ¬ (false = true) by decide)] at H
    (try dsimp only at H)
    have H' := Gv.a0 H
    clear H
    have hnb27 := NB328_329.out
    have hnc27 := NB329_328.out
    have hnb28 := NB328_330.out
    have hnc28 := NB330_328.out
    have hcz29_0 : w7.cell? ⟨gb328, 0, none⟩ = some (.int .i64 a0_0) := (blk_cell BK328.out 0).trans rfl
    have hcz29_1 : w7.cell? ⟨gb328, 1, none⟩ = some (.slice A0_1 l0_1.length c0_1) := (blk_cell BK328.out 1).trans rfl
    have hfz29_0 := blk_frozen BK328.out 0
    have hfz29_1 := blk_frozen BK328.out 1
    go_wp2_with (first | ((with_reducible refine gate_callee (f := 24) rfl ?_); refine goesL_ (some 11) rfl rfl Try.func24 (by kernel_rfl) rfl #[.agg #[.int .i64 a0_0, .slice A0_1 l0_1.length c0_1]] rfl Gv.lm ?_; (with_reducible refine (spec_TableOk.calls k a0_0 _ _ l0_1 true _ ?side1 ?side2 A8.out).mono ?_); (case side1 => exact Gv.sd (Kd.C_below HR0_1.out HB.out)); (case side2 => exact HC0_1.out); rintro e w30 ⟨rfl, hb⟩; refine ⟨_, rfl, ?_⟩; replace BK328 := Gv.b1 BK328 hb; replace BK329 := Gv.b1 BK329 hb; replace BK330 := Gv.b1 BK330 hb; replace HB := Gv.a0 (below_step Gv.bw hb); clear hb; have hnb31 := NB329_330.out; have hnc31 := NB330_329.out; obtain ⟨hcz32_0, hcz32_1, hcz32_2, hcz32_3, hcz32_4, hcz32_5, hcz32_6, hcz32_7, hcz32_8, hcz32_9, hcz32_10, hcz32_11, hcz32_12, hcz32_13⟩ := Gv.c14 BK329.out; obtain ⟨hfz32_0, hfz32_1, hfz32_2, hfz32_3, hfz32_4, hfz32_5, hfz32_6, hfz32_7, hfz32_8, hfz32_9, hfz32_10, hfz32_11, hfz32_12, hfz32_13⟩ := Gv.f14 BK329.out) | (go_at_call 13; (with_reducible refine (spec_FlowKeyOk.calls a1_0 a1_1 a1_2 a1_3 a1_4 a1_5 a1_6 a1_7 a1_8 a1_9 a1_10 a1_11 a1_12 a1_13 false _ A10.out).mono ?_); rintro e w33 ⟨rfl, hb⟩; replace BK328 := Gv.b1 BK328 hb; replace BK329 := Gv.b1 BK329 hb; replace BK330 := Gv.b1 BK330 hb; replace HB := Gv.a0 (below_step Gv.bw hb); clear hb) | ((with_reducible refine Gv.gate_load (t := 33) rfl ?_); (try (refine gate_guard (by rfl) ?_; dsimp only)); refine wpList_load_row rfl 33 _ rfl gb329 rfl 33 _ _ _ (by first | exact Gv.kb0 BK329.out | exact Gv.kb1 (Gv.kb0 BK329.out)) Try.underlying33 rfl (by kernel_rfl) ?_) | ((with_reducible refine Gv.gate_load (t := 31) rfl ?_); (try (refine gate_guard (by rfl) ?_; dsimp only)); refine Gv.sub_event (g := gb329) 13 rfl rfl rfl (by first | exact Gv.kb0 BK329.out | exact Gv.kb1 (Gv.kb0 BK329.out)) Try.underlying31 rfl (by kernel_rfl) ?_))
    go_meet
    case rel => exact ⟨_, (true), Gv.rq, H', ⟨by first | omega | exact Nat.le_refl _⟩, ⟨by (with_reducible repeat (first | refine blk_drewN ?_ _ | refine blk_drew ?_ | refine blk_alloc ?_ _)); exact BK328.out⟩, ⟨by (with_reducible repeat (first | refine blk_drewN ?_ _ | refine blk_drew ?_ | refine blk_alloc ?_ _)); exact BK329.out⟩, ⟨by (with_reducible repeat (first | refine blk_drewN ?_ _ | refine blk_drew ?_ | refine blk_alloc ?_ _)); exact BK330.out⟩, ⟨Gv.bw⟩⟩
  ·replace c9 := Bool.eq_false_iff.mpr c9
   subst c9
   rw [if_neg (show ¬ (false = true) by decide)] at H
   (try dsimp only at H)
   have H' := Gv.a0 H
   clear H
   have hnb34 := NB328_329.out
   have hnc34 := NB329_328.out
   have hnb35 := NB328_330.out
   have hnc35 := NB330_328.out
   have hcz36_0 : w7.cell? ⟨gb328, 0, none⟩ = some (.int .i64 a0_0) := (blk_cell BK328.out 0).trans rfl
   have hcz36_1 : w7.cell? ⟨gb328, 1, none⟩ = some (.slice A0_1 l0_1.length c0_1) := (blk_cell BK328.out 1).trans rfl
   have hfz36_0 := blk_frozen BK328.out 0
   have hfz36_1 := blk_frozen BK328.out 1
   go_wp2_with (first | ((with_reducible refine gate_callee (f := 24) rfl ?_); refine goesL_ (some 11) rfl rfl Try.func24 (by kernel_rfl) rfl #[.agg #[.int .i64 a0_0, .slice A0_1 l0_1.length c0_1]] rfl Gv.lm ?_; (with_reducible refine (spec_TableOk.calls k a0_0 _ _ l0_1 false _ ?side1 ?side2 A8.out).mono ?_); (case side1 => exact Gv.sd (Kd.C_below HR0_1.out HB.out)); (case side2 => exact HC0_1.out); rintro e w37 ⟨rfl, hb⟩; refine ⟨_, rfl, ?_⟩; replace BK328 := Gv.b1 BK328 hb; replace BK329 := Gv.b1 BK329 hb; replace BK330 := Gv.b1 BK330 hb; replace HB := Gv.a0 (below_step Gv.bw hb); clear hb) | ((with_reducible refine Gv.gate_load (t := 33) rfl ?_); (try (refine gate_guard (by rfl) ?_; dsimp only)); refine wpList_load_row rfl 33 _ rfl gb329 rfl 33 _ _ _ (by first | exact Gv.kb0 BK329.out | exact Gv.kb1 (Gv.kb0 BK329.out)) Try.underlying33 rfl (by kernel_rfl) ?_) | ((with_reducible refine Gv.gate_load (t := 31) rfl ?_); (try (refine gate_guard (by rfl) ?_; dsimp only)); refine Gv.sub_event (g := gb329) 13 rfl rfl rfl (by first | exact Gv.kb0 BK329.out | exact Gv.kb1 (Gv.kb0 BK329.out)) Try.underlying31 rfl (by kernel_rfl) ?_))
   go_meet
   case rel => exact ⟨_, (true), Gv.rq, H', ⟨by first | omega | exact Nat.le_refl _⟩, ⟨by (with_reducible repeat (first | refine blk_drewN ?_ _ | refine blk_drew ?_ | refine blk_alloc ?_ _)); exact BK328.out⟩, ⟨by (with_reducible repeat (first | refine blk_drewN ?_ _ | refine blk_drew ?_ | refine blk_alloc ?_ _)); exact BK329.out⟩, ⟨by (with_reducible repeat (first | refine blk_drewN ?_ _ | refine blk_drew ?_ | refine blk_alloc ?_ _)); exact BK330.out⟩, ⟨Gv.bw⟩⟩
 case rest =>
  clear HC4
  try clear c1
  try clear c2
  try clear p2
  try clear c3
  try clear c9
  try clear c11
  try clear c12
  try clear c12b0
  try clear c13
  try clear c14
  try clear c17
  try clear c20
  try clear c21
  try clear c24
  try clear c27
  try clear c28
  try clear c31
  try clear c34
  try clear c35
  try clear hcz15_0 hcz15_1
  try clear hcz18_0 hcz18_1
  try clear hcz18_10 hcz18_11 hcz18_12 hcz18_13
  try clear hcz18_2 hcz18_3 hcz18_4 hcz18_5 hcz18_6 hcz18_7 hcz18_8 hcz18_9
  try clear hcz22_0 hcz22_1
  try clear hcz25_0 hcz25_1
  try clear hcz25_10 hcz25_11 hcz25_12 hcz25_13
  try clear hcz25_2 hcz25_3 hcz25_4 hcz25_5 hcz25_6 hcz25_7 hcz25_8 hcz25_9
  try clear hcz29_0 hcz29_1
  try clear hcz32_0 hcz32_1
  try clear hcz32_10 hcz32_11 hcz32_12 hcz32_13
  try clear hcz32_2 hcz32_3 hcz32_4 hcz32_5 hcz32_6 hcz32_7 hcz32_8 hcz32_9
  try clear hcz36_0 hcz36_1
  try clear hfz15_0 hfz15_1
  try clear hfz18_0 hfz18_1
  try clear hfz18_10 hfz18_11 hfz18_12 hfz18_13
  try clear hfz18_2 hfz18_3 hfz18_4 hfz18_5 hfz18_6 hfz18_7 hfz18_8 hfz18_9
  try clear hfz22_0 hfz22_1
  try clear hfz25_0 hfz25_1
  try clear hfz25_10 hfz25_11 hfz25_12 hfz25_13
  try clear hfz25_2 hfz25_3 hfz25_4 hfz25_5 hfz25_6 hfz25_7 hfz25_8 hfz25_9
  try clear hfz29_0 hfz29_1
  try clear hfz32_0 hfz32_1
  try clear hfz32_10 hfz32_11 hfz32_12 hfz32_13
  try clear hfz32_2 hfz32_3 hfz32_4 hfz32_5 hfz32_6 hfz32_7 hfz32_8 hfz32_9
  try clear hfz36_0 hfz36_1
  obtain ⟨kq, x25_3, rfl, HA, HJ3, BK328, BK329, BK330, HB⟩ := hcut
  cases kq with
  | zero => exact absurd HA.out (by simp [spec_TablePut.j0])
  | succ kj3 =>
   have H := HA.out
   clear HA
   simp only [spec_TablePut.j0] at H
   by_cases c38 : x25_3 = true
   ·subst c38
    rw [if_pos rfl] at H
    (try dsimp only at H)
    simp only [Option.some.injEq, Prod.mk.injEq] at H
    obtain ⟨rfl, rfl, rfl⟩ := H
    have hnb39 := NB330_328.out
    have hnc39 := NB328_330.out
    have hnb40 := NB330_329.out
    have hnc40 := NB329_330.out
    have hcz41_0 : wc.cell? ⟨gb330, 0, none⟩ = some (.int .i64 0) := (blk_cell BK330.out 0).trans rfl
    have hcz41_1 : wc.cell? ⟨gb330, 1, none⟩ = some (.slice none 0 0) := (blk_cell BK330.out 1).trans rfl
    have hfz41_0 := blk_frozen BK330.out 0
    have hfz41_1 := blk_frozen BK330.out 1
    go_wp2_with (first | ((with_reducible refine Gv.gate_load (t := 33) rfl ?_); (try (refine gate_guard (by rfl) ?_; dsimp only)); refine wpList_load_row rfl 33 _ rfl gb329 rfl 33 _ _ _ (by first | exact Gv.kb0 BK329.out | exact Gv.kb1 (Gv.kb0 BK329.out)) Try.underlying33 rfl (by kernel_rfl) ?_) | ((with_reducible refine Gv.gate_load (t := 31) rfl ?_); (try (refine gate_guard (by rfl) ?_; dsimp only)); refine Gv.sub_event (g := gb329) 13 rfl rfl rfl (by first | exact Gv.kb0 BK329.out | exact Gv.kb1 (Gv.kb0 BK329.out)) Try.underlying31 rfl (by kernel_rfl) ?_))
    refine bodyPost_ret (results_ct rfl _ _ gb330 40 #[.int .i64 0, .slice none 0 0] (0, 0) _ rfl (by (with_reducible repeat (first | refine blk_drewN ?_ _ | refine blk_drew ?_ | refine blk_alloc ?_ _)); refine blk_put (cs := #[.int .i64 0, .slice none 0 0]) ?_ 1 _ rfl; (with_reducible repeat (first | refine blk_drewN ?_ _ | refine blk_drew ?_ | refine blk_alloc ?_ _)); refine blk_put (cs := #[.int .i64 0, .slice none 0 0]) ?_ 0 _ rfl; (with_reducible repeat (first | refine blk_drewN ?_ _ | refine blk_drew ?_ | refine blk_alloc ?_ _)); exact BK330.out) Try.underlying40 rfl (by kernel_rfl)) rfl ?_
    exact ⟨_, Gv.rt, by first | exact Kd.R_nil _ _ _ _ _ | exact Kd.N_nil _ _ _ _ _ | exact Kd.V_nil _ _ _ _ _ | exact Kd.Q_nil _ _ _ _ _ | exact Kd.S_nil _ _ _ _ _, Gv.bw⟩
   ·replace c38 := Bool.eq_false_iff.mpr c38
    subst c38
    rw [if_neg (show ¬ (false = true) by decide)] at H
    (try dsimp only at H)
    replace H := Option.bind_eq_some_iff.mp H
    obtain ⟨⟨t333, t334⟩, A420, H⟩ := H
    (try dsimp only at H)
    have A42 := Gv.a0 A420
    clear A420
    replace H := Option.bind_eq_some_iff.mp H
    obtain ⟨t338, A430, H⟩ := H
    (try dsimp only at H)
    have A43 := Gv.a0 A430
    clear A430
    by_cases c44 : t338 ≥ 0
    ·rw [if_pos c44] at H
     have c44b0 : decide (0 ≤ t338) = true := decide_eq_true c44
     clear c44
     by_cases c45 : 0 ≤ t338
     rotate_left
     ·rw [if_neg c45] at H
      exact absurd H (by simp)
     rw [if_pos c45] at H
     have c45b0 : decide (0 ≤ t338) = true := decide_eq_true c45
     clear c45
     by_cases c46 : t338 < (t334.length : Int)
     rotate_left
     ·rw [if_neg c46] at H
      exact absurd H (by simp)
     rw [if_pos c46] at H
     have c46b0 : decide (t338 < (t334.length : Int)) = true := decide_eq_true c46
     clear c46
     obtain ⟨y339, hy339⟩ : ∃ y_ : List (S75), y_ = (t334.set (t338 : Int).toNat (⟨(rd_T75 t334 t338).f0, (⟨(rd_T75 t334 t338).f1.f0, (⟨(⟨(rd_T75 t334 t338).f1.f1.f0.f0, (rd_T75 t334 t338).f1.f1.f0.f1, (rd_T75 t334 t338).f1.f1.f0.f2, (rd_T75 t334 t338).f1.f1.f0.f3, (rd_T75 t334 t338).f1.f1.f0.f4⟩ : S29), (⟨(rd_T75 t334 t338).f1.f1.f1.f0, (rd_T75 t334 t338).f1.f1.f1.f1, (rd_T75 t334 t338).f1.f1.f1.f2, (rd_T75 t334 t338).f1.f1.f1.f3, (rd_T75 t334 t338).f1.f1.f1.f4⟩ : S29), (rd_T75 t334 t338).f1.f1.f2, (rd_T75 t334 t338).f1.f1.f3, (rd_T75 t334 t338).f1.f1.f4⟩ : S31)⟩ : S33), a2⟩ : S75)) := ⟨_, rfl⟩
     replace H : (some (t333, y339, 0)) = some (r1, r2, r3) := by first | (rw [hy339]; with_reducible exact H) | (have H2_ := (Option.bind_some _ _).symm.trans H; rw [hy339]; with_reducible exact H2_) | (have H2_ := (Option.bind_some _ _).symm.trans H; with_reducible exact H2_) | with_reducible exact H | (rw [hy339]; exact H) | exact H
     have Ny339 := Gv.a0 hy339
     clear hy339
     simp only [Option.some.injEq, Prod.mk.injEq] at H
     obtain ⟨rfl, rfl, rfl⟩ := H
     have hnb48 := NB328_329.out
     have hnc48 := NB329_328.out
     have hnb49 := NB328_330.out
     have hnc49 := NB330_328.out
     have hcz50_0 : wc.cell? ⟨gb328, 0, none⟩ = some (.int .i64 a0_0) := (blk_cell BK328.out 0).trans rfl
     have hcz50_1 : wc.cell? ⟨gb328, 1, none⟩ = some (.slice A0_1 l0_1.length c0_1) := (blk_cell BK328.out 1).trans rfl
     have hfz50_0 := blk_frozen BK328.out 0
     have hfz50_1 := blk_frozen BK328.out 1
     go_wp2_with (first | ((with_reducible refine gate_callee (f := 62) rfl ?_); refine goesL_ (some 28) rfl rfl Try.func62 (by kernel_rfl) rfl #[.agg #[.int .i64 a0_0, .slice A0_1 l0_1.length c0_1]] rfl Gv.lm ?_; (with_reducible refine (spec_l11Copy.calls a0_0 _ _ l0_1 t333 t334 _ ?side1 ?side2 A42.out).mono ?_); (case side1 => exact Gv.sd (Kd.C_below HR0_1.out HB.out)); (case side2 => exact HC0_1.out); rintro e w51 ⟨v335, rfl, ho0, hb⟩; refine ⟨_, rfl, ?_⟩; have HO336 := Gv.a0 (Kd.R_lower ho0 (below_size Gv.bw)); replace BK328 := Gv.b1 BK328 hb; replace BK329 := Gv.b1 BK329 hb; replace BK330 := Gv.b1 BK330 hb; replace HB := Gv.a0 (below_step Gv.bw hb); clear hb ho0) | ((with_reducible refine gate_dst (N := 8) rfl ?_); refine Gv.bev 8 40 #[.int .i64 0, .slice none 0 0] ?_; intro gb337 hg w52 hbox hb; replace HO336 := Gv.a0 (Kd.R_below (Gv.kr HO336.out) hb); have BK337 := Gv.a0 (hbox); have GW337 := Gv.a0 ((Gv.ble hg Gv.bw : w.heap.size ≤ gb337)); have GE337 := Gv.a0 ((Gv.ble hg Gv.bw : w.heap.size ≤ gb337)); replace HB := Gv.a0 (below_step Gv.bw hb); have NB328_337 := Gv.a0 ((Gv.nlt hg (Gv.kb BK328.out) : gb328 ≠ gb337)); have NB337_328 := Gv.a0 ((Gv.ngt hg (Gv.kb BK328.out) : gb337 ≠ gb328)); replace BK328 := Gv.b1 BK328 hb; have NB329_337 := Gv.a0 ((Gv.nlt hg (Gv.kb BK329.out) : gb329 ≠ gb337)); have NB337_329 := Gv.a0 ((Gv.ngt hg (Gv.kb BK329.out) : gb337 ≠ gb329)); replace BK329 := Gv.b1 BK329 hb; have NB330_337 := Gv.a0 ((Gv.nlt hg (Gv.kb BK330.out) : gb330 ≠ gb337)); have NB337_330 := Gv.a0 ((Gv.ngt hg (Gv.kb BK330.out) : gb337 ≠ gb330)); replace BK330 := Gv.b1 BK330 hb; clear hb hbox hg; have hnb53 := NB337_328.out; have hnc53 := NB328_337.out; have hnb54 := NB337_329.out; have hnc54 := NB329_337.out; have hnb55 := NB337_330.out; have hnc55 := NB330_337.out; have hcz56_0 : w52.cell? ⟨gb337, 0, none⟩ = some (.int .i64 0) := (blk_cell BK337.out 0).trans rfl; have hcz56_1 : w52.cell? ⟨gb337, 1, none⟩ = some (.slice none 0 0) := (blk_cell BK337.out 1).trans rfl; have hfz56_0 := blk_frozen BK337.out 0; have hfz56_1 := blk_frozen BK337.out 1; obtain ⟨Ao57, co57, eo57⟩ := Kd.R_slice HO336.out; subst eo57; have hcz58_0 : w52.cell? ⟨gb328, 0, none⟩ = some (.int .i64 a0_0) := (blk_cell BK328.out 0).trans rfl; have hcz58_1 : w52.cell? ⟨gb328, 1, none⟩ = some (.slice A0_1 l0_1.length c0_1) := (blk_cell BK328.out 1).trans rfl; have hfz58_0 := blk_frozen BK328.out 0; have hfz58_1 := blk_frozen BK328.out 1; have hnb59 := NB329_330.out; have hnc59 := NB330_329.out; obtain ⟨hcz60_0, hcz60_1, hcz60_2, hcz60_3, hcz60_4, hcz60_5, hcz60_6, hcz60_7, hcz60_8, hcz60_9, hcz60_10, hcz60_11, hcz60_12, hcz60_13⟩ := Gv.c14 BK329.out; obtain ⟨hfz60_0, hfz60_1, hfz60_2, hfz60_3, hfz60_4, hfz60_5, hfz60_6, hfz60_7, hfz60_8, hfz60_9, hfz60_10, hfz60_11, hfz60_12, hfz60_13⟩ := Gv.f14 BK329.out) | ((with_reducible refine gate_callee (f := 54) rfl ?_); refine goesL_ (some 31) rfl rfl Try.func54 (by kernel_rfl) rfl #[.agg #[.int .i64 a0_0, .slice A0_1 l0_1.length c0_1], .agg #[.int .i64 a1_0, .int .i64 a1_1, .int .i64 a1_2, .int .i64 a1_3, .int .i64 a1_4, .int .i64 a1_5, .int .i64 a1_6, .int .i64 a1_7, .int .i64 a1_8, .int .i64 a1_9, .int .i64 a1_10, .int .i64 a1_11, .int .i64 a1_12, .int .i64 a1_13]] rfl Gv.lm ?_; (with_reducible refine (spec_l11Place.calls kj3 a0_0 _ _ l0_1 a1_0 a1_1 a1_2 a1_3 a1_4 a1_5 a1_6 a1_7 a1_8 a1_9 a1_10 a1_11 a1_12 a1_13 t338 _ ?side1 ?side2 A43.out).mono ?_); (case side1 => exact Kd.C_below HR0_1.out Gv.bw); (case side2 => exact HC0_1.out); rintro e w61 ⟨rfl, hb⟩; refine ⟨_, rfl, ?_⟩; replace HO336 := Gv.a0 (Kd.R_below (by (with_reducible repeat (first | apply Kd.R_alloc | apply Kd.R_drewN | apply Kd.R_drew)); exact (Kd.R_mono (Kd.R_far (p := ⟨gb337, 1, none⟩) (Kd.R_far (p := ⟨gb337, 0, none⟩) (Kd.R_types HO336.out BK337.out (by decide)) (fun _ hk => hk.2) (.int .i64 t333)) (fun _ hk => hk.2) (.slice Ao57 t334.length co57)) (fun _ h_ => h_.1))) hb); replace BK328 := Gv.a0 (blk_below (g := gb328) (o := .cells #[.int .i64 a0_0, .slice A0_1 l0_1.length c0_1] 40 (0, 0)) Gv.bkf hb); replace BK329 := Gv.a0 (blk_below (g := gb329) (o := .cells #[.int .i64 a1_0, .int .i64 a1_1, .int .i64 a1_2, .int .i64 a1_3, .int .i64 a1_4, .int .i64 a1_5, .int .i64 a1_6, .int .i64 a1_7, .int .i64 a1_8, .int .i64 a1_9, .int .i64 a1_10, .int .i64 a1_11, .int .i64 a1_12, .int .i64 a1_13] 33 (0, 0)) Gv.bkf hb); replace BK330 := Gv.a0 (blk_below (g := gb330) (o := .cells #[.int .i64 0, .slice none 0 0] 40 (0, 0)) Gv.bkf hb); replace BK337 := Gv.a0 (blk_below (g := gb337) (o := .cells #[.int .i64 t333, .slice Ao57 t334.length co57] 40 (0, 0)) (by (with_reducible repeat (first | refine blk_drewN ?_ _ | refine blk_drew ?_ | refine blk_alloc ?_ _)); refine blk_put (cs := #[.int .i64 t333, .slice none 0 0]) ?_ 1 _ rfl; (with_reducible repeat (first | refine blk_drewN ?_ _ | refine blk_drew ?_ | refine blk_alloc ?_ _)); refine blk_put (cs := #[.int .i64 0, .slice none 0 0]) ?_ 0 _ rfl; (with_reducible repeat (first | refine blk_drewN ?_ _ | refine blk_drew ?_ | refine blk_alloc ?_ _)); exact BK337.out) hb); replace HB := Gv.a0 (below_step Gv.bw hb); clear hb; have hcz62_0 : w61.cell? ⟨gb337, 0, none⟩ = some (.int .i64 t333) := (blk_cell BK337.out 0).trans rfl; have hcz62_1 : w61.cell? ⟨gb337, 1, none⟩ = some (.slice Ao57 t334.length co57) := (blk_cell BK337.out 1).trans rfl; have hfz62_0 := blk_frozen BK337.out 0; have hfz62_1 := blk_frozen BK337.out 1; have p47 : 0 ≤ (t338 : Int) := of_decide_eq_true (by first | (with_reducible assumption) | assumption); have q47 : (t338 : Int) < ((t334.length : Int) : Int) := of_decide_eq_true (by first | (with_reducible assumption) | assumption); obtain ⟨go47, co47, eo47, gb47, gl47, cl47, HG47⟩ := Kd.R_form HO336.out (by omega); (first | cases eo47 | (injection eo47 with ea_ en_ ec_; (first | subst ea_ | (injection ea_ with ea_; subst ea_)); subst ec_; clear en_)); have GB47 := Gv.a0 gb47; have GG47 := Gv.a0 HG47; clear gb47 gl47 HG47; obtain ⟨ce47, hcl47, hM47, hcc47, hfr47⟩ := Kd.R_elem HO336.out z75 (t338 : Int) p47 q47; obtain rfl := k75_openM hM47; have hx47_0 : w61.cell? ⟨go47, (t338 : Int).toNat * 16, none⟩ = some (.bool ((rd_T75 t334 t338).f0)) := hcc47 0 _ rfl; have hx47_1 : w61.cell? ⟨go47, (t338 : Int).toNat * 16 + 1, none⟩ = some (.int .i64 ((rd_T75 t334 t338).f1.f0)) := hcc47 1 _ rfl; have hx47_2 : w61.cell? ⟨go47, (t338 : Int).toNat * 16 + 2, none⟩ = some (.int .i64 ((rd_T75 t334 t338).f1.f1.f0.f0)) := hcc47 2 _ rfl; have hx47_3 : w61.cell? ⟨go47, (t338 : Int).toNat * 16 + 3, none⟩ = some (.int .i64 ((rd_T75 t334 t338).f1.f1.f0.f1)) := hcc47 3 _ rfl; have hx47_4 : w61.cell? ⟨go47, (t338 : Int).toNat * 16 + 4, none⟩ = some (.int .i64 ((rd_T75 t334 t338).f1.f1.f0.f2)) := hcc47 4 _ rfl; have hx47_5 : w61.cell? ⟨go47, (t338 : Int).toNat * 16 + 5, none⟩ = some (.int .i64 ((rd_T75 t334 t338).f1.f1.f0.f3)) := hcc47 5 _ rfl; have hx47_6 : w61.cell? ⟨go47, (t338 : Int).toNat * 16 + 6, none⟩ = some (.int .i64 ((rd_T75 t334 t338).f1.f1.f0.f4)) := hcc47 6 _ rfl; have hx47_7 : w61.cell? ⟨go47, (t338 : Int).toNat * 16 + 7, none⟩ = some (.int .i64 ((rd_T75 t334 t338).f1.f1.f1.f0)) := hcc47 7 _ rfl; have hx47_8 : w61.cell? ⟨go47, (t338 : Int).toNat * 16 + 8, none⟩ = some (.int .i64 ((rd_T75 t334 t338).f1.f1.f1.f1)) := hcc47 8 _ rfl; have hx47_9 : w61.cell? ⟨go47, (t338 : Int).toNat * 16 + 9, none⟩ = some (.int .i64 ((rd_T75 t334 t338).f1.f1.f1.f2)) := hcc47 9 _ rfl; have hx47_10 : w61.cell? ⟨go47, (t338 : Int).toNat * 16 + 10, none⟩ = some (.int .i64 ((rd_T75 t334 t338).f1.f1.f1.f3)) := hcc47 10 _ rfl; have hx47_11 : w61.cell? ⟨go47, (t338 : Int).toNat * 16 + 11, none⟩ = some (.int .i64 ((rd_T75 t334 t338).f1.f1.f1.f4)) := hcc47 11 _ rfl; have hx47_12 : w61.cell? ⟨go47, (t338 : Int).toNat * 16 + 12, none⟩ = some (.int .i64 ((rd_T75 t334 t338).f1.f1.f2)) := hcc47 12 _ rfl; have hx47_13 : w61.cell? ⟨go47, (t338 : Int).toNat * 16 + 13, none⟩ = some (.int .i64 ((rd_T75 t334 t338).f1.f1.f3)) := hcc47 13 _ rfl; have hx47_14 : w61.cell? ⟨go47, (t338 : Int).toNat * 16 + 14, none⟩ = some (.int .i64 ((rd_T75 t334 t338).f1.f1.f4)) := hcc47 14 _ rfl; have hx47_15 : w61.cell? ⟨go47, (t338 : Int).toNat * 16 + 15, none⟩ = some (.int .i64 ((rd_T75 t334 t338).f2)) := hcc47 15 _ rfl; have hf47_0 : w61.frozen? ⟨go47, (t338 : Int).toNat * 16, none⟩ = false := hfr47 0; have hf47_1 : w61.frozen? ⟨go47, (t338 : Int).toNat * 16 + 1, none⟩ = false := hfr47 1; have hf47_2 : w61.frozen? ⟨go47, (t338 : Int).toNat * 16 + 2, none⟩ = false := hfr47 2; have hf47_3 : w61.frozen? ⟨go47, (t338 : Int).toNat * 16 + 3, none⟩ = false := hfr47 3; have hf47_4 : w61.frozen? ⟨go47, (t338 : Int).toNat * 16 + 4, none⟩ = false := hfr47 4; have hf47_5 : w61.frozen? ⟨go47, (t338 : Int).toNat * 16 + 5, none⟩ = false := hfr47 5; have hf47_6 : w61.frozen? ⟨go47, (t338 : Int).toNat * 16 + 6, none⟩ = false := hfr47 6; have hf47_7 : w61.frozen? ⟨go47, (t338 : Int).toNat * 16 + 7, none⟩ = false := hfr47 7; have hf47_8 : w61.frozen? ⟨go47, (t338 : Int).toNat * 16 + 8, none⟩ = false := hfr47 8; have hf47_9 : w61.frozen? ⟨go47, (t338 : Int).toNat * 16 + 9, none⟩ = false := hfr47 9; have hf47_10 : w61.frozen? ⟨go47, (t338 : Int).toNat * 16 + 10, none⟩ = false := hfr47 10; have hf47_11 : w61.frozen? ⟨go47, (t338 : Int).toNat * 16 + 11, none⟩ = false := hfr47 11; have hf47_12 : w61.frozen? ⟨go47, (t338 : Int).toNat * 16 + 12, none⟩ = false := hfr47 12; have hf47_13 : w61.frozen? ⟨go47, (t338 : Int).toNat * 16 + 13, none⟩ = false := hfr47 13; have hf47_14 : w61.frozen? ⟨go47, (t338 : Int).toNat * 16 + 14, none⟩ = false := hfr47 14; have hf47_15 : w61.frozen? ⟨go47, (t338 : Int).toNat * 16 + 15, none⟩ = false := hfr47 15; clear hcl47 hcc47 hfr47 hM47; replace p47 := eq_true p47; replace q47 := eq_true q47; have HX63 := Gv.a0 (show Kd.R k75 75 w61 w.heap.size (fun _ => True) (.slice (some ⟨go47, 0, none⟩) t334.length co57) t334 from (Gv.kr HO336.out)); obtain ⟨ce63, hcl63, hM63, hcc63, hfr63⟩ := Kd.R_elem HX63.out z75 (t338 : Int) (of_decide_eq_true (by first | (with_reducible assumption) | assumption)) (by have h_ : (t338 : Int) < ((t334.length : Int) : Int) := of_decide_eq_true (by first | (with_reducible assumption) | assumption); first | exact h_ | (have e_ := (Kd.R_reads' HO336.out).1; omega) | simpa using h_); obtain rfl := k75_openM hM63; have HP63 := Kd.R_seg HX63.out (t338 : Int) (of_decide_eq_true (by first | (with_reducible assumption) | assumption)) (by have h_ : (t338 : Int) < ((t334.length : Int) : Int) := of_decide_eq_true (by first | (with_reducible assumption) | assumption); first | exact h_ | (have e_ := (Kd.R_reads' HO336.out).1; omega) | simpa using h_) (seg := [.int .i64 a2]) (j := 15) hcl63 hcc63 (show 16 ≤ 16 from by decide) (x' := (⟨(rd_T75 t334 t338).f0, (⟨(rd_T75 t334 t338).f1.f0, (⟨(⟨(rd_T75 t334 t338).f1.f1.f0.f0, (rd_T75 t334 t338).f1.f1.f0.f1, (rd_T75 t334 t338).f1.f1.f0.f2, (rd_T75 t334 t338).f1.f1.f0.f3, (rd_T75 t334 t338).f1.f1.f0.f4⟩ : S29), (⟨(rd_T75 t334 t338).f1.f1.f1.f0, (rd_T75 t334 t338).f1.f1.f1.f1, (rd_T75 t334 t338).f1.f1.f1.f2, (rd_T75 t334 t338).f1.f1.f1.f3, (rd_T75 t334 t338).f1.f1.f1.f4⟩ : S29), (rd_T75 t334 t338).f1.f1.f2, (rd_T75 t334 t338).f1.f1.f3, (rd_T75 t334 t338).f1.f1.f4⟩ : S31)⟩ : S33), a2⟩ : S75)) (k75_mkM _ _ _ (⟨(rd_T75 t334 t338).f0, (⟨(rd_T75 t334 t338).f1.f0, (⟨(⟨(rd_T75 t334 t338).f1.f1.f0.f0, (rd_T75 t334 t338).f1.f1.f0.f1, (rd_T75 t334 t338).f1.f1.f0.f2, (rd_T75 t334 t338).f1.f1.f0.f3, (rd_T75 t334 t338).f1.f1.f0.f4⟩ : S29), (⟨(rd_T75 t334 t338).f1.f1.f1.f0, (rd_T75 t334 t338).f1.f1.f1.f1, (rd_T75 t334 t338).f1.f1.f1.f2, (rd_T75 t334 t338).f1.f1.f1.f3, (rd_T75 t334 t338).f1.f1.f1.f4⟩ : S29), (rd_T75 t334 t338).f1.f1.f2, (rd_T75 t334 t338).f1.f1.f3, (rd_T75 t334 t338).f1.f1.f4⟩ : S31)⟩ : S33), a2⟩ : S75) ) (fun _ hk => hk); have hx63_15 := hcc63 15 _ rfl; (try simp only [show (k75).sz = 16 from rfl, Nat.mul_one, Nat.add_zero] at hx63_15); have hf63_15 := hfr63 15; (try simp only [show (k75).sz = 16 from rfl, Nat.mul_one, Nat.add_zero] at hf63_15); clear hcl63 hcc63 hfr63 hM63) | ((with_reducible refine gate_store (t := 3) (p := 39) rfl ?_); refine store_event (t := 3) (p := 39) (v := ?vo_w64) (w1 := (w61.setCell ⟨go47, (t338 : Int).toNat * 16 + 15, none⟩ (.int .i64 a2))) ?hg ?ho ?hn ?hr ?_; (case ho => rfl); (case hg => rfl); (case hn => rfl); (case hr => first | (go_simp; done) | (go_simp; rfl)); intro w64 hw; have hg : w61.grownBy w64 (some go47) := (by rw [hw]; exact HP63.2); have hp_ : Kd.R k75 75 w64 w.heap.size (fun _ => True) (.slice (some ⟨go47, 0, none⟩) t334.length co57) y339 := (by rw [hw, Ny339.out]; exact HP63.1); clear HP63; replace BK328 := Gv.a0 (blk_grown (g := gb328) (o := .cells #[.int .i64 a0_0, .slice A0_1 l0_1.length c0_1] 40 (0, 0)) Gv.bk hg (Kd.R_ne HO336.out BK328.out (by decide))); replace BK329 := Gv.a0 (blk_grown (g := gb329) (o := .cells #[.int .i64 a1_0, .int .i64 a1_1, .int .i64 a1_2, .int .i64 a1_3, .int .i64 a1_4, .int .i64 a1_5, .int .i64 a1_6, .int .i64 a1_7, .int .i64 a1_8, .int .i64 a1_9, .int .i64 a1_10, .int .i64 a1_11, .int .i64 a1_12, .int .i64 a1_13] 33 (0, 0)) Gv.bk hg (Kd.R_ne HO336.out BK329.out (by decide))); replace BK330 := Gv.a0 (blk_grown (g := gb330) (o := .cells #[.int .i64 0, .slice none 0 0] 40 (0, 0)) Gv.bk hg (Kd.R_ne HO336.out BK330.out (by decide))); replace BK337 := Gv.a0 (blk_grown (g := gb337) (o := .cells #[.int .i64 t333, .slice (some ⟨go47, 0, none⟩) t334.length co57] 40 (0, 0)) Gv.bk hg (Kd.R_ne HO336.out BK337.out (by decide))); replace HO336 := Gv.a0 (hp_); replace HB := Gv.a0 ((by rw [hw]; exact below_set (HB.out) GB47.out : Below w.heap.size w w64)); clear hg hw hp_; have hcz65_0 : w64.cell? ⟨gb337, 0, none⟩ = some (.int .i64 t333) := (blk_cell BK337.out 0).trans rfl; have hcz65_1 : w64.cell? ⟨gb337, 1, none⟩ = some (.slice (some ⟨go47, 0, none⟩) t334.length co57) := (blk_cell BK337.out 1).trans rfl; have hfz65_0 := blk_frozen BK337.out 0; have hfz65_1 := blk_frozen BK337.out 1; have hcz66_0 : w64.cell? ⟨gb330, 0, none⟩ = some (.int .i64 0) := (blk_cell BK330.out 0).trans rfl; have hcz66_1 : w64.cell? ⟨gb330, 1, none⟩ = some (.slice none 0 0) := (blk_cell BK330.out 1).trans rfl; have hfz66_0 := blk_frozen BK330.out 0; have hfz66_1 := blk_frozen BK330.out 1) | ((with_reducible refine Gv.gate_load (t := 33) rfl ?_); (try (refine gate_guard (by rfl) ?_; dsimp only)); refine wpList_load_row rfl 33 _ rfl gb329 rfl 33 _ _ _ (by first | exact Gv.kb0 BK329.out | exact Gv.kb1 (Gv.kb0 BK329.out)) Try.underlying33 rfl (by kernel_rfl) ?_) | ((with_reducible refine Gv.gate_load (t := 31) rfl ?_); (try (refine gate_guard (by rfl) ?_; dsimp only)); refine Gv.sub_event (g := gb329) 13 rfl rfl rfl (by first | exact Gv.kb0 BK329.out | exact Gv.kb1 (Gv.kb0 BK329.out)) Try.underlying31 rfl (by kernel_rfl) ?_))
     refine bodyPost_ret (results_ct rfl _ _ gb330 40 #[.int .i64 t333, .slice (some ⟨go47, 0, none⟩) t334.length co57] (0, 0) _ rfl (by (with_reducible repeat (first | refine blk_drewN ?_ _ | refine blk_drew ?_ | refine blk_alloc ?_ _)); refine blk_put (cs := #[.int .i64 t333, .slice none 0 0]) ?_ 1 _ rfl; (with_reducible repeat (first | refine blk_drewN ?_ _ | refine blk_drew ?_ | refine blk_alloc ?_ _)); refine blk_put (cs := #[.int .i64 0, .slice none 0 0]) ?_ 0 _ rfl; (with_reducible repeat (first | refine blk_drewN ?_ _ | refine blk_drew ?_ | refine blk_alloc ?_ _)); exact BK330.out) Try.underlying40 rfl (by kernel_rfl)) rfl ?_
     exact ⟨_, Gv.rt, by (with_reducible repeat (first | apply Kd.R_alloc | apply Kd.R_drewN | apply Kd.R_drew)); exact Kd.R_mono (Kd.R_far (p := ⟨gb330, 1, none⟩) (Kd.R_far (p := ⟨gb330, 0, none⟩) (Kd.R_types HO336.out BK330.out (by decide)) (fun _ hk => hk.2) (.int .i64 t333)) (fun _ hk => hk.2) (.slice (some ⟨go47, 0, none⟩) t334.length co57)) (fun _ hk => trivial), Gv.bw⟩
    ·rw [if_neg c44] at H
     have c44b0 : decide (0 ≤ t338) = false := decide_eq_false c44
     clear c44
     replace H := Option.bind_eq_some_iff.mp H
     obtain ⟨t340, A670, H⟩ := H
     (try dsimp only at H)
     have A67 := Gv.a0 A670
     clear A670
     by_cases c68 : (wrap64 (4 * (wrap64 (t340 + 1)))) > (wrap64 (3 * (l0_1.length : Int)))
     ·rw [if_pos c68] at H
      have c68b0 : decide ((wrap64 (3 * (l0_1.length : Int))) < (wrap64 (4 * (wrap64 (t340 + 1))))) = true := decide_eq_true c68
      clear c68
      simp only [Option.some.injEq, Prod.mk.injEq] at H
      obtain ⟨rfl, rfl, rfl⟩ := H
      have hnb69 := NB328_329.out
      have hnc69 := NB329_328.out
      have hnb70 := NB328_330.out
      have hnc70 := NB330_328.out
      have hcz71_0 : wc.cell? ⟨gb328, 0, none⟩ = some (.int .i64 a0_0) := (blk_cell BK328.out 0).trans rfl
      have hcz71_1 : wc.cell? ⟨gb328, 1, none⟩ = some (.slice A0_1 l0_1.length c0_1) := (blk_cell BK328.out 1).trans rfl
      have hfz71_0 := blk_frozen BK328.out 0
      have hfz71_1 := blk_frozen BK328.out 1
      try go_wp2_with (first | ((with_reducible refine gate_callee (f := 62) rfl ?_); refine goesL_ (some 28) rfl rfl Try.func62 (by kernel_rfl) rfl #[.agg #[.int .i64 a0_0, .slice A0_1 l0_1.length c0_1]] rfl Gv.lm ?_; (with_reducible refine (spec_l11Copy.calls a0_0 _ _ l0_1 t333 t334 _ ?side1 ?side2 A42.out).mono ?_); (case side1 => exact Gv.sd (Kd.C_below HR0_1.out HB.out)); (case side2 => exact HC0_1.out); rintro e w72 ⟨v335, rfl, ho0, hb⟩; refine ⟨_, rfl, ?_⟩; have HO336 := Gv.a0 (Kd.R_lower ho0 (below_size Gv.bw)); replace BK328 := Gv.b1 BK328 hb; replace BK329 := Gv.b1 BK329 hb; replace BK330 := Gv.b1 BK330 hb; replace HB := Gv.a0 (below_step Gv.bw hb); clear hb ho0) | ((with_reducible refine gate_dst (N := 8) rfl ?_); refine Gv.bev 8 40 #[.int .i64 0, .slice none 0 0] ?_; intro gb337 hg w73 hbox hb; replace HO336 := Gv.a0 (Kd.R_below (Gv.kr HO336.out) hb); have BK337 := Gv.a0 (hbox); have GW337 := Gv.a0 ((Gv.ble hg Gv.bw : w.heap.size ≤ gb337)); have GE337 := Gv.a0 ((Gv.ble hg Gv.bw : w.heap.size ≤ gb337)); replace HB := Gv.a0 (below_step Gv.bw hb); have NB328_337 := Gv.a0 ((Gv.nlt hg (Gv.kb BK328.out) : gb328 ≠ gb337)); have NB337_328 := Gv.a0 ((Gv.ngt hg (Gv.kb BK328.out) : gb337 ≠ gb328)); replace BK328 := Gv.b1 BK328 hb; have NB329_337 := Gv.a0 ((Gv.nlt hg (Gv.kb BK329.out) : gb329 ≠ gb337)); have NB337_329 := Gv.a0 ((Gv.ngt hg (Gv.kb BK329.out) : gb337 ≠ gb329)); replace BK329 := Gv.b1 BK329 hb; have NB330_337 := Gv.a0 ((Gv.nlt hg (Gv.kb BK330.out) : gb330 ≠ gb337)); have NB337_330 := Gv.a0 ((Gv.ngt hg (Gv.kb BK330.out) : gb337 ≠ gb330)); replace BK330 := Gv.b1 BK330 hb; clear hb hbox hg; have hnb74 := NB337_328.out; have hnc74 := NB328_337.out; have hnb75 := NB337_329.out; have hnc75 := NB329_337.out; have hnb76 := NB337_330.out; have hnc76 := NB330_337.out; have hcz77_0 : w73.cell? ⟨gb337, 0, none⟩ = some (.int .i64 0) := (blk_cell BK337.out 0).trans rfl; have hcz77_1 : w73.cell? ⟨gb337, 1, none⟩ = some (.slice none 0 0) := (blk_cell BK337.out 1).trans rfl; have hfz77_0 := blk_frozen BK337.out 0; have hfz77_1 := blk_frozen BK337.out 1; obtain ⟨Ao78, co78, eo78⟩ := Kd.R_slice HO336.out; subst eo78; have hcz79_0 : w73.cell? ⟨gb328, 0, none⟩ = some (.int .i64 a0_0) := (blk_cell BK328.out 0).trans rfl; have hcz79_1 : w73.cell? ⟨gb328, 1, none⟩ = some (.slice A0_1 l0_1.length c0_1) := (blk_cell BK328.out 1).trans rfl; have hfz79_0 := blk_frozen BK328.out 0; have hfz79_1 := blk_frozen BK328.out 1; have hnb80 := NB329_330.out; have hnc80 := NB330_329.out; obtain ⟨hcz81_0, hcz81_1, hcz81_2, hcz81_3, hcz81_4, hcz81_5, hcz81_6, hcz81_7, hcz81_8, hcz81_9, hcz81_10, hcz81_11, hcz81_12, hcz81_13⟩ := Gv.c14 BK329.out; obtain ⟨hfz81_0, hfz81_1, hfz81_2, hfz81_3, hfz81_4, hfz81_5, hfz81_6, hfz81_7, hfz81_8, hfz81_9, hfz81_10, hfz81_11, hfz81_12, hfz81_13⟩ := Gv.f14 BK329.out) | ((with_reducible refine gate_callee (f := 54) rfl ?_); refine goesL_ (some 31) rfl rfl Try.func54 (by kernel_rfl) rfl #[.agg #[.int .i64 a0_0, .slice A0_1 l0_1.length c0_1], .agg #[.int .i64 a1_0, .int .i64 a1_1, .int .i64 a1_2, .int .i64 a1_3, .int .i64 a1_4, .int .i64 a1_5, .int .i64 a1_6, .int .i64 a1_7, .int .i64 a1_8, .int .i64 a1_9, .int .i64 a1_10, .int .i64 a1_11, .int .i64 a1_12, .int .i64 a1_13]] rfl Gv.lm ?_; (with_reducible refine (spec_l11Place.calls kj3 a0_0 _ _ l0_1 a1_0 a1_1 a1_2 a1_3 a1_4 a1_5 a1_6 a1_7 a1_8 a1_9 a1_10 a1_11 a1_12 a1_13 t338 _ ?side1 ?side2 A43.out).mono ?_); (case side1 => exact Kd.C_below HR0_1.out Gv.bw); (case side2 => exact HC0_1.out); rintro e w82 ⟨rfl, hb⟩; refine ⟨_, rfl, ?_⟩; replace HO336 := Gv.a0 (Kd.R_below (by (with_reducible repeat (first | apply Kd.R_alloc | apply Kd.R_drewN | apply Kd.R_drew)); exact (Kd.R_mono (Kd.R_far (p := ⟨gb337, 1, none⟩) (Kd.R_far (p := ⟨gb337, 0, none⟩) (Kd.R_types HO336.out BK337.out (by decide)) (fun _ hk => hk.2) (.int .i64 t333)) (fun _ hk => hk.2) (.slice Ao78 t334.length co78)) (fun _ h_ => h_.1))) hb); replace BK328 := Gv.a0 (blk_below (g := gb328) (o := .cells #[.int .i64 a0_0, .slice A0_1 l0_1.length c0_1] 40 (0, 0)) Gv.bkf hb); replace BK329 := Gv.a0 (blk_below (g := gb329) (o := .cells #[.int .i64 a1_0, .int .i64 a1_1, .int .i64 a1_2, .int .i64 a1_3, .int .i64 a1_4, .int .i64 a1_5, .int .i64 a1_6, .int .i64 a1_7, .int .i64 a1_8, .int .i64 a1_9, .int .i64 a1_10, .int .i64 a1_11, .int .i64 a1_12, .int .i64 a1_13] 33 (0, 0)) Gv.bkf hb); replace BK330 := Gv.a0 (blk_below (g := gb330) (o := .cells #[.int .i64 0, .slice none 0 0] 40 (0, 0)) Gv.bkf hb); replace BK337 := Gv.a0 (blk_below (g := gb337) (o := .cells #[.int .i64 t333, .slice Ao78 t334.length co78] 40 (0, 0)) (by (with_reducible repeat (first | refine blk_drewN ?_ _ | refine blk_drew ?_ | refine blk_alloc ?_ _)); refine blk_put (cs := #[.int .i64 t333, .slice none 0 0]) ?_ 1 _ rfl; (with_reducible repeat (first | refine blk_drewN ?_ _ | refine blk_drew ?_ | refine blk_alloc ?_ _)); refine blk_put (cs := #[.int .i64 0, .slice none 0 0]) ?_ 0 _ rfl; (with_reducible repeat (first | refine blk_drewN ?_ _ | refine blk_drew ?_ | refine blk_alloc ?_ _)); exact BK337.out) hb); replace HB := Gv.a0 (below_step Gv.bw hb); clear hb) | ((with_reducible refine Gv.gate_load (t := 33) rfl ?_); (try (refine gate_guard (by rfl) ?_; dsimp only)); refine wpList_load_row rfl 33 _ rfl gb329 rfl 33 _ _ _ (by first | exact Gv.kb0 BK329.out | exact Gv.kb1 (Gv.kb0 BK329.out)) Try.underlying33 rfl (by kernel_rfl) ?_) | ((with_reducible refine Gv.gate_load (t := 31) rfl ?_); (try (refine gate_guard (by rfl) ?_; dsimp only)); refine Gv.sub_event (g := gb329) 13 rfl rfl rfl (by first | exact Gv.kb0 BK329.out | exact Gv.kb1 (Gv.kb0 BK329.out)) Try.underlying31 rfl (by kernel_rfl) ?_))
      replace HO336 := Gv.a0 (Kd.R_drew HO336.out)
      replace BK328 := Gv.a0 (blk_drew BK328.out)
      replace BK329 := Gv.a0 (blk_drew BK329.out)
      replace BK330 := Gv.a0 (blk_drew BK330.out)
      replace BK337 := Gv.a0 (blk_drew BK337.out)
      replace HB := Gv.a0 (below_drew1 HB.out)
      refine start_ (n := 9) (S := fun w' => w'.cell? ⟨gb328, 0, none⟩ = some (.int .i64 a0_0) ∧ w'.cell? ⟨gb328, 1, none⟩ = some (.slice A0_1 l0_1.length c0_1)) (ds := []) #[false, false, false, false, false, false, false, false, false] (by kernel_rfl) rfl rfl ⟨Gv.q BK328.out, Gv.q BK328.out⟩ (fun hHeld => ?_); refine with_tabW spec_TablePut.tab8 spec_TablePut.bits8 (fun HT_ HW_ => ?_)
      generalize w82.drew = w83 at HO336 BK328 BK329 BK330 BK337 HB hHeld ⊢
      refine Gv.pu 4 (some 45) HT_ ?_
      refine take_ (i := 0) (N := some 41) (v := ?_) (a' := ?_) #[true, false, false, false, true, false, false, false, false] rfl rfl (take_ofW HT_.out HW_.out (by kernel_rfl)) (fun _ _ _ h => h) (Or.inl ⟨by rfl, ?_⟩) hHeld ?_ ?_
      rotate_left
      ·rintro w' ⟨s0, s1⟩
       go_simp
       with_reducible rfl
      rotate_left
      ·simp only [Act.put, List.setIfInBounds_toArray, List.set_cons_zero, List.set_cons_succ, i64_w, i32_w]
       rfl
      refine take_ (i := 5) (N := some 46) (v := ?_) (a' := ?_) #[true, false, false, false, true, true, false, false, false] rfl rfl (take_ofW HT_.out HW_.out (by kernel_rfl)) (fun _ _ _ h => h) (Or.inl ⟨by rfl, ?_⟩) hHeld ?_ ?_
      rotate_left
      ·rintro w' ⟨s0, s1⟩
       go_simp
       with_reducible rfl
      rotate_left
      ·simp only [Act.put, List.setIfInBounds_toArray, List.set_cons_zero, List.set_cons_succ, i64_w, i32_w]
       rfl
      refine Gv.pu 6 (some 47) HT_ ?_
      refine Gv.pu 7 (some 48) HT_ ?_
      refine one_ (i := 1) (N := some 42) #[true, true, false, false, true, true, true, true, false] rfl rfl (one_of HT_.out (by kernel_rfl)) (by decide) (fun K hK => ?_)
      refine goes_ Try.func53 (by kernel_rfl) rfl #[.agg #[.int .i64 a0_0, .slice A0_1 l0_1.length c0_1]] (by rfl) rfl rfl Gv.lm ?_
      with_reducible refine (spec_l11Count.calls kj3 a0_0 _ _ l0_1 t340 _ ?side1 ?side2 A67.out).mono ?_
      (case side1 => exact Gv.sd (Kd.C_below HR0_1.out HB.out))
      (case side2 => exact HC0_1.out)
      rintro e w84 ⟨rfl, hb⟩
      refine ⟨_, rfl, ?_⟩
      replace HO336 := Gv.a0 (Kd.R_below (Gv.kr HO336.out) hb)
      replace BK328 := Gv.b1 BK328 hb
      replace BK329 := Gv.b1 BK329 hb
      replace BK330 := Gv.b1 BK330 hb
      replace BK337 := Gv.b1 BK337 hb
      replace HB := Gv.a0 (below_step Gv.bw hb)
      (try clear hb)
      (try clear hb2)
      (try clear hk)
      (try clear hi)
      refine hK.out _ _ ⟨Gv.q BK328.out, Gv.q BK328.out⟩ (fun hHeld => ?_)
      clear hK K
      refine norm_ (a' := ?_) ?_ ?_
      rotate_left
      ·show Act.put _ (some 42) _ = _
       simp only [Act.put, List.setIfInBounds_toArray, List.set_cons_zero, List.set_cons_succ, i64_w, i32_w]
       rfl
      refine Gv.pu 2 (some 43) HT_ ?_
      refine Gv.pu 3 (some 44) HT_ ?_
      refine Gv.pu 8 (some 49) HT_ ?_
      refine done_ (done_of HT_.out (by kernel_rfl)) ?_
      have hcz85_0 : w84.cell? ⟨gb330, 0, none⟩ = some (.int .i64 0) := (blk_cell BK330.out 0).trans rfl
      have hcz85_1 : w84.cell? ⟨gb330, 1, none⟩ = some (.slice none 0 0) := (blk_cell BK330.out 1).trans rfl
      have hfz85_0 := blk_frozen BK330.out 0
      have hfz85_1 := blk_frozen BK330.out 1
      try go_wp2
      refine bodyPost_ret (results_ct rfl _ _ gb330 40 #[.int .i64 0, .slice none 0 0] (0, 0) _ rfl (by (with_reducible repeat (first | refine blk_drewN ?_ _ | refine blk_drew ?_ | refine blk_alloc ?_ _)); refine blk_put (cs := #[.int .i64 0, .slice none 0 0]) ?_ 1 _ rfl; (with_reducible repeat (first | refine blk_drewN ?_ _ | refine blk_drew ?_ | refine blk_alloc ?_ _)); refine blk_put (cs := #[.int .i64 0, .slice none 0 0]) ?_ 0 _ rfl; (with_reducible repeat (first | refine blk_drewN ?_ _ | refine blk_drew ?_ | refine blk_alloc ?_ _)); exact BK330.out) Try.underlying40 rfl (by kernel_rfl)) rfl ?_
      exact ⟨_, Gv.rt, by first | exact Kd.R_nil _ _ _ _ _ | exact Kd.N_nil _ _ _ _ _ | exact Kd.V_nil _ _ _ _ _ | exact Kd.Q_nil _ _ _ _ _ | exact Kd.S_nil _ _ _ _ _, Gv.bw⟩
     ·rw [if_neg c68] at H
      have c68b0 : decide ((wrap64 (3 * (l0_1.length : Int))) < (wrap64 (4 * (wrap64 (t340 + 1))))) = false := decide_eq_false c68
      clear c68
      replace H := Option.bind_eq_some_iff.mp H
      obtain ⟨t341, A860, H⟩ := H
      (try dsimp only at H)
      have A86 := Gv.a0 A860
      clear A860
      simp only [Option.some.injEq, Prod.mk.injEq] at H
      obtain ⟨rfl, rfl, rfl⟩ := H
      have hnb87 := NB328_329.out
      have hnc87 := NB329_328.out
      have hnb88 := NB328_330.out
      have hnc88 := NB330_328.out
      have hcz89_0 : wc.cell? ⟨gb328, 0, none⟩ = some (.int .i64 a0_0) := (blk_cell BK328.out 0).trans rfl
      have hcz89_1 : wc.cell? ⟨gb328, 1, none⟩ = some (.slice A0_1 l0_1.length c0_1) := (blk_cell BK328.out 1).trans rfl
      have hfz89_0 := blk_frozen BK328.out 0
      have hfz89_1 := blk_frozen BK328.out 1
      try go_wp2_with (first | ((with_reducible refine gate_callee (f := 62) rfl ?_); refine goesL_ (some 28) rfl rfl Try.func62 (by kernel_rfl) rfl #[.agg #[.int .i64 a0_0, .slice A0_1 l0_1.length c0_1]] rfl Gv.lm ?_; (with_reducible refine (spec_l11Copy.calls a0_0 _ _ l0_1 t333 t334 _ ?side1 ?side2 A42.out).mono ?_); (case side1 => exact Gv.sd (Kd.C_below HR0_1.out HB.out)); (case side2 => exact HC0_1.out); rintro e w90 ⟨v335, rfl, ho0, hb⟩; refine ⟨_, rfl, ?_⟩; have HO336 := Gv.a0 (Kd.R_lower ho0 (below_size Gv.bw)); replace BK328 := Gv.b1 BK328 hb; replace BK329 := Gv.b1 BK329 hb; replace BK330 := Gv.b1 BK330 hb; replace HB := Gv.a0 (below_step Gv.bw hb); clear hb ho0) | ((with_reducible refine gate_dst (N := 8) rfl ?_); refine Gv.bev 8 40 #[.int .i64 0, .slice none 0 0] ?_; intro gb337 hg w91 hbox hb; replace HO336 := Gv.a0 (Kd.R_below (Gv.kr HO336.out) hb); have BK337 := Gv.a0 (hbox); have GW337 := Gv.a0 ((Gv.ble hg Gv.bw : w.heap.size ≤ gb337)); have GE337 := Gv.a0 ((Gv.ble hg Gv.bw : w.heap.size ≤ gb337)); replace HB := Gv.a0 (below_step Gv.bw hb); have NB328_337 := Gv.a0 ((Gv.nlt hg (Gv.kb BK328.out) : gb328 ≠ gb337)); have NB337_328 := Gv.a0 ((Gv.ngt hg (Gv.kb BK328.out) : gb337 ≠ gb328)); replace BK328 := Gv.b1 BK328 hb; have NB329_337 := Gv.a0 ((Gv.nlt hg (Gv.kb BK329.out) : gb329 ≠ gb337)); have NB337_329 := Gv.a0 ((Gv.ngt hg (Gv.kb BK329.out) : gb337 ≠ gb329)); replace BK329 := Gv.b1 BK329 hb; have NB330_337 := Gv.a0 ((Gv.nlt hg (Gv.kb BK330.out) : gb330 ≠ gb337)); have NB337_330 := Gv.a0 ((Gv.ngt hg (Gv.kb BK330.out) : gb337 ≠ gb330)); replace BK330 := Gv.b1 BK330 hb; clear hb hbox hg; have hnb92 := NB337_328.out; have hnc92 := NB328_337.out; have hnb93 := NB337_329.out; have hnc93 := NB329_337.out; have hnb94 := NB337_330.out; have hnc94 := NB330_337.out; have hcz95_0 : w91.cell? ⟨gb337, 0, none⟩ = some (.int .i64 0) := (blk_cell BK337.out 0).trans rfl; have hcz95_1 : w91.cell? ⟨gb337, 1, none⟩ = some (.slice none 0 0) := (blk_cell BK337.out 1).trans rfl; have hfz95_0 := blk_frozen BK337.out 0; have hfz95_1 := blk_frozen BK337.out 1; obtain ⟨Ao96, co96, eo96⟩ := Kd.R_slice HO336.out; subst eo96; have hcz97_0 : w91.cell? ⟨gb328, 0, none⟩ = some (.int .i64 a0_0) := (blk_cell BK328.out 0).trans rfl; have hcz97_1 : w91.cell? ⟨gb328, 1, none⟩ = some (.slice A0_1 l0_1.length c0_1) := (blk_cell BK328.out 1).trans rfl; have hfz97_0 := blk_frozen BK328.out 0; have hfz97_1 := blk_frozen BK328.out 1; have hnb98 := NB329_330.out; have hnc98 := NB330_329.out; obtain ⟨hcz99_0, hcz99_1, hcz99_2, hcz99_3, hcz99_4, hcz99_5, hcz99_6, hcz99_7, hcz99_8, hcz99_9, hcz99_10, hcz99_11, hcz99_12, hcz99_13⟩ := Gv.c14 BK329.out; obtain ⟨hfz99_0, hfz99_1, hfz99_2, hfz99_3, hfz99_4, hfz99_5, hfz99_6, hfz99_7, hfz99_8, hfz99_9, hfz99_10, hfz99_11, hfz99_12, hfz99_13⟩ := Gv.f14 BK329.out) | ((with_reducible refine gate_callee (f := 54) rfl ?_); refine goesL_ (some 31) rfl rfl Try.func54 (by kernel_rfl) rfl #[.agg #[.int .i64 a0_0, .slice A0_1 l0_1.length c0_1], .agg #[.int .i64 a1_0, .int .i64 a1_1, .int .i64 a1_2, .int .i64 a1_3, .int .i64 a1_4, .int .i64 a1_5, .int .i64 a1_6, .int .i64 a1_7, .int .i64 a1_8, .int .i64 a1_9, .int .i64 a1_10, .int .i64 a1_11, .int .i64 a1_12, .int .i64 a1_13]] rfl Gv.lm ?_; (with_reducible refine (spec_l11Place.calls kj3 a0_0 _ _ l0_1 a1_0 a1_1 a1_2 a1_3 a1_4 a1_5 a1_6 a1_7 a1_8 a1_9 a1_10 a1_11 a1_12 a1_13 t338 _ ?side1 ?side2 A43.out).mono ?_); (case side1 => exact Kd.C_below HR0_1.out Gv.bw); (case side2 => exact HC0_1.out); rintro e w100 ⟨rfl, hb⟩; refine ⟨_, rfl, ?_⟩; replace HO336 := Gv.a0 (Kd.R_below (by (with_reducible repeat (first | apply Kd.R_alloc | apply Kd.R_drewN | apply Kd.R_drew)); exact (Kd.R_mono (Kd.R_far (p := ⟨gb337, 1, none⟩) (Kd.R_far (p := ⟨gb337, 0, none⟩) (Kd.R_types HO336.out BK337.out (by decide)) (fun _ hk => hk.2) (.int .i64 t333)) (fun _ hk => hk.2) (.slice Ao96 t334.length co96)) (fun _ h_ => h_.1))) hb); replace BK328 := Gv.a0 (blk_below (g := gb328) (o := .cells #[.int .i64 a0_0, .slice A0_1 l0_1.length c0_1] 40 (0, 0)) Gv.bkf hb); replace BK329 := Gv.a0 (blk_below (g := gb329) (o := .cells #[.int .i64 a1_0, .int .i64 a1_1, .int .i64 a1_2, .int .i64 a1_3, .int .i64 a1_4, .int .i64 a1_5, .int .i64 a1_6, .int .i64 a1_7, .int .i64 a1_8, .int .i64 a1_9, .int .i64 a1_10, .int .i64 a1_11, .int .i64 a1_12, .int .i64 a1_13] 33 (0, 0)) Gv.bkf hb); replace BK330 := Gv.a0 (blk_below (g := gb330) (o := .cells #[.int .i64 0, .slice none 0 0] 40 (0, 0)) Gv.bkf hb); replace BK337 := Gv.a0 (blk_below (g := gb337) (o := .cells #[.int .i64 t333, .slice Ao96 t334.length co96] 40 (0, 0)) (by (with_reducible repeat (first | refine blk_drewN ?_ _ | refine blk_drew ?_ | refine blk_alloc ?_ _)); refine blk_put (cs := #[.int .i64 t333, .slice none 0 0]) ?_ 1 _ rfl; (with_reducible repeat (first | refine blk_drewN ?_ _ | refine blk_drew ?_ | refine blk_alloc ?_ _)); refine blk_put (cs := #[.int .i64 0, .slice none 0 0]) ?_ 0 _ rfl; (with_reducible repeat (first | refine blk_drewN ?_ _ | refine blk_drew ?_ | refine blk_alloc ?_ _)); exact BK337.out) hb); replace HB := Gv.a0 (below_step Gv.bw hb); clear hb) | ((with_reducible refine Gv.gate_load (t := 33) rfl ?_); (try (refine gate_guard (by rfl) ?_; dsimp only)); refine wpList_load_row rfl 33 _ rfl gb329 rfl 33 _ _ _ (by first | exact Gv.kb0 BK329.out | exact Gv.kb1 (Gv.kb0 BK329.out)) Try.underlying33 rfl (by kernel_rfl) ?_) | ((with_reducible refine Gv.gate_load (t := 31) rfl ?_); (try (refine gate_guard (by rfl) ?_; dsimp only)); refine Gv.sub_event (g := gb329) 13 rfl rfl rfl (by first | exact Gv.kb0 BK329.out | exact Gv.kb1 (Gv.kb0 BK329.out)) Try.underlying31 rfl (by kernel_rfl) ?_))
      replace HO336 := Gv.a0 (Kd.R_drew HO336.out)
      replace BK328 := Gv.a0 (blk_drew BK328.out)
      replace BK329 := Gv.a0 (blk_drew BK329.out)
      replace BK330 := Gv.a0 (blk_drew BK330.out)
      replace BK337 := Gv.a0 (blk_drew BK337.out)
      replace HB := Gv.a0 (below_drew1 HB.out)
      refine start_ (n := 9) (S := fun w' => w'.cell? ⟨gb328, 0, none⟩ = some (.int .i64 a0_0) ∧ w'.cell? ⟨gb328, 1, none⟩ = some (.slice A0_1 l0_1.length c0_1)) (ds := []) #[false, false, false, false, false, false, false, false, false] (by kernel_rfl) rfl rfl ⟨Gv.q BK328.out, Gv.q BK328.out⟩ (fun hHeld => ?_); refine with_tabW spec_TablePut.tab8 spec_TablePut.bits8 (fun HT_ HW_ => ?_)
      generalize w100.drew = w101 at HO336 BK328 BK329 BK330 BK337 HB hHeld ⊢
      refine Gv.pu 4 (some 45) HT_ ?_
      refine take_ (i := 0) (N := some 41) (v := ?_) (a' := ?_) #[true, false, false, false, true, false, false, false, false] rfl rfl (take_ofW HT_.out HW_.out (by kernel_rfl)) (fun _ _ _ h => h) (Or.inl ⟨by rfl, ?_⟩) hHeld ?_ ?_
      rotate_left
      ·rintro w' ⟨s0, s1⟩
       go_simp
       with_reducible rfl
      rotate_left
      ·simp only [Act.put, List.setIfInBounds_toArray, List.set_cons_zero, List.set_cons_succ, i64_w, i32_w]
       rfl
      refine take_ (i := 5) (N := some 46) (v := ?_) (a' := ?_) #[true, false, false, false, true, true, false, false, false] rfl rfl (take_ofW HT_.out HW_.out (by kernel_rfl)) (fun _ _ _ h => h) (Or.inl ⟨by rfl, ?_⟩) hHeld ?_ ?_
      rotate_left
      ·rintro w' ⟨s0, s1⟩
       go_simp
       with_reducible rfl
      rotate_left
      ·simp only [Act.put, List.setIfInBounds_toArray, List.set_cons_zero, List.set_cons_succ, i64_w, i32_w]
       rfl
      refine Gv.pu 6 (some 47) HT_ ?_
      refine Gv.pu 7 (some 48) HT_ ?_
      refine one_ (i := 1) (N := some 42) #[true, true, false, false, true, true, true, true, false] rfl rfl (one_of HT_.out (by kernel_rfl)) (by decide) (fun K hK => ?_)
      refine goes_ Try.func53 (by kernel_rfl) rfl #[.agg #[.int .i64 a0_0, .slice A0_1 l0_1.length c0_1]] (by rfl) rfl rfl Gv.lm ?_
      with_reducible refine (spec_l11Count.calls kj3 a0_0 _ _ l0_1 t340 _ ?side1 ?side2 A67.out).mono ?_
      (case side1 => exact Gv.sd (Kd.C_below HR0_1.out HB.out))
      (case side2 => exact HC0_1.out)
      rintro e w102 ⟨rfl, hb⟩
      refine ⟨_, rfl, ?_⟩
      replace HO336 := Gv.a0 (Kd.R_below (Gv.kr HO336.out) hb)
      replace BK328 := Gv.b1 BK328 hb
      replace BK329 := Gv.b1 BK329 hb
      replace BK330 := Gv.b1 BK330 hb
      replace BK337 := Gv.b1 BK337 hb
      replace HB := Gv.a0 (below_step Gv.bw hb)
      (try clear hb)
      (try clear hb2)
      (try clear hk)
      (try clear hi)
      refine hK.out _ _ ⟨Gv.q BK328.out, Gv.q BK328.out⟩ (fun hHeld => ?_)
      clear hK K
      refine norm_ (a' := ?_) ?_ ?_
      rotate_left
      ·show Act.put _ (some 42) _ = _
       simp only [Act.put, List.setIfInBounds_toArray, List.set_cons_zero, List.set_cons_succ, i64_w, i32_w]
       rfl
      refine Gv.pu 2 (some 43) HT_ ?_
      refine Gv.pu 3 (some 44) HT_ ?_
      refine Gv.pu 8 (some 49) HT_ ?_
      refine done_ (done_of HT_.out (by kernel_rfl)) ?_
      have hcz103_0 : w102.cell? ⟨gb337, 0, none⟩ = some (.int .i64 t333) := (blk_cell BK337.out 0).trans rfl
      have hcz103_1 : w102.cell? ⟨gb337, 1, none⟩ = some (.slice Ao96 t334.length co96) := (blk_cell BK337.out 1).trans rfl
      have hfz103_0 := blk_frozen BK337.out 0
      have hfz103_1 := blk_frozen BK337.out 1
      obtain ⟨hcz104_0, hcz104_1, hcz104_2, hcz104_3, hcz104_4, hcz104_5, hcz104_6, hcz104_7, hcz104_8, hcz104_9, hcz104_10, hcz104_11, hcz104_12, hcz104_13⟩ := Gv.c14 BK329.out
      obtain ⟨hfz104_0, hfz104_1, hfz104_2, hfz104_3, hfz104_4, hfz104_5, hfz104_6, hfz104_7, hfz104_8, hfz104_9, hfz104_10, hfz104_11, hfz104_12, hfz104_13⟩ := Gv.f14 BK329.out
      try go_wp2_with (first | ((with_reducible refine gate_callee (f := 60) rfl ?_); refine goesL_ (some 54) rfl rfl Try.func60 (by kernel_rfl) rfl #[.agg #[.int .i64 t333, .slice Ao96 t334.length co96], .agg #[.int .i64 a1_0, .int .i64 a1_1, .int .i64 a1_2, .int .i64 a1_3, .int .i64 a1_4, .int .i64 a1_5, .int .i64 a1_6, .int .i64 a1_7, .int .i64 a1_8, .int .i64 a1_9, .int .i64 a1_10, .int .i64 a1_11, .int .i64 a1_12, .int .i64 a1_13], .int .i64 a2] rfl Gv.lm ?_; (with_reducible refine (spec_l11Into.calls kj3 t333 (fun k_ => some k_ = (.slice Ao96 t334.length co96 : Value).ownBlock) (.slice Ao96 t334.length co96) t334 a1_0 a1_1 a1_2 a1_3 a1_4 a1_5 a1_6 a1_7 a1_8 a1_9 a1_10 a1_11 a1_12 a1_13 a2 t341 w _ ?side1 ?side2 A86.out).mono ?_); (case side1 => repeat (first | (with_reducible first | exact HB.out | apply below_alloc | apply pw_below_drewN | apply below_drew1 | refine below_set ?_ GE328.out | refine below_set ?_ GE329.out | refine below_set ?_ GE330.out | refine below_set ?_ GE337.out) | exact HB.out)); (case side2 => exact Kd.R_tight rfl HO336.out); rintro e w105 ⟨rfl, hy0, hb, hkp⟩; refine ⟨_, rfl, ?_⟩; replace BK328 := Gv.a0 (blk_kept Gv.bk hkp (fun hs_ => (fun e_ => (Kd.R_ne HO336.out BK328.out (by decide)) e_) hs_)); replace BK329 := Gv.a0 (blk_kept Gv.bk hkp (fun hs_ => (fun e_ => (Kd.R_ne HO336.out BK329.out (by decide)) e_) hs_)); replace BK330 := Gv.a0 (blk_kept Gv.bk hkp (fun hs_ => (fun e_ => (Kd.R_ne HO336.out BK330.out (by decide)) e_) hs_)); replace BK337 := Gv.a0 (blk_kept Gv.bk hkp (fun hs_ => (fun e_ => (Kd.R_ne HO336.out BK337.out (by decide)) e_) hs_)); replace HO336 := Gv.a0 (Kd.R_reok rfl hy0 (fun k_ e_ => HO336.out.1 k_ e_)); replace HB := Gv.a0 (hb); clear hb; (try clear hkp); (try clear hy0); have hcz106_0 : w105.cell? ⟨gb337, 0, none⟩ = some (.int .i64 t333) := (blk_cell BK337.out 0).trans rfl; have hcz106_1 : w105.cell? ⟨gb337, 1, none⟩ = some (.slice Ao96 t334.length co96) := (blk_cell BK337.out 1).trans rfl; have hfz106_0 := blk_frozen BK337.out 0; have hfz106_1 := blk_frozen BK337.out 1; have hcz107_0 : w105.cell? ⟨gb330, 0, none⟩ = some (.int .i64 0) := (blk_cell BK330.out 0).trans rfl; have hcz107_1 : w105.cell? ⟨gb330, 1, none⟩ = some (.slice none 0 0) := (blk_cell BK330.out 1).trans rfl; have hfz107_0 := blk_frozen BK330.out 0; have hfz107_1 := blk_frozen BK330.out 1) | ((with_reducible refine Gv.gate_load (t := 33) rfl ?_); (try (refine gate_guard (by rfl) ?_; dsimp only)); refine wpList_load_row rfl 33 _ rfl gb329 rfl 33 _ _ _ (by first | exact Gv.kb0 BK329.out | exact Gv.kb1 (Gv.kb0 BK329.out)) Try.underlying33 rfl (by kernel_rfl) ?_) | ((with_reducible refine Gv.gate_load (t := 31) rfl ?_); (try (refine gate_guard (by rfl) ?_; dsimp only)); refine Gv.sub_event (g := gb329) 13 rfl rfl rfl (by first | exact Gv.kb0 BK329.out | exact Gv.kb1 (Gv.kb0 BK329.out)) Try.underlying31 rfl (by kernel_rfl) ?_))
      refine bodyPost_ret (results_ct rfl _ _ gb330 40 #[.int .i64 t333, .slice Ao96 t334.length co96] (0, 0) _ rfl (by (with_reducible repeat (first | refine blk_drewN ?_ _ | refine blk_drew ?_ | refine blk_alloc ?_ _)); refine blk_put (cs := #[.int .i64 t333, .slice none 0 0]) ?_ 1 _ rfl; (with_reducible repeat (first | refine blk_drewN ?_ _ | refine blk_drew ?_ | refine blk_alloc ?_ _)); refine blk_put (cs := #[.int .i64 0, .slice none 0 0]) ?_ 0 _ rfl; (with_reducible repeat (first | refine blk_drewN ?_ _ | refine blk_drew ?_ | refine blk_alloc ?_ _)); exact BK330.out) Try.underlying40 rfl (by kernel_rfl)) rfl ?_
      exact ⟨_, Gv.rt, by (with_reducible repeat (first | apply Kd.R_alloc | apply Kd.R_drewN | apply Kd.R_drew)); exact Kd.R_mono (Kd.R_far (p := ⟨gb330, 1, none⟩) (Kd.R_far (p := ⟨gb330, 0, none⟩) (Kd.R_types HO336.out BK330.out (by decide)) (fun _ hk => hk.2) (.int .i64 t333)) (fun _ hk => hk.2) (.slice Ao96 t334.length co96)) (fun _ hk => trivial), Gv.bw⟩

/-! ### impl_within: function 44 -/
def impl_within.f (a0 : Int) (a1 : Int) (a2 : Int) : Option (Bool) := if a0 ≥ a1 then (some (decide (a0 ≤ a2))) else (some false)
set_option maxHeartbeats 8000000 in
set_option maxRecDepth 100000 in
theorem impl_within.calls (a0 : Int) (a1 : Int) (a2 : Int) (r : Bool) (w : World) (h : impl_within.f a0 a1 a2 = some r) :
  Calls Try.prog 44 #[.int .i64 a0, .int .i64 a1, .int .i64 a2] w fun e w' => e = .returned (.bool r) ∧ Drawn0 w w' := by
 have H : (if a0 ≥ a1 then (some (decide (a0 ≤ a2))) else (some false)) = some r := h
 clear h
 by_cases c4 : a0 ≥ a1
 ·rw [if_pos c4] at H
  have c4b0 : decide (a1 ≤ a0) = true := decide_eq_true c4
  clear c4
  obtain rfl := Option.some.inj H
  go_enter Try.func44, Try.ntmps44
  go_wp2
  go_ret
  exact ⟨by first | rfl | (simp; done) | (simp [Int.tdiv_eq_ediv_of_nonneg]; done) | (simp [*]; done), by repeat (first | exact Drawn0.refl _ | apply Drawn0.step)⟩
 ·rw [if_neg c4] at H
  have c4b0 : decide (a1 ≤ a0) = false := decide_eq_false c4
  clear c4
  obtain rfl := Option.some.inj H
  go_enter Try.func44, Try.ntmps44
  go_wp2
  go_ret
  exact ⟨by first | rfl | (simp; done) | (simp [Int.tdiv_eq_ediv_of_nonneg]; done) | (simp [*]; done), by repeat (first | exact Drawn0.refl _ | apply Drawn0.step)⟩

/-! ### impl_isLong: function 90 -/
def impl_isLong.f (a0 : Int) : Option (Bool) := (impl_within.f a0 0 4294967295).bind fun t342 => (some t342)
set_option maxHeartbeats 8000000 in
set_option maxRecDepth 100000 in
theorem impl_isLong.calls (a0 : Int) (r : Bool) (w : World) (h : impl_isLong.f a0 = some r) :
  Calls Try.prog 90 #[.int .i64 a0] w fun e w' => e = .returned (.bool r) ∧ Drawn0 w w' := by
 have H : ((impl_within.f a0 0 4294967295).bind fun t342 => (some t342)) = some r := h
 clear h
 replace H := Option.bind_eq_some_iff.mp H
 obtain ⟨t342, A20, H⟩ := H
 (try dsimp only at H)
 have A2 := Gv.a0 A20
 clear A20
 obtain rfl := Option.some.inj H
 go_enter Try.func90, Try.ntmps90
 go_wp2_with (first | ((with_reducible refine gate_callee (f := 44) rfl ?_); refine goesL_ (some 4) rfl rfl Try.func44 (by kernel_rfl) rfl #[.int .i64 a0, .int .i64 0, .int .i64 4294967295] rfl Gv.lm ?_; (with_reducible refine (impl_within.calls a0 0 4294967295 t342 _ A2.out).mono ?_); rintro e w' ⟨rfl, ⟨nd, rfl⟩⟩; refine ⟨_, rfl, ?_⟩))
 go_ret
 exact ⟨by first | rfl | (simp; done) | (simp [Int.tdiv_eq_ediv_of_nonneg]; done) | (simp [*]; done), by repeat (first | exact Drawn0.refl _ | apply Drawn0.step)⟩

/-! ### impl_AddrOk: function 81 -/
def impl_AddrOk.f (a0_0 : Int) (a0_1 : Int) (a0_2 : Int) (a0_3 : Int) (a0_4 : Int) : Option (Bool) := if a0_0 = 4 then (if a0_1 = 0 then (if a0_2 = 0 then (if a0_3 = 0 then ((impl_isLong.f a0_4).bind fun t344 => (some t344)) else (some false)) else (some false)) else (some false)) else (if a0_0 = 6 then ((impl_isLong.f a0_1).bind fun t345 => (if t345 = true then ((impl_isLong.f a0_2).bind fun t346 => (if t346 = true then ((impl_isLong.f a0_3).bind fun t347 => (if t347 = true then ((impl_isLong.f a0_4).bind fun t348 => (some t348)) else (some false))) else (some false))) else (some false))) else (some false))
set_option maxHeartbeats 8000000 in
set_option maxRecDepth 100000 in
theorem impl_AddrOk.calls (a0_0 : Int) (a0_1 : Int) (a0_2 : Int) (a0_3 : Int) (a0_4 : Int) (r : Bool) (w : World) (h : impl_AddrOk.f a0_0 a0_1 a0_2 a0_3 a0_4 = some r) :
  Calls Try.prog 81 #[.agg #[.int .i64 a0_0, .int .i64 a0_1, .int .i64 a0_2, .int .i64 a0_3, .int .i64 a0_4]] w fun e w' => e = .returned (.bool r) ∧ Below w.heap.size w w' := by
 have hu29 := Try.underlying29
 have HB := Gv.a0 (Below.refl w.heap.size w)
 have H : (if a0_0 = 4 then (if a0_1 = 0 then (if a0_2 = 0 then (if a0_3 = 0 then ((impl_isLong.f a0_4).bind fun t344 => (some t344)) else (some false)) else (some false)) else (some false)) else (if a0_0 = 6 then ((impl_isLong.f a0_1).bind fun t345 => (if t345 = true then ((impl_isLong.f a0_2).bind fun t346 => (if t346 = true then ((impl_isLong.f a0_3).bind fun t347 => (if t347 = true then ((impl_isLong.f a0_4).bind fun t348 => (some t348)) else (some false))) else (some false))) else (some false))) else (some false))) = some r := h
 clear h
 by_cases c2 : a0_0 = 4
 ·rw [if_pos c2] at H
  have c2b0 : (a0_0 == 4) = true := beq_iff_eq.mpr c2
  have c2b1 : (a0_0 != 4) = false := bne_eq_false_iff_eq.mpr c2
  clear c2
  by_cases c3 : a0_1 = 0
  rotate_left
  ·rw [if_neg c3] at H
   have c3b0 : (a0_1 == 0) = false := beq_eq_false_iff_ne.mpr c3
   have c3b1 : (a0_1 != 0) = true := bne_iff_ne.mpr c3
   obtain rfl := Option.some.inj H
   go_enter Try.func81, Try.ntmps81
   go_wp2_with (first | ((with_reducible refine gate_dst (N := 1) rfl ?_); refine Gv.bev 1 29 #[.int .i64 a0_0, .int .i64 a0_1, .int .i64 a0_2, .int .i64 a0_3, .int .i64 a0_4] ?_; intro gb343 hg w13 hbox hb; have BK343 := Gv.a0 (hbox); have GW343 := Gv.a0 ((Gv.ble hg Gv.bw : w.heap.size ≤ gb343)); have GE343 := Gv.a0 ((Gv.ble hg Gv.bw : w.heap.size ≤ gb343)); replace HB := Gv.a0 (below_step Gv.bw hb); clear hb hbox hg; obtain ⟨hcz14_0, hcz14_1, hcz14_2, hcz14_3, hcz14_4⟩ := Gv.c5 BK343.out; obtain ⟨hfz14_0, hfz14_1, hfz14_2, hfz14_3, hfz14_4⟩ := Gv.f5 BK343.out))
   go_ret
   exact ⟨Gv.rt, Gv.bw⟩
  rw [if_pos c3] at H
  have c3b0 : (a0_1 == 0) = true := beq_iff_eq.mpr c3
  have c3b1 : (a0_1 != 0) = false := bne_eq_false_iff_eq.mpr c3
  clear c3
  by_cases c4 : a0_2 = 0
  rotate_left
  ·rw [if_neg c4] at H
   have c4b0 : (a0_2 == 0) = false := beq_eq_false_iff_ne.mpr c4
   have c4b1 : (a0_2 != 0) = true := bne_iff_ne.mpr c4
   obtain rfl := Option.some.inj H
   go_enter Try.func81, Try.ntmps81
   go_wp2_with (first | ((with_reducible refine gate_dst (N := 1) rfl ?_); refine Gv.bev 1 29 #[.int .i64 a0_0, .int .i64 a0_1, .int .i64 a0_2, .int .i64 a0_3, .int .i64 a0_4] ?_; intro gb343 hg w11 hbox hb; have BK343 := Gv.a0 (hbox); have GW343 := Gv.a0 ((Gv.ble hg Gv.bw : w.heap.size ≤ gb343)); have GE343 := Gv.a0 ((Gv.ble hg Gv.bw : w.heap.size ≤ gb343)); replace HB := Gv.a0 (below_step Gv.bw hb); clear hb hbox hg; obtain ⟨hcz12_0, hcz12_1, hcz12_2, hcz12_3, hcz12_4⟩ := Gv.c5 BK343.out; obtain ⟨hfz12_0, hfz12_1, hfz12_2, hfz12_3, hfz12_4⟩ := Gv.f5 BK343.out))
   go_ret
   exact ⟨Gv.rt, Gv.bw⟩
  rw [if_pos c4] at H
  have c4b0 : (a0_2 == 0) = true := beq_iff_eq.mpr c4
  have c4b1 : (a0_2 != 0) = false := bne_eq_false_iff_eq.mpr c4
  clear c4
  by_cases c5 : a0_3 = 0
  ·rw [if_pos c5] at H
   have c5b0 : (a0_3 == 0) = true := beq_iff_eq.mpr c5
   have c5b1 : (a0_3 != 0) = false := bne_eq_false_iff_eq.mpr c5
   clear c5
   replace H := Option.bind_eq_some_iff.mp H
   obtain ⟨t344, A60, H⟩ := H
   (try dsimp only at H)
   have A6 := Gv.a0 A60
   clear A60
   obtain rfl := Option.some.inj H
   go_enter Try.func81, Try.ntmps81
   go_wp2_with (first | ((with_reducible refine gate_dst (N := 1) rfl ?_); refine Gv.bev 1 29 #[.int .i64 a0_0, .int .i64 a0_1, .int .i64 a0_2, .int .i64 a0_3, .int .i64 a0_4] ?_; intro gb343 hg w7 hbox hb; have BK343 := Gv.a0 (hbox); have GW343 := Gv.a0 ((Gv.ble hg Gv.bw : w.heap.size ≤ gb343)); have GE343 := Gv.a0 ((Gv.ble hg Gv.bw : w.heap.size ≤ gb343)); replace HB := Gv.a0 (below_step Gv.bw hb); clear hb hbox hg; obtain ⟨hcz8_0, hcz8_1, hcz8_2, hcz8_3, hcz8_4⟩ := Gv.c5 BK343.out; obtain ⟨hfz8_0, hfz8_1, hfz8_2, hfz8_3, hfz8_4⟩ := Gv.f5 BK343.out) | (go_at_call 90; (with_reducible refine (impl_isLong.calls a0_4 t344 _ A6.out).mono ?_); rintro e w' ⟨rfl, ⟨nd, rfl⟩⟩))
   go_ret
   exact ⟨Gv.rt, Gv.bw⟩
  ·rw [if_neg c5] at H
   have c5b0 : (a0_3 == 0) = false := beq_eq_false_iff_ne.mpr c5
   have c5b1 : (a0_3 != 0) = true := bne_iff_ne.mpr c5
   obtain rfl := Option.some.inj H
   go_enter Try.func81, Try.ntmps81
   go_wp2_with (first | ((with_reducible refine gate_dst (N := 1) rfl ?_); refine Gv.bev 1 29 #[.int .i64 a0_0, .int .i64 a0_1, .int .i64 a0_2, .int .i64 a0_3, .int .i64 a0_4] ?_; intro gb343 hg w9 hbox hb; have BK343 := Gv.a0 (hbox); have GW343 := Gv.a0 ((Gv.ble hg Gv.bw : w.heap.size ≤ gb343)); have GE343 := Gv.a0 ((Gv.ble hg Gv.bw : w.heap.size ≤ gb343)); replace HB := Gv.a0 (below_step Gv.bw hb); clear hb hbox hg; obtain ⟨hcz10_0, hcz10_1, hcz10_2, hcz10_3, hcz10_4⟩ := Gv.c5 BK343.out; obtain ⟨hfz10_0, hfz10_1, hfz10_2, hfz10_3, hfz10_4⟩ := Gv.f5 BK343.out))
   go_ret
   exact ⟨Gv.rt, Gv.bw⟩
 ·rw [if_neg c2] at H
  have c2b0 : (a0_0 == 4) = false := beq_eq_false_iff_ne.mpr c2
  have c2b1 : (a0_0 != 4) = true := bne_iff_ne.mpr c2
  by_cases c15 : a0_0 = 6
  rotate_left
  ·rw [if_neg c15] at H
   have c15b0 : (a0_0 == 6) = false := beq_eq_false_iff_ne.mpr c15
   have c15b1 : (a0_0 != 6) = true := bne_iff_ne.mpr c15
   obtain rfl := Option.some.inj H
   go_enter Try.func81, Try.ntmps81
   go_wp2_with (first | ((with_reducible refine gate_dst (N := 1) rfl ?_); refine Gv.bev 1 29 #[.int .i64 a0_0, .int .i64 a0_1, .int .i64 a0_2, .int .i64 a0_3, .int .i64 a0_4] ?_; intro gb343 hg w31 hbox hb; have BK343 := Gv.a0 (hbox); have GW343 := Gv.a0 ((Gv.ble hg Gv.bw : w.heap.size ≤ gb343)); have GE343 := Gv.a0 ((Gv.ble hg Gv.bw : w.heap.size ≤ gb343)); replace HB := Gv.a0 (below_step Gv.bw hb); clear hb hbox hg; obtain ⟨hcz32_0, hcz32_1, hcz32_2, hcz32_3, hcz32_4⟩ := Gv.c5 BK343.out; obtain ⟨hfz32_0, hfz32_1, hfz32_2, hfz32_3, hfz32_4⟩ := Gv.f5 BK343.out))
   go_ret
   exact ⟨Gv.rt, Gv.bw⟩

  rw [if_pos c15] at H
  have c15b0 : (a0_0 == 6) = true := beq_iff_eq.mpr c15
  have c15b1 : (a0_0 != 6) = false := bne_eq_false_iff_eq.mpr c15
  clear c15
  replace H := Option.bind_eq_some_iff.mp H
  obtain ⟨t345, A160, H⟩ := H
  (try dsimp only at H)
  have A16 := Gv.a0 A160
  clear A160
  by_cases c17 : t345 = true
  rotate_left
  ·replace c17 := Bool.eq_false_iff.mpr c17
   subst c17
   rw [if_neg (show ¬ (false = true) by decide)] at H
   (try dsimp only at H)
   obtain rfl := Option.some.inj H
   go_enter Try.func81, Try.ntmps81
   go_wp2_with (first | ((with_reducible refine gate_dst (N := 1) rfl ?_); refine Gv.bev 1 29 #[.int .i64 a0_0, .int .i64 a0_1, .int .i64 a0_2, .int .i64 a0_3, .int .i64 a0_4] ?_; intro gb343 hg w29 hbox hb; have BK343 := Gv.a0 (hbox); have GW343 := Gv.a0 ((Gv.ble hg Gv.bw : w.heap.size ≤ gb343)); have GE343 := Gv.a0 ((Gv.ble hg Gv.bw : w.heap.size ≤ gb343)); replace HB := Gv.a0 (below_step Gv.bw hb); clear hb hbox hg; obtain ⟨hcz30_0, hcz30_1, hcz30_2, hcz30_3, hcz30_4⟩ := Gv.c5 BK343.out; obtain ⟨hfz30_0, hfz30_1, hfz30_2, hfz30_3, hfz30_4⟩ := Gv.f5 BK343.out) | ((with_reducible refine gate_callee (f := 90) rfl ?_); refine goesL_ (some 29) rfl rfl Try.func90 (by kernel_rfl) rfl #[.int .i64 a0_1] rfl Gv.lm ?_; (with_reducible refine (impl_isLong.calls a0_1 false _ A16.out).mono ?_); rintro e w' ⟨rfl, ⟨nd, rfl⟩⟩; refine ⟨_, rfl, ?_⟩))
   go_ret
   exact ⟨Gv.rt, Gv.bw⟩
  subst c17
  rw [if_pos rfl] at H
  (try dsimp only at H)
  replace H := Option.bind_eq_some_iff.mp H
  obtain ⟨t346, A180, H⟩ := H
  (try dsimp only at H)
  have A18 := Gv.a0 A180
  clear A180
  by_cases c19 : t346 = true
  rotate_left
  ·replace c19 := Bool.eq_false_iff.mpr c19
   subst c19
   rw [if_neg (show ¬ (false = true) by decide)] at H
   (try dsimp only at H)
   obtain rfl := Option.some.inj H
   go_enter Try.func81, Try.ntmps81
   go_wp2_with (first | ((with_reducible refine gate_dst (N := 1) rfl ?_); refine Gv.bev 1 29 #[.int .i64 a0_0, .int .i64 a0_1, .int .i64 a0_2, .int .i64 a0_3, .int .i64 a0_4] ?_; intro gb343 hg w27 hbox hb; have BK343 := Gv.a0 (hbox); have GW343 := Gv.a0 ((Gv.ble hg Gv.bw : w.heap.size ≤ gb343)); have GE343 := Gv.a0 ((Gv.ble hg Gv.bw : w.heap.size ≤ gb343)); replace HB := Gv.a0 (below_step Gv.bw hb); clear hb hbox hg; obtain ⟨hcz28_0, hcz28_1, hcz28_2, hcz28_3, hcz28_4⟩ := Gv.c5 BK343.out; obtain ⟨hfz28_0, hfz28_1, hfz28_2, hfz28_3, hfz28_4⟩ := Gv.f5 BK343.out) | ((with_reducible refine gate_callee (f := 90) rfl ?_); refine goesL_ (some 29) rfl rfl Try.func90 (by kernel_rfl) rfl #[.int .i64 a0_1] rfl Gv.lm ?_; (with_reducible refine (impl_isLong.calls a0_1 true _ A16.out).mono ?_); rintro e w' ⟨rfl, ⟨nd, rfl⟩⟩; refine ⟨_, rfl, ?_⟩) | (go_at_call 90; (with_reducible refine (impl_isLong.calls a0_2 false _ A18.out).mono ?_); rintro e w' ⟨rfl, ⟨nd, rfl⟩⟩))
   go_ret
   exact ⟨Gv.rt, Gv.bw⟩
  subst c19
  rw [if_pos rfl] at H
  (try dsimp only at H)
  replace H := Option.bind_eq_some_iff.mp H
  obtain ⟨t347, A200, H⟩ := H
  (try dsimp only at H)
  have A20 := Gv.a0 A200
  clear A200
  by_cases c21 : t347 = true
  ·subst c21
   rw [if_pos rfl] at H
   (try dsimp only at H)
   replace H := Option.bind_eq_some_iff.mp H
   obtain ⟨t348, A220, H⟩ := H
   (try dsimp only at H)
   have A22 := Gv.a0 A220
   clear A220
   obtain rfl := Option.some.inj H
   go_enter Try.func81, Try.ntmps81
   go_wp2_with (first | ((with_reducible refine gate_dst (N := 1) rfl ?_); refine Gv.bev 1 29 #[.int .i64 a0_0, .int .i64 a0_1, .int .i64 a0_2, .int .i64 a0_3, .int .i64 a0_4] ?_; intro gb343 hg w23 hbox hb; have BK343 := Gv.a0 (hbox); have GW343 := Gv.a0 ((Gv.ble hg Gv.bw : w.heap.size ≤ gb343)); have GE343 := Gv.a0 ((Gv.ble hg Gv.bw : w.heap.size ≤ gb343)); replace HB := Gv.a0 (below_step Gv.bw hb); clear hb hbox hg; obtain ⟨hcz24_0, hcz24_1, hcz24_2, hcz24_3, hcz24_4⟩ := Gv.c5 BK343.out; obtain ⟨hfz24_0, hfz24_1, hfz24_2, hfz24_3, hfz24_4⟩ := Gv.f5 BK343.out) | ((with_reducible refine gate_callee (f := 90) rfl ?_); refine goesL_ (some 29) rfl rfl Try.func90 (by kernel_rfl) rfl #[.int .i64 a0_1] rfl Gv.lm ?_; (with_reducible refine (impl_isLong.calls a0_1 true _ A16.out).mono ?_); rintro e w' ⟨rfl, ⟨nd, rfl⟩⟩; refine ⟨_, rfl, ?_⟩) | (go_at_call 90; (with_reducible refine (impl_isLong.calls a0_2 true _ A18.out).mono ?_); rintro e w' ⟨rfl, ⟨nd, rfl⟩⟩) | (go_at_call 90; (with_reducible refine (impl_isLong.calls a0_3 true _ A20.out).mono ?_); rintro e w' ⟨rfl, ⟨nd, rfl⟩⟩) | (go_at_call 90; (with_reducible refine (impl_isLong.calls a0_4 t348 _ A22.out).mono ?_); rintro e w' ⟨rfl, ⟨nd, rfl⟩⟩))
   go_ret
   exact ⟨Gv.rt, Gv.bw⟩
  ·replace c21 := Bool.eq_false_iff.mpr c21
   subst c21
   rw [if_neg (show ¬ (false = true) by decide)] at H
   (try dsimp only at H)
   obtain rfl := Option.some.inj H
   go_enter Try.func81, Try.ntmps81
   go_wp2_with (first | ((with_reducible refine gate_dst (N := 1) rfl ?_); refine Gv.bev 1 29 #[.int .i64 a0_0, .int .i64 a0_1, .int .i64 a0_2, .int .i64 a0_3, .int .i64 a0_4] ?_; intro gb343 hg w25 hbox hb; have BK343 := Gv.a0 (hbox); have GW343 := Gv.a0 ((Gv.ble hg Gv.bw : w.heap.size ≤ gb343)); have GE343 := Gv.a0 ((Gv.ble hg Gv.bw : w.heap.size ≤ gb343)); replace HB := Gv.a0 (below_step Gv.bw hb); clear hb hbox hg; obtain ⟨hcz26_0, hcz26_1, hcz26_2, hcz26_3, hcz26_4⟩ := Gv.c5 BK343.out; obtain ⟨hfz26_0, hfz26_1, hfz26_2, hfz26_3, hfz26_4⟩ := Gv.f5 BK343.out) | ((with_reducible refine gate_callee (f := 90) rfl ?_); refine goesL_ (some 29) rfl rfl Try.func90 (by kernel_rfl) rfl #[.int .i64 a0_1] rfl Gv.lm ?_; (with_reducible refine (impl_isLong.calls a0_1 true _ A16.out).mono ?_); rintro e w' ⟨rfl, ⟨nd, rfl⟩⟩; refine ⟨_, rfl, ?_⟩) | (go_at_call 90; (with_reducible refine (impl_isLong.calls a0_2 true _ A18.out).mono ?_); rintro e w' ⟨rfl, ⟨nd, rfl⟩⟩) | (go_at_call 90; (with_reducible refine (impl_isLong.calls a0_3 false _ A20.out).mono ?_); rintro e w' ⟨rfl, ⟨nd, rfl⟩⟩))
   go_ret
   exact ⟨Gv.rt, Gv.bw⟩
/-! ### impl_areBoth: function 68 -/
def impl_areBoth.f (a0_0 : Int) (a0_1 : Int) (a0_2 : Int) (a0_3 : Int) (a0_4 : Int) (a1_0 : Int) (a1_1 : Int) (a1_2 : Int) (a1_3 : Int) (a1_4 : Int) : Option (Bool) := (impl_AddrOk.f a0_0 a0_1 a0_2 a0_3 a0_4).bind fun t351 => (if t351 = true then ((impl_AddrOk.f a1_0 a1_1 a1_2 a1_3 a1_4).bind fun t352 => (if t352 = true then (some (a0_0 == a1_0)) else (some false))) else (some false))
set_option maxHeartbeats 8000000 in
set_option maxRecDepth 100000 in
theorem impl_areBoth.calls (a0_0 : Int) (a0_1 : Int) (a0_2 : Int) (a0_3 : Int) (a0_4 : Int) (a1_0 : Int) (a1_1 : Int) (a1_2 : Int) (a1_3 : Int) (a1_4 : Int) (r : Bool) (w : World) (h : impl_areBoth.f a0_0 a0_1 a0_2 a0_3 a0_4 a1_0 a1_1 a1_2 a1_3 a1_4 = some r) :
  Calls Try.prog 68 #[.agg #[.int .i64 a0_0, .int .i64 a0_1, .int .i64 a0_2, .int .i64 a0_3, .int .i64 a0_4], .agg #[.int .i64 a1_0, .int .i64 a1_1, .int .i64 a1_2, .int .i64 a1_3, .int .i64 a1_4]] w fun e w' => e = .returned (.bool r) ∧ Below w.heap.size w w' := by
 have hu29 := Try.underlying29
 have HB := Gv.a0 (Below.refl w.heap.size w)
 have H : ((impl_AddrOk.f a0_0 a0_1 a0_2 a0_3 a0_4).bind fun t351 => (if t351 = true then ((impl_AddrOk.f a1_0 a1_1 a1_2 a1_3 a1_4).bind fun t352 => (if t352 = true then (some (a0_0 == a1_0)) else (some false))) else (some false))) = some r := h
 clear h
 replace H := Option.bind_eq_some_iff.mp H
 obtain ⟨t351, A30, H⟩ := H
 (try dsimp only at H)
 have A3 := Gv.a0 A30
 clear A30
 by_cases c4 : t351 = true
 rotate_left
 ·replace c4 := Bool.eq_false_iff.mpr c4
  subst c4
  rw [if_neg (show ¬ (false = true) by decide)] at H
  (try dsimp only at H)
  obtain rfl := Option.some.inj H
  go_enter Try.func68, Try.ntmps68
  go_wp2_with (first | ((with_reducible refine gate_dst (N := 2) rfl ?_); refine Gv.bev 2 29 #[.int .i64 a0_0, .int .i64 a0_1, .int .i64 a0_2, .int .i64 a0_3, .int .i64 a0_4] ?_; intro gb349 hg w23 hbox hb; have BK349 := Gv.a0 (hbox); have GW349 := Gv.a0 ((Gv.ble hg Gv.bw : w.heap.size ≤ gb349)); have GE349 := Gv.a0 ((Gv.ble hg Gv.bw : w.heap.size ≤ gb349)); replace HB := Gv.a0 (below_step Gv.bw hb); clear hb hbox hg) | ((with_reducible refine gate_dst (N := 3) rfl ?_); refine Gv.bev 3 29 #[.int .i64 a1_0, .int .i64 a1_1, .int .i64 a1_2, .int .i64 a1_3, .int .i64 a1_4] ?_; intro gb350 hg w24 hbox hb; have BK350 := Gv.a0 (hbox); have GW350 := Gv.a0 ((Gv.ble hg Gv.bw : w.heap.size ≤ gb350)); have GE350 := Gv.a0 ((Gv.ble hg Gv.bw : w.heap.size ≤ gb350)); replace HB := Gv.a0 (below_step Gv.bw hb); have NB349_350 := Gv.a0 ((Gv.nlt hg (Gv.kb BK349.out) : gb349 ≠ gb350)); have NB350_349 := Gv.a0 ((Gv.ngt hg (Gv.kb BK349.out) : gb350 ≠ gb349)); replace BK349 := Gv.b1 BK349 hb; clear hb hbox hg; have hnb25 := NB349_350.out; have hnc25 := NB350_349.out; obtain ⟨hcz26_0, hcz26_1, hcz26_2, hcz26_3, hcz26_4⟩ := Gv.c5 BK349.out; obtain ⟨hfz26_0, hfz26_1, hfz26_2, hfz26_3, hfz26_4⟩ := Gv.f5 BK349.out) | ((with_reducible refine gate_callee (f := 81) rfl ?_); refine goesL_ (some 6) rfl rfl Try.func81 (by kernel_rfl) rfl #[.agg #[.int .i64 a0_0, .int .i64 a0_1, .int .i64 a0_2, .int .i64 a0_3, .int .i64 a0_4]] rfl Gv.lm ?_; (with_reducible refine (impl_AddrOk.calls a0_0 a0_1 a0_2 a0_3 a0_4 false _ A3.out).mono ?_); rintro e w27 ⟨rfl, hb⟩; refine ⟨_, rfl, ?_⟩; replace BK349 := Gv.b1 BK349 hb; replace BK350 := Gv.b1 BK350 hb; replace HB := Gv.a0 (below_step Gv.bw hb); clear hb))
  go_ret
  exact ⟨Gv.rt, Gv.bw⟩

 subst c4
 rw [if_pos rfl] at H
 (try dsimp only at H)
 replace H := Option.bind_eq_some_iff.mp H
 obtain ⟨t352, A50, H⟩ := H
 (try dsimp only at H)
 have A5 := Gv.a0 A50
 clear A50
 by_cases c6 : t352 = true
 ·subst c6
  rw [if_pos rfl] at H
  (try dsimp only at H)
  obtain rfl := Option.some.inj H
  go_enter Try.func68, Try.ntmps68
  go_wp2_with (first | ((with_reducible refine gate_dst (N := 2) rfl ?_); refine Gv.bev 2 29 #[.int .i64 a0_0, .int .i64 a0_1, .int .i64 a0_2, .int .i64 a0_3, .int .i64 a0_4] ?_; intro gb349 hg w7 hbox hb; have BK349 := Gv.a0 (hbox); have GW349 := Gv.a0 ((Gv.ble hg Gv.bw : w.heap.size ≤ gb349)); have GE349 := Gv.a0 ((Gv.ble hg Gv.bw : w.heap.size ≤ gb349)); replace HB := Gv.a0 (below_step Gv.bw hb); clear hb hbox hg) | ((with_reducible refine gate_dst (N := 3) rfl ?_); refine Gv.bev 3 29 #[.int .i64 a1_0, .int .i64 a1_1, .int .i64 a1_2, .int .i64 a1_3, .int .i64 a1_4] ?_; intro gb350 hg w8 hbox hb; have BK350 := Gv.a0 (hbox); have GW350 := Gv.a0 ((Gv.ble hg Gv.bw : w.heap.size ≤ gb350)); have GE350 := Gv.a0 ((Gv.ble hg Gv.bw : w.heap.size ≤ gb350)); replace HB := Gv.a0 (below_step Gv.bw hb); have NB349_350 := Gv.a0 ((Gv.nlt hg (Gv.kb BK349.out) : gb349 ≠ gb350)); have NB350_349 := Gv.a0 ((Gv.ngt hg (Gv.kb BK349.out) : gb350 ≠ gb349)); replace BK349 := Gv.b1 BK349 hb; clear hb hbox hg; have hnb9 := NB349_350.out; have hnc9 := NB350_349.out; obtain ⟨hcz10_0, hcz10_1, hcz10_2, hcz10_3, hcz10_4⟩ := Gv.c5 BK349.out; obtain ⟨hfz10_0, hfz10_1, hfz10_2, hfz10_3, hfz10_4⟩ := Gv.f5 BK349.out) | ((with_reducible refine gate_callee (f := 81) rfl ?_); refine goesL_ (some 6) rfl rfl Try.func81 (by kernel_rfl) rfl #[.agg #[.int .i64 a0_0, .int .i64 a0_1, .int .i64 a0_2, .int .i64 a0_3, .int .i64 a0_4]] rfl Gv.lm ?_; (with_reducible refine (impl_AddrOk.calls a0_0 a0_1 a0_2 a0_3 a0_4 true _ A3.out).mono ?_); rintro e w11 ⟨rfl, hb⟩; refine ⟨_, rfl, ?_⟩; replace BK349 := Gv.b1 BK349 hb; replace BK350 := Gv.b1 BK350 hb; replace HB := Gv.a0 (below_step Gv.bw hb); clear hb; obtain ⟨hcz12_0, hcz12_1, hcz12_2, hcz12_3, hcz12_4⟩ := Gv.c5 BK350.out; obtain ⟨hfz12_0, hfz12_1, hfz12_2, hfz12_3, hfz12_4⟩ := Gv.f5 BK350.out) | (go_at_call 81; (with_reducible refine (impl_AddrOk.calls a1_0 a1_1 a1_2 a1_3 a1_4 true _ A5.out).mono ?_); rintro e w13 ⟨rfl, hb⟩; replace BK349 := Gv.b1 BK349 hb; replace BK350 := Gv.b1 BK350 hb; replace HB := Gv.a0 (below_step Gv.bw hb); clear hb; obtain ⟨hcz14_0, hcz14_1, hcz14_2, hcz14_3, hcz14_4⟩ := Gv.c5 BK349.out; obtain ⟨hfz14_0, hfz14_1, hfz14_2, hfz14_3, hfz14_4⟩ := Gv.f5 BK349.out; obtain ⟨hcz15_0, hcz15_1, hcz15_2, hcz15_3, hcz15_4⟩ := Gv.c5 BK350.out; obtain ⟨hfz15_0, hfz15_1, hfz15_2, hfz15_3, hfz15_4⟩ := Gv.f5 BK350.out))
  go_ret
  exact ⟨Gv.rt, Gv.bw⟩
 ·replace c6 := Bool.eq_false_iff.mpr c6
  subst c6
  rw [if_neg (show ¬ (false = true) by decide)] at H
  (try dsimp only at H)
  obtain rfl := Option.some.inj H
  go_enter Try.func68, Try.ntmps68
  go_wp2_with (first | ((with_reducible refine gate_dst (N := 2) rfl ?_); refine Gv.bev 2 29 #[.int .i64 a0_0, .int .i64 a0_1, .int .i64 a0_2, .int .i64 a0_3, .int .i64 a0_4] ?_; intro gb349 hg w16 hbox hb; have BK349 := Gv.a0 (hbox); have GW349 := Gv.a0 ((Gv.ble hg Gv.bw : w.heap.size ≤ gb349)); have GE349 := Gv.a0 ((Gv.ble hg Gv.bw : w.heap.size ≤ gb349)); replace HB := Gv.a0 (below_step Gv.bw hb); clear hb hbox hg) | ((with_reducible refine gate_dst (N := 3) rfl ?_); refine Gv.bev 3 29 #[.int .i64 a1_0, .int .i64 a1_1, .int .i64 a1_2, .int .i64 a1_3, .int .i64 a1_4] ?_; intro gb350 hg w17 hbox hb; have BK350 := Gv.a0 (hbox); have GW350 := Gv.a0 ((Gv.ble hg Gv.bw : w.heap.size ≤ gb350)); have GE350 := Gv.a0 ((Gv.ble hg Gv.bw : w.heap.size ≤ gb350)); replace HB := Gv.a0 (below_step Gv.bw hb); have NB349_350 := Gv.a0 ((Gv.nlt hg (Gv.kb BK349.out) : gb349 ≠ gb350)); have NB350_349 := Gv.a0 ((Gv.ngt hg (Gv.kb BK349.out) : gb350 ≠ gb349)); replace BK349 := Gv.b1 BK349 hb; clear hb hbox hg; have hnb18 := NB349_350.out; have hnc18 := NB350_349.out; obtain ⟨hcz19_0, hcz19_1, hcz19_2, hcz19_3, hcz19_4⟩ := Gv.c5 BK349.out; obtain ⟨hfz19_0, hfz19_1, hfz19_2, hfz19_3, hfz19_4⟩ := Gv.f5 BK349.out) | ((with_reducible refine gate_callee (f := 81) rfl ?_); refine goesL_ (some 6) rfl rfl Try.func81 (by kernel_rfl) rfl #[.agg #[.int .i64 a0_0, .int .i64 a0_1, .int .i64 a0_2, .int .i64 a0_3, .int .i64 a0_4]] rfl Gv.lm ?_; (with_reducible refine (impl_AddrOk.calls a0_0 a0_1 a0_2 a0_3 a0_4 true _ A3.out).mono ?_); rintro e w20 ⟨rfl, hb⟩; refine ⟨_, rfl, ?_⟩; replace BK349 := Gv.b1 BK349 hb; replace BK350 := Gv.b1 BK350 hb; replace HB := Gv.a0 (below_step Gv.bw hb); clear hb; obtain ⟨hcz21_0, hcz21_1, hcz21_2, hcz21_3, hcz21_4⟩ := Gv.c5 BK350.out; obtain ⟨hfz21_0, hfz21_1, hfz21_2, hfz21_3, hfz21_4⟩ := Gv.f5 BK350.out) | (go_at_call 81; (with_reducible refine (impl_AddrOk.calls a1_0 a1_1 a1_2 a1_3 a1_4 false _ A5.out).mono ?_); rintro e w22 ⟨rfl, hb⟩; replace BK349 := Gv.b1 BK349 hb; replace BK350 := Gv.b1 BK350 hb; replace HB := Gv.a0 (below_step Gv.bw hb); clear hb))
  go_ret
  exact ⟨Gv.rt, Gv.bw⟩
/-! ### impl_isByte: function 69 -/
def impl_isByte.f (a0 : Int) : Option (Bool) := (impl_within.f a0 0 255).bind fun t353 => (some t353)
set_option maxHeartbeats 8000000 in
set_option maxRecDepth 100000 in
theorem impl_isByte.calls (a0 : Int) (r : Bool) (w : World) (h : impl_isByte.f a0 = some r) :
  Calls Try.prog 69 #[.int .i64 a0] w fun e w' => e = .returned (.bool r) ∧ Drawn0 w w' := by
 have H : ((impl_within.f a0 0 255).bind fun t353 => (some t353)) = some r := h
 clear h
 replace H := Option.bind_eq_some_iff.mp H
 obtain ⟨t353, A20, H⟩ := H
 (try dsimp only at H)
 have A2 := Gv.a0 A20
 clear A20
 obtain rfl := Option.some.inj H
 go_enter Try.func69, Try.ntmps69
 go_wp2_with (first | ((with_reducible refine gate_callee (f := 44) rfl ?_); refine goesL_ (some 4) rfl rfl Try.func44 (by kernel_rfl) rfl #[.int .i64 a0, .int .i64 0, .int .i64 255] rfl Gv.lm ?_; (with_reducible refine (impl_within.calls a0 0 255 t353 _ A2.out).mono ?_); rintro e w' ⟨rfl, ⟨nd, rfl⟩⟩; refine ⟨_, rfl, ?_⟩))
 go_ret
 exact ⟨by first | rfl | (simp; done) | (simp [Int.tdiv_eq_ediv_of_nonneg]; done) | (simp [*]; done), by repeat (first | exact Drawn0.refl _ | apply Drawn0.step)⟩

/-! ### impl_isWord: function 82 -/
def impl_isWord.f (a0 : Int) : Option (Bool) := (impl_within.f a0 0 65535).bind fun t354 => (some t354)
set_option maxHeartbeats 8000000 in
set_option maxRecDepth 100000 in
theorem impl_isWord.calls (a0 : Int) (r : Bool) (w : World) (h : impl_isWord.f a0 = some r) :
  Calls Try.prog 82 #[.int .i64 a0] w fun e w' => e = .returned (.bool r) ∧ Drawn0 w w' := by
 have H : ((impl_within.f a0 0 65535).bind fun t354 => (some t354)) = some r := h
 clear h
 replace H := Option.bind_eq_some_iff.mp H
 obtain ⟨t354, A20, H⟩ := H
 (try dsimp only at H)
 have A2 := Gv.a0 A20
 clear A20
 obtain rfl := Option.some.inj H
 go_enter Try.func82, Try.ntmps82
 go_wp2_with (first | ((with_reducible refine gate_callee (f := 44) rfl ?_); refine goesL_ (some 4) rfl rfl Try.func44 (by kernel_rfl) rfl #[.int .i64 a0, .int .i64 0, .int .i64 65535] rfl Gv.lm ?_; (with_reducible refine (impl_within.calls a0 0 65535 t354 _ A2.out).mono ?_); rintro e w' ⟨rfl, ⟨nd, rfl⟩⟩; refine ⟨_, rfl, ?_⟩))
 go_ret
 exact ⟨by first | rfl | (simp; done) | (simp [Int.tdiv_eq_ediv_of_nonneg]; done) | (simp [*]; done), by repeat (first | exact Drawn0.refl _ | apply Drawn0.step)⟩

/-! ### impl_areWords: function 70 -/
def impl_areWords.l0 : Nat → List Int → Int → Int → Option (Bool)
 | 0, _, _, _ => none
 | k + 1, x5, x6, x7 => if x7 < x6 then (if 0 ≤ x7 then (if x7 < (x5.length : Int) then ((impl_isWord.f (rd x5 x7)).bind fun t356 => (if t356 = true then (impl_areWords.l0 k x5 x6 (wrap64 (x7 + 1))) else (some false))) else (none)) else (none)) else (some true)
def impl_areWords.f (k : Nat) (l0 : List Int) : Option (Bool) := impl_areWords.l0 k l0 (l0.length : Int) 0
set_option maxHeartbeats 8000000 in
set_option maxRecDepth 100000 in
theorem impl_areWords.calls (k : Nat) (A0 : Option Addr) (c0 : Nat) (l0 : List Int) (r : Bool) (w : World) (hr0 : Kd.C (Kd.int .i64) w A0 l0.length l0) (hc0 : l0.length ≤ c0) (h : impl_areWords.f k l0 = some r) :
  Calls Try.prog 70 #[.slice A0 l0.length c0] w fun e w' => e = .returned (.bool r) ∧ Drawn0 w w' := by
 have HR0 := Gv.a0 hr0
 have HC0 := Gv.a0 hc0
 clear hr0 hc0
 have H : (impl_areWords.l0 k l0 (l0.length : Int) 0) = some r := h
 clear h
 have H' := Gv.a0 H
 clear H
 go_enter Try.func70, Try.ntmps70
 go_wp2
 go_loopg [7] k (fun kq v7 w' => ∃ (x7_1 : Int), v7 = .int .i64 x7_1 ∧ Aside0 (impl_areWords.l0 kq l0 (l0.length : Int) x7_1 = some r) ∧ Aside0 (kq ≤ k) ∧ Drawn0 w w')
 case atStart => exact ⟨(0), Gv.rq, H', ⟨Nat.le_refl _⟩, by repeat (first | exact Drawn0.refl _ | apply Drawn0.step)⟩
 case round =>
  clear H'
  obtain ⟨x7_1, rfl, HA, HK1, ⟨m1, rfl⟩⟩ := hrel
  cases gk with
  | zero => exact absurd HA.out (by simp [impl_areWords.l0])
  | succ k1 =>
   have H := HA.out
   clear HA
   simp only [impl_areWords.l0] at H
   by_cases c2 : x7_1 < (l0.length : Int)
   rotate_left
   ·rw [if_neg c2] at H
    have c2b0 : decide (x7_1 < (l0.length : Int)) = false := decide_eq_false c2
    clear c2
    obtain rfl := Option.some.inj H
    go_wp2
    go_ret
    exact ⟨by first | rfl | (simp; done) | (simp [Int.tdiv_eq_ediv_of_nonneg]; done) | (simp [*]; done), by repeat (first | exact Drawn0.refl _ | apply Drawn0.step)⟩

   rw [if_pos c2] at H
   have c2b0 : decide (x7_1 < (l0.length : Int)) = true := decide_eq_true c2
   clear c2
   by_cases c3 : 0 ≤ x7_1
   rotate_left
   ·rw [if_neg c3] at H
    exact absurd H (by simp)
   rw [if_pos c3] at H
   have c3b0 : decide (0 ≤ x7_1) = true := decide_eq_true c3
   clear c3
   by_cases c4 : x7_1 < (l0.length : Int)
   rotate_left
   ·rw [if_neg c4] at H
    exact absurd H (by simp)
   rw [if_pos c4] at H
   have c4b0 : decide (x7_1 < (l0.length : Int)) = true := decide_eq_true c4
   clear c4
   replace H := Option.bind_eq_some_iff.mp H
   obtain ⟨t356, A50, H⟩ := H
   (try dsimp only at H)
   have A5 := Gv.a0 A50
   clear A50
   by_cases c6 : t356 = true
   ·subst c6
    rw [if_pos rfl] at H
    (try dsimp only at H)
    have H' := Gv.a0 H
    clear H
    have p355 : 0 ≤ (x7_1 : Int) := of_decide_eq_true (by first | (with_reducible assumption) | assumption)
    have q355 : x7_1 < (l0.length : Int) := of_decide_eq_true (by first | (with_reducible assumption) | assumption)
    obtain ⟨ad355, e355, hx355_0⟩ := Kd.at_int HR0.out x7_1 p355 q355
    cases e355
    replace p355 := eq_true p355
    replace q355 := eq_true q355
    go_wp2_with (first | ((with_reducible refine gate_callee (f := 82) rfl ?_); refine goesL_ (some 12) rfl rfl Try.func82 (by kernel_rfl) rfl #[.int .i64 (rd l0 x7_1)] rfl Gv.lm ?_; (with_reducible refine (impl_isWord.calls (rd l0 x7_1) true _ A5.out).mono ?_); rintro e w' ⟨rfl, ⟨nd, rfl⟩⟩; refine ⟨_, rfl, ?_⟩))
    go_roundg k1
    case measure => have := HK1.out; omega
    case rel => exact ⟨(wrap64 (x7_1 + 1)), Gv.rq, H', ⟨by have := HK1.out; omega⟩, by repeat (first | exact Drawn0.refl _ | apply Drawn0.step)⟩
   ·replace c6 := Bool.eq_false_iff.mpr c6
    subst c6
    rw [if_neg (show ¬ (false = true) by decide)] at H
    (try dsimp only at H)
    obtain rfl := Option.some.inj H
    have p355 : 0 ≤ (x7_1 : Int) := of_decide_eq_true (by first | (with_reducible assumption) | assumption)
    have q355 : x7_1 < (l0.length : Int) := of_decide_eq_true (by first | (with_reducible assumption) | assumption)
    obtain ⟨ad355, e355, hx355_0⟩ := Kd.at_int HR0.out x7_1 p355 q355
    cases e355
    replace p355 := eq_true p355
    replace q355 := eq_true q355
    go_wp2_with (first | ((with_reducible refine gate_callee (f := 82) rfl ?_); refine goesL_ (some 12) rfl rfl Try.func82 (by kernel_rfl) rfl #[.int .i64 (rd l0 x7_1)] rfl Gv.lm ?_; (with_reducible refine (impl_isWord.calls (rd l0 x7_1) false _ A5.out).mono ?_); rintro e w' ⟨rfl, ⟨nd, rfl⟩⟩; refine ⟨_, rfl, ?_⟩))
    go_ret
    exact ⟨by first | rfl | (simp; done) | (simp [Int.tdiv_eq_ediv_of_nonneg]; done) | (simp [*]; done), by repeat (first | exact Drawn0.refl _ | apply Drawn0.step)⟩
/-! ### impl_KeyOk: function 45 -/
def impl_KeyOk.f (k : Nat) (a0_0 : Int) (a0_1 : Int) (a0_2 : Int) (a0_3 : Int) (a0_4 : Int) (a0_5 : Int) (a0_6 : Int) (a0_7 : Int) (a0_8 : Int) (a0_9 : Int) (a0_10 : Int) (a0_11 : Int) (a0_12 : Int) : Option (Bool) := (impl_areBoth.f a0_0 a0_1 a0_2 a0_3 a0_4 a0_5 a0_6 a0_7 a0_8 a0_9).bind fun t358 => (if t358 = true then ((impl_isByte.f a0_10).bind fun t359 => (if t359 = true then ((impl_areWords.f k (([a0_11, a0_12] : List Int))).bind fun t363 => (some t363)) else (some false))) else (some false))
set_option maxHeartbeats 8000000 in
set_option maxRecDepth 100000 in
theorem impl_KeyOk.calls (k : Nat) (a0_0 : Int) (a0_1 : Int) (a0_2 : Int) (a0_3 : Int) (a0_4 : Int) (a0_5 : Int) (a0_6 : Int) (a0_7 : Int) (a0_8 : Int) (a0_9 : Int) (a0_10 : Int) (a0_11 : Int) (a0_12 : Int) (r : Bool) (w : World) (h : impl_KeyOk.f k a0_0 a0_1 a0_2 a0_3 a0_4 a0_5 a0_6 a0_7 a0_8 a0_9 a0_10 a0_11 a0_12 = some r) :
  Calls Try.prog 45 #[.agg #[.int .i64 a0_0, .int .i64 a0_1, .int .i64 a0_2, .int .i64 a0_3, .int .i64 a0_4, .int .i64 a0_5, .int .i64 a0_6, .int .i64 a0_7, .int .i64 a0_8, .int .i64 a0_9, .int .i64 a0_10, .int .i64 a0_11, .int .i64 a0_12]] w fun e w' => e = .returned (.bool r) ∧ Below w.heap.size w w' := by
 have hu31 := Try.underlying31
 have hu29 := Try.underlying29
 have HB := Gv.a0 (Below.refl w.heap.size w)
 have H : ((impl_areBoth.f a0_0 a0_1 a0_2 a0_3 a0_4 a0_5 a0_6 a0_7 a0_8 a0_9).bind fun t358 => (if t358 = true then ((impl_isByte.f a0_10).bind fun t359 => (if t359 = true then ((impl_areWords.f k (([a0_11, a0_12] : List Int))).bind fun t363 => (some t363)) else (some false))) else (some false))) = some r := h
 clear h
 replace H := Option.bind_eq_some_iff.mp H
 obtain ⟨t358, A20, H⟩ := H
 (try dsimp only at H)
 have A2 := Gv.a0 A20
 clear A20
 by_cases c3 : t358 = true
 rotate_left
 ·replace c3 := Bool.eq_false_iff.mpr c3
  subst c3
  rw [if_neg (show ¬ (false = true) by decide)] at H
  (try dsimp only at H)
  obtain rfl := Option.some.inj H
  go_enter Try.func45, Try.ntmps45
  go_wp2_with (first | ((with_reducible refine gate_dst (N := 1) rfl ?_); (try (refine gate_guard (by rfl) ?_; dsimp only)); refine Gv.bev 1 31 #[.int .i64 a0_0, .int .i64 a0_1, .int .i64 a0_2, .int .i64 a0_3, .int .i64 a0_4, .int .i64 a0_5, .int .i64 a0_6, .int .i64 a0_7, .int .i64 a0_8, .int .i64 a0_9, .int .i64 a0_10, .int .i64 a0_11, .int .i64 a0_12] ?_; intro gb357 hg w18 hbox hb; have BK357 := Gv.a0 (hbox); have GW357 := Gv.a0 ((Gv.ble hg Gv.bw : w.heap.size ≤ gb357)); have GE357 := Gv.a0 ((Gv.ble hg Gv.bw : w.heap.size ≤ gb357)); replace HB := Gv.a0 (below_step Gv.bw hb); clear hb hbox hg; obtain ⟨hcz19_0, hcz19_1, hcz19_2, hcz19_3, hcz19_4, hcz19_5, hcz19_6, hcz19_7, hcz19_8, hcz19_9, hcz19_10, hcz19_11, hcz19_12⟩ := Gv.c13 BK357.out; obtain ⟨hfz19_0, hfz19_1, hfz19_2, hfz19_3, hfz19_4, hfz19_5, hfz19_6, hfz19_7, hfz19_8, hfz19_9, hfz19_10, hfz19_11, hfz19_12⟩ := Gv.f13 BK357.out) | ((with_reducible refine gate_callee (f := 68) rfl ?_); refine goesL_ (some 7) rfl rfl Try.func68 (by kernel_rfl) rfl #[.agg #[.int .i64 a0_0, .int .i64 a0_1, .int .i64 a0_2, .int .i64 a0_3, .int .i64 a0_4], .agg #[.int .i64 a0_5, .int .i64 a0_6, .int .i64 a0_7, .int .i64 a0_8, .int .i64 a0_9]] rfl Gv.lm ?_; (with_reducible refine (impl_areBoth.calls a0_0 a0_1 a0_2 a0_3 a0_4 a0_5 a0_6 a0_7 a0_8 a0_9 false _ A2.out).mono ?_); rintro e w20 ⟨rfl, hb⟩; refine ⟨_, rfl, ?_⟩; replace BK357 := Gv.b1 BK357 hb; replace HB := Gv.a0 (below_step Gv.bw hb); clear hb))
  go_ret
  exact ⟨Gv.rt, Gv.bw⟩

 subst c3
 rw [if_pos rfl] at H
 (try dsimp only at H)
 replace H := Option.bind_eq_some_iff.mp H
 obtain ⟨t359, A40, H⟩ := H
 (try dsimp only at H)
 have A4 := Gv.a0 A40
 clear A40
 by_cases c5 : t359 = true
 ·subst c5
  rw [if_pos rfl] at H
  (try dsimp only at H)
  obtain ⟨y360, hy360⟩ : ∃ y_ : List Int, y_ = (([a0_11, a0_12] : List Int)) := ⟨_, rfl⟩
  replace H : ((impl_areWords.f k y360).bind fun t363 => (some t363)) = some r := by first | (rw [hy360]; with_reducible exact H) | (have H2_ := (Option.bind_some _ _).symm.trans H; rw [hy360]; with_reducible exact H2_) | (have H2_ := (Option.bind_some _ _).symm.trans H; with_reducible exact H2_) | with_reducible exact H | (rw [hy360]; exact H) | exact H
  have Ny360 := Gv.a0 hy360
  clear hy360
  replace H := Option.bind_eq_some_iff.mp H
  obtain ⟨t363, A60, H⟩ := H
  (try dsimp only at H)
  have A6 := Gv.a0 A60
  clear A60
  obtain rfl := Option.some.inj H
  go_enter Try.func45, Try.ntmps45
  go_wp2_with (first | ((with_reducible refine gate_dst (N := 1) rfl ?_); (try (refine gate_guard (by rfl) ?_; dsimp only)); refine Gv.bev 1 31 #[.int .i64 a0_0, .int .i64 a0_1, .int .i64 a0_2, .int .i64 a0_3, .int .i64 a0_4, .int .i64 a0_5, .int .i64 a0_6, .int .i64 a0_7, .int .i64 a0_8, .int .i64 a0_9, .int .i64 a0_10, .int .i64 a0_11, .int .i64 a0_12] ?_; intro gb357 hg w7 hbox hb; have BK357 := Gv.a0 (hbox); have GW357 := Gv.a0 ((Gv.ble hg Gv.bw : w.heap.size ≤ gb357)); have GE357 := Gv.a0 ((Gv.ble hg Gv.bw : w.heap.size ≤ gb357)); replace HB := Gv.a0 (below_step Gv.bw hb); clear hb hbox hg; obtain ⟨hcz8_0, hcz8_1, hcz8_2, hcz8_3, hcz8_4, hcz8_5, hcz8_6, hcz8_7, hcz8_8, hcz8_9, hcz8_10, hcz8_11, hcz8_12⟩ := Gv.c13 BK357.out; obtain ⟨hfz8_0, hfz8_1, hfz8_2, hfz8_3, hfz8_4, hfz8_5, hfz8_6, hfz8_7, hfz8_8, hfz8_9, hfz8_10, hfz8_11, hfz8_12⟩ := Gv.f13 BK357.out) | ((with_reducible refine gate_callee (f := 68) rfl ?_); refine goesL_ (some 7) rfl rfl Try.func68 (by kernel_rfl) rfl #[.agg #[.int .i64 a0_0, .int .i64 a0_1, .int .i64 a0_2, .int .i64 a0_3, .int .i64 a0_4], .agg #[.int .i64 a0_5, .int .i64 a0_6, .int .i64 a0_7, .int .i64 a0_8, .int .i64 a0_9]] rfl Gv.lm ?_; (with_reducible refine (impl_areBoth.calls a0_0 a0_1 a0_2 a0_3 a0_4 a0_5 a0_6 a0_7 a0_8 a0_9 true _ A2.out).mono ?_); rintro e w9 ⟨rfl, hb⟩; refine ⟨_, rfl, ?_⟩; replace BK357 := Gv.b1 BK357 hb; replace HB := Gv.a0 (below_step Gv.bw hb); clear hb; obtain ⟨hcz10_0, hcz10_1, hcz10_2, hcz10_3, hcz10_4, hcz10_5, hcz10_6, hcz10_7, hcz10_8, hcz10_9, hcz10_10, hcz10_11, hcz10_12⟩ := Gv.c13 BK357.out; obtain ⟨hfz10_0, hfz10_1, hfz10_2, hfz10_3, hfz10_4, hfz10_5, hfz10_6, hfz10_7, hfz10_8, hfz10_9, hfz10_10, hfz10_11, hfz10_12⟩ := Gv.f13 BK357.out) | (go_at_call 69; (with_reducible refine (impl_isByte.calls a0_10 true _ A4.out).mono ?_); rintro e w' ⟨rfl, ⟨nd, rfl⟩⟩) | ((with_reducible refine gate_dst (N := 18) rfl ?_); (try (refine gate_guard (by rfl) ?_; dsimp only)); refine Kd.R_lit (Kd.int .i64) _ 3 ?hg (N := 18) ?hd (xs := ([a0_11, a0_12] : List Int)) (inner := [.int .i64 a0_11, .int .i64 a0_12]) (ok := fun _ => True) (okp := fun _ => True) ?hr ?hp (fun _ hk => hk) trivial (Below.refl _ _) (Nat.le_refl _) (by simp) ?_; (case hd => rfl); (case hg => rfl); (case hr => first | (go_simp; done) | (go_simp; rfl)); (case hp => exact (Reps.one (show Kd.M (Kd.int .i64) _ _ _ a0_11 [.int .i64 a0_11] from rfl) (Reps.one (show Kd.M (Kd.int .i64) _ _ _ a0_12 [.int .i64 a0_12] from rfl) (Reps.none _ _)))); intro v361 w11 ho12 hb hg_ hnew_; clear hg_ hnew_; (first | rw [← Ny360.out] at ho12 | (simp only [Int.reduceToNat] at ho12; rw [← Ny360.out] at ho12)); have HO362 := Gv.a0 (Kd.R_lower ho12 (below_size Gv.bw)); replace BK357 := Gv.b1 BK357 hb; replace HB := Gv.a0 (below_step Gv.bw hb); clear hb ho12; obtain ⟨Ao13, co13, eo13⟩ := Kd.R_slice HO362.out; subst eo13) | (go_at_call 70; (with_reducible refine (impl_areWords.calls k _ _ y360 t363 _ ?side1 ?side2 A6.out).mono ?_); (case side1 => repeat (first | exact (Kd.R_reads' HO362.out).2.2 | (with_reducible refine Kd.C_alloc ?_ _) | (with_reducible refine Kd.C_drewN ?_ _) | (with_reducible refine Kd.C_drew ?_))); (case side2 => exact (Kd.R_reads' HO362.out).2.1); rintro e w' ⟨rfl, ⟨nd, rfl⟩⟩))
  go_ret
  exact ⟨Gv.rt, Gv.bw⟩
 ·replace c5 := Bool.eq_false_iff.mpr c5
  subst c5
  rw [if_neg (show ¬ (false = true) by decide)] at H
  (try dsimp only at H)
  obtain rfl := Option.some.inj H
  go_enter Try.func45, Try.ntmps45
  go_wp2_with (first | ((with_reducible refine gate_dst (N := 1) rfl ?_); (try (refine gate_guard (by rfl) ?_; dsimp only)); refine Gv.bev 1 31 #[.int .i64 a0_0, .int .i64 a0_1, .int .i64 a0_2, .int .i64 a0_3, .int .i64 a0_4, .int .i64 a0_5, .int .i64 a0_6, .int .i64 a0_7, .int .i64 a0_8, .int .i64 a0_9, .int .i64 a0_10, .int .i64 a0_11, .int .i64 a0_12] ?_; intro gb357 hg w14 hbox hb; have BK357 := Gv.a0 (hbox); have GW357 := Gv.a0 ((Gv.ble hg Gv.bw : w.heap.size ≤ gb357)); have GE357 := Gv.a0 ((Gv.ble hg Gv.bw : w.heap.size ≤ gb357)); replace HB := Gv.a0 (below_step Gv.bw hb); clear hb hbox hg; obtain ⟨hcz15_0, hcz15_1, hcz15_2, hcz15_3, hcz15_4, hcz15_5, hcz15_6, hcz15_7, hcz15_8, hcz15_9, hcz15_10, hcz15_11, hcz15_12⟩ := Gv.c13 BK357.out; obtain ⟨hfz15_0, hfz15_1, hfz15_2, hfz15_3, hfz15_4, hfz15_5, hfz15_6, hfz15_7, hfz15_8, hfz15_9, hfz15_10, hfz15_11, hfz15_12⟩ := Gv.f13 BK357.out) | ((with_reducible refine gate_callee (f := 68) rfl ?_); refine goesL_ (some 7) rfl rfl Try.func68 (by kernel_rfl) rfl #[.agg #[.int .i64 a0_0, .int .i64 a0_1, .int .i64 a0_2, .int .i64 a0_3, .int .i64 a0_4], .agg #[.int .i64 a0_5, .int .i64 a0_6, .int .i64 a0_7, .int .i64 a0_8, .int .i64 a0_9]] rfl Gv.lm ?_; (with_reducible refine (impl_areBoth.calls a0_0 a0_1 a0_2 a0_3 a0_4 a0_5 a0_6 a0_7 a0_8 a0_9 true _ A2.out).mono ?_); rintro e w16 ⟨rfl, hb⟩; refine ⟨_, rfl, ?_⟩; replace BK357 := Gv.b1 BK357 hb; replace HB := Gv.a0 (below_step Gv.bw hb); clear hb; obtain ⟨hcz17_0, hcz17_1, hcz17_2, hcz17_3, hcz17_4, hcz17_5, hcz17_6, hcz17_7, hcz17_8, hcz17_9, hcz17_10, hcz17_11, hcz17_12⟩ := Gv.c13 BK357.out; obtain ⟨hfz17_0, hfz17_1, hfz17_2, hfz17_3, hfz17_4, hfz17_5, hfz17_6, hfz17_7, hfz17_8, hfz17_9, hfz17_10, hfz17_11, hfz17_12⟩ := Gv.f13 BK357.out) | (go_at_call 69; (with_reducible refine (impl_isByte.calls a0_10 false _ A4.out).mono ?_); rintro e w' ⟨rfl, ⟨nd, rfl⟩⟩))
  go_ret
  exact ⟨Gv.rt, Gv.bw⟩
/-! ### impl_FlowKeyOk: function 15 -/
def impl_FlowKeyOk.f (k : Nat) (a0_0 : Int) (a0_1 : Int) (a0_2 : Int) (a0_3 : Int) (a0_4 : Int) (a0_5 : Int) (a0_6 : Int) (a0_7 : Int) (a0_8 : Int) (a0_9 : Int) (a0_10 : Int) (a0_11 : Int) (a0_12 : Int) (a0_13 : Int) : Option (Bool) := (impl_within.f a0_0 1 8).bind fun t365 => (if t365 = true then ((impl_KeyOk.f k a0_1 a0_2 a0_3 a0_4 a0_5 a0_6 a0_7 a0_8 a0_9 a0_10 a0_11 a0_12 a0_13).bind fun t366 => (some t366)) else (some false))
set_option maxHeartbeats 8000000 in
set_option maxRecDepth 100000 in
theorem impl_FlowKeyOk.calls (k : Nat) (a0_0 : Int) (a0_1 : Int) (a0_2 : Int) (a0_3 : Int) (a0_4 : Int) (a0_5 : Int) (a0_6 : Int) (a0_7 : Int) (a0_8 : Int) (a0_9 : Int) (a0_10 : Int) (a0_11 : Int) (a0_12 : Int) (a0_13 : Int) (r : Bool) (w : World) (h : impl_FlowKeyOk.f k a0_0 a0_1 a0_2 a0_3 a0_4 a0_5 a0_6 a0_7 a0_8 a0_9 a0_10 a0_11 a0_12 a0_13 = some r) :
  Calls Try.prog 15 #[.agg #[.int .i64 a0_0, .int .i64 a0_1, .int .i64 a0_2, .int .i64 a0_3, .int .i64 a0_4, .int .i64 a0_5, .int .i64 a0_6, .int .i64 a0_7, .int .i64 a0_8, .int .i64 a0_9, .int .i64 a0_10, .int .i64 a0_11, .int .i64 a0_12, .int .i64 a0_13]] w fun e w' => e = .returned (.bool r) ∧ Below w.heap.size w w' := by
 have hu33 := Try.underlying33
 have hu31 := Try.underlying31
 have HB := Gv.a0 (Below.refl w.heap.size w)
 have H : ((impl_within.f a0_0 1 8).bind fun t365 => (if t365 = true then ((impl_KeyOk.f k a0_1 a0_2 a0_3 a0_4 a0_5 a0_6 a0_7 a0_8 a0_9 a0_10 a0_11 a0_12 a0_13).bind fun t366 => (some t366)) else (some false))) = some r := h
 clear h
 replace H := Option.bind_eq_some_iff.mp H
 obtain ⟨t365, A20, H⟩ := H
 (try dsimp only at H)
 have A2 := Gv.a0 A20
 clear A20
 by_cases c3 : t365 = true
 ·subst c3
  rw [if_pos rfl] at H
  (try dsimp only at H)
  replace H := Option.bind_eq_some_iff.mp H
  obtain ⟨t366, A40, H⟩ := H
  (try dsimp only at H)
  have A4 := Gv.a0 A40
  clear A40
  obtain rfl := Option.some.inj H
  go_enter Try.func15, Try.ntmps15
  go_wp2_with (first | ((with_reducible refine gate_dst (N := 1) rfl ?_); refine Gv.bev 1 33 #[.int .i64 a0_0, .int .i64 a0_1, .int .i64 a0_2, .int .i64 a0_3, .int .i64 a0_4, .int .i64 a0_5, .int .i64 a0_6, .int .i64 a0_7, .int .i64 a0_8, .int .i64 a0_9, .int .i64 a0_10, .int .i64 a0_11, .int .i64 a0_12, .int .i64 a0_13] ?_; intro gb364 hg w5 hbox hb; have BK364 := Gv.a0 (hbox); have GW364 := Gv.a0 ((Gv.ble hg Gv.bw : w.heap.size ≤ gb364)); have GE364 := Gv.a0 ((Gv.ble hg Gv.bw : w.heap.size ≤ gb364)); replace HB := Gv.a0 (below_step Gv.bw hb); clear hb hbox hg; obtain ⟨hcz6_0, hcz6_1, hcz6_2, hcz6_3, hcz6_4, hcz6_5, hcz6_6, hcz6_7, hcz6_8, hcz6_9, hcz6_10, hcz6_11, hcz6_12, hcz6_13⟩ := Gv.c14 BK364.out; obtain ⟨hfz6_0, hfz6_1, hfz6_2, hfz6_3, hfz6_4, hfz6_5, hfz6_6, hfz6_7, hfz6_8, hfz6_9, hfz6_10, hfz6_11, hfz6_12, hfz6_13⟩ := Gv.f14 BK364.out) | ((with_reducible refine gate_callee (f := 44) rfl ?_); refine goesL_ (some 5) rfl rfl Try.func44 (by kernel_rfl) rfl #[.int .i64 a0_0, .int .i64 1, .int .i64 8] rfl Gv.lm ?_; (with_reducible refine (impl_within.calls a0_0 1 8 true _ A2.out).mono ?_); rintro e w' ⟨rfl, ⟨nd, rfl⟩⟩; refine ⟨_, rfl, ?_⟩) | (go_at_call 45; (with_reducible refine (impl_KeyOk.calls k a0_1 a0_2 a0_3 a0_4 a0_5 a0_6 a0_7 a0_8 a0_9 a0_10 a0_11 a0_12 a0_13 t366 _ A4.out).mono ?_); rintro e w7 ⟨rfl, hb⟩; replace BK364 := Gv.b1 BK364 hb; replace HB := Gv.a0 (below_step Gv.bw hb); clear hb))
  go_ret
  exact ⟨Gv.rt, Gv.bw⟩
 ·replace c3 := Bool.eq_false_iff.mpr c3
  subst c3
  rw [if_neg (show ¬ (false = true) by decide)] at H
  (try dsimp only at H)
  obtain rfl := Option.some.inj H
  go_enter Try.func15, Try.ntmps15
  go_wp2_with (first | ((with_reducible refine gate_dst (N := 1) rfl ?_); refine Gv.bev 1 33 #[.int .i64 a0_0, .int .i64 a0_1, .int .i64 a0_2, .int .i64 a0_3, .int .i64 a0_4, .int .i64 a0_5, .int .i64 a0_6, .int .i64 a0_7, .int .i64 a0_8, .int .i64 a0_9, .int .i64 a0_10, .int .i64 a0_11, .int .i64 a0_12, .int .i64 a0_13] ?_; intro gb364 hg w8 hbox hb; have BK364 := Gv.a0 (hbox); have GW364 := Gv.a0 ((Gv.ble hg Gv.bw : w.heap.size ≤ gb364)); have GE364 := Gv.a0 ((Gv.ble hg Gv.bw : w.heap.size ≤ gb364)); replace HB := Gv.a0 (below_step Gv.bw hb); clear hb hbox hg; obtain ⟨hcz9_0, hcz9_1, hcz9_2, hcz9_3, hcz9_4, hcz9_5, hcz9_6, hcz9_7, hcz9_8, hcz9_9, hcz9_10, hcz9_11, hcz9_12, hcz9_13⟩ := Gv.c14 BK364.out; obtain ⟨hfz9_0, hfz9_1, hfz9_2, hfz9_3, hfz9_4, hfz9_5, hfz9_6, hfz9_7, hfz9_8, hfz9_9, hfz9_10, hfz9_11, hfz9_12, hfz9_13⟩ := Gv.f14 BK364.out) | ((with_reducible refine gate_callee (f := 44) rfl ?_); refine goesL_ (some 5) rfl rfl Try.func44 (by kernel_rfl) rfl #[.int .i64 a0_0, .int .i64 1, .int .i64 8] rfl Gv.lm ?_; (with_reducible refine (impl_within.calls a0_0 1 8 false _ A2.out).mono ?_); rintro e w' ⟨rfl, ⟨nd, rfl⟩⟩; refine ⟨_, rfl, ?_⟩))
  go_ret
  exact ⟨Gv.rt, Gv.bw⟩

/-! ### impl_isCells: function 48 -/
def impl_isCells.f (a0 : Int) : Option (Bool) := if a0 = 4 then (some true) else (if a0 = 8 then (some true) else (if a0 = 16 then (some true) else (if a0 = 32 then (some true) else (some (a0 == 64)))))
set_option maxHeartbeats 8000000 in
set_option maxRecDepth 100000 in
theorem impl_isCells.calls (a0 : Int) (r : Bool) (w : World) (h : impl_isCells.f a0 = some r) :
  Calls Try.prog 48 #[.int .i64 a0] w fun e w' => e = .returned (.bool r) ∧ Drawn0 w w' := by
 have H : (if a0 = 4 then (some true) else (if a0 = 8 then (some true) else (if a0 = 16 then (some true) else (if a0 = 32 then (some true) else (some (a0 == 64)))))) = some r := h
 clear h
 by_cases c2 : a0 = 4
 ·rw [if_pos c2] at H
  have c2b0 : (a0 == 4) = true := beq_iff_eq.mpr c2
  have c2b1 : (a0 != 4) = false := bne_eq_false_iff_eq.mpr c2
  clear c2
  obtain rfl := Option.some.inj H
  go_enter Try.func48, Try.ntmps48
  go_wp2
  go_ret
  exact ⟨by first | rfl | (simp; done) | (simp [Int.tdiv_eq_ediv_of_nonneg]; done) | (simp [*]; done), by repeat (first | exact Drawn0.refl _ | apply Drawn0.step)⟩
 ·rw [if_neg c2] at H
  have c2b0 : (a0 == 4) = false := beq_eq_false_iff_ne.mpr c2
  have c2b1 : (a0 != 4) = true := bne_iff_ne.mpr c2
  by_cases c3 : a0 = 8
  ·rw [if_pos c3] at H
   have c3b0 : (a0 == 8) = true := beq_iff_eq.mpr c3
   have c3b1 : (a0 != 8) = false := bne_eq_false_iff_eq.mpr c3
   clear c3
   obtain rfl := Option.some.inj H
   go_enter Try.func48, Try.ntmps48
   go_wp2
   go_ret
   exact ⟨by first | rfl | (simp; done) | (simp [Int.tdiv_eq_ediv_of_nonneg]; done) | (simp [*]; done), by repeat (first | exact Drawn0.refl _ | apply Drawn0.step)⟩
  ·rw [if_neg c3] at H
   have c3b0 : (a0 == 8) = false := beq_eq_false_iff_ne.mpr c3
   have c3b1 : (a0 != 8) = true := bne_iff_ne.mpr c3
   by_cases c4 : a0 = 16
   ·rw [if_pos c4] at H
    have c4b0 : (a0 == 16) = true := beq_iff_eq.mpr c4
    have c4b1 : (a0 != 16) = false := bne_eq_false_iff_eq.mpr c4
    clear c4
    obtain rfl := Option.some.inj H
    go_enter Try.func48, Try.ntmps48
    go_wp2
    go_ret
    exact ⟨by first | rfl | (simp; done) | (simp [Int.tdiv_eq_ediv_of_nonneg]; done) | (simp [*]; done), by repeat (first | exact Drawn0.refl _ | apply Drawn0.step)⟩
   ·rw [if_neg c4] at H
    have c4b0 : (a0 == 16) = false := beq_eq_false_iff_ne.mpr c4
    have c4b1 : (a0 != 16) = true := bne_iff_ne.mpr c4
    by_cases c5 : a0 = 32
    ·rw [if_pos c5] at H
     have c5b0 : (a0 == 32) = true := beq_iff_eq.mpr c5
     have c5b1 : (a0 != 32) = false := bne_eq_false_iff_eq.mpr c5
     clear c5
     obtain rfl := Option.some.inj H
     go_enter Try.func48, Try.ntmps48
     go_wp2
     go_ret
     exact ⟨by first | rfl | (simp; done) | (simp [Int.tdiv_eq_ediv_of_nonneg]; done) | (simp [*]; done), by repeat (first | exact Drawn0.refl _ | apply Drawn0.step)⟩
    ·rw [if_neg c5] at H
     have c5b0 : (a0 == 32) = false := beq_eq_false_iff_ne.mpr c5
     have c5b1 : (a0 != 32) = true := bne_iff_ne.mpr c5
     obtain rfl := Option.some.inj H
     go_enter Try.func48, Try.ntmps48
     go_wp2
     go_ret
     exact ⟨by first | rfl | (simp; done) | (simp [Int.tdiv_eq_ediv_of_nonneg]; done) | (simp [*]; done), by repeat (first | exact Drawn0.refl _ | apply Drawn0.step)⟩

/-! ### impl_Table_used: function 57 -/
def impl_Table_used.l0 : Nat → Int → List (S75) → Int → Int → Option (Int)
 | 0, _, _, _, _ => none
 | k + 1, x3, x7, x8, x9 => if x9 < x8 then (if 0 ≤ x9 then (if x9 < (x7.length : Int) then (if (rd_T75 x7 x9).f0 = true then (impl_Table_used.l0 k (wrap64 (x3 + 1)) x7 x8 (wrap64 (x9 + 1))) else (impl_Table_used.l0 k x3 x7 x8 (wrap64 (x9 + 1)))) else (none)) else (none)) else (some x3)
def impl_Table_used.f (k : Nat) (a0_0 : Int) (l0_1 : List (S75)) : Option (Int) := impl_Table_used.l0 k 0 l0_1 (l0_1.length : Int) 0
set_option maxHeartbeats 8000000 in
set_option maxRecDepth 100000 in
theorem impl_Table_used.calls (k : Nat) (a0_0 : Int) (A0_1 : Option Addr) (c0_1 : Nat) (l0_1 : List (S75)) (r : Int) (w : World) (hr0_1 : Kd.C k75 w A0_1 l0_1.length l0_1) (hc0_1 : l0_1.length ≤ c0_1) (h : impl_Table_used.f k a0_0 l0_1 = some r) :
  Calls Try.prog 57 #[.agg #[.int .i64 a0_0, .slice A0_1 l0_1.length c0_1]] w fun e w' => e = .returned (.int .i64 r) ∧ Below w.heap.size w w' := by
 have hu40 := Try.underlying40
 have hu75 := Try.underlying75
 have HR0_1 := Gv.a0 hr0_1
 have HC0_1 := Gv.a0 hc0_1
 clear hr0_1 hc0_1
 have HB := Gv.a0 (Below.refl w.heap.size w)
 have H : (impl_Table_used.l0 k 0 l0_1 (l0_1.length : Int) 0) = some r := h
 clear h
 have H' := Gv.a0 H
 clear H
 go_enter Try.func57, Try.ntmps57
 go_wp2_with (first | ((with_reducible refine gate_dst (N := 1) rfl ?_); refine Gv.bev 1 40 #[.int .i64 a0_0, .slice A0_1 l0_1.length c0_1] ?_; intro gb367 hg w2 hbox hb; have BK367 := Gv.a0 (hbox); have GW367 := Gv.a0 ((Gv.ble hg Gv.bw : w.heap.size ≤ gb367)); have GE367 := Gv.a0 ((Gv.ble hg Gv.bw : w.heap.size ≤ gb367)); replace HB := Gv.a0 (below_step Gv.bw hb); clear hb hbox hg; have hcz3_0 : w2.cell? ⟨gb367, 0, none⟩ = some (.int .i64 a0_0) := (blk_cell BK367.out 0).trans rfl; have hcz3_1 : w2.cell? ⟨gb367, 1, none⟩ = some (.slice A0_1 l0_1.length c0_1) := (blk_cell BK367.out 1).trans rfl; have hfz3_0 := blk_frozen BK367.out 0; have hfz3_1 := blk_frozen BK367.out 1))
 go_loopg [3, 9] k (fun kq v3 v9 w' => ∃ (x3_1 : Int) (x9_1 : Int), v3 = .int .i64 x3_1 ∧ v9 = .int .i64 x9_1 ∧ Aside0 (impl_Table_used.l0 kq x3_1 l0_1 (l0_1.length : Int) x9_1 = some r) ∧ Aside0 (kq ≤ k) ∧ Aside0 (w'.heap[gb367]? = some (.cells #[.int .i64 a0_0, (.slice A0_1 l0_1.length c0_1)] 40 (0, 0))) ∧ Aside0 (Below w.heap.size w w'))
 case atStart => exact ⟨(0), (0), Gv.rq, Gv.rq, H', ⟨Nat.le_refl _⟩, ⟨by (with_reducible repeat (first | refine blk_drewN ?_ _ | refine blk_drew ?_ | refine blk_alloc ?_ _)); exact BK367.out⟩, ⟨Gv.bw⟩⟩
 case round =>
  clear H'
  try clear p2
  try clear hcz3_0 hcz3_1
  try clear hfz3_0 hfz3_1
  obtain ⟨x3_1, x9_1, rfl, rfl, HA, HK1, BK367, HB⟩ := hrel
  cases gk with
  | zero => exact absurd HA.out (by simp [impl_Table_used.l0])
  | succ k1 =>
   have H := HA.out
   clear HA
   simp only [impl_Table_used.l0] at H
   by_cases c4 : x9_1 < (l0_1.length : Int)
   rotate_left
   ·rw [if_neg c4] at H
    have c4b0 : decide (x9_1 < (l0_1.length : Int)) = false := decide_eq_false c4
    clear c4
    obtain rfl := Option.some.inj H
    go_wp2
    go_ret
    exact ⟨Gv.rt, Gv.bw⟩

   rw [if_pos c4] at H
   have c4b0 : decide (x9_1 < (l0_1.length : Int)) = true := decide_eq_true c4
   clear c4
   by_cases c5 : 0 ≤ x9_1
   rotate_left
   ·rw [if_neg c5] at H
    exact absurd H (by simp)
   rw [if_pos c5] at H
   have c5b0 : decide (0 ≤ x9_1) = true := decide_eq_true c5
   clear c5
   by_cases c6 : x9_1 < (l0_1.length : Int)
   rotate_left
   ·rw [if_neg c6] at H
    exact absurd H (by simp)
   rw [if_pos c6] at H
   have c6b0 : decide (x9_1 < (l0_1.length : Int)) = true := decide_eq_true c6
   clear c6
   obtain ⟨bq7, hbq7⟩ : ∃ b_ : Bool, b_ = ((rd_T75 l0_1 x9_1).f0) := ⟨_, rfl⟩
   replace H : (if bq7 = true then (impl_Table_used.l0 k1 (wrap64 (x3_1 + 1)) l0_1 (l0_1.length : Int) (wrap64 (x9_1 + 1))) else (impl_Table_used.l0 k1 x3_1 l0_1 (l0_1.length : Int) (wrap64 (x9_1 + 1)))) = some r := by rw [← hbq7] at H; exact H
   have Nbq7 := Gv.a0 hbq7
   clear hbq7
   by_cases c8 : bq7 = true
   ·subst c8
    rw [if_pos rfl] at H
    (try dsimp only at H)
    have H' := Gv.a0 H
    clear H
    have p368 : 0 ≤ (x9_1 : Int) := of_decide_eq_true (by first | (with_reducible assumption) | assumption)
    have q368 : x9_1 < (l0_1.length : Int) := of_decide_eq_true (by first | (with_reducible assumption) | assumption)
    obtain ⟨ad368, e368, hx368_0, hx368_1, hx368_2, hx368_3, hx368_4, hx368_5, hx368_6, hx368_7, hx368_8, hx368_9, hx368_10, hx368_11, hx368_12, hx368_13, hx368_14, hx368_15⟩ := at_T75 HR0_1.out x9_1 p368 q368
    (try rw [← Nbq7.out] at hx368_0)
    cases e368
    replace hx368_0 := Gv.bx HB.out hx368_0
    replace hx368_1 := Gv.bx HB.out hx368_1
    replace hx368_2 := Gv.bx HB.out hx368_2
    replace hx368_3 := Gv.bx HB.out hx368_3
    replace hx368_4 := Gv.bx HB.out hx368_4
    replace hx368_5 := Gv.bx HB.out hx368_5
    replace hx368_6 := Gv.bx HB.out hx368_6
    replace hx368_7 := Gv.bx HB.out hx368_7
    replace hx368_8 := Gv.bx HB.out hx368_8
    replace hx368_9 := Gv.bx HB.out hx368_9
    replace hx368_10 := Gv.bx HB.out hx368_10
    replace hx368_11 := Gv.bx HB.out hx368_11
    replace hx368_12 := Gv.bx HB.out hx368_12
    replace hx368_13 := Gv.bx HB.out hx368_13
    replace hx368_14 := Gv.bx HB.out hx368_14
    replace hx368_15 := Gv.bx HB.out hx368_15
    replace p368 := eq_true p368
    replace q368 := eq_true q368
    go_wp2_with (first | ((with_reducible refine gate_dst (N := 5) rfl ?_); refine Gv.bev 5 75 #[.bool false, .int .i64 0, .int .i64 0, .int .i64 0, .int .i64 0, .int .i64 0, .int .i64 0, .int .i64 0, .int .i64 0, .int .i64 0, .int .i64 0, .int .i64 0, .int .i64 0, .int .i64 0, .int .i64 0, .int .i64 0] ?_; intro gb369 hg w9 hbox hb; have BK369 := Gv.a0 (hbox); have GW369 := Gv.a0 ((Gv.ble hg Gv.bw : w.heap.size ≤ gb369)); have GE369 := Gv.a0 ((Gv.ble hg Gv.bw : w.heap.size ≤ gb369)); replace HB := Gv.a0 (below_step Gv.bw hb); have NB367_369 := Gv.a0 ((Gv.nlt hg (Gv.kb BK367.out) : gb367 ≠ gb369)); have NB369_367 := Gv.a0 ((Gv.ngt hg (Gv.kb BK367.out) : gb369 ≠ gb367)); replace BK367 := Gv.b1 BK367 hb; clear hb hbox hg; have hnb10 := NB369_367.out; have hnc10 := NB367_369.out; obtain ⟨hcz11_0, hcz11_1, hcz11_2, hcz11_3, hcz11_4, hcz11_5, hcz11_6, hcz11_7, hcz11_8, hcz11_9, hcz11_10, hcz11_11, hcz11_12, hcz11_13, hcz11_14, hcz11_15⟩ := Gv.c16 BK369.out; obtain ⟨hfz11_0, hfz11_1, hfz11_2, hfz11_3, hfz11_4, hfz11_5, hfz11_6, hfz11_7, hfz11_8, hfz11_9, hfz11_10, hfz11_11, hfz11_12, hfz11_13, hfz11_14, hfz11_15⟩ := Gv.f16 BK369.out))
    go_roundg k1
    case measure => have := HK1.out; omega
    case rel => exact ⟨(wrap64 (x3_1 + 1)), (wrap64 (x9_1 + 1)), Gv.rq, Gv.rq, H', ⟨by have := HK1.out; omega⟩, ⟨by (with_reducible repeat (first | refine blk_drewN ?_ _ | refine blk_drew ?_ | refine blk_alloc ?_ _)); refine blk_far ?_ NB367_369.out _; (with_reducible repeat (first | refine blk_drewN ?_ _ | refine blk_drew ?_ | refine blk_alloc ?_ _)); refine blk_far ?_ NB367_369.out _; (with_reducible repeat (first | refine blk_drewN ?_ _ | refine blk_drew ?_ | refine blk_alloc ?_ _)); refine blk_far ?_ NB367_369.out _; (with_reducible repeat (first | refine blk_drewN ?_ _ | refine blk_drew ?_ | refine blk_alloc ?_ _)); refine blk_far ?_ NB367_369.out _; (with_reducible repeat (first | refine blk_drewN ?_ _ | refine blk_drew ?_ | refine blk_alloc ?_ _)); refine blk_far ?_ NB367_369.out _; (with_reducible repeat (first | refine blk_drewN ?_ _ | refine blk_drew ?_ | refine blk_alloc ?_ _)); refine blk_far ?_ NB367_369.out _; (with_reducible repeat (first | refine blk_drewN ?_ _ | refine blk_drew ?_ | refine blk_alloc ?_ _)); refine blk_far ?_ NB367_369.out _; (with_reducible repeat (first | refine blk_drewN ?_ _ | refine blk_drew ?_ | refine blk_alloc ?_ _)); refine blk_far ?_ NB367_369.out _; (with_reducible repeat (first | refine blk_drewN ?_ _ | refine blk_drew ?_ | refine blk_alloc ?_ _)); refine blk_far ?_ NB367_369.out _; (with_reducible repeat (first | refine blk_drewN ?_ _ | refine blk_drew ?_ | refine blk_alloc ?_ _)); refine blk_far ?_ NB367_369.out _; (with_reducible repeat (first | refine blk_drewN ?_ _ | refine blk_drew ?_ | refine blk_alloc ?_ _)); refine blk_far ?_ NB367_369.out _; (with_reducible repeat (first | refine blk_drewN ?_ _ | refine blk_drew ?_ | refine blk_alloc ?_ _)); refine blk_far ?_ NB367_369.out _; (with_reducible repeat (first | refine blk_drewN ?_ _ | refine blk_drew ?_ | refine blk_alloc ?_ _)); refine blk_far ?_ NB367_369.out _; (with_reducible repeat (first | refine blk_drewN ?_ _ | refine blk_drew ?_ | refine blk_alloc ?_ _)); refine blk_far ?_ NB367_369.out _; (with_reducible repeat (first | refine blk_drewN ?_ _ | refine blk_drew ?_ | refine blk_alloc ?_ _)); refine blk_far ?_ NB367_369.out _; (with_reducible repeat (first | refine blk_drewN ?_ _ | refine blk_drew ?_ | refine blk_alloc ?_ _)); refine blk_far ?_ NB367_369.out _; (with_reducible repeat (first | refine blk_drewN ?_ _ | refine blk_drew ?_ | refine blk_alloc ?_ _)); exact BK367.out⟩, ⟨Gv.bw⟩⟩
   ·replace c8 := Bool.eq_false_iff.mpr c8
    subst c8
    rw [if_neg (show ¬ (false = true) by decide)] at H
    (try dsimp only at H)
    have H' := Gv.a0 H
    clear H
    have p368 : 0 ≤ (x9_1 : Int) := of_decide_eq_true (by first | (with_reducible assumption) | assumption)
    have q368 : x9_1 < (l0_1.length : Int) := of_decide_eq_true (by first | (with_reducible assumption) | assumption)
    obtain ⟨ad368, e368, hx368_0, hx368_1, hx368_2, hx368_3, hx368_4, hx368_5, hx368_6, hx368_7, hx368_8, hx368_9, hx368_10, hx368_11, hx368_12, hx368_13, hx368_14, hx368_15⟩ := at_T75 HR0_1.out x9_1 p368 q368
    (try rw [← Nbq7.out] at hx368_0)
    cases e368
    replace hx368_0 := Gv.bx HB.out hx368_0
    replace hx368_1 := Gv.bx HB.out hx368_1
    replace hx368_2 := Gv.bx HB.out hx368_2
    replace hx368_3 := Gv.bx HB.out hx368_3
    replace hx368_4 := Gv.bx HB.out hx368_4
    replace hx368_5 := Gv.bx HB.out hx368_5
    replace hx368_6 := Gv.bx HB.out hx368_6
    replace hx368_7 := Gv.bx HB.out hx368_7
    replace hx368_8 := Gv.bx HB.out hx368_8
    replace hx368_9 := Gv.bx HB.out hx368_9
    replace hx368_10 := Gv.bx HB.out hx368_10
    replace hx368_11 := Gv.bx HB.out hx368_11
    replace hx368_12 := Gv.bx HB.out hx368_12
    replace hx368_13 := Gv.bx HB.out hx368_13
    replace hx368_14 := Gv.bx HB.out hx368_14
    replace hx368_15 := Gv.bx HB.out hx368_15
    replace p368 := eq_true p368
    replace q368 := eq_true q368
    go_wp2_with (first | ((with_reducible refine gate_dst (N := 5) rfl ?_); refine Gv.bev 5 75 #[.bool false, .int .i64 0, .int .i64 0, .int .i64 0, .int .i64 0, .int .i64 0, .int .i64 0, .int .i64 0, .int .i64 0, .int .i64 0, .int .i64 0, .int .i64 0, .int .i64 0, .int .i64 0, .int .i64 0, .int .i64 0] ?_; intro gb369 hg w12 hbox hb; have BK369 := Gv.a0 (hbox); have GW369 := Gv.a0 ((Gv.ble hg Gv.bw : w.heap.size ≤ gb369)); have GE369 := Gv.a0 ((Gv.ble hg Gv.bw : w.heap.size ≤ gb369)); replace HB := Gv.a0 (below_step Gv.bw hb); have NB367_369 := Gv.a0 ((Gv.nlt hg (Gv.kb BK367.out) : gb367 ≠ gb369)); have NB369_367 := Gv.a0 ((Gv.ngt hg (Gv.kb BK367.out) : gb369 ≠ gb367)); replace BK367 := Gv.b1 BK367 hb; clear hb hbox hg; have hnb13 := NB369_367.out; have hnc13 := NB367_369.out; obtain ⟨hcz14_0, hcz14_1, hcz14_2, hcz14_3, hcz14_4, hcz14_5, hcz14_6, hcz14_7, hcz14_8, hcz14_9, hcz14_10, hcz14_11, hcz14_12, hcz14_13, hcz14_14, hcz14_15⟩ := Gv.c16 BK369.out; obtain ⟨hfz14_0, hfz14_1, hfz14_2, hfz14_3, hfz14_4, hfz14_5, hfz14_6, hfz14_7, hfz14_8, hfz14_9, hfz14_10, hfz14_11, hfz14_12, hfz14_13, hfz14_14, hfz14_15⟩ := Gv.f16 BK369.out))
    go_roundg k1
    case measure => have := HK1.out; omega
    case rel => exact ⟨(x3_1), (wrap64 (x9_1 + 1)), Gv.rq, Gv.rq, H', ⟨by have := HK1.out; omega⟩, ⟨by (with_reducible repeat (first | refine blk_drewN ?_ _ | refine blk_drew ?_ | refine blk_alloc ?_ _)); refine blk_far ?_ NB367_369.out _; (with_reducible repeat (first | refine blk_drewN ?_ _ | refine blk_drew ?_ | refine blk_alloc ?_ _)); refine blk_far ?_ NB367_369.out _; (with_reducible repeat (first | refine blk_drewN ?_ _ | refine blk_drew ?_ | refine blk_alloc ?_ _)); refine blk_far ?_ NB367_369.out _; (with_reducible repeat (first | refine blk_drewN ?_ _ | refine blk_drew ?_ | refine blk_alloc ?_ _)); refine blk_far ?_ NB367_369.out _; (with_reducible repeat (first | refine blk_drewN ?_ _ | refine blk_drew ?_ | refine blk_alloc ?_ _)); refine blk_far ?_ NB367_369.out _; (with_reducible repeat (first | refine blk_drewN ?_ _ | refine blk_drew ?_ | refine blk_alloc ?_ _)); refine blk_far ?_ NB367_369.out _; (with_reducible repeat (first | refine blk_drewN ?_ _ | refine blk_drew ?_ | refine blk_alloc ?_ _)); refine blk_far ?_ NB367_369.out _; (with_reducible repeat (first | refine blk_drewN ?_ _ | refine blk_drew ?_ | refine blk_alloc ?_ _)); refine blk_far ?_ NB367_369.out _; (with_reducible repeat (first | refine blk_drewN ?_ _ | refine blk_drew ?_ | refine blk_alloc ?_ _)); refine blk_far ?_ NB367_369.out _; (with_reducible repeat (first | refine blk_drewN ?_ _ | refine blk_drew ?_ | refine blk_alloc ?_ _)); refine blk_far ?_ NB367_369.out _; (with_reducible repeat (first | refine blk_drewN ?_ _ | refine blk_drew ?_ | refine blk_alloc ?_ _)); refine blk_far ?_ NB367_369.out _; (with_reducible repeat (first | refine blk_drewN ?_ _ | refine blk_drew ?_ | refine blk_alloc ?_ _)); refine blk_far ?_ NB367_369.out _; (with_reducible repeat (first | refine blk_drewN ?_ _ | refine blk_drew ?_ | refine blk_alloc ?_ _)); refine blk_far ?_ NB367_369.out _; (with_reducible repeat (first | refine blk_drewN ?_ _ | refine blk_drew ?_ | refine blk_alloc ?_ _)); refine blk_far ?_ NB367_369.out _; (with_reducible repeat (first | refine blk_drewN ?_ _ | refine blk_drew ?_ | refine blk_alloc ?_ _)); refine blk_far ?_ NB367_369.out _; (with_reducible repeat (first | refine blk_drewN ?_ _ | refine blk_drew ?_ | refine blk_alloc ?_ _)); refine blk_far ?_ NB367_369.out _; (with_reducible repeat (first | refine blk_drewN ?_ _ | refine blk_drew ?_ | refine blk_alloc ?_ _)); exact BK367.out⟩, ⟨Gv.bw⟩⟩
/-! ### slices_Grow_byte_byte: function 85 -/
def slices_Grow_byte_byte.f (a0 : Int) : Option (List Int) := if 0 ≤ a0 ∧ a0 ≤ 1099511627776 then some ([] : List Int) else none
set_option maxHeartbeats 8000000 in
set_option maxRecDepth 100000 in
theorem slices_Grow_byte_byte.calls (a0 : Int) (r : List Int) (w : World) (h : slices_Grow_byte_byte.f a0 = some r) :
  Calls Try.prog 85 #[.slice none 0 0, .int .i64 a0] w fun e w' => ∃ v0_ : Value, e = .returned (v0_) ∧ Kd.R (Kd.int .u8) 5 w' w.heap.size (fun _ => True) v0_ r ∧ Below w.heap.size w w' := by
 unfold slices_Grow_byte_byte.f at h
 by_cases hn : 0 ≤ a0 ∧ a0 ≤ 1099511627776
 rotate_left
 ·rw [if_neg hn] at h
  cases h
 rw [if_pos hn] at h
 obtain rfl := Option.some.inj h
 clear h
 by_cases h0 : a0 = 0
 ·subst h0
  go_enter Try.func85, Try.ntmps85
  go_wp2
  go_ret
  exact ⟨_, rfl, Kd.R_nil _ _ _ _ _, Below.refl _ w⟩
 obtain ⟨n, rfl⟩ : ∃ n : Nat, a0 = n := ⟨a0.toNat, by omega⟩
 have hi := info5
 rw [Option.map_eq_some_iff] at hi
 obtain ⟨i, hi, hz⟩ := hi
 simp only [Prod.mk.injEq] at hz
 obtain ⟨hz, hs, hb⟩ := hz
 have hrz : ∀ ty, (Builtin.append_ #[68, 3] ty #[.slice none 0 0, .int .i64 (n : Int)]).run Try.prog w = _ := fun ty =>
  Lib.run_append_nil_zeros w 68 3 ty 5 i (.int .u8 0) .i64 .i64 Try.underlying68 Try.underlying3 hi hz n (by omega) (by omega) (by omega) (by rw [hb]; omega)
 have hG1 : n ≤ grownCap w n 0 5 := grownCap_ge w _ _ _
 have hG2 : grownCap w n 0 5 ≤ maxLen := grownCap_le_maxLen w n 0 5 (by unfold maxLen; omega)
 obtain ⟨G, hG⟩ : ∃ G, G = grownCap w n 0 5 := ⟨_, rfl⟩
 rw [← hG] at hrz hG1 hG2
 have h1 : ¬ ((n : Int) < 0) := by omega
 have h2 : wrap64 ((0 : Int) - 0) = 0 := by unfold wrap64; omega
 have h3 : wrap64 ((n : Int) - 0) = n := by unfold wrap64; omega
 have h4 : (n : Int) > 0 := by omega
 have hG63 : G ≤ 9223372036854775807 := by unfold maxLen at hG2; omega
 have hsz : (Builtin.zeroCells (Value.int .u8 0).cells n ++ Builtin.zeroCells (Value.int .u8 0).cells (G - n)).size = G * 1 := by
  rw [Array.size_append, size_zeroCells, size_zeroCells, show (Value.int .u8 0).cells.size = 1 from rfl]
  omega
 clear hG hz hs hb hi
 go_enter Try.func85, Try.ntmps85
 go_wp2_with (at_builtin; refine Lib.wpList_append_run _ rfl _ _ _ _ rfl _ _ rfl rfl _ _ (hrz _) ?_)
 go_ret
 refine ⟨_, rfl, ⟨fun _ _ => trivial, [], ⟨by simp, .inr ⟨w.heap.size, G, _, rfl, Nat.le_refl _, heap_alloc_new _ _, Nat.zero_le _, hG2, hsz, by simp⟩⟩, Reps.none _ _⟩, (below_alloc (below_drew1 (Below.refl _ w)) _)⟩

/-! ### slices_Concat_byte_byte: function 73 -/
mutual
def slices_Concat_byte_byte.l0 : Nat → List (List Int) → Int → List (List Int) → Int → Int → Option (List Int)
 | 0, _, _, _, _, _ => none
 | k + 1, x0, x3, x9, x10, x11 => if x11 < x10 then (if 0 ≤ x11 then (if x11 < (x9.length : Int) then (if (wrap64 (x3 + ((rd_L11 x9 x11).length : Int))) < 0 then (none) else (slices_Concat_byte_byte.l0 k x0 (wrap64 (x3 + ((rd_L11 x9 x11).length : Int))) x9 x10 (wrap64 (x11 + 1)))) else (none)) else (none)) else ((slices_Grow_byte_byte.f x3).bind fun t374 => (slices_Concat_byte_byte.l1 k t374 x0 (x0.length : Int) 0))
def slices_Concat_byte_byte.l1 : Nat → List Int → List (List Int) → Int → Int → Option (List Int)
 | 0, _, _, _, _ => none
 | k + 1, x6, x25, x26, x27 => if x27 < x26 then (if 0 ≤ x27 then (if x27 < (x25.length : Int) then (if x6.length + (rd_L11 x25 x27).length < 140737488355328 then (slices_Concat_byte_byte.l1 k (x6 ++ (rd_L11 x25 x27)) x25 x26 (wrap64 (x27 + 1))) else (none)) else (none)) else (none)) else (some x6)
end
def slices_Concat_byte_byte.f (k : Nat) (l0 : List (List Int)) : Option (List Int) := slices_Concat_byte_byte.l0 k l0 0 l0 (l0.length : Int) 0
set_option maxHeartbeats 8000000 in
set_option maxRecDepth 100000 in
theorem slices_Concat_byte_byte.calls (k : Nat) (A0 : Option Addr) (c0 : Nat) (l0 : List (List Int)) (r : List Int) (w : World) (hr0 : Kd.C (Kd.slice 5 (Kd.int .u8)) w A0 l0.length l0) (hc0 : l0.length ≤ c0) (h : slices_Concat_byte_byte.f k l0 = some r) :
  Calls Try.prog 73 #[.slice A0 l0.length c0] w fun e w' => ∃ v0_ : Value, e = .returned (v0_) ∧ Kd.R (Kd.int .u8) 5 w' w.heap.size (fun _ => True) v0_ r ∧ Below w.heap.size w w' := by
 have HR0 := Gv.a0 hr0
 have HC0 := Gv.a0 hc0
 clear hr0 hc0
 have HB := Gv.a0 (Below.refl w.heap.size w)
 have H : (slices_Concat_byte_byte.l0 k l0 0 l0 (l0.length : Int) 0) = some r := h
 clear h
 have H' := Gv.a0 H
 clear H
 go_enter Try.func73, Try.ntmps73
 go_wp2
 go_loopg [3, 11] k (fun kq v3 v11 w' => ∃ (x3_1 : Int) (x11_1 : Int), v3 = .int .i64 x3_1 ∧ v11 = .int .i64 x11_1 ∧ Aside0 (slices_Concat_byte_byte.l0 kq l0 x3_1 l0 (l0.length : Int) x11_1 = some r) ∧ Aside0 (kq ≤ k) ∧ Aside0 (Below w.heap.size w w'))
 case atStart => exact ⟨(0), (0), Gv.rq, Gv.rq, H', ⟨Nat.le_refl _⟩, ⟨Gv.bw⟩⟩
 case round =>
  clear H'
  obtain ⟨x3_1, x11_1, rfl, rfl, HA, HK1, HB⟩ := hrel
  cases gk with
  | zero => exact absurd HA.out (by simp [slices_Concat_byte_byte.l0])
  | succ k1 =>
   have H := HA.out
   clear HA
   simp only [slices_Concat_byte_byte.l0] at H
   by_cases c2 : x11_1 < (l0.length : Int)
   ·rw [if_pos c2] at H
    have c2b0 : decide (x11_1 < (l0.length : Int)) = true := decide_eq_true c2
    clear c2
    by_cases c3 : 0 ≤ x11_1
    rotate_left
    ·rw [if_neg c3] at H
     exact absurd H (by simp)
    rw [if_pos c3] at H
    have c3b0 : decide (0 ≤ x11_1) = true := decide_eq_true c3
    clear c3
    by_cases c4 : x11_1 < (l0.length : Int)
    rotate_left
    ·rw [if_neg c4] at H
     exact absurd H (by simp)
    rw [if_pos c4] at H
    have c4b0 : decide (x11_1 < (l0.length : Int)) = true := decide_eq_true c4
    clear c4
    by_cases c5 : (wrap64 (x3_1 + ((rd_L11 l0 x11_1).length : Int))) < 0
    ·rw [if_pos c5] at H
     exact absurd H (by simp)
    ·rw [if_neg c5] at H
     have c5b0 : decide ((wrap64 (x3_1 + ((rd_L11 l0 x11_1).length : Int))) < 0) = false := decide_eq_false c5
     clear c5
     have H' := Gv.a0 H
     clear H
     have p373 : 0 ≤ (x11_1 : Int) := of_decide_eq_true (by first | (with_reducible assumption) | assumption)
     have q373 : x11_1 < (l0.length : Int) := of_decide_eq_true (by first | (with_reducible assumption) | assumption)
     obtain ⟨ad373, A373_0, c373_0, e373, hx373_0, hl373_0, hi373_0⟩ := at_L11 HR0.out x11_1 p373 q373
     cases e373
     replace hx373_0 := Gv.bx HB.out hx373_0
     have HR373_0 := Gv.a0 hi373_0
     have HC373_0 := Gv.a0 hl373_0
     clear hi373_0 hl373_0
     replace p373 := eq_true p373
     replace q373 := eq_true q373
     go_wp2
     go_roundg k1
     case measure => have := HK1.out; omega
     case rel => exact ⟨(wrap64 (x3_1 + ((rd_L11 l0 x11_1).length : Int))), (wrap64 (x11_1 + 1)), Gv.rq, Gv.rq, H', ⟨by have := HK1.out; omega⟩, ⟨Gv.bw⟩⟩
   ·rw [if_neg c2] at H
    have c2b0 : decide (x11_1 < (l0.length : Int)) = false := decide_eq_false c2
    clear c2
    replace H := Option.bind_eq_some_iff.mp H
    obtain ⟨t374, A60, H⟩ := H
    (try dsimp only at H)
    have A6 := Gv.a0 A60
    clear A60
    have H' := Gv.a0 H
    clear H
    go_wp2_with (first | ((with_reducible refine gate_callee (f := 85) rfl ?_); refine goesL_ (some 24) rfl rfl Try.func85 (by kernel_rfl) rfl #[.slice none 0 0, .int .i64 x3_1] rfl Gv.lm ?_; (with_reducible refine (slices_Grow_byte_byte.calls x3_1 t374 _ A6.out).mono ?_); rintro e w7 ⟨v375, rfl, ho0, hb⟩; refine ⟨_, rfl, ?_⟩; have HO376 := Gv.a0 (Kd.R_lower ho0 (below_size Gv.bw)); replace HB := Gv.a0 (below_step Gv.bw hb); clear hb ho0))
    go_loopg [6, 27] k1 (fun kq v6 v27 w' => ∃ (x6_2 : List Int) (x27_2 : Int), v27 = .int .i64 x27_2 ∧ Aside0 (slices_Concat_byte_byte.l1 kq x6_2 l0 (l0.length : Int) x27_2 = some r) ∧ Aside0 (kq ≤ k1) ∧ Aside0 (Kd.R (Kd.int .u8) 5 w' w.heap.size (fun _ => True) v6 x6_2) ∧ Aside0 (Below w.heap.size w w'))
    case atStart => exact ⟨(t374), (0), Gv.rq, H', ⟨Nat.le_refl _⟩, ⟨Gv.kr HO376.out⟩, ⟨Gv.bw⟩⟩
    case round =>
     clear H'
     try clear c2
     try clear c2b0
     try clear p2
     try clear c3
     try clear c3b0
     try clear p3
     try clear q3
     try clear hx3
     try clear c4
     try clear c4b0
     try clear c5
     try clear c5b0
     try clear p6
     try clear c7
     try clear hx373_0
     try clear p373
     try clear q373
     obtain ⟨x6_2, x27_2, rfl, HA, HK2, HO_6, HB⟩ := hrel
     cases gk with
     | zero => exact absurd HA.out (by simp [slices_Concat_byte_byte.l1])
     | succ k2 =>
      have H := HA.out
      clear HA
      simp only [slices_Concat_byte_byte.l1] at H
      by_cases c8 : x27_2 < (l0.length : Int)
      rotate_left
      ·rw [if_neg c8] at H
       have c8b0 : decide (x27_2 < (l0.length : Int)) = false := decide_eq_false c8
       clear c8
       obtain rfl := Option.some.inj H
       go_wp2
       go_ret
       exact ⟨_, Gv.rt, Gv.kr HO_6.out, Gv.bw⟩

      rw [if_pos c8] at H
      have c8b0 : decide (x27_2 < (l0.length : Int)) = true := decide_eq_true c8
      clear c8
      by_cases c9 : 0 ≤ x27_2
      rotate_left
      ·rw [if_neg c9] at H
       exact absurd H (by simp)
      rw [if_pos c9] at H
      have c9b0 : decide (0 ≤ x27_2) = true := decide_eq_true c9
      clear c9
      by_cases c10 : x27_2 < (l0.length : Int)
      rotate_left
      ·rw [if_neg c10] at H
       exact absurd H (by simp)
      rw [if_pos c10] at H
      have c10b0 : decide (x27_2 < (l0.length : Int)) = true := decide_eq_true c10
      clear c10
      by_cases c11 : x6_2.length + (rd_L11 l0 x27_2).length < 140737488355328
      rotate_left
      ·rw [if_neg c11] at H
       exact absurd H (by simp)
      rw [if_pos c11] at H
      have LMc11 := Gv.a0 c11
      clear c11
      obtain ⟨y378, hy378⟩ : ∃ y_ : List Int, y_ = (x6_2 ++ (rd_L11 l0 x27_2)) := ⟨_, rfl⟩
      replace H : (slices_Concat_byte_byte.l1 k2 y378 l0 (l0.length : Int) (wrap64 (x27_2 + 1))) = some r := by first | (rw [hy378]; with_reducible exact H) | (have H2_ := (Option.bind_some _ _).symm.trans H; rw [hy378]; with_reducible exact H2_) | (have H2_ := (Option.bind_some _ _).symm.trans H; with_reducible exact H2_) | with_reducible exact H | (rw [hy378]; exact H) | exact H
      have Ny378 := Gv.a0 hy378
      clear hy378
      have H' := Gv.a0 H
      clear H
      have p377 : 0 ≤ (x27_2 : Int) := of_decide_eq_true (by first | (with_reducible assumption) | assumption)
      have q377 : x27_2 < (l0.length : Int) := of_decide_eq_true (by first | (with_reducible assumption) | assumption)
      obtain ⟨ad377, A377_0, c377_0, e377, hx377_0, hl377_0, hi377_0⟩ := at_L11 HR0.out x27_2 p377 q377
      cases e377
      replace hx377_0 := Gv.bx HB.out hx377_0
      have HR377_0 := Gv.a0 hi377_0
      have HC377_0 := Gv.a0 hl377_0
      clear hi377_0 hl377_0
      replace p377 := eq_true p377
      replace q377 := eq_true q377
      go_wp2_with (first | ((with_reducible refine gate_builtin (b := .append) (xs := #[.tmp 31, .tmp 32]) rfl ?_); at_builtin; refine Kd.R_append_rows (Kd.int .u8) (w0 := w) w.heap.size rfl (.tmp 31) (.tmp 32) 68 5 (.int .u8 0) 1 rfl Try.underlying68 info5 rfl (by decide) (by omega) u6 x6_2 (rd_L11 l0 x27_2) _ _ _ (fun _ => True) (fun _ => False) rfl rfl ?aO ?aR (fun _ _ h => h) (fun _ h => h.elim) ?aF ?aB ?aS ?aL ?_; (case aR => repeat (first | exact (Kd.C_below HR377_0.out HB.out) | (with_reducible refine Kd.C_alloc ?_ _) | (with_reducible refine Kd.C_drewN ?_ _) | (with_reducible refine Kd.C_drew ?_))); (case aB => exact Gv.bw); (case aF => exact (fun _ _ => trivial)); (case aO => exact (Gv.kr HO_6.out)); (case aS => exact (below_size Gv.bw)); (case aL => have := LMc11.out; omega); intro v379 w12 ho hb hg hat; rw [← Ny378.out] at ho; replace HB := Gv.a0 (hb); have HO380 := Gv.a0 (ho); clear HO_6 ho hb hg hat))
      go_roundg k2
      case measure => have := HK1.out; have := HK2.out; omega
      case rel => exact ⟨(y378), (wrap64 (x27_2 + 1)), Gv.rq, H', ⟨by have := HK1.out; have := HK2.out; omega⟩, ⟨Gv.kr HO380.out⟩, ⟨Gv.bw⟩⟩
/-! ### impl_put: function 87 -/
def impl_put.l0 : Nat → Int → Int → List Int → Int → Int → Option (List Int)
 | 0, _, _, _, _, _ => none
 | k + 1, x0, x1, x5, x10, x11 => if x11 < x10 then (if 0 ≤ (wrap64 (8 * (wrap64 ((wrap64 (x1 - 1)) - x11)))) then (if 0 ≤ x11 then (if x11 < (x5.length : Int) then (impl_put.l0 k x0 x1 (x5.set (x11 : Int).toNat ((shr .i64 x0 (wrap64 (8 * (wrap64 ((wrap64 (x1 - 1)) - x11))))) % 256)) x10 (wrap64 (x11 + 1))) else (none)) else (none)) else (none)) else (some x5)
def impl_put.f (k : Nat) (a0 : Int) (a1 : Int) : Option (List Int) := if 0 ≤ a1 then (if (a1 : Int).toNat ≤ 281474976710656 then ((some (List.replicate (a1 : Int).toNat 0 : List Int)).bind fun y381 => (impl_put.l0 k a0 a1 y381 (y381.length : Int) 0)) else (none)) else (none)
set_option maxHeartbeats 8000000 in
set_option maxRecDepth 100000 in
theorem impl_put.calls (k : Nat) (a0 : Int) (a1 : Int) (r : List Int) (w : World) (h : impl_put.f k a0 a1 = some r) :
  Calls Try.prog 87 #[.int .i64 a0, .int .i64 a1] w fun e w' => ∃ v0_ : Value, e = .returned (v0_) ∧ Kd.R (Kd.int .u8) 5 w' w.heap.size (fun _ => True) v0_ r ∧ Below w.heap.size w w' := by
 have HB := Gv.a0 (Below.refl w.heap.size w)
 have H : (if 0 ≤ a1 then (if (a1 : Int).toNat ≤ 281474976710656 then ((some (List.replicate (a1 : Int).toNat 0 : List Int)).bind fun y381 => (impl_put.l0 k a0 a1 y381 (y381.length : Int) 0)) else (none)) else (none)) = some r := h
 clear h
 by_cases c3 : 0 ≤ a1
 rotate_left
 ·rw [if_neg c3] at H
  exact absurd H (by simp)

 rw [if_pos c3] at H
 have c3b0 := eq_true c3
 have c3b1 : decide (0 ≤ a1) = true := decide_eq_true c3
 clear c3
 by_cases c4 : (a1 : Int).toNat ≤ 281474976710656
 rotate_left
 ·rw [if_neg c4] at H
  exact absurd H (by simp)
 rw [if_pos c4] at H
 have c4b0 := eq_true c4
 have c4b1 : decide ((a1 : Int).toNat ≤ 281474976710656) = true := decide_eq_true c4
 clear c4
 obtain ⟨y381, hy381⟩ : ∃ y_ : List Int, y_ = (List.replicate (a1 : Int).toNat 0) := ⟨_, rfl⟩
 replace H : (impl_put.l0 k a0 a1 y381 (y381.length : Int) 0) = some r := by first | (rw [hy381]; with_reducible exact H) | (have H2_ := (Option.bind_some _ _).symm.trans H; rw [hy381]; with_reducible exact H2_) | (have H2_ := (Option.bind_some _ _).symm.trans H; with_reducible exact H2_) | with_reducible exact H | (rw [hy381]; exact H) | exact H
 have Ny381 := Gv.a0 hy381
 clear hy381
 have H' := Gv.a0 H
 clear H
 go_enter Try.func87, Try.ntmps87
 go_wp2_with (first | ((with_reducible refine gate_dst (N := 8) rfl ?_); refine Kd.R_make (Kd.int .u8) _ 5 rfl (N := 8) rfl 68 _ _ rfl a1 rfl rfl Try.underlying68 (.int .u8 0) 1 info5 rfl (by decide) (by omega) 0 (ok := fun _ => True) (okp := fun _ => True) rfl (fun _ hk => hk) trivial (of_decide_eq_true (by first | (with_reducible assumption) | assumption)) (Nat.le_trans (Nat.mul_le_mul_right _ (of_decide_eq_true (by first | (with_reducible assumption) | assumption) : a1.toNat ≤ 281474976710656)) (by omega)) (Below.refl _ _) (Nat.le_refl _) ?_; intro v382 w5 ho6 hb hg_ hnew_; clear hg_ hnew_; (first | rw [← Ny381.out] at ho6 | (simp only [Int.reduceToNat] at ho6; rw [← Ny381.out] at ho6)); have HO383 := Gv.a0 (Kd.R_lower ho6 (below_size Gv.bw)); replace HB := Gv.a0 (below_step Gv.bw hb); clear hb ho6; obtain ⟨Ao7, co7, eo7⟩ := Kd.R_slice HO383.out; subst eo7))
 go_loopg [11] k (fun kq v11 w' => ∃ (x5_1 : List Int) (x11_1 : Int), v11 = .int .i64 x11_1 ∧ Aside0 (impl_put.l0 kq a0 a1 x5_1 (y381.length : Int) x11_1 = some r) ∧ Aside0 (kq ≤ k) ∧ Aside0 (Kd.R (Kd.int .u8) 5 w' w.heap.size (fun _ => True) (.slice Ao7 y381.length co7) x5_1) ∧ Aside0 (Below w.heap.size w w'))
 case atStart => exact ⟨(y381), (0), Gv.rq, H', ⟨Nat.le_refl _⟩, ⟨Gv.kr HO383.out⟩, ⟨Gv.bw⟩⟩
 case round =>
  clear H'
  try clear p2
  try clear c3
  try clear c3b0
  try clear c3b1
  try clear c4
  try clear c4b0
  try clear c4b1
  obtain ⟨x5_1, x11_1, rfl, HA, HK1, HO_5, HB⟩ := hrel
  have hl5_1 := (Kd.R_reads' HO_5.out).1
  rw [hl5_1] at HO_5
  (try simp only [hl5_1])
  cases gk with
  | zero => exact absurd HA.out (by simp [impl_put.l0])
  | succ k1 =>
   have H := HA.out
   clear HA
   simp only [impl_put.l0] at H
   by_cases c8 : x11_1 < (y381.length : Int)
   rotate_left
   ·rw [if_neg c8] at H
    have c8b0 : decide (x11_1 < (y381.length : Int)) = false := decide_eq_false c8
    (try (have c8b9 := c8b0; rw [hl5_1] at c8b9))
    (try (have c8b8 := c8b0; rw [← hl5_1] at c8b8))
    clear c8
    obtain rfl := Option.some.inj H
    go_wp2
    go_ret
    exact ⟨_, Gv.rt, Gv.kr HO_5.out, Gv.bw⟩
   rw [if_pos c8] at H
   have c8b0 : decide (x11_1 < (y381.length : Int)) = true := decide_eq_true c8
   (try (have c8b9 := c8b0; rw [hl5_1] at c8b9))
   (try (have c8b8 := c8b0; rw [← hl5_1] at c8b8))
   clear c8
   obtain ⟨ji9, hji9⟩ : ∃ j_ : Int, (wrap64 (8 * (wrap64 ((wrap64 (a1 - 1)) - x11_1)))) = j_ := ⟨_, rfl⟩
   replace H : (if 0 ≤ (ji9) then (if 0 ≤ x11_1 then (if x11_1 < (x5_1.length : Int) then (impl_put.l0 k1 a0 a1 (x5_1.set (x11_1 : Int).toNat ((shr .i64 a0 (ji9)) % 256)) (y381.length : Int) (wrap64 (x11_1 + 1))) else (none)) else (none)) else (none)) = some r := by first | (rw [hji9] at H; exact H) | (simp only [hji9] at H ⊢; exact H)
   have hji9w : (IntKind.i64.wrap (8 * (wrap64 ((wrap64 (a1 - 1)) - x11_1)))) = ji9 := (i64_w _).trans hji9
   by_cases c10 : 0 ≤ (ji9)
   rotate_left
   ·rw [if_neg c10] at H
    exact absurd H (by simp)
   rw [if_pos c10] at H
   have c10b0 := eq_true c10
   have c10b1 : decide (0 ≤ (ji9)) = true := decide_eq_true c10
   clear c10
   obtain ⟨ji11, hji11⟩ : ∃ j_ : Int, (shr .i64 a0 (ji9)) = j_ := ⟨_, rfl⟩
   replace H : (if 0 ≤ x11_1 then (if x11_1 < (x5_1.length : Int) then (impl_put.l0 k1 a0 a1 (x5_1.set (x11_1 : Int).toNat ((ji11) % 256)) (y381.length : Int) (wrap64 (x11_1 + 1))) else (none)) else (none)) = some r := by first | (rw [hji11] at H; exact H) | (simp only [hji11] at H ⊢; exact H)
   have hji11_ : (a0 / 2 ^ min (ji9).toNat 64) = ji11 := hji11
   have hji11z : (ji9) ≤ 64 → (a0 / 2 ^ (ji9).toNat) = ji11 := shr_small hji11
   by_cases c12 : 0 ≤ x11_1
   rotate_left
   ·rw [if_neg c12] at H
    exact absurd H (by simp)
   rw [if_pos c12] at H
   have c12b0 : decide (0 ≤ x11_1) = true := decide_eq_true c12
   clear c12
   by_cases c13 : x11_1 < (x5_1.length : Int)
   rotate_left
   ·rw [if_neg c13] at H
    exact absurd H (by simp)
   rw [if_pos c13] at H
   have c13b0 : decide (x11_1 < (x5_1.length : Int)) = true := decide_eq_true c13
   clear c13
   obtain ⟨y384, hy384⟩ : ∃ y_ : List Int, y_ = (x5_1.set (x11_1 : Int).toNat ((ji11) % 256)) := ⟨_, rfl⟩
   replace H : (impl_put.l0 k1 a0 a1 y384 (y381.length : Int) (wrap64 (x11_1 + 1))) = some r := by first | (rw [hy384]; with_reducible exact H) | (have H2_ := (Option.bind_some _ _).symm.trans H; rw [hy384]; with_reducible exact H2_) | (have H2_ := (Option.bind_some _ _).symm.trans H; with_reducible exact H2_) | with_reducible exact H | (rw [hy384]; exact H) | exact H
   have Ny384 := Gv.a0 hy384
   clear hy384
   have H' := Gv.a0 H
   clear H
   have p14 : 0 ≤ (x11_1 : Int) := of_decide_eq_true (by first | (with_reducible assumption) | assumption)
   have q14 : (x11_1 : Int) < ((x5_1.length : Int) : Int) := of_decide_eq_true (by first | (with_reducible assumption) | assumption)
   obtain ⟨go14, co14, eo14, gb14, gl14, cl14, HG14⟩ := Kd.R_form HO_5.out (by omega)
   (first | cases eo14 | (injection eo14 with ea_ en_ ec_; (first | subst ea_ | (injection ea_ with ea_; subst ea_)); subst ec_; clear en_))
   have GB14 := Gv.a0 gb14
   have GG14 := Gv.a0 HG14
   clear gb14 gl14 HG14
   obtain ⟨hx14_0, hf14_0⟩ := Kd.R_celln 0 HO_5.out (x11_1 : Int) p14 q14
   replace p14 := eq_true p14
   replace q14 := eq_true q14
   have HP15 := Kd.R_putg HO_5.out (x11_1 : Int) ((ji11) % 256)
   go_wp2_with (first | ((with_reducible refine gate_store (t := 5) (p := 24) rfl ?_); refine store_event (t := 5) (p := 24) (v := ?vo_w16) (w1 := (wr.setCell ⟨go14, (x11_1 : Int).toNat, none⟩ (.int .u8 ((ji11) % 256)))) ?hg ?ho ?hn ?hr ?_; (case ho => rfl); (case hg => rfl); (case hn => rfl); (case hr => first | (go_simp; done) | (go_simp; rfl)); intro w16 hw; have hg : wr.grownBy w16 (some go14) := (by rw [hw]; exact HP15.2); have hp_ : Kd.R (Kd.int .u8) 5 w16 w.heap.size (fun _ => True) (.slice (some ⟨go14, 0, none⟩) x5_1.length co7) y384 := (by rw [hw, Ny384.out]; exact HP15.1); clear HP15; replace HO_5 := Gv.a0 (hp_); replace HB := Gv.a0 ((by rw [hw]; exact below_set (HB.out) GB14.out : Below w.heap.size w w16)); clear hg hw hp_))
   (try simp only [← hl5_1])
   go_roundg k1
   case measure => have := HK1.out; omega
   case rel => exact ⟨(y384), (wrap64 (x11_1 + 1)), Gv.rq, H', ⟨by have := HK1.out; omega⟩, ⟨by (try simp only [hl5_1]); (with_reducible repeat (first | apply Kd.R_alloc | apply Kd.R_drewN | apply Kd.R_drew)); exact HO_5.out⟩, ⟨Gv.bw⟩⟩
/-! ### impl_Put32: function 86 -/
def impl_Put32.f (k : Nat) (a0 : Int) : Option (List Int) := (impl_put.f k a0 4).bind fun t385 => (some t385)
set_option maxHeartbeats 8000000 in
set_option maxRecDepth 100000 in
theorem impl_Put32.calls (k : Nat) (a0 : Int) (r : List Int) (w : World) (h : impl_Put32.f k a0 = some r) :
  Calls Try.prog 86 #[.int .i64 a0] w fun e w' => ∃ v0_ : Value, e = .returned (v0_) ∧ Kd.R (Kd.int .u8) 5 w' w.heap.size (fun _ => True) v0_ r ∧ Below w.heap.size w w' := by
 have HB := Gv.a0 (Below.refl w.heap.size w)
 have H : ((impl_put.f k a0 4).bind fun t385 => (some t385)) = some r := h
 clear h
 replace H := Option.bind_eq_some_iff.mp H
 obtain ⟨t385, A20, H⟩ := H
 (try dsimp only at H)
 have A2 := Gv.a0 A20
 clear A20
 obtain rfl := Option.some.inj H
 go_enter Try.func86, Try.ntmps86
 go_wp2_with (first | ((with_reducible refine gate_callee (f := 87) rfl ?_); refine goesL_ (some 4) rfl rfl Try.func87 (by kernel_rfl) rfl #[.int .i64 a0, .int .i64 4] rfl Gv.lm ?_; (with_reducible refine (impl_put.calls k a0 4 t385 _ A2.out).mono ?_); rintro e w3 ⟨v386, rfl, ho0, hb⟩; refine ⟨_, rfl, ?_⟩; have HO387 := Gv.a0 (Kd.R_lower ho0 (below_size Gv.bw)); replace HB := Gv.a0 (below_step Gv.bw hb); clear hb ho0))
 go_ret
 exact ⟨_, Gv.rt, Gv.kr HO387.out, Gv.bw⟩

end Go.Proofs.Ytfnpodebjejhpaa.PTp
