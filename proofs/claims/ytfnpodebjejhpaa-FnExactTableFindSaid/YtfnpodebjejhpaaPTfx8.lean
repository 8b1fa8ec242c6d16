/- Plain Lean functions of a law's Go functions, their contracts, by a program of this session (wip/pr.py over the kit's print). -/
import Derived.Test.YtfnpodebjejhpaaPTfx0
import Derived.Test.YtfnpodebjejhpaaPTfx3
import Derived.Test.YtfnpodebjejhpaaPTfx5
import Derived.Test.YtfnpodebjejhpaaPTfx7
namespace Go.Proofs.Ytfnpodebjejhpaa.PTf
open Go.RowKit Go.Proofs.YtfnpodebjejhpaaW.PrintWords Go.Proofs.YtfnpodebjejhpaaW.PrintLast Go.Proofs.YtfnpodebjejhpaaW.PrintMore
attribute [local go_sem] max2_int min2_int max_two min_two max_three min_three max_four min_four   -- for this text's walks alone
set_option linter.unusedVariables false
set_option linter.unusedSimpArgs false

/-! ### laws_FnExactTableFind: function 8 -/
def laws_FnExactTableFind.f (k : Nat) (a0_0 : Int) (l0_1 : List (S94)) (a1_0 : Int) (a1_1 : Int) (a1_2 : Int) (a1_3 : Int) (a1_4 : Int) (a1_5 : Int) (a1_6 : Int) (a1_7 : Int) (a1_8 : Int) (a1_9 : Int) (a1_10 : Int) (a1_11 : Int) (a1_12 : Int) (a1_13 : Int) : Option (Bool) := (laws_szTable.f a0_0 l0_1 1048576).bind fun t439 => (if t439 < 0 then (some true) else ((laws_toTable.f k a0_0 l0_1).bind fun bt440 => ((laws_toFlowKey.f a1_0 a1_1 a1_2 a1_3 a1_4 a1_5 a1_6 a1_7 a1_8 a1_9 a1_10 a1_11 a1_12 a1_13).bind fun bt444 => ((spec_TableFind.f k bt440.1 bt440.2 bt444.1 bt444.2.1 bt444.2.2.1 bt444.2.2.2.1 bt444.2.2.2.2.1 bt444.2.2.2.2.2.1 bt444.2.2.2.2.2.2.1 bt444.2.2.2.2.2.2.2.1 bt444.2.2.2.2.2.2.2.2.1 bt444.2.2.2.2.2.2.2.2.2.1 bt444.2.2.2.2.2.2.2.2.2.2.1 bt444.2.2.2.2.2.2.2.2.2.2.2.1 bt444.2.2.2.2.2.2.2.2.2.2.2.2.1 bt444.2.2.2.2.2.2.2.2.2.2.2.2.2).bind fun bt458 => ((laws_toTable.f k a0_0 l0_1).bind fun bt460 => ((laws_toFlowKey.f a1_0 a1_1 a1_2 a1_3 a1_4 a1_5 a1_6 a1_7 a1_8 a1_9 a1_10 a1_11 a1_12 a1_13).bind fun bt465 => ((impl_TableFind.f k bt460.1 bt460.2 bt465.1 bt465.2.1 bt465.2.2.1 bt465.2.2.2.1 bt465.2.2.2.2.1 bt465.2.2.2.2.2.1 bt465.2.2.2.2.2.2.1 bt465.2.2.2.2.2.2.2.1 bt465.2.2.2.2.2.2.2.2.1 bt465.2.2.2.2.2.2.2.2.2.1 bt465.2.2.2.2.2.2.2.2.2.2.1 bt465.2.2.2.2.2.2.2.2.2.2.2.1 bt465.2.2.2.2.2.2.2.2.2.2.2.2.1 bt465.2.2.2.2.2.2.2.2.2.2.2.2.2).bind fun bt479 => (if bt479.1 = bt458.1 then (if (bt479.2 != bt458.2) = true then (none) else ((laws_toTable.f k a0_0 l0_1).bind fun bt481 => ((laws_eqTable.f k bt460.1 bt460.2 bt481.1 bt481.2).bind fun t485 => (if t485 = true then (some true) else (none))))) else (none)))))))))
theorem laws_FnExactTableFind.mono : ∀ a0 a1 a2 a3 a4 a5 a6 a7 a8 a9 a10 a11 a12 a13 a14 a15 k, LeO (laws_FnExactTableFind.f k a0 a1 a2 a3 a4 a5 a6 a7 a8 a9 a10 a11 a12 a13 a14 a15) (laws_FnExactTableFind.f (k + 1) a0 a1 a2 a3 a4 a5 a6 a7 a8 a9 a10 a11 a12 a13 a14 a15) := by
 intro a0 a1 a2 a3 a4 a5 a6 a7 a8 a9 a10 a11 a12 a13 a14 a15 k
 unfold laws_FnExactTableFind.f
 repeat' first
   | (with_reducible exact impl_TableFind.mono _ _ _ _ _ _ _ _ _ _ _ _ _ _ _ _ _)
   | (with_reducible exact laws_eqTable.mono _ _ _ _ _)
   | (with_reducible exact laws_toTable.mono _ _ _)
   | (with_reducible exact spec_TableFind.mono _ _ _ _ _ _ _ _ _ _ _ _ _ _ _ _ _)
   | (with_reducible exact LeO.refl _)
   | (with_reducible exact LeO.none _)
   | (with_reducible refine LeO.ite ?_ ?_)
   | (with_reducible refine LeO.bind ?_ (fun _ => ?_))
   | exact impl_TableFind.mono _ _ _ _ _ _ _ _ _ _ _ _ _ _ _ _ _
   | exact laws_eqTable.mono _ _ _ _ _
   | exact laws_toTable.mono _ _ _
   | exact spec_TableFind.mono _ _ _ _ _ _ _ _ _ _ _ _ _ _ _ _ _
   | exact LeO.none _
   | refine LeO.ite ?_ ?_
   | refine LeO.bind ?_ (fun _ => ?_)
def laws_FnExactTableFind.T5 : Bool × List (List Nat × List Nat) := (true, [([], []), ([0], [0]), ([], []), ([2, 1], [2]), ([1, 3, 3], [1, 3]), ([4], [4]), ([5], [5]), ([5], [5]), ([6, 4, 0, 1, 2, 3, 4, 5, 6], [6]), ([7, 8, 0, 1, 2, 3, 4, 5, 6, 7, 8], [7])])
def laws_FnExactTableFind.B5 : List Nat := [0, 1, 0, 7, 15, 31, 63, 63, 127, 511]
theorem laws_FnExactTableFind.tab5 : rtab .any (opsOf Try.f8 5) = laws_FnExactTableFind.T5 := by kernel_rfl
theorem laws_FnExactTableFind.bits5 : waitsOk laws_FnExactTableFind.T5.2 laws_FnExactTableFind.B5 = true := by kernel_rfl
def laws_FnExactTableFind.T7 : Bool × List (List Nat × List Nat) := (true, [([], []), ([], []), ([1], [1]), ([0, 2, 2], [0, 2]), ([3], [3]), ([4], [4]), ([4], [4]), ([5, 3, 0, 1, 2, 3, 4, 5], [5]), ([6, 7, 0, 1, 2, 3, 4, 5, 6, 7], [6])])
def laws_FnExactTableFind.B7 : List Nat := [0, 0, 2, 7, 15, 31, 31, 63, 255]
theorem laws_FnExactTableFind.tab7 : rtab .any (opsOf Try.f8 7) = laws_FnExactTableFind.T7 := by kernel_rfl
theorem laws_FnExactTableFind.bits7 : waitsOk laws_FnExactTableFind.T7.2 laws_FnExactTableFind.B7 = true := by kernel_rfl
set_option maxHeartbeats 8000000 in
set_option maxRecDepth 100000 in
theorem laws_FnExactTableFind.calls (k : Nat) (a0_0 : Int) (A0_1 : Option Addr) (c0_1 : Nat) (l0_1 : List (S94)) (a1_0 : Int) (a1_1 : Int) (a1_2 : Int) (a1_3 : Int) (a1_4 : Int) (a1_5 : Int) (a1_6 : Int) (a1_7 : Int) (a1_8 : Int) (a1_9 : Int) (a1_10 : Int) (a1_11 : Int) (a1_12 : Int) (a1_13 : Int) (r : Bool) (w : World) (hr0_1 : Kd.C k94 w A0_1 l0_1.length l0_1) (hc0_1 : l0_1.length ≤ c0_1) (h : laws_FnExactTableFind.f k a0_0 l0_1 a1_0 a1_1 a1_2 a1_3 a1_4 a1_5 a1_6 a1_7 a1_8 a1_9 a1_10 a1_11 a1_12 a1_13 = some r) :
  Calls Try.prog 8 #[.agg #[.int .i64 a0_0, .slice A0_1 l0_1.length c0_1], .agg #[.int .i64 a1_0, .int .i64 a1_1, .int .i64 a1_2, .int .i64 a1_3, .int .i64 a1_4, .int .i64 a1_5, .int .i64 a1_6, .int .i64 a1_7, .int .i64 a1_8, .int .i64 a1_9, .int .i64 a1_10, .int .i64 a1_11, .int .i64 a1_12, .int .i64 a1_13]] w fun e w' => e = .returned (.bool r) ∧ Below w.heap.size w w' := by
 have hu47 := Try.underlying47
 have hu27 := Try.underlying27
 have hu40 := Try.underlying40
 have HR0_1 := Gv.a0 hr0_1
 have HC0_1 := Gv.a0 hc0_1
 clear hr0_1 hc0_1
 have HB := Gv.a0 (Below.refl w.heap.size w)
 have H : ((laws_szTable.f a0_0 l0_1 1048576).bind fun t439 => (if t439 < 0 then (some true) else ((laws_toTable.f k a0_0 l0_1).bind fun bt440 => ((laws_toFlowKey.f a1_0 a1_1 a1_2 a1_3 a1_4 a1_5 a1_6 a1_7 a1_8 a1_9 a1_10 a1_11 a1_12 a1_13).bind fun bt444 => ((spec_TableFind.f k bt440.1 bt440.2 bt444.1 bt444.2.1 bt444.2.2.1 bt444.2.2.2.1 bt444.2.2.2.2.1 bt444.2.2.2.2.2.1 bt444.2.2.2.2.2.2.1 bt444.2.2.2.2.2.2.2.1 bt444.2.2.2.2.2.2.2.2.1 bt444.2.2.2.2.2.2.2.2.2.1 bt444.2.2.2.2.2.2.2.2.2.2.1 bt444.2.2.2.2.2.2.2.2.2.2.2.1 bt444.2.2.2.2.2.2.2.2.2.2.2.2.1 bt444.2.2.2.2.2.2.2.2.2.2.2.2.2).bind fun bt458 => ((laws_toTable.f k a0_0 l0_1).bind fun bt460 => ((laws_toFlowKey.f a1_0 a1_1 a1_2 a1_3 a1_4 a1_5 a1_6 a1_7 a1_8 a1_9 a1_10 a1_11 a1_12 a1_13).bind fun bt465 => ((impl_TableFind.f k bt460.1 bt460.2 bt465.1 bt465.2.1 bt465.2.2.1 bt465.2.2.2.1 bt465.2.2.2.2.1 bt465.2.2.2.2.2.1 bt465.2.2.2.2.2.2.1 bt465.2.2.2.2.2.2.2.1 bt465.2.2.2.2.2.2.2.2.1 bt465.2.2.2.2.2.2.2.2.2.1 bt465.2.2.2.2.2.2.2.2.2.2.1 bt465.2.2.2.2.2.2.2.2.2.2.2.1 bt465.2.2.2.2.2.2.2.2.2.2.2.2.1 bt465.2.2.2.2.2.2.2.2.2.2.2.2.2).bind fun bt479 => (if bt479.1 = bt458.1 then (if (bt479.2 != bt458.2) = true then (none) else ((laws_toTable.f k a0_0 l0_1).bind fun bt481 => ((laws_eqTable.f k bt460.1 bt460.2 bt481.1 bt481.2).bind fun t485 => (if t485 = true then (some true) else (none))))) else (none)))))))))) = some r := h
 clear h
 replace H := Option.bind_eq_some_iff.mp H
 obtain ⟨t439, A30, H⟩ := H
 replace H : (if t439 < 0 then (some true) else ((laws_toTable.f k a0_0 l0_1).bind fun bt440 => ((laws_toFlowKey.f a1_0 a1_1 a1_2 a1_3 a1_4 a1_5 a1_6 a1_7 a1_8 a1_9 a1_10 a1_11 a1_12 a1_13).bind fun bt444 => ((spec_TableFind.f k bt440.1 bt440.2 bt444.1 bt444.2.1 bt444.2.2.1 bt444.2.2.2.1 bt444.2.2.2.2.1 bt444.2.2.2.2.2.1 bt444.2.2.2.2.2.2.1 bt444.2.2.2.2.2.2.2.1 bt444.2.2.2.2.2.2.2.2.1 bt444.2.2.2.2.2.2.2.2.2.1 bt444.2.2.2.2.2.2.2.2.2.2.1 bt444.2.2.2.2.2.2.2.2.2.2.2.1 bt444.2.2.2.2.2.2.2.2.2.2.2.2.1 bt444.2.2.2.2.2.2.2.2.2.2.2.2.2).bind fun bt458 => ((laws_toTable.f k a0_0 l0_1).bind fun bt460 => ((laws_toFlowKey.f a1_0 a1_1 a1_2 a1_3 a1_4 a1_5 a1_6 a1_7 a1_8 a1_9 a1_10 a1_11 a1_12 a1_13).bind fun bt465 => ((impl_TableFind.f k bt460.1 bt460.2 bt465.1 bt465.2.1 bt465.2.2.1 bt465.2.2.2.1 bt465.2.2.2.2.1 bt465.2.2.2.2.2.1 bt465.2.2.2.2.2.2.1 bt465.2.2.2.2.2.2.2.1 bt465.2.2.2.2.2.2.2.2.1 bt465.2.2.2.2.2.2.2.2.2.1 bt465.2.2.2.2.2.2.2.2.2.2.1 bt465.2.2.2.2.2.2.2.2.2.2.2.1 bt465.2.2.2.2.2.2.2.2.2.2.2.2.1 bt465.2.2.2.2.2.2.2.2.2.2.2.2.2).bind fun bt479 => (if bt479.1 = bt458.1 then (if (bt479.2 != bt458.2) = true then (none) else ((laws_toTable.f k a0_0 l0_1).bind fun bt481 => ((laws_eqTable.f k bt460.1 bt460.2 bt481.1 bt481.2).bind fun t485 => (if t485 = true then (some true) else (none))))) else (none))))))))) = some r := H
 have A3 := Gv.a0 A30
 clear A30
 by_cases c4 : t439 < 0
 ·rw [if_pos c4] at H
  have c4b0 : decide (t439 < 0) = true := decide_eq_true c4
  clear c4
  obtain rfl := Option.some.inj H
  go_enter Try.func8, Try.ntmps8
  go_wp2_with (first | ((with_reducible refine gate_dst (N := 2) rfl ?_); refine box_event ?hg (N := 2) ?hd (cs := #[.int .i64 a0_0, .slice A0_1 l0_1.length c0_1]) (t := 47) ?hr ?_; (case hd => rfl); (case hg => rfl); (case hr => first | (go_simp; done) | (go_simp; rfl)); intro gb437 hg w5 hbox hb; have n0_ := Gv.a0 (below_step Gv.bw hb); have n1_ := Gv.a0 (hbox); have n2_ := Gv.a0 ((Gv.ble hg Gv.bw : w.heap.size ≤ gb437)); have n3_ := Gv.a0 ((Gv.ble hg Gv.bw : w.heap.size ≤ gb437)); clear HB; have HB := n0_; have BK437 := n1_; have GW437 := n2_; have GE437 := n3_; clear n0_ n1_ n2_ n3_; clear hb hbox hg) | ((with_reducible refine gate_dst (N := 3) rfl ?_); refine box_event ?hg (N := 3) ?hd (cs := #[.int .i64 a1_0, .int .i64 a1_1, .int .i64 a1_2, .int .i64 a1_3, .int .i64 a1_4, .int .i64 a1_5, .int .i64 a1_6, .int .i64 a1_7, .int .i64 a1_8, .int .i64 a1_9, .int .i64 a1_10, .int .i64 a1_11, .int .i64 a1_12, .int .i64 a1_13]) (t := 27) ?hr ?_; (case hd => rfl); (case hg => rfl); (case hr => first | (go_simp; done) | (go_simp; rfl)); intro gb438 hg w6 hbox hb; have n0_ := Gv.a0 (Gv.bb BK437.out hb); have n1_ := Gv.a0 (below_step Gv.bw hb); have n2_ := Gv.a0 (hbox); have n3_ := Gv.a0 ((Gv.ble hg Gv.bw : w.heap.size ≤ gb438)); have n4_ := Gv.a0 ((Gv.ble hg Gv.bw : w.heap.size ≤ gb438)); have n5_ := Gv.a0 ((Gv.nlt hg (Gv.kb BK437.out) : gb437 ≠ gb438)); have n6_ := Gv.a0 ((Gv.ngt hg (Gv.kb BK437.out) : gb438 ≠ gb437)); clear BK437; clear HB; have BK437 := n0_; have HB := n1_; have BK438 := n2_; have GW438 := n3_; have GE438 := n4_; have NB437_438 := n5_; have NB438_437 := n6_; clear n0_ n1_ n2_ n3_ n4_ n5_ n6_; clear hb hbox hg; have hnb7 := NB437_438.out; have hnc7 := NB438_437.out; have hcz8_0 : w6.cell? ⟨gb437, 0, none⟩ = some (.int .i64 a0_0) := (blk_cell BK437.out 0).trans rfl; have hcz8_1 : w6.cell? ⟨gb437, 1, none⟩ = some (.slice A0_1 l0_1.length c0_1) := (blk_cell BK437.out 1).trans rfl; have hfz8_0 := blk_frozen BK437.out 0; have hfz8_1 := blk_frozen BK437.out 1) | ((with_reducible refine gate_callee (f := 23) rfl ?_); refine goesL_ (some 13) rfl rfl Try.func23 (by kernel_rfl) rfl #[.agg #[.int .i64 a0_0, .slice A0_1 l0_1.length c0_1], .int .i64 1048576] rfl Gv.lm ?_; (with_reducible refine (laws_szTable.calls a0_0 _ _ l0_1 1048576 t439 _ ?side1 ?side2 A3.out).mono ?_); (case side1 => repeat (first | exact (Kd.C_below HR0_1.out HB.out) | (with_reducible refine Kd.C_alloc ?_ _) | (with_reducible refine Kd.C_drewN ?_ _) | (with_reducible refine Kd.C_drew ?_))); (case side2 => exact HC0_1.out); rintro e w9 ⟨rfl, hb⟩; refine ⟨_, rfl, ?_⟩; have n0_ := Gv.a0 (Gv.bb BK437.out hb); have n1_ := Gv.a0 (Gv.bb BK438.out hb); have n2_ := Gv.a0 (below_step Gv.bw hb); clear BK437; clear BK438; clear HB; have BK437 := n0_; have BK438 := n1_; have HB := n2_; clear n0_ n1_ n2_; (try clear hb); (try clear hb2); (try clear hk); (try clear hi)))
  go_ret
  exact ⟨by first | rfl | (simp [errW_none, errW_some] <;> rfl) | (simp [*, errW_none, errW_some] <;> rfl), by repeat (first | (with_reducible first | exact HB.out | apply below_alloc | apply pw_below_drewN | apply below_drew1 | refine below_set ?_ GE437.out | refine below_set ?_ GE438.out) | exact HB.out)⟩
 ·rw [if_neg c4] at H
  have c4b0 : decide (t439 < 0) = false := decide_eq_false c4
  clear c4
  replace H := Option.bind_eq_some_iff.mp H
  obtain ⟨⟨t440, t441⟩, A100, H⟩ := H
  replace H : ((laws_toFlowKey.f a1_0 a1_1 a1_2 a1_3 a1_4 a1_5 a1_6 a1_7 a1_8 a1_9 a1_10 a1_11 a1_12 a1_13).bind fun bt444 => ((spec_TableFind.f k t440 t441 bt444.1 bt444.2.1 bt444.2.2.1 bt444.2.2.2.1 bt444.2.2.2.2.1 bt444.2.2.2.2.2.1 bt444.2.2.2.2.2.2.1 bt444.2.2.2.2.2.2.2.1 bt444.2.2.2.2.2.2.2.2.1 bt444.2.2.2.2.2.2.2.2.2.1 bt444.2.2.2.2.2.2.2.2.2.2.1 bt444.2.2.2.2.2.2.2.2.2.2.2.1 bt444.2.2.2.2.2.2.2.2.2.2.2.2.1 bt444.2.2.2.2.2.2.2.2.2.2.2.2.2).bind fun bt458 => ((laws_toTable.f k a0_0 l0_1).bind fun bt460 => ((laws_toFlowKey.f a1_0 a1_1 a1_2 a1_3 a1_4 a1_5 a1_6 a1_7 a1_8 a1_9 a1_10 a1_11 a1_12 a1_13).bind fun bt465 => ((impl_TableFind.f k bt460.1 bt460.2 bt465.1 bt465.2.1 bt465.2.2.1 bt465.2.2.2.1 bt465.2.2.2.2.1 bt465.2.2.2.2.2.1 bt465.2.2.2.2.2.2.1 bt465.2.2.2.2.2.2.2.1 bt465.2.2.2.2.2.2.2.2.1 bt465.2.2.2.2.2.2.2.2.2.1 bt465.2.2.2.2.2.2.2.2.2.2.1 bt465.2.2.2.2.2.2.2.2.2.2.2.1 bt465.2.2.2.2.2.2.2.2.2.2.2.2.1 bt465.2.2.2.2.2.2.2.2.2.2.2.2.2).bind fun bt479 => (if bt479.1 = bt458.1 then (if (bt479.2 != bt458.2) = true then (none) else ((laws_toTable.f k a0_0 l0_1).bind fun bt481 => ((laws_eqTable.f k bt460.1 bt460.2 bt481.1 bt481.2).bind fun t485 => (if t485 = true then (some true) else (none))))) else (none))))))) = some r := H
  have A10 := Gv.a0 A100
  clear A100
  replace H := Option.bind_eq_some_iff.mp H
  obtain ⟨⟨t444, t445, t446, t447, t448, t449, t450, t451, t452, t453, t454, t455, t456, t457⟩, A110, H⟩ := H
  replace H : ((spec_TableFind.f k t440 t441 t444 t445 t446 t447 t448 t449 t450 t451 t452 t453 t454 t455 t456 t457).bind fun bt458 => ((laws_toTable.f k a0_0 l0_1).bind fun bt460 => ((laws_toFlowKey.f a1_0 a1_1 a1_2 a1_3 a1_4 a1_5 a1_6 a1_7 a1_8 a1_9 a1_10 a1_11 a1_12 a1_13).bind fun bt465 => ((impl_TableFind.f k bt460.1 bt460.2 bt465.1 bt465.2.1 bt465.2.2.1 bt465.2.2.2.1 bt465.2.2.2.2.1 bt465.2.2.2.2.2.1 bt465.2.2.2.2.2.2.1 bt465.2.2.2.2.2.2.2.1 bt465.2.2.2.2.2.2.2.2.1 bt465.2.2.2.2.2.2.2.2.2.1 bt465.2.2.2.2.2.2.2.2.2.2.1 bt465.2.2.2.2.2.2.2.2.2.2.2.1 bt465.2.2.2.2.2.2.2.2.2.2.2.2.1 bt465.2.2.2.2.2.2.2.2.2.2.2.2.2).bind fun bt479 => (if bt479.1 = bt458.1 then (if (bt479.2 != bt458.2) = true then (none) else ((laws_toTable.f k a0_0 l0_1).bind fun bt481 => ((laws_eqTable.f k bt460.1 bt460.2 bt481.1 bt481.2).bind fun t485 => (if t485 = true then (some true) else (none))))) else (none)))))) = some r := H
  have A11 := Gv.a0 A110
  clear A110
  replace H := Option.bind_eq_some_iff.mp H
  obtain ⟨⟨t458, t459⟩, A120, H⟩ := H
  replace H : ((laws_toTable.f k a0_0 l0_1).bind fun bt460 => ((laws_toFlowKey.f a1_0 a1_1 a1_2 a1_3 a1_4 a1_5 a1_6 a1_7 a1_8 a1_9 a1_10 a1_11 a1_12 a1_13).bind fun bt465 => ((impl_TableFind.f k bt460.1 bt460.2 bt465.1 bt465.2.1 bt465.2.2.1 bt465.2.2.2.1 bt465.2.2.2.2.1 bt465.2.2.2.2.2.1 bt465.2.2.2.2.2.2.1 bt465.2.2.2.2.2.2.2.1 bt465.2.2.2.2.2.2.2.2.1 bt465.2.2.2.2.2.2.2.2.2.1 bt465.2.2.2.2.2.2.2.2.2.2.1 bt465.2.2.2.2.2.2.2.2.2.2.2.1 bt465.2.2.2.2.2.2.2.2.2.2.2.2.1 bt465.2.2.2.2.2.2.2.2.2.2.2.2.2).bind fun bt479 => (if bt479.1 = t458 then (if (bt479.2 != t459) = true then (none) else ((laws_toTable.f k a0_0 l0_1).bind fun bt481 => ((laws_eqTable.f k bt460.1 bt460.2 bt481.1 bt481.2).bind fun t485 => (if t485 = true then (some true) else (none))))) else (none))))) = some r := H
  have A12 := Gv.a0 A120
  clear A120
  replace H := Option.bind_eq_some_iff.mp H
  obtain ⟨⟨t460, t461⟩, A130, H⟩ := H
  replace H : ((laws_toFlowKey.f a1_0 a1_1 a1_2 a1_3 a1_4 a1_5 a1_6 a1_7 a1_8 a1_9 a1_10 a1_11 a1_12 a1_13).bind fun bt465 => ((impl_TableFind.f k t460 t461 bt465.1 bt465.2.1 bt465.2.2.1 bt465.2.2.2.1 bt465.2.2.2.2.1 bt465.2.2.2.2.2.1 bt465.2.2.2.2.2.2.1 bt465.2.2.2.2.2.2.2.1 bt465.2.2.2.2.2.2.2.2.1 bt465.2.2.2.2.2.2.2.2.2.1 bt465.2.2.2.2.2.2.2.2.2.2.1 bt465.2.2.2.2.2.2.2.2.2.2.2.1 bt465.2.2.2.2.2.2.2.2.2.2.2.2.1 bt465.2.2.2.2.2.2.2.2.2.2.2.2.2).bind fun bt479 => (if bt479.1 = t458 then (if (bt479.2 != t459) = true then (none) else ((laws_toTable.f k a0_0 l0_1).bind fun bt481 => ((laws_eqTable.f k t460 t461 bt481.1 bt481.2).bind fun t485 => (if t485 = true then (some true) else (none))))) else (none)))) = some r := H
  have A13 := Gv.a0 A130
  clear A130
  replace H := Option.bind_eq_some_iff.mp H
  obtain ⟨⟨t465, t466, t467, t468, t469, t470, t471, t472, t473, t474, t475, t476, t477, t478⟩, A140, H⟩ := H
  replace H : ((impl_TableFind.f k t460 t461 t465 t466 t467 t468 t469 t470 t471 t472 t473 t474 t475 t476 t477 t478).bind fun bt479 => (if bt479.1 = t458 then (if (bt479.2 != t459) = true then (none) else ((laws_toTable.f k a0_0 l0_1).bind fun bt481 => ((laws_eqTable.f k t460 t461 bt481.1 bt481.2).bind fun t485 => (if t485 = true then (some true) else (none))))) else (none))) = some r := H
  have A14 := Gv.a0 A140
  clear A140
  replace H := Option.bind_eq_some_iff.mp H
  obtain ⟨⟨t479, t480⟩, A150, H⟩ := H
  replace H : (if t479 = t458 then (if (t480 != t459) = true then (none) else ((laws_toTable.f k a0_0 l0_1).bind fun bt481 => ((laws_eqTable.f k t460 t461 bt481.1 bt481.2).bind fun t485 => (if t485 = true then (some true) else (none))))) else (none)) = some r := H
  have A15 := Gv.a0 A150
  clear A150
  by_cases c16 : t479 = t458
  ·rw [if_pos c16] at H
   have c16b0 : (t479 == t458) = true := beq_iff_eq.mpr c16
   have c16b1 : (t479 != t458) = false := bne_eq_false_iff_eq.mpr c16
   clear c16
   by_cases c17 : (t480 != t459) = true
   ·rw [if_pos c17] at H
    exact absurd H (by simp)
   ·rw [if_neg c17] at H
    have c17b0 : (t480 != t459) = false := by simpa using c17
    (try (have c17b1 : decide (t480 = t459) = true := by simpa using c17))
    (try (have c17b2 : (t480 == t459) = true := by simpa using c17))
    clear c17
    replace H := Option.bind_eq_some_iff.mp H
    obtain ⟨⟨t481, t482⟩, A180, H⟩ := H
    replace H : ((laws_eqTable.f k t460 t461 t481 t482).bind fun t485 => (if t485 = true then (some true) else (none))) = some r := H
    have A18 := Gv.a0 A180
    clear A180
    replace H := Option.bind_eq_some_iff.mp H
    obtain ⟨t485, A190, H⟩ := H
    replace H : (if t485 = true then (some true) else (none)) = some r := H
    have A19 := Gv.a0 A190
    clear A190
    by_cases c20 : t485 = true
    ·subst c20
     have H1 : (some true) = some r := by rw [if_pos rfl] at H; exact H
     clear H
     have H := H1
     clear H1
     obtain rfl := Option.some.inj H
     go_enter Try.func8, Try.ntmps8
     try go_wp2_with (first | ((with_reducible refine gate_dst (N := 2) rfl ?_); refine box_event ?hg (N := 2) ?hd (cs := #[.int .i64 a0_0, .slice A0_1 l0_1.length c0_1]) (t := 47) ?hr ?_; (case hd => rfl); (case hg => rfl); (case hr => first | (go_simp; done) | (go_simp; rfl)); intro gb437 hg w21 hbox hb; have n0_ := Gv.a0 (below_step Gv.bw hb); have n1_ := Gv.a0 (hbox); have n2_ := Gv.a0 ((Gv.ble hg Gv.bw : w.heap.size ≤ gb437)); have n3_ := Gv.a0 ((Gv.ble hg Gv.bw : w.heap.size ≤ gb437)); clear HB; have HB := n0_; have BK437 := n1_; have GW437 := n2_; have GE437 := n3_; clear n0_ n1_ n2_ n3_; clear hb hbox hg) | ((with_reducible refine gate_dst (N := 3) rfl ?_); refine box_event ?hg (N := 3) ?hd (cs := #[.int .i64 a1_0, .int .i64 a1_1, .int .i64 a1_2, .int .i64 a1_3, .int .i64 a1_4, .int .i64 a1_5, .int .i64 a1_6, .int .i64 a1_7, .int .i64 a1_8, .int .i64 a1_9, .int .i64 a1_10, .int .i64 a1_11, .int .i64 a1_12, .int .i64 a1_13]) (t := 27) ?hr ?_; (case hd => rfl); (case hg => rfl); (case hr => first | (go_simp; done) | (go_simp; rfl)); intro gb438 hg w22 hbox hb; have n0_ := Gv.a0 (Gv.bb BK437.out hb); have n1_ := Gv.a0 (below_step Gv.bw hb); have n2_ := Gv.a0 (hbox); have n3_ := Gv.a0 ((Gv.ble hg Gv.bw : w.heap.size ≤ gb438)); have n4_ := Gv.a0 ((Gv.ble hg Gv.bw : w.heap.size ≤ gb438)); have n5_ := Gv.a0 ((Gv.nlt hg (Gv.kb BK437.out) : gb437 ≠ gb438)); have n6_ := Gv.a0 ((Gv.ngt hg (Gv.kb BK437.out) : gb438 ≠ gb437)); clear BK437; clear HB; have BK437 := n0_; have HB := n1_; have BK438 := n2_; have GW438 := n3_; have GE438 := n4_; have NB437_438 := n5_; have NB438_437 := n6_; clear n0_ n1_ n2_ n3_ n4_ n5_ n6_; clear hb hbox hg; have hnb23 := NB437_438.out; have hnc23 := NB438_437.out; have hcz24_0 : w22.cell? ⟨gb437, 0, none⟩ = some (.int .i64 a0_0) := (blk_cell BK437.out 0).trans rfl; have hcz24_1 : w22.cell? ⟨gb437, 1, none⟩ = some (.slice A0_1 l0_1.length c0_1) := (blk_cell BK437.out 1).trans rfl; have hfz24_0 := blk_frozen BK437.out 0; have hfz24_1 := blk_frozen BK437.out 1) | ((with_reducible refine gate_callee (f := 23) rfl ?_); refine goesL_ (some 13) rfl rfl Try.func23 (by kernel_rfl) rfl #[.agg #[.int .i64 a0_0, .slice A0_1 l0_1.length c0_1], .int .i64 1048576] rfl Gv.lm ?_; (with_reducible refine (laws_szTable.calls a0_0 _ _ l0_1 1048576 t439 _ ?side1 ?side2 A3.out).mono ?_); (case side1 => repeat (first | exact (Kd.C_below HR0_1.out HB.out) | (with_reducible refine Kd.C_alloc ?_ _) | (with_reducible refine Kd.C_drewN ?_ _) | (with_reducible refine Kd.C_drew ?_))); (case side2 => exact HC0_1.out); rintro e w25 ⟨rfl, hb⟩; refine ⟨_, rfl, ?_⟩; have n0_ := Gv.a0 (Gv.bb BK437.out hb); have n1_ := Gv.a0 (Gv.bb BK438.out hb); have n2_ := Gv.a0 (below_step Gv.bw hb); clear BK437; clear BK438; clear HB; have BK437 := n0_; have BK438 := n1_; have HB := n2_; clear n0_ n1_ n2_; (try clear hb); (try clear hb2); (try clear hk); (try clear hi)))
     have n0_ := Gv.a0 (blk_drew BK437.out)
     have n1_ := Gv.a0 (blk_drew BK438.out)
     have n2_ := Gv.a0 (below_drew1 HB.out)
     clear BK437
     clear BK438
     clear HB
     have BK437 := n0_
     have BK438 := n1_
     have HB := n2_
     clear n0_ n1_ n2_
     refine start_ (n := 10) (S := fun w' => w'.cell? ⟨gb437, 0, none⟩ = some (.int .i64 a0_0) ∧ w'.cell? ⟨gb437, 1, none⟩ = some (.slice A0_1 l0_1.length c0_1) ∧ w'.cell? ⟨gb438, 0, none⟩ = some (.int .i64 a1_0) ∧ w'.cell? ⟨gb438, 1, none⟩ = some (.int .i64 a1_1) ∧ w'.cell? ⟨gb438, 2, none⟩ = some (.int .i64 a1_2) ∧ w'.cell? ⟨gb438, 3, none⟩ = some (.int .i64 a1_3) ∧ w'.cell? ⟨gb438, 4, none⟩ = some (.int .i64 a1_4) ∧ w'.cell? ⟨gb438, 5, none⟩ = some (.int .i64 a1_5) ∧ w'.cell? ⟨gb438, 6, none⟩ = some (.int .i64 a1_6) ∧ w'.cell? ⟨gb438, 7, none⟩ = some (.int .i64 a1_7) ∧ w'.cell? ⟨gb438, 8, none⟩ = some (.int .i64 a1_8) ∧ w'.cell? ⟨gb438, 9, none⟩ = some (.int .i64 a1_9) ∧ w'.cell? ⟨gb438, 10, none⟩ = some (.int .i64 a1_10) ∧ w'.cell? ⟨gb438, 11, none⟩ = some (.int .i64 a1_11) ∧ w'.cell? ⟨gb438, 12, none⟩ = some (.int .i64 a1_12) ∧ w'.cell? ⟨gb438, 13, none⟩ = some (.int .i64 a1_13)) (ds := []) #[false, false, false, false, false, false, false, false, false, false] (by kernel_rfl) rfl rfl ⟨(blk_cell BK437.out 0).trans rfl, (blk_cell BK437.out 1).trans rfl, (blk_cell BK438.out 0).trans rfl, (blk_cell BK438.out 1).trans rfl, (blk_cell BK438.out 2).trans rfl, (blk_cell BK438.out 3).trans rfl, (blk_cell BK438.out 4).trans rfl, (blk_cell BK438.out 5).trans rfl, (blk_cell BK438.out 6).trans rfl, (blk_cell BK438.out 7).trans rfl, (blk_cell BK438.out 8).trans rfl, (blk_cell BK438.out 9).trans rfl, (blk_cell BK438.out 10).trans rfl, (blk_cell BK438.out 11).trans rfl, (blk_cell BK438.out 12).trans rfl, (blk_cell BK438.out 13).trans rfl⟩ (fun hHeld => ?_); refine with_tabW laws_FnExactTableFind.tab5 laws_FnExactTableFind.bits5 (fun HT_ HW_ => ?_)
     generalize w25.drew = w26 at BK437 BK438 HB hHeld ⊢
     refine take_ (i := 0) (N := some 17) (v := ?_) (a' := ?_) #[true, false, false, false, false, false, false, false, false, false] rfl rfl (take_ofW HT_.out HW_.out (by kernel_rfl)) (fun _ _ _ h => h) (Or.inl ⟨by rfl, ?_⟩) hHeld ?_ ?_
     rotate_left
     ·rintro w' ⟨s0, s1, s2, s3, s4, s5, s6, s7, s8, s9, s10, s11, s12, s13, s14, s15⟩
      go_simp
      with_reducible rfl
     rotate_left
     ·simp only [Act.put, List.setIfInBounds_toArray, List.set_cons_zero, List.set_cons_succ, i64_w, i32_w]
      rfl
     refine take_ (i := 2) (N := some 19) (v := ?_) (a' := ?_) #[true, false, true, false, false, false, false, false, false, false] rfl rfl (take_ofW HT_.out HW_.out (by kernel_rfl)) (fun _ _ _ h => h) (Or.inl ⟨by rfl, ?_⟩) hHeld ?_ ?_
     rotate_left
     ·rintro w' ⟨s0, s1, s2, s3, s4, s5, s6, s7, s8, s9, s10, s11, s12, s13, s14, s15⟩
      go_simp
      with_reducible rfl
     rotate_left
     ·simp only [Act.put, List.setIfInBounds_toArray, List.set_cons_zero, List.set_cons_succ, i64_w, i32_w]
      rfl
     refine one_ (i := 1) (N := some 18) #[true, true, true, false, false, false, false, false, false, false] rfl rfl (one_of HT_.out (by kernel_rfl)) (by decide) (fun K hK => ?_)
     refine goes_ Try.func25 (by kernel_rfl) rfl #[.agg #[.int .i64 a0_0, .slice A0_1 l0_1.length c0_1]] (by rfl) rfl rfl Gv.lm ?_
     with_reducible refine (laws_toTable.calls k a0_0 _ _ l0_1 t440 t441 _ ?side1 ?side2 A10.out).mono ?_
     (case side1 => repeat (first | exact (Kd.C_below HR0_1.out HB.out) | (with_reducible refine Kd.C_alloc ?_ _) | (with_reducible refine Kd.C_drewN ?_ _) | (with_reducible refine Kd.C_drew ?_)))
     (case side2 => exact HC0_1.out)
     rintro e w27 ⟨v442, rfl, ho0, hb⟩
     refine ⟨_, rfl, ?_⟩
     have n0_ := Gv.a0 (Kd.R_lower ho0 (below_size Gv.bw))
     have n1_ := Gv.a0 (Gv.bb BK437.out hb)
     have n2_ := Gv.a0 (Gv.bb BK438.out hb)
     have n3_ := Gv.a0 (below_step Gv.bw hb)
     clear BK437
     clear BK438
     clear HB
     have HO443 := n0_
     have BK437 := n1_
     have BK438 := n2_
     have HB := n3_
     clear n0_ n1_ n2_ n3_
     (try clear hb)
     (try clear hb2)
     (try clear hk)
     (try clear hi)
     (try clear ho0)
     refine hK.out _ _ ⟨(blk_cell BK437.out 0).trans rfl, (blk_cell BK437.out 1).trans rfl, (blk_cell BK438.out 0).trans rfl, (blk_cell BK438.out 1).trans rfl, (blk_cell BK438.out 2).trans rfl, (blk_cell BK438.out 3).trans rfl, (blk_cell BK438.out 4).trans rfl, (blk_cell BK438.out 5).trans rfl, (blk_cell BK438.out 6).trans rfl, (blk_cell BK438.out 7).trans rfl, (blk_cell BK438.out 8).trans rfl, (blk_cell BK438.out 9).trans rfl, (blk_cell BK438.out 10).trans rfl, (blk_cell BK438.out 11).trans rfl, (blk_cell BK438.out 12).trans rfl, (blk_cell BK438.out 13).trans rfl⟩ (fun hHeld => ?_)
     clear hK K
     refine norm_ (a' := ?_) ?_ ?_
     rotate_left
     ·show Act.put _ (some 18) _ = _
      simp only [Act.put, List.setIfInBounds_toArray, List.set_cons_zero, List.set_cons_succ, i64_w, i32_w]
      rfl
     refine one_ (i := 3) (N := some 20) #[true, true, true, true, false, false, false, false, false, false] rfl rfl (one_of HT_.out (by kernel_rfl)) (by decide) (fun K hK => ?_)
     refine goes_ Try.func14 (by kernel_rfl) rfl #[.agg #[.int .i64 a1_0, .int .i64 a1_1, .int .i64 a1_2, .int .i64 a1_3, .int .i64 a1_4, .int .i64 a1_5, .int .i64 a1_6, .int .i64 a1_7, .int .i64 a1_8, .int .i64 a1_9, .int .i64 a1_10, .int .i64 a1_11, .int .i64 a1_12, .int .i64 a1_13]] (by rfl) rfl rfl Gv.lm ?_
     with_reducible refine (laws_toFlowKey.calls a1_0 a1_1 a1_2 a1_3 a1_4 a1_5 a1_6 a1_7 a1_8 a1_9 a1_10 a1_11 a1_12 a1_13 t444 t445 t446 t447 t448 t449 t450 t451 t452 t453 t454 t455 t456 t457 _ A11.out).mono ?_
     rintro e w28 ⟨rfl, hb⟩
     refine ⟨_, rfl, ?_⟩
     have n0_ := Gv.a0 (Kd.R_below (Gv.kr HO443.out) hb)
     have n1_ := Gv.a0 (Gv.bb BK437.out hb)
     have n2_ := Gv.a0 (Gv.bb BK438.out hb)
     have n3_ := Gv.a0 (below_step Gv.bw hb)
     clear HO443
     clear BK437
     clear BK438
     clear HB
     have HO443 := n0_
     have BK437 := n1_
     have BK438 := n2_
     have HB := n3_
     clear n0_ n1_ n2_ n3_
     (try clear hb)
     (try clear hb2)
     (try clear hk)
     (try clear hi)
     obtain ⟨Ao29, co29, eo29⟩ := Kd.R_slice HO443.out
     (first | subst eo29 | (injection eo29 with f1_ f2_ f3_; have f4_ := f1_.symm; have f5_ := f3_.symm; clear f1_ f2_ f3_; subst f4_; subst f5_))
     refine hK.out _ _ ⟨(blk_cell BK437.out 0).trans rfl, (blk_cell BK437.out 1).trans rfl, (blk_cell BK438.out 0).trans rfl, (blk_cell BK438.out 1).trans rfl, (blk_cell BK438.out 2).trans rfl, (blk_cell BK438.out 3).trans rfl, (blk_cell BK438.out 4).trans rfl, (blk_cell BK438.out 5).trans rfl, (blk_cell BK438.out 6).trans rfl, (blk_cell BK438.out 7).trans rfl, (blk_cell BK438.out 8).trans rfl, (blk_cell BK438.out 9).trans rfl, (blk_cell BK438.out 10).trans rfl, (blk_cell BK438.out 11).trans rfl, (blk_cell BK438.out 12).trans rfl, (blk_cell BK438.out 13).trans rfl⟩ (fun hHeld => ?_)
     clear hK K
     refine norm_ (a' := ?_) ?_ ?_
     rotate_left
     ·show Act.put _ (some 20) _ = _
      simp only [Act.put, List.setIfInBounds_toArray, List.set_cons_zero, List.set_cons_succ, i64_w, i32_w]
      rfl
     refine one_ (i := 4) (N := some 21) #[true, true, true, true, true, false, false, false, false, false] rfl rfl (one_of HT_.out (by kernel_rfl)) (by decide) (fun K hK => ?_)
     refine goes_ Try.func29 (by kernel_rfl) rfl #[.agg #[.int .i64 t440, .slice Ao29 t441.length co29], .agg #[.int .i64 t444, .int .i64 t445, .int .i64 t446, .int .i64 t447, .int .i64 t448, .int .i64 t449, .int .i64 t450, .int .i64 t451, .int .i64 t452, .int .i64 t453, .int .i64 t454, .int .i64 t455, .int .i64 t456, .int .i64 t457]] (by rfl) rfl rfl Gv.lm ?_
     with_reducible refine (spec_TableFind.calls k t440 _ _ t441 t444 t445 t446 t447 t448 t449 t450 t451 t452 t453 t454 t455 t456 t457 t458 t459 _ ?side1 ?side2 A12.out).mono ?_
     (case side1 => repeat (first | exact (Kd.R_reads' HO443.out).2.2 | (with_reducible refine Kd.C_alloc ?_ _) | (with_reducible refine Kd.C_drewN ?_ _) | (with_reducible refine Kd.C_drew ?_)))
     (case side2 => exact (Kd.R_reads' HO443.out).2.1)
     rintro e w30 ⟨rfl, hb⟩
     refine ⟨_, rfl, ?_⟩
     have n0_ := Gv.a0 (Kd.R_below (Gv.kr HO443.out) hb)
     have n1_ := Gv.a0 (Gv.bb BK437.out hb)
     have n2_ := Gv.a0 (Gv.bb BK438.out hb)
     have n3_ := Gv.a0 (below_step Gv.bw hb)
     clear HO443
     clear BK437
     clear BK438
     clear HB
     have HO443 := n0_
     have BK437 := n1_
     have BK438 := n2_
     have HB := n3_
     clear n0_ n1_ n2_ n3_
     (try clear hb)
     (try clear hb2)
     (try clear hk)
     (try clear hi)
     refine hK.out _ _ ⟨(blk_cell BK437.out 0).trans rfl, (blk_cell BK437.out 1).trans rfl, (blk_cell BK438.out 0).trans rfl, (blk_cell BK438.out 1).trans rfl, (blk_cell BK438.out 2).trans rfl, (blk_cell BK438.out 3).trans rfl, (blk_cell BK438.out 4).trans rfl, (blk_cell BK438.out 5).trans rfl, (blk_cell BK438.out 6).trans rfl, (blk_cell BK438.out 7).trans rfl, (blk_cell BK438.out 8).trans rfl, (blk_cell BK438.out 9).trans rfl, (blk_cell BK438.out 10).trans rfl, (blk_cell BK438.out 11).trans rfl, (blk_cell BK438.out 12).trans rfl, (blk_cell BK438.out 13).trans rfl⟩ (fun hHeld => ?_)
     clear hK K
     refine norm_ (a' := ?_) ?_ ?_
     rotate_left
     ·show Act.put _ (some 21) _ = _
      simp only [Act.put, List.setIfInBounds_toArray, List.set_cons_zero, List.set_cons_succ, i64_w, i32_w]
      rfl
     refine pure_ (i := 5) (N := some 16) (v := ?_) (a' := ?_) #[true, true, true, true, true, true, false, false, false, false] rfl rfl (any_of HT_.out (by kernel_rfl)) (fun _ _ _ h => h) (Or.inl ⟨by rfl, ?_⟩) ?_ ?_
     rotate_left
     ·intro w'
      go_simp
      with_reducible rfl
     rotate_left
     ·simp only [Act.put, List.setIfInBounds_toArray, List.set_cons_zero, List.set_cons_succ, i64_w, i32_w]
      rfl
     refine pure_ (i := 6) (N := some 22) (v := ?_) (a' := ?_) #[true, true, true, true, true, true, true, false, false, false] rfl rfl (any_of HT_.out (by kernel_rfl)) (fun _ _ _ h => h) (Or.inl ⟨by rfl, ?_⟩) ?_ ?_
     rotate_left
     ·intro w'
      go_simp
      with_reducible rfl
     rotate_left
     ·simp only [Act.put, List.setIfInBounds_toArray, List.set_cons_zero, List.set_cons_succ, i64_w, i32_w]
      rfl
     refine pure_ (i := 7) (N := some 23) (v := ?_) (a' := ?_) #[true, true, true, true, true, true, true, true, false, false] rfl rfl (any_of HT_.out (by kernel_rfl)) (fun _ _ _ h => h) (Or.inl ⟨by rfl, ?_⟩) ?_ ?_
     rotate_left
     ·intro w'
      go_simp
      with_reducible rfl
     rotate_left
     ·simp only [Act.put, List.setIfInBounds_toArray, List.set_cons_zero, List.set_cons_succ, i64_w, i32_w]
      rfl
     refine pure_ (i := 8) (N := some 6) (v := ?_) (a' := ?_) #[true, true, true, true, true, true, true, true, true, false] rfl rfl (any_of HT_.out (by kernel_rfl)) (fun _ _ _ h => h) (Or.inl ⟨by rfl, ?_⟩) ?_ ?_
     rotate_left
     ·intro w'
      go_simp
      with_reducible rfl
     rotate_left
     ·simp only [Act.put, List.setIfInBounds_toArray, List.set_cons_zero, List.set_cons_succ, i64_w, i32_w]
      rfl
     refine pure_ (i := 9) (N := some 7) (v := ?_) (a' := ?_) #[true, true, true, true, true, true, true, true, true, true] rfl rfl (any_of HT_.out (by kernel_rfl)) (fun _ _ _ h => h) (Or.inl ⟨by rfl, ?_⟩) ?_ ?_
     rotate_left
     ·intro w'
      go_simp
      with_reducible rfl
     rotate_left
     ·simp only [Act.put, List.setIfInBounds_toArray, List.set_cons_zero, List.set_cons_succ, i64_w, i32_w]
      rfl
     refine done_ (done_of HT_.out (by kernel_rfl)) ?_
     have hcz31_0 : w30.cell? ⟨gb437, 0, none⟩ = some (.int .i64 a0_0) := (blk_cell BK437.out 0).trans rfl
     have hcz31_1 : w30.cell? ⟨gb437, 1, none⟩ = some (.slice A0_1 l0_1.length c0_1) := (blk_cell BK437.out 1).trans rfl
     have hfz31_0 := blk_frozen BK437.out 0
     have hfz31_1 := blk_frozen BK437.out 1
     try go_wp2_with (first | ((with_reducible refine gate_callee (f := 25) rfl ?_); refine goesL_ (some 25) rfl rfl Try.func25 (by kernel_rfl) rfl #[.agg #[.int .i64 a0_0, .slice A0_1 l0_1.length c0_1]] rfl Gv.lm ?_; (with_reducible refine (laws_toTable.calls k a0_0 _ _ l0_1 t460 t461 _ ?side1 ?side2 A13.out).mono ?_); (case side1 => repeat (first | exact (Kd.C_below HR0_1.out HB.out) | (with_reducible refine Kd.C_alloc ?_ _) | (with_reducible refine Kd.C_drewN ?_ _) | (with_reducible refine Kd.C_drew ?_))); (case side2 => exact HC0_1.out); rintro e w32 ⟨v462, rfl, ho0, hb⟩; refine ⟨_, rfl, ?_⟩; have n0_ := Gv.a0 (Kd.R_elder' (Gv.kr HO443.out) (Kd.R_base ho0) hb); have n1_ := Gv.a0 (Kd.R_lower (Kd.R_new' ho0 (Kd.R_lt (Gv.kr HO443.out))) (below_size Gv.bw)); have n2_ := Gv.a0 (Gv.bb BK437.out hb); have n3_ := Gv.a0 (Gv.bb BK438.out hb); have n4_ := Gv.a0 (below_step Gv.bw hb); clear HO443; clear BK437; clear BK438; clear HB; have HO443 := n0_; have HO463 := n1_; have BK437 := n2_; have BK438 := n3_; have HB := n4_; clear n0_ n1_ n2_ n3_ n4_; (try clear hb); (try clear hb2); (try clear hk); (try clear hi); (try clear ho0)) | ((with_reducible refine gate_dst (N := 8) rfl ?_); refine box_event ?hg (N := 8) ?hd (cs := #[.int .i64 0, .slice none 0 0]) (t := 40) ?hr ?_; (case hd => rfl); (case hg => rfl); (case hr => first | (go_simp; done) | (go_simp; rfl)); intro gb464 hg w33 hbox hb; have n0_ := Gv.a0 (Kd.R_below (Gv.kr HO443.out) hb); have n1_ := Gv.a0 (Kd.R_below (Gv.kr HO463.out) hb); have n2_ := Gv.a0 (Gv.bb BK437.out hb); have n3_ := Gv.a0 (Gv.bb BK438.out hb); have n4_ := Gv.a0 (below_step Gv.bw hb); have n5_ := Gv.a0 (hbox); have n6_ := Gv.a0 ((Gv.ble hg Gv.bw : w.heap.size ≤ gb464)); have n7_ := Gv.a0 ((Gv.ble hg Gv.bw : w.heap.size ≤ gb464)); have n8_ := Gv.a0 ((Gv.nlt hg (Gv.kb BK437.out) : gb437 ≠ gb464)); have n9_ := Gv.a0 ((Gv.ngt hg (Gv.kb BK437.out) : gb464 ≠ gb437)); have n10_ := Gv.a0 ((Gv.nlt hg (Gv.kb BK438.out) : gb438 ≠ gb464)); have n11_ := Gv.a0 ((Gv.ngt hg (Gv.kb BK438.out) : gb464 ≠ gb438)); clear HO443; clear HO463; clear BK437; clear BK438; clear HB; have HO443 := n0_; have HO463 := n1_; have BK437 := n2_; have BK438 := n3_; have HB := n4_; have BK464 := n5_; have GW464 := n6_; have GE464 := n7_; have NB437_464 := n8_; have NB464_437 := n9_; have NB438_464 := n10_; have NB464_438 := n11_; clear n0_ n1_ n2_ n3_ n4_ n5_ n6_ n7_ n8_ n9_ n10_ n11_; clear hb hbox hg; have hnb34 := NB464_437.out; have hnc34 := NB437_464.out; have hnb35 := NB464_438.out; have hnc35 := NB438_464.out; have hcz36_0 : w33.cell? ⟨gb464, 0, none⟩ = some (.int .i64 0) := (blk_cell BK464.out 0).trans rfl; have hcz36_1 : w33.cell? ⟨gb464, 1, none⟩ = some (.slice none 0 0) := (blk_cell BK464.out 1).trans rfl; have hfz36_0 := blk_frozen BK464.out 0; have hfz36_1 := blk_frozen BK464.out 1; obtain ⟨Ao37, co37, eo37⟩ := Kd.R_slice HO463.out; subst eo37))
     have n0_ : Aside0 (Kd.R k75 75 ((w33.setCell ⟨gb464, 0, none⟩ (.int .i64 t460)).setCell ⟨gb464, 1, none⟩ (.slice Ao37 t461.length co37)) w.heap.size (fun k_ => some k_ ≠ (.slice Ao37 t461.length co37 : Value).ownBlock) (.slice Ao29 t441.length co29) t441) := ⟨by (with_reducible repeat (first | apply Kd.R_alloc | apply Kd.R_drewN | apply Kd.R_drew)); exact Kd.R_mono (Kd.R_far (p := ⟨gb464, 1, none⟩) (Kd.R_far (p := ⟨gb464, 0, none⟩) (Kd.R_types HO443.out BK464.out (by decide)) (fun _ hk => hk.2) (.int .i64 t460)) (fun _ hk => hk.2) (.slice Ao37 t461.length co37)) (fun _ hk => hk.1.2)⟩
     have n1_ : Aside0 (Kd.R k75 75 ((w33.setCell ⟨gb464, 0, none⟩ (.int .i64 t460)).setCell ⟨gb464, 1, none⟩ (.slice Ao37 t461.length co37)) w.heap.size (fun k_ => some k_ ≠ (.slice Ao29 t441.length co29 : Value).ownBlock) (.slice Ao37 t461.length co37) t461) := ⟨by (with_reducible repeat (first | apply Kd.R_alloc | apply Kd.R_drewN | apply Kd.R_drew)); exact Kd.R_mono (Kd.R_far (p := ⟨gb464, 1, none⟩) (Kd.R_far (p := ⟨gb464, 0, none⟩) (Kd.R_types HO463.out BK464.out (by decide)) (fun _ hk => hk.2) (.int .i64 t460)) (fun _ hk => hk.2) (.slice Ao37 t461.length co37)) (fun _ hk => hk.1.2)⟩
     have n2_ : Aside0 (((w33.setCell ⟨gb464, 0, none⟩ (.int .i64 t460)).setCell ⟨gb464, 1, none⟩ (.slice Ao37 t461.length co37)).heap[gb437]? = some (.cells #[.int .i64 a0_0, .slice A0_1 l0_1.length c0_1] 47 (0, 0))) := ⟨by (with_reducible repeat (first | refine blk_drewN ?_ _ | refine blk_drew ?_ | refine blk_alloc ?_ _)); refine blk_far ?_ NB437_464.out _; (with_reducible repeat (first | refine blk_drewN ?_ _ | refine blk_drew ?_ | refine blk_alloc ?_ _)); refine blk_far ?_ NB437_464.out _; (with_reducible repeat (first | refine blk_drewN ?_ _ | refine blk_drew ?_ | refine blk_alloc ?_ _)); exact BK437.out⟩
     have n3_ : Aside0 (((w33.setCell ⟨gb464, 0, none⟩ (.int .i64 t460)).setCell ⟨gb464, 1, none⟩ (.slice Ao37 t461.length co37)).heap[gb438]? = some (.cells #[.int .i64 a1_0, .int .i64 a1_1, .int .i64 a1_2, .int .i64 a1_3, .int .i64 a1_4, .int .i64 a1_5, .int .i64 a1_6, .int .i64 a1_7, .int .i64 a1_8, .int .i64 a1_9, .int .i64 a1_10, .int .i64 a1_11, .int .i64 a1_12, .int .i64 a1_13] 27 (0, 0))) := ⟨by (with_reducible repeat (first | refine blk_drewN ?_ _ | refine blk_drew ?_ | refine blk_alloc ?_ _)); refine blk_far ?_ NB438_464.out _; (with_reducible repeat (first | refine blk_drewN ?_ _ | refine blk_drew ?_ | refine blk_alloc ?_ _)); refine blk_far ?_ NB438_464.out _; (with_reducible repeat (first | refine blk_drewN ?_ _ | refine blk_drew ?_ | refine blk_alloc ?_ _)); exact BK438.out⟩
     have n4_ : Aside0 (((w33.setCell ⟨gb464, 0, none⟩ (.int .i64 t460)).setCell ⟨gb464, 1, none⟩ (.slice Ao37 t461.length co37)).heap[gb464]? = some (.cells #[.int .i64 t460, .slice Ao37 t461.length co37] 40 (0, 0))) := ⟨by (with_reducible repeat (first | refine blk_drewN ?_ _ | refine blk_drew ?_ | refine blk_alloc ?_ _)); refine blk_put (cs := #[.int .i64 t460, .slice none 0 0]) ?_ 1 _ rfl; (with_reducible repeat (first | refine blk_drewN ?_ _ | refine blk_drew ?_ | refine blk_alloc ?_ _)); refine blk_put (cs := #[.int .i64 0, .slice none 0 0]) ?_ 0 _ rfl; (with_reducible repeat (first | refine blk_drewN ?_ _ | refine blk_drew ?_ | refine blk_alloc ?_ _)); exact BK464.out⟩
     have n5_ : Aside0 (Below w.heap.size w ((w33.setCell ⟨gb464, 0, none⟩ (.int .i64 t460)).setCell ⟨gb464, 1, none⟩ (.slice Ao37 t461.length co37))) := ⟨by repeat (first | (with_reducible first | exact HB.out | apply below_alloc | apply pw_below_drewN | apply below_drew1 | refine below_set ?_ GE437.out | refine below_set ?_ GE438.out | refine below_set ?_ GE464.out) | exact HB.out)⟩
     (try clear HO443)
     (try clear HO463)
     (try clear BK437)
     (try clear BK438)
     (try clear BK464)
     (try clear HB)
     generalize ((w33.setCell ⟨gb464, 0, none⟩ (.int .i64 t460)).setCell ⟨gb464, 1, none⟩ (.slice Ao37 t461.length co37)) = w38 at n0_ n1_ n2_ n3_ n4_ n5_ ⊢
     have HO443 := n0_
     have HO463 := n1_
     have BK437 := n2_
     have BK438 := n3_
     have BK464 := n4_
     have HB := n5_
     clear n0_ n1_ n2_ n3_ n4_ n5_
     have n0_ := Gv.a0 (Kd.R_drew HO443.out)
     have n1_ := Gv.a0 (Kd.R_drew HO463.out)
     have n2_ := Gv.a0 (blk_drew BK437.out)
     have n3_ := Gv.a0 (blk_drew BK438.out)
     have n4_ := Gv.a0 (blk_drew BK464.out)
     have n5_ := Gv.a0 (below_drew1 HB.out)
     clear HO443
     clear HO463
     clear BK437
     clear BK438
     clear BK464
     clear HB
     have HO443 := n0_
     have HO463 := n1_
     have BK437 := n2_
     have BK438 := n3_
     have BK464 := n4_
     have HB := n5_
     clear n0_ n1_ n2_ n3_ n4_ n5_
     refine start_ (n := 9) (S := fun w' => w'.cell? ⟨gb464, 0, none⟩ = some (.int .i64 t460) ∧ w'.cell? ⟨gb464, 1, none⟩ = some (.slice Ao37 t461.length co37) ∧ w'.cell? ⟨gb438, 0, none⟩ = some (.int .i64 a1_0) ∧ w'.cell? ⟨gb438, 1, none⟩ = some (.int .i64 a1_1) ∧ w'.cell? ⟨gb438, 2, none⟩ = some (.int .i64 a1_2) ∧ w'.cell? ⟨gb438, 3, none⟩ = some (.int .i64 a1_3) ∧ w'.cell? ⟨gb438, 4, none⟩ = some (.int .i64 a1_4) ∧ w'.cell? ⟨gb438, 5, none⟩ = some (.int .i64 a1_5) ∧ w'.cell? ⟨gb438, 6, none⟩ = some (.int .i64 a1_6) ∧ w'.cell? ⟨gb438, 7, none⟩ = some (.int .i64 a1_7) ∧ w'.cell? ⟨gb438, 8, none⟩ = some (.int .i64 a1_8) ∧ w'.cell? ⟨gb438, 9, none⟩ = some (.int .i64 a1_9) ∧ w'.cell? ⟨gb438, 10, none⟩ = some (.int .i64 a1_10) ∧ w'.cell? ⟨gb438, 11, none⟩ = some (.int .i64 a1_11) ∧ w'.cell? ⟨gb438, 12, none⟩ = some (.int .i64 a1_12) ∧ w'.cell? ⟨gb438, 13, none⟩ = some (.int .i64 a1_13)) (ds := []) #[false, false, false, false, false, false, false, false, false] (by kernel_rfl) rfl rfl ⟨(blk_cell BK464.out 0).trans rfl, (blk_cell BK464.out 1).trans rfl, (blk_cell BK438.out 0).trans rfl, (blk_cell BK438.out 1).trans rfl, (blk_cell BK438.out 2).trans rfl, (blk_cell BK438.out 3).trans rfl, (blk_cell BK438.out 4).trans rfl, (blk_cell BK438.out 5).trans rfl, (blk_cell BK438.out 6).trans rfl, (blk_cell BK438.out 7).trans rfl, (blk_cell BK438.out 8).trans rfl, (blk_cell BK438.out 9).trans rfl, (blk_cell BK438.out 10).trans rfl, (blk_cell BK438.out 11).trans rfl, (blk_cell BK438.out 12).trans rfl, (blk_cell BK438.out 13).trans rfl⟩ (fun hHeld => ?_); refine with_tabW laws_FnExactTableFind.tab7 laws_FnExactTableFind.bits7 (fun HT_ HW_ => ?_)
     generalize w38.drew = w39 at HO443 HO463 BK437 BK438 BK464 HB hHeld ⊢
     refine take_ (i := 0) (N := some 27) (v := ?_) (a' := ?_) #[true, false, false, false, false, false, false, false, false] rfl rfl (take_ofW HT_.out HW_.out (by kernel_rfl)) (fun _ _ _ h => h) (Or.inl ⟨by rfl, ?_⟩) hHeld ?_ ?_
     rotate_left
     ·rintro w' ⟨s0, s1, s2, s3, s4, s5, s6, s7, s8, s9, s10, s11, s12, s13, s14, s15⟩
      go_simp
      with_reducible rfl
     rotate_left
     ·simp only [Act.put, List.setIfInBounds_toArray, List.set_cons_zero, List.set_cons_succ, i64_w, i32_w]
      rfl
     refine take_ (i := 1) (N := some 28) (v := ?_) (a' := ?_) #[true, true, false, false, false, false, false, false, false] rfl rfl (take_ofW HT_.out HW_.out (by kernel_rfl)) (fun _ _ _ h => h) (Or.inl ⟨by rfl, ?_⟩) hHeld ?_ ?_
     rotate_left
     ·rintro w' ⟨s0, s1, s2, s3, s4, s5, s6, s7, s8, s9, s10, s11, s12, s13, s14, s15⟩
      go_simp
      with_reducible rfl
     rotate_left
     ·simp only [Act.put, List.setIfInBounds_toArray, List.set_cons_zero, List.set_cons_succ, i64_w, i32_w]
      rfl
     refine one_ (i := 2) (N := some 29) #[true, true, true, false, false, false, false, false, false] rfl rfl (one_of HT_.out (by kernel_rfl)) (by decide) (fun K hK => ?_)
     refine goes_ Try.func14 (by kernel_rfl) rfl #[.agg #[.int .i64 a1_0, .int .i64 a1_1, .int .i64 a1_2, .int .i64 a1_3, .int .i64 a1_4, .int .i64 a1_5, .int .i64 a1_6, .int .i64 a1_7, .int .i64 a1_8, .int .i64 a1_9, .int .i64 a1_10, .int .i64 a1_11, .int .i64 a1_12, .int .i64 a1_13]] (by rfl) rfl rfl Gv.lm ?_
     with_reducible refine (laws_toFlowKey.calls a1_0 a1_1 a1_2 a1_3 a1_4 a1_5 a1_6 a1_7 a1_8 a1_9 a1_10 a1_11 a1_12 a1_13 t465 t466 t467 t468 t469 t470 t471 t472 t473 t474 t475 t476 t477 t478 _ A14.out).mono ?_
     rintro e w40 ⟨rfl, hb⟩
     refine ⟨_, rfl, ?_⟩
     have n0_ := Gv.a0 (Kd.R_below (Gv.kr HO443.out) hb)
     have n1_ := Gv.a0 (Kd.R_below (Gv.kr HO463.out) hb)
     have n2_ := Gv.a0 (Gv.bb BK437.out hb)
     have n3_ := Gv.a0 (Gv.bb BK438.out hb)
     have n4_ := Gv.a0 (Gv.bb BK464.out hb)
     have n5_ := Gv.a0 (below_step Gv.bw hb)
     clear HO443
     clear HO463
     clear BK437
     clear BK438
     clear BK464
     clear HB
     have HO443 := n0_
     have HO463 := n1_
     have BK437 := n2_
     have BK438 := n3_
     have BK464 := n4_
     have HB := n5_
     clear n0_ n1_ n2_ n3_ n4_ n5_
     (try clear hb)
     (try clear hb2)
     (try clear hk)
     (try clear hi)
     refine hK.out _ _ ⟨(blk_cell BK464.out 0).trans rfl, (blk_cell BK464.out 1).trans rfl, (blk_cell BK438.out 0).trans rfl, (blk_cell BK438.out 1).trans rfl, (blk_cell BK438.out 2).trans rfl, (blk_cell BK438.out 3).trans rfl, (blk_cell BK438.out 4).trans rfl, (blk_cell BK438.out 5).trans rfl, (blk_cell BK438.out 6).trans rfl, (blk_cell BK438.out 7).trans rfl, (blk_cell BK438.out 8).trans rfl, (blk_cell BK438.out 9).trans rfl, (blk_cell BK438.out 10).trans rfl, (blk_cell BK438.out 11).trans rfl, (blk_cell BK438.out 12).trans rfl, (blk_cell BK438.out 13).trans rfl⟩ (fun hHeld => ?_)
     clear hK K
     refine norm_ (a' := ?_) ?_ ?_
     rotate_left
     ·show Act.put _ (some 29) _ = _
      simp only [Act.put, List.setIfInBounds_toArray, List.set_cons_zero, List.set_cons_succ, i64_w, i32_w]
      rfl
     refine one_ (i := 3) (N := some 30) #[true, true, true, true, false, false, false, false, false] rfl rfl (one_of HT_.out (by kernel_rfl)) (by decide) (fun K hK => ?_)
     refine goes_ Try.func30 (by kernel_rfl) rfl #[.agg #[.int .i64 t460, .slice Ao37 t461.length co37], .agg #[.int .i64 t465, .int .i64 t466, .int .i64 t467, .int .i64 t468, .int .i64 t469, .int .i64 t470, .int .i64 t471, .int .i64 t472, .int .i64 t473, .int .i64 t474, .int .i64 t475, .int .i64 t476, .int .i64 t477, .int .i64 t478]] (by rfl) rfl rfl Gv.lm ?_
     with_reducible refine (impl_TableFind.calls k t460 _ _ t461 t465 t466 t467 t468 t469 t470 t471 t472 t473 t474 t475 t476 t477 t478 t479 t480 _ ?side1 ?side2 A15.out).mono ?_
     (case side1 => repeat (first | exact (Kd.R_reads' HO463.out).2.2 | (with_reducible refine Kd.C_alloc ?_ _) | (with_reducible refine Kd.C_drewN ?_ _) | (with_reducible refine Kd.C_drew ?_)))
     (case side2 => exact (Kd.R_reads' HO463.out).2.1)
     rintro e w41 ⟨rfl, hb⟩
     refine ⟨_, rfl, ?_⟩
     have n0_ := Gv.a0 (Kd.R_below (Gv.kr HO443.out) hb)
     have n1_ := Gv.a0 (Kd.R_below (Gv.kr HO463.out) hb)
     have n2_ := Gv.a0 (Gv.bb BK437.out hb)
     have n3_ := Gv.a0 (Gv.bb BK438.out hb)
     have n4_ := Gv.a0 (Gv.bb BK464.out hb)
     have n5_ := Gv.a0 (below_step Gv.bw hb)
     clear HO443
     clear HO463
     clear BK437
     clear BK438
     clear BK464
     clear HB
     have HO443 := n0_
     have HO463 := n1_
     have BK437 := n2_
     have BK438 := n3_
     have BK464 := n4_
     have HB := n5_
     clear n0_ n1_ n2_ n3_ n4_ n5_
     (try clear hb)
     (try clear hb2)
     (try clear hk)
     (try clear hi)
     refine hK.out _ _ ⟨(blk_cell BK464.out 0).trans rfl, (blk_cell BK464.out 1).trans rfl, (blk_cell BK438.out 0).trans rfl, (blk_cell BK438.out 1).trans rfl, (blk_cell BK438.out 2).trans rfl, (blk_cell BK438.out 3).trans rfl, (blk_cell BK438.out 4).trans rfl, (blk_cell BK438.out 5).trans rfl, (blk_cell BK438.out 6).trans rfl, (blk_cell BK438.out 7).trans rfl, (blk_cell BK438.out 8).trans rfl, (blk_cell BK438.out 9).trans rfl, (blk_cell BK438.out 10).trans rfl, (blk_cell BK438.out 11).trans rfl, (blk_cell BK438.out 12).trans rfl, (blk_cell BK438.out 13).trans rfl⟩ (fun hHeld => ?_)
     clear hK K
     refine norm_ (a' := ?_) ?_ ?_
     rotate_left
     ·show Act.put _ (some 30) _ = _
      simp only [Act.put, List.setIfInBounds_toArray, List.set_cons_zero, List.set_cons_succ, i64_w, i32_w]
      rfl
     refine pure_ (i := 4) (N := some 26) (v := ?_) (a' := ?_) #[true, true, true, true, true, false, false, false, false] rfl rfl (any_of HT_.out (by kernel_rfl)) (fun _ _ _ h => h) (Or.inl ⟨by rfl, ?_⟩) ?_ ?_
     rotate_left
     ·intro w'
      go_simp
      with_reducible rfl
     rotate_left
     ·simp only [Act.put, List.setIfInBounds_toArray, List.set_cons_zero, List.set_cons_succ, i64_w, i32_w]
      rfl
     refine pure_ (i := 5) (N := some 31) (v := ?_) (a' := ?_) #[true, true, true, true, true, true, false, false, false] rfl rfl (any_of HT_.out (by kernel_rfl)) (fun _ _ _ h => h) (Or.inl ⟨by rfl, ?_⟩) ?_ ?_
     rotate_left
     ·intro w'
      go_simp
      with_reducible rfl
     rotate_left
     ·simp only [Act.put, List.setIfInBounds_toArray, List.set_cons_zero, List.set_cons_succ, i64_w, i32_w]
      rfl
     refine pure_ (i := 6) (N := some 32) (v := ?_) (a' := ?_) #[true, true, true, true, true, true, true, false, false] rfl rfl (any_of HT_.out (by kernel_rfl)) (fun _ _ _ h => h) (Or.inl ⟨by rfl, ?_⟩) ?_ ?_
     rotate_left
     ·intro w'
      go_simp
      with_reducible rfl
     rotate_left
     ·simp only [Act.put, List.setIfInBounds_toArray, List.set_cons_zero, List.set_cons_succ, i64_w, i32_w]
      rfl
     refine pure_ (i := 7) (N := some 9) (v := ?_) (a' := ?_) #[true, true, true, true, true, true, true, true, false] rfl rfl (any_of HT_.out (by kernel_rfl)) (fun _ _ _ h => h) (Or.inl ⟨by rfl, ?_⟩) ?_ ?_
     rotate_left
     ·intro w'
      go_simp
      with_reducible rfl
     rotate_left
     ·simp only [Act.put, List.setIfInBounds_toArray, List.set_cons_zero, List.set_cons_succ, i64_w, i32_w]
      rfl
     refine pure_ (i := 8) (N := some 10) (v := ?_) (a' := ?_) #[true, true, true, true, true, true, true, true, true] rfl rfl (any_of HT_.out (by kernel_rfl)) (fun _ _ _ h => h) (Or.inl ⟨by rfl, ?_⟩) ?_ ?_
     rotate_left
     ·intro w'
      go_simp
      with_reducible rfl
     rotate_left
     ·simp only [Act.put, List.setIfInBounds_toArray, List.set_cons_zero, List.set_cons_succ, i64_w, i32_w]
      rfl
     refine done_ (done_of HT_.out (by kernel_rfl)) ?_
     try go_wp2
     have n0_ := Gv.a0 (Kd.R_drew HO443.out)
     have n1_ := Gv.a0 (Kd.R_drew HO463.out)
     have n2_ := Gv.a0 (blk_drew BK437.out)
     have n3_ := Gv.a0 (blk_drew BK438.out)
     have n4_ := Gv.a0 (blk_drew BK464.out)
     have n5_ := Gv.a0 (below_drew1 HB.out)
     clear HO443
     clear HO463
     clear BK437
     clear BK438
     clear BK464
     clear HB
     have HO443 := n0_
     have HO463 := n1_
     have BK437 := n2_
     have BK438 := n3_
     have BK464 := n4_
     have HB := n5_
     clear n0_ n1_ n2_ n3_ n4_ n5_
     refine start_ (n := 5) (S := fun w' => w'.cell? ⟨gb464, 0, none⟩ = some (.int .i64 t460) ∧ w'.cell? ⟨gb464, 1, none⟩ = some (.slice Ao37 t461.length co37) ∧ w'.cell? ⟨gb437, 0, none⟩ = some (.int .i64 a0_0) ∧ w'.cell? ⟨gb437, 1, none⟩ = some (.slice A0_1 l0_1.length c0_1)) (ds := []) #[false, false, false, false, false] (by kernel_rfl) rfl rfl ⟨(blk_cell BK464.out 0).trans rfl, (blk_cell BK464.out 1).trans rfl, (blk_cell BK437.out 0).trans rfl, (blk_cell BK437.out 1).trans rfl⟩ (fun hHeld => ?_)
     generalize w41.drew = w42 at HO443 HO463 BK437 BK438 BK464 HB hHeld ⊢
     refine take_ (i := 0) (N := some 41) (v := ?_) (a' := ?_) #[true, false, false, false, false] rfl rfl (by kernel_rfl) (fun _ _ _ h => h) (Or.inl ⟨by rfl, ?_⟩) hHeld ?_ ?_
     rotate_left
     ·rintro w' ⟨s0, s1, s2, s3⟩
      go_simp
      with_reducible rfl
     rotate_left
     ·simp only [Act.put, List.setIfInBounds_toArray, List.set_cons_zero, List.set_cons_succ, i64_w, i32_w]
      rfl
     refine take_ (i := 1) (N := some 42) (v := ?_) (a' := ?_) #[true, true, false, false, false] rfl rfl (by kernel_rfl) (fun _ _ _ h => h) (Or.inl ⟨by rfl, ?_⟩) hHeld ?_ ?_
     rotate_left
     ·rintro w' ⟨s0, s1, s2, s3⟩
      go_simp
      with_reducible rfl
     rotate_left
     ·simp only [Act.put, List.setIfInBounds_toArray, List.set_cons_zero, List.set_cons_succ, i64_w, i32_w]
      rfl
     refine one_ (i := 2) (N := some 43) #[true, true, true, false, false] rfl rfl (by kernel_rfl) (by decide) (fun K hK => ?_)
     refine goes_ Try.func25 (by kernel_rfl) rfl #[.agg #[.int .i64 a0_0, .slice A0_1 l0_1.length c0_1]] (by rfl) rfl rfl Gv.lm ?_
     with_reducible refine (laws_toTable.calls k a0_0 _ _ l0_1 t481 t482 _ ?side1 ?side2 A18.out).mono ?_
     (case side1 => repeat (first | exact (Kd.C_below HR0_1.out HB.out) | (with_reducible refine Kd.C_alloc ?_ _) | (with_reducible refine Kd.C_drewN ?_ _) | (with_reducible refine Kd.C_drew ?_)))
     (case side2 => exact HC0_1.out)
     rintro e w43 ⟨v483, rfl, ho0, hb⟩
     refine ⟨_, rfl, ?_⟩
     have n0_ := Gv.a0 (Kd.R_elder' (Gv.kr HO443.out) (Kd.R_base ho0) hb)
     have n1_ := Gv.a0 (Kd.R_elder' (Gv.kr HO463.out) (Kd.R_base ho0) hb)
     have n2_ := Gv.a0 (Kd.R_lower (Kd.R_new' (Kd.R_new' ho0 (Kd.R_lt (Gv.kr HO443.out))) (Kd.R_lt (Gv.kr HO463.out))) (below_size Gv.bw))
     have n3_ := Gv.a0 (Gv.bb BK437.out hb)
     have n4_ := Gv.a0 (Gv.bb BK438.out hb)
     have n5_ := Gv.a0 (Gv.bb BK464.out hb)
     have n6_ := Gv.a0 (below_step Gv.bw hb)
     clear HO443
     clear HO463
     clear BK437
     clear BK438
     clear BK464
     clear HB
     have HO443 := n0_
     have HO463 := n1_
     have HO484 := n2_
     have BK437 := n3_
     have BK438 := n4_
     have BK464 := n5_
     have HB := n6_
     clear n0_ n1_ n2_ n3_ n4_ n5_ n6_
     (try clear hb)
     (try clear hb2)
     (try clear hk)
     (try clear hi)
     (try clear ho0)
     obtain ⟨Ao44, co44, eo44⟩ := Kd.R_slice HO484.out
     (first | subst eo44 | (injection eo44 with f1_ f2_ f3_; have f4_ := f1_.symm; have f5_ := f3_.symm; clear f1_ f2_ f3_; subst f4_; subst f5_))
     refine hK.out _ _ ⟨(blk_cell BK464.out 0).trans rfl, (blk_cell BK464.out 1).trans rfl, (blk_cell BK437.out 0).trans rfl, (blk_cell BK437.out 1).trans rfl⟩ (fun hHeld => ?_)
     clear hK K
     refine norm_ (a' := ?_) ?_ ?_
     rotate_left
     ·show Act.put _ (some 43) _ = _
      simp only [Act.put, List.setIfInBounds_toArray, List.set_cons_zero, List.set_cons_succ, i64_w, i32_w]
      rfl
     refine one_ (i := 3) (N := some 44) #[true, true, true, true, false] rfl rfl (by kernel_rfl) (by decide) (fun K hK => ?_)
     refine goes_ Try.func20 (by kernel_rfl) rfl #[.agg #[.int .i64 t460, .slice Ao37 t461.length co37], .agg #[.int .i64 t481, .slice Ao44 t482.length co44]] (by rfl) rfl rfl Gv.lm ?_
     with_reducible refine (laws_eqTable.calls k t460 _ _ t461 t481 _ _ t482 true _ ?side1 ?side2 ?side3 ?side4 A19.out).mono ?_
     (case side1 => repeat (first | exact (Kd.R_reads' HO463.out).2.2 | (with_reducible refine Kd.C_alloc ?_ _) | (with_reducible refine Kd.C_drewN ?_ _) | (with_reducible refine Kd.C_drew ?_)))
     (case side2 => exact (Kd.R_reads' HO463.out).2.1)
     (case side3 => repeat (first | exact (Kd.R_reads' HO484.out).2.2 | (with_reducible refine Kd.C_alloc ?_ _) | (with_reducible refine Kd.C_drewN ?_ _) | (with_reducible refine Kd.C_drew ?_)))
     (case side4 => exact (Kd.R_reads' HO484.out).2.1)
     rintro e w45 ⟨rfl, hb⟩
     refine ⟨_, rfl, ?_⟩
     have n0_ := Gv.a0 (Kd.R_below (Gv.kr HO443.out) hb)
     have n1_ := Gv.a0 (Kd.R_below (Gv.kr HO463.out) hb)
     have n2_ := Gv.a0 (Kd.R_below (Gv.kr HO484.out) hb)
     have n3_ := Gv.a0 (Gv.bb BK437.out hb)
     have n4_ := Gv.a0 (Gv.bb BK438.out hb)
     have n5_ := Gv.a0 (Gv.bb BK464.out hb)
     have n6_ := Gv.a0 (below_step Gv.bw hb)
     clear HO443
     clear HO463
     clear HO484
     clear BK437
     clear BK438
     clear BK464
     clear HB
     have HO443 := n0_
     have HO463 := n1_
     have HO484 := n2_
     have BK437 := n3_
     have BK438 := n4_
     have BK464 := n5_
     have HB := n6_
     clear n0_ n1_ n2_ n3_ n4_ n5_ n6_
     (try clear hb)
     (try clear hb2)
     (try clear hk)
     (try clear hi)
     refine hK.out _ _ ⟨(blk_cell BK464.out 0).trans rfl, (blk_cell BK464.out 1).trans rfl, (blk_cell BK437.out 0).trans rfl, (blk_cell BK437.out 1).trans rfl⟩ (fun hHeld => ?_)
     clear hK K
     refine norm_ (a' := ?_) ?_ ?_
     rotate_left
     ·show Act.put _ (some 44) _ = _
      simp only [Act.put, List.setIfInBounds_toArray, List.set_cons_zero, List.set_cons_succ, i64_w, i32_w]
      rfl
     refine pure_ (i := 4) (N := some 45) (v := ?_) (a' := ?_) #[true, true, true, true, true] rfl rfl (by kernel_rfl) (fun _ _ _ h => h) (Or.inl ⟨by rfl, ?_⟩) ?_ ?_
     rotate_left
     ·intro w'
      go_simp
      with_reducible rfl
     rotate_left
     ·simp only [Act.put, List.setIfInBounds_toArray, List.set_cons_zero, List.set_cons_succ, i64_w, i32_w]
      rfl
     refine done_ (by kernel_rfl) ?_
     try go_wp2
     go_ret
     exact ⟨by first | rfl | (simp [errW_none, errW_some] <;> rfl) | (simp [*, errW_none, errW_some] <;> rfl), by repeat (first | (with_reducible first | exact HB.out | apply below_alloc | apply pw_below_drewN | apply below_drew1 | refine below_set ?_ GE437.out | refine below_set ?_ GE438.out | refine below_set ?_ GE464.out) | exact HB.out)⟩
    ·replace c20 := Bool.eq_false_iff.mpr c20
     subst c20
     have H1 : (none) = some r := by rw [if_neg (show ¬ (false = true) by decide)] at H; exact H
     clear H
     have H := H1
     clear H1
     exact absurd H (by simp)
  ·rw [if_neg c16] at H
   exact absurd H (by simp)

end Go.Proofs.Ytfnpodebjejhpaa.PTf
