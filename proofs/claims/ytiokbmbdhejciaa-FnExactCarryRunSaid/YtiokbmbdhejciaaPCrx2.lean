/- Plain Lean functions of a law's Go functions, their contracts, by a program of this session (wip/pr.py over the kit's print). -/
import Derived.Test.YtiokbmbdhejciaaPCrx0
import Derived.Test.YtiokbmbdhejciaaPCrx1
namespace Go.Proofs.Ytiokbmbdhejciaa.PCr
open Go.RowKit Go.Proofs.YtiokbmbdhejciaaW.PrintWords Go.Proofs.YtiokbmbdhejciaaW.PrintLast Go.Proofs.YtiokbmbdhejciaaW.PrintMore
attribute [local go_sem] max2_int min2_int max_two min_two max_three min_three max_four min_four   -- for this text's walks alone
set_option linter.unusedVariables false
set_option linter.unusedSimpArgs false

/-! ### spec_CarryRun: function 31 -/
mutual
def spec_CarryRun.l0 : Nat → List (S80) → List (S26) → List (S26) → Int → Int → Int → Int → Option ((List (S26)) × Int × Int × Int × Int)
 | 0, _, _, _, _, _, _, _ => none
 | k + 1, x0, x6, x7, x8, x156000, x156001, x156002 => if x8 < (x0.length : Int) then (if 0 ≤ x8 then ((spec_CostOk.f ((rd_T80 x0 x8).f1.f0) ((rd_T80 x0 x8).f1.f1) ((rd_T80 x0 x8).f1.f2)).bind fun t164 => (if t164 = true then (if (rd_T80 x0 x8).f0 = true then (spec_CarryRun.j1 k x0 x6 x7 x8 ((x7.length : Int) == 0) x156000 x156001 x156002 ((rd_T80 x0 x8).f0) ((rd_T80 x0 x8).f1.f0) ((rd_T80 x0 x8).f1.f1) ((rd_T80 x0 x8).f1.f2)) else (spec_CarryRun.j1 k x0 x6 x7 x8 false x156000 x156001 x156002 ((rd_T80 x0 x8).f0) ((rd_T80 x0 x8).f1.f0) ((rd_T80 x0 x8).f1.f1) ((rd_T80 x0 x8).f1.f2))) else (spec_CarryRun.j1 k x0 x6 x7 x8 true x156000 x156001 x156002 ((rd_T80 x0 x8).f0) ((rd_T80 x0 x8).f1.f0) ((rd_T80 x0 x8).f1.f1) ((rd_T80 x0 x8).f1.f2)))) else (none)) else (some (x6, x156000, x156001, x156002, 0))
def spec_CarryRun.j1 : Nat → List (S80) → List (S26) → List (S26) → Int → Bool → Int → Int → Int → Bool → Int → Int → Int → Option ((List (S26)) × Int × Int × Int × Int)
 | 0, _, _, _, _, _, _, _, _, _, _, _, _ => none
 | k + 1, x0, x6, x7, x8, x43, x156000, x156001, x156002, x164000, x164001, x164002, x164003 => if x43 = true then (some (([] : List (S26)), 0, 0, 0, wrap64 (x8 + 1))) else (if x164000 = true then (if 0 < (x7.length : Int) then ((spec_Settle.f k x156000 x156001 x156002 ((rd_T26 x7 0).f0) ((rd_T26 x7 0).f1) ((rd_T26 x7 0).f2) x164001 x164002 x164003).bind fun bt166 => ((some (([] : List (S26)) : List (S26))).bind fun y171 => (if 1 ≤ (x7.length : Int) then ((some (x7.drop 1 : List (S26))).bind fun y174 => (if y171.length + y174.length < 5864062014805 then (spec_CarryRun.l0 k x0 x6 (y171 ++ y174) (wrap64 (x8 + 1)) bt166.1 bt166.2.1 bt166.2.2.1) else (none))) else (none)))) else (none)) else ((spec_Charge.f k x164001 x164002 x164003 x156000 x156001 x156002).bind fun bt181 => (if x6.length < 5864062014805 then (if x7.length < 5864062014805 then (spec_CarryRun.l0 k x0 (x6 ++ [(⟨bt181.1, bt181.2.1, bt181.2.2.1⟩ : S26)]) (x7 ++ [(⟨x164001, x164002, x164003⟩ : S26)]) (wrap64 (x8 + 1)) bt181.2.2.2.1 bt181.2.2.2.2.1 bt181.2.2.2.2.2) else (none)) else (none))))
end
def spec_CarryRun.f (k : Nat) (l0 : List (S80)) : Option ((List (S26)) × Int × Int × Int × Int) := if (l0.length : Int) > 1000 then (some (([] : List (S26)), 0, 0, 0, (-1))) else (spec_CarryRun.l0 k l0 (([] : List (S26))) (([] : List (S26))) 0 0 0 0)
theorem spec_CarryRun.mono_l : ∀ k, (∀ y0 y1 y2 y3 y4 y5 y6, LeO (spec_CarryRun.l0 k y0 y1 y2 y3 y4 y5 y6) (spec_CarryRun.l0 (k + 1) y0 y1 y2 y3 y4 y5 y6)) ∧ (∀ y0 y1 y2 y3 y4 y5 y6 y7 y8 y9 y10 y11, LeO (spec_CarryRun.j1 k y0 y1 y2 y3 y4 y5 y6 y7 y8 y9 y10 y11) (spec_CarryRun.j1 (k + 1) y0 y1 y2 y3 y4 y5 y6 y7 y8 y9 y10 y11))
 | 0 => ⟨fun _ _ _ _ _ _ _ r h => by simp [spec_CarryRun.l0] at h, fun _ _ _ _ _ _ _ _ _ _ _ _ r h => by simp [spec_CarryRun.j1] at h⟩
 | k + 1 => by
  obtain ⟨ih0, ih1⟩ := spec_CarryRun.mono_l k
  refine ⟨?_, ?_⟩
  ·intro y0 y1 y2 y3 y4 y5 y6
   unfold spec_CarryRun.l0
   repeat' first
   | (with_reducible exact ih0 _ _ _ _ _ _ _)
   | (with_reducible exact ih1 _ _ _ _ _ _ _ _ _ _ _ _)
   | (with_reducible exact spec_Charge.mono _ _ _ _ _ _ _)
   | (with_reducible exact spec_Settle.mono _ _ _ _ _ _ _ _ _ _)
   | (with_reducible exact LeO.refl _)
   | (with_reducible exact LeO.none _)
   | (with_reducible refine LeO.ite ?_ ?_)
   | (with_reducible refine LeO.bind ?_ (fun _ => ?_))
   | exact ih0 _ _ _ _ _ _ _
   | exact ih1 _ _ _ _ _ _ _ _ _ _ _ _
   | exact spec_Charge.mono _ _ _ _ _ _ _
   | exact spec_Settle.mono _ _ _ _ _ _ _ _ _ _
   | exact LeO.none _
   | refine LeO.ite ?_ ?_
   | refine LeO.bind ?_ (fun _ => ?_)
  ·intro y0 y1 y2 y3 y4 y5 y6 y7 y8 y9 y10 y11
   unfold spec_CarryRun.j1
   repeat' first
   | (with_reducible exact ih0 _ _ _ _ _ _ _)
   | (with_reducible exact ih1 _ _ _ _ _ _ _ _ _ _ _ _)
   | (with_reducible exact spec_Charge.mono _ _ _ _ _ _ _)
   | (with_reducible exact spec_Settle.mono _ _ _ _ _ _ _ _ _ _)
   | (with_reducible exact LeO.refl _)
   | (with_reducible exact LeO.none _)
   | (with_reducible refine LeO.ite ?_ ?_)
   | (with_reducible refine LeO.bind ?_ (fun _ => ?_))
   | exact ih0 _ _ _ _ _ _ _
   | exact ih1 _ _ _ _ _ _ _ _ _ _ _ _
   | exact spec_Charge.mono _ _ _ _ _ _ _
   | exact spec_Settle.mono _ _ _ _ _ _ _ _ _ _
   | exact LeO.none _
   | refine LeO.ite ?_ ?_
   | refine LeO.bind ?_ (fun _ => ?_)
theorem spec_CarryRun.mono : ∀ a0 k, LeO (spec_CarryRun.f k a0) (spec_CarryRun.f (k + 1) a0) := by
 intro a0 k
 obtain ⟨ih0, ih1⟩ := spec_CarryRun.mono_l k
 unfold spec_CarryRun.f
 repeat' first
   | (with_reducible exact ih0 _ _ _ _ _ _ _)
   | (with_reducible exact ih1 _ _ _ _ _ _ _ _ _ _ _ _)
   | (with_reducible exact spec_Charge.mono _ _ _ _ _ _ _)
   | (with_reducible exact spec_Settle.mono _ _ _ _ _ _ _ _ _ _)
   | (with_reducible exact LeO.refl _)
   | (with_reducible exact LeO.none _)
   | (with_reducible refine LeO.ite ?_ ?_)
   | (with_reducible refine LeO.bind ?_ (fun _ => ?_))
   | exact ih0 _ _ _ _ _ _ _
   | exact ih1 _ _ _ _ _ _ _ _ _ _ _ _
   | exact spec_Charge.mono _ _ _ _ _ _ _
   | exact spec_Settle.mono _ _ _ _ _ _ _ _ _ _
   | exact LeO.none _
   | refine LeO.ite ?_ ?_
   | refine LeO.bind ?_ (fun _ => ?_)
def spec_CarryRun.T13 : Bool × List (List Nat × List Nat) := (true, [([], []), ([], []), ([1], [1]), ([2], [2]), ([], []), ([4], [4]), ([0, 3, 5], [0, 3, 5]), ([6], [6]), ([7], [7]), ([7], [7]), ([], []), ([10, 8, 6, 0, 1, 2, 3, 4, 5, 6, 7, 8, 10], [8, 10]), ([9, 11, 0, 1, 2, 3, 4, 5, 6, 7, 8, 9, 10, 11], [9])])
def spec_CarryRun.B13 : List Nat := [0, 0, 2, 6, 0, 16, 63, 127, 255, 255, 0, 1535, 4095]
theorem spec_CarryRun.tab13 : rtab .any (opsOf Try.f31 13) = spec_CarryRun.T13 := by kernel_rfl
theorem spec_CarryRun.bits13 : waitsOk spec_CarryRun.T13.2 spec_CarryRun.B13 = true := by kernel_rfl
set_option maxHeartbeats 8000000 in
set_option maxRecDepth 100000 in
theorem spec_CarryRun.calls (k : Nat) (A0 : Option Addr) (c0 : Nat) (l0 : List (S80)) (r1 : List (S26)) (r2 : Int) (r3 : Int) (r4 : Int) (r5 : Int) (w : World) (hr0 : Kd.C k80 w A0 l0.length l0) (hc0 : l0.length ≤ c0) (h : spec_CarryRun.f k l0 = some (r1, r2, r3, r4, r5)) :
  Calls Try.prog 31 #[.slice A0 l0.length c0] w fun e w' => ∃ v0_ : Value, e = .returned (.tuple #[v0_, .agg #[.int .i64 r2, .int .i64 r3, .int .i64 r4], .int .i64 r5]) ∧ Kd.R k26 26 w' w.heap.size (fun _ => True) v0_ r1 ∧ Below w.heap.size w w' := by
 have hu26 := Try.underlying26
 have hu80 := Try.underlying80
 have HR0 := Gv.a0 hr0
 have HC0 := Gv.a0 hc0
 clear hr0 hc0
 have HB := Gv.a0 (Below.refl w.heap.size w)
 have H : (if (l0.length : Int) > 1000 then (some (([] : List (S26)), 0, 0, 0, (-1))) else (spec_CarryRun.l0 k l0 (([] : List (S26))) (([] : List (S26))) 0 0 0 0)) = some (r1, r2, r3, r4, r5) := h
 clear h
 by_cases c2 : (l0.length : Int) > 1000
 ·rw [if_pos c2] at H
  have c2b0 : decide (1000 < (l0.length : Int)) = true := decide_eq_true c2
  have c2b1 : decide (1000 < l0.length) = true := decide_eq_true (by omega)
  clear c2
  simp only [Option.some.injEq, Prod.mk.injEq] at H
  obtain ⟨rfl, rfl, rfl, rfl, rfl⟩ := H
  go_enter Try.func31, Try.ntmps31
  go_wp2_with (first | ((with_reducible refine gate_dst (N := 3) rfl ?_); (try (refine gate_guard (by rfl) ?_; dsimp only)); refine box_event ?hg (N := 3) ?hd (cs := #[.int .i64 0, .int .i64 0, .int .i64 0]) (t := 26) ?hr ?_; (case hd => rfl); (case hg => rfl); (case hr => first | (go_simp; done) | (go_simp; rfl)); intro gb154 hg w3 hbox hb; have n0_ := Gv.a0 (below_step Gv.bw hb); have n1_ := Gv.a0 (hbox); have n2_ := Gv.a0 ((Gv.ble hg Gv.bw : w.heap.size ≤ gb154)); have n3_ := Gv.a0 ((Gv.ble hg Gv.bw : w.heap.size ≤ gb154)); clear HB; have HB := n0_; have BK154 := n1_; have GW154 := n2_; have GE154 := n3_; clear n0_ n1_ n2_ n3_; clear hb hbox hg; have hcz4_0 : w3.cell? ⟨gb154, 0, none⟩ = some (.int .i64 0) := (blk_cell BK154.out 0).trans rfl; have hcz4_1 : w3.cell? ⟨gb154, 1, none⟩ = some (.int .i64 0) := (blk_cell BK154.out 1).trans rfl; have hcz4_2 : w3.cell? ⟨gb154, 2, none⟩ = some (.int .i64 0) := (blk_cell BK154.out 2).trans rfl; have hfz4_0 := blk_frozen BK154.out 0; have hfz4_1 := blk_frozen BK154.out 1; have hfz4_2 := blk_frozen BK154.out 2))
  refine bodyPost_ret (results_list (rs := [.tmp 2, .cell 3 26, .tmp 4]) rfl (by simp) (.tmp (.cell gb154 26 #[.int .i64 0, .int .i64 0, .int .i64 0] (0, 0) _ rfl (by (with_reducible repeat (first | refine blk_drewN ?_ _ | refine blk_drew ?_ | refine blk_alloc ?_ _)); refine blk_put (cs := #[.int .i64 0, .int .i64 0, .int .i64 0]) ?_ 2 _ rfl; (with_reducible repeat (first | refine blk_drewN ?_ _ | refine blk_drew ?_ | refine blk_alloc ?_ _)); refine blk_put (cs := #[.int .i64 0, .int .i64 0, .int .i64 0]) ?_ 1 _ rfl; (with_reducible repeat (first | refine blk_drewN ?_ _ | refine blk_drew ?_ | refine blk_alloc ?_ _)); refine blk_put (cs := #[.int .i64 0, .int .i64 0, .int .i64 0]) ?_ 0 _ rfl; (with_reducible repeat (first | refine blk_drewN ?_ _ | refine blk_drew ?_ | refine blk_alloc ?_ _)); exact BK154.out) Try.underlying26 rfl (by kernel_rfl) (.tmp .nil)))) rfl ?_
  exact ⟨_, Gv.rt, by first | exact Kd.R_nil _ _ _ _ _ | exact Kd.N_nil _ _ _ _ _ | exact Kd.V_nil _ _ _ _ _ | exact Kd.Q_nil _ _ _ _ _ | exact Kd.S_nil _ _ _ _ _, Gv.bw⟩
 ·rw [if_neg c2] at H
  have c2b0 : decide (1000 < (l0.length : Int)) = false := decide_eq_false c2
  have c2b1 : decide (1000 < l0.length) = false := decide_eq_false (by omega)
  clear c2
  obtain ⟨y156, hy156⟩ : ∃ y_ : List (S26), y_ = (([] : List (S26))) := ⟨_, rfl⟩
  replace H : (spec_CarryRun.l0 k l0 y156 (([] : List (S26))) 0 0 0 0) = some (r1, r2, r3, r4, r5) := by first | (rw [hy156]; with_reducible exact H) | (have H2_ := (Option.bind_some _ _).symm.trans H; rw [hy156]; with_reducible exact H2_) | (have H2_ := (Option.bind_some _ _).symm.trans H; with_reducible exact H2_) | with_reducible exact H | (rw [hy156]; exact H) | exact H
  have Ny156 := Gv.a0 hy156
  clear hy156
  obtain ⟨y159, hy159⟩ : ∃ y_ : List (S26), y_ = (([] : List (S26))) := ⟨_, rfl⟩
  replace H : (spec_CarryRun.l0 k l0 y156 y159 0 0 0 0) = some (r1, r2, r3, r4, r5) := by first | (rw [hy159]; with_reducible exact H) | (have H2_ := (Option.bind_some _ _).symm.trans H; rw [hy159]; with_reducible exact H2_) | (have H2_ := (Option.bind_some _ _).symm.trans H; with_reducible exact H2_) | with_reducible exact H | (rw [hy159]; exact H) | exact H
  have Ny159 := Gv.a0 hy159
  clear hy159
  have H' := Gv.a0 H
  clear H
  go_enter Try.func31, Try.ntmps31
  go_wp2_with (first | ((with_reducible refine gate_dst (N := 3) rfl ?_); (try (refine gate_guard (by rfl) ?_; dsimp only)); refine box_event ?hg (N := 3) ?hd (cs := #[.int .i64 0, .int .i64 0, .int .i64 0]) (t := 26) ?hr ?_; (case hd => rfl); (case hg => rfl); (case hr => first | (go_simp; done) | (go_simp; rfl)); intro gb154 hg w5 hbox hb; have n0_ := Gv.a0 (below_step Gv.bw hb); have n1_ := Gv.a0 (hbox); have n2_ := Gv.a0 ((Gv.ble hg Gv.bw : w.heap.size ≤ gb154)); have n3_ := Gv.a0 ((Gv.ble hg Gv.bw : w.heap.size ≤ gb154)); clear HB; have HB := n0_; have BK154 := n1_; have GW154 := n2_; have GE154 := n3_; clear n0_ n1_ n2_ n3_; clear hb hbox hg) | ((with_reducible refine gate_dst (N := 5) rfl ?_); (try (refine gate_guard (by rfl) ?_; dsimp only)); refine box_event ?hg (N := 5) ?hd (cs := #[.int .i64 0, .int .i64 0, .int .i64 0]) (t := 26) ?hr ?_; (case hd => rfl); (case hg => rfl); (case hr => first | (go_simp; done) | (go_simp; rfl)); intro gb155 hg w6 hbox hb; have n0_ := Gv.a0 (Gv.bb BK154.out hb); have n1_ := Gv.a0 (below_step Gv.bw hb); have n2_ := Gv.a0 (hbox); have n3_ := Gv.a0 ((Gv.ble hg Gv.bw : w.heap.size ≤ gb155)); have n4_ := Gv.a0 ((Gv.ble hg Gv.bw : w.heap.size ≤ gb155)); have n5_ := Gv.a0 ((Gv.nlt hg (Gv.kb BK154.out) : gb154 ≠ gb155)); have n6_ := Gv.a0 ((Gv.ngt hg (Gv.kb BK154.out) : gb155 ≠ gb154)); clear BK154; clear HB; have BK154 := n0_; have HB := n1_; have BK155 := n2_; have GW155 := n3_; have GE155 := n4_; have NB154_155 := n5_; have NB155_154 := n6_; clear n0_ n1_ n2_ n3_ n4_ n5_ n6_; clear hb hbox hg; have hnb7 := NB155_154.out; have hnc7 := NB154_155.out; have hcz8_0 : w6.cell? ⟨gb155, 0, none⟩ = some (.int .i64 0) := (blk_cell BK155.out 0).trans rfl; have hcz8_1 : w6.cell? ⟨gb155, 1, none⟩ = some (.int .i64 0) := (blk_cell BK155.out 1).trans rfl; have hcz8_2 : w6.cell? ⟨gb155, 2, none⟩ = some (.int .i64 0) := (blk_cell BK155.out 2).trans rfl; have hfz8_0 := blk_frozen BK155.out 0; have hfz8_1 := blk_frozen BK155.out 1; have hfz8_2 := blk_frozen BK155.out 2) | ((with_reducible refine gate_dst (N := 19) rfl ?_); (try (refine gate_guard (by rfl) ?_; dsimp only)); refine Kd.R_lit k26 _ 26 ?hg (N := 19) ?hd (xs := ([] : List (S26))) (inner := []) (ok := fun _ => True) (okp := fun _ => True) ?hr ?hp (fun _ hk => hk) trivial (Below.refl _ _) (Nat.le_refl _) (by simp) ?_; (case hd => rfl); (case hg => rfl); (case hr => first | (go_simp; done) | (go_simp; rfl)); (case hp => exact (Reps.none _ _)); intro v157 w9 ho10 hb hg_ hnew_; clear hg_ hnew_; (first | rw [← Ny156.out] at ho10 | (simp only [Int.reduceToNat] at ho10; rw [← Ny156.out] at ho10)); have n0_ := Gv.a0 (Kd.R_lower (Kd.R_newB (Kd.R_newB ho10 (g := gb154) (o := .cells #[.int .i64 0, .int .i64 0, .int .i64 0] 26 (0, 0)) Gv.bkf) (g := gb155) (o := .cells #[.int .i64 0, .int .i64 0, .int .i64 0] 26 (0, 0)) (by (with_reducible repeat (first | refine blk_drewN ?_ _ | refine blk_drew ?_ | refine blk_alloc ?_ _)); refine blk_put (cs := #[.int .i64 0, .int .i64 0, .int .i64 0]) ?_ 2 _ rfl; (with_reducible repeat (first | refine blk_drewN ?_ _ | refine blk_drew ?_ | refine blk_alloc ?_ _)); refine blk_put (cs := #[.int .i64 0, .int .i64 0, .int .i64 0]) ?_ 1 _ rfl; (with_reducible repeat (first | refine blk_drewN ?_ _ | refine blk_drew ?_ | refine blk_alloc ?_ _)); refine blk_put (cs := #[.int .i64 0, .int .i64 0, .int .i64 0]) ?_ 0 _ rfl; (with_reducible repeat (first | refine blk_drewN ?_ _ | refine blk_drew ?_ | refine blk_alloc ?_ _)); exact BK155.out)) (below_size Gv.bw)); have n1_ := Gv.a0 (blk_below (g := gb154) (o := .cells #[.int .i64 0, .int .i64 0, .int .i64 0] 26 (0, 0)) Gv.bkf hb); have n2_ := Gv.a0 (blk_below (g := gb155) (o := .cells #[.int .i64 0, .int .i64 0, .int .i64 0] 26 (0, 0)) (by (with_reducible repeat (first | refine blk_drewN ?_ _ | refine blk_drew ?_ | refine blk_alloc ?_ _)); refine blk_put (cs := #[.int .i64 0, .int .i64 0, .int .i64 0]) ?_ 2 _ rfl; (with_reducible repeat (first | refine blk_drewN ?_ _ | refine blk_drew ?_ | refine blk_alloc ?_ _)); refine blk_put (cs := #[.int .i64 0, .int .i64 0, .int .i64 0]) ?_ 1 _ rfl; (with_reducible repeat (first | refine blk_drewN ?_ _ | refine blk_drew ?_ | refine blk_alloc ?_ _)); refine blk_put (cs := #[.int .i64 0, .int .i64 0, .int .i64 0]) ?_ 0 _ rfl; (with_reducible repeat (first | refine blk_drewN ?_ _ | refine blk_drew ?_ | refine blk_alloc ?_ _)); exact BK155.out) hb); have n3_ := Gv.a0 (below_step Gv.bw hb); clear BK154; clear BK155; clear HB; have HO158 := n0_; have BK154 := n1_; have BK155 := n2_; have HB := n3_; clear n0_ n1_ n2_ n3_; clear hb ho10) | ((with_reducible refine gate_dst (N := 20) rfl ?_); (try (refine gate_guard (by rfl) ?_; dsimp only)); refine Kd.R_lit k26 _ 26 ?hg (N := 20) ?hd (xs := ([] : List (S26))) (inner := []) (ok := fun _ => True) (okp := fun _ => True) ?hr ?hp (fun _ hk => hk) trivial (Below.refl _ _) (Nat.le_refl _) (by simp) ?_; (case hd => rfl); (case hg => rfl); (case hr => first | (go_simp; done) | (go_simp; rfl)); (case hp => exact (Reps.none _ _)); intro v160 w11 ho12 hb hg_ hnew_; clear hg_ hnew_; (first | rw [← Ny159.out] at ho12 | (simp only [Int.reduceToNat] at ho12; rw [← Ny159.out] at ho12)); have n0_ := Gv.a0 (Kd.R_elder' (Gv.kr HO158.out) (Kd.R_base ho12) hb); have n1_ := Gv.a0 (Kd.R_lower (Kd.R_newB (Kd.R_newB (Kd.R_new' ho12 (Kd.R_lt (Gv.kr HO158.out))) (g := gb154) (o := .cells #[.int .i64 0, .int .i64 0, .int .i64 0] 26 (0, 0)) Gv.bk) (g := gb155) (o := .cells #[.int .i64 0, .int .i64 0, .int .i64 0] 26 (0, 0)) Gv.bk) (below_size Gv.bw)); have n2_ := Gv.a0 (Gv.bb BK154.out hb); have n3_ := Gv.a0 (Gv.bb BK155.out hb); have n4_ := Gv.a0 (below_step Gv.bw hb); clear HO158; clear BK154; clear BK155; clear HB; have HO158 := n0_; have HO161 := n1_; have BK154 := n2_; have BK155 := n3_; have HB := n4_; clear n0_ n1_ n2_ n3_ n4_; clear hb ho12))
  go_loopg [6, 7, 8] k (fun kq v6 v7 v8 w' => ∃ (x6_1 : List (S26)) (x7_1 : List (S26)) (x8_1 : Int) (x155000_1 : Int) (x155001_1 : Int) (x155002_1 : Int) (x156000_1 : Int) (x156001_1 : Int) (x156002_1 : Int), v8 = .int .i64 x8_1 ∧ Aside0 (spec_CarryRun.l0 kq l0 x6_1 x7_1 x8_1 x156000_1 x156001_1 x156002_1 = some (r1, r2, r3, r4, r5)) ∧ Aside0 (kq ≤ k) ∧ Aside0 (Kd.R k26 26 w' w.heap.size (fun k_ => some k_ ≠ (v7 : Value).ownBlock ∧ k_ ≠ gb154 ∧ k_ ≠ gb155) v6 x6_1) ∧ Aside0 (Kd.R k26 26 w' w.heap.size (fun k_ => some k_ ≠ (v6 : Value).ownBlock ∧ k_ ≠ gb154 ∧ k_ ≠ gb155) v7 x7_1) ∧ Aside0 (w'.heap[gb154]? = some (.cells #[.int .i64 x155000_1, .int .i64 x155001_1, .int .i64 x155002_1] 26 (0, 0))) ∧ Aside0 (w'.heap[gb155]? = some (.cells #[.int .i64 x156000_1, .int .i64 x156001_1, .int .i64 x156002_1] 26 (0, 0))) ∧ Aside0 (Below w.heap.size w w'))
  case atStart => exact ⟨(y156), (y159), (0), (0), (0), (0), (0), (0), (0), Gv.rq, H', ⟨Nat.le_refl _⟩, ⟨by (with_reducible repeat (first | apply Kd.R_alloc | apply Kd.R_drewN | apply Kd.R_drew)); exact Kd.R_mono HO158.out (fun _ hk => ⟨hk.2, ⟨hk.1.1.2, hk.1.2⟩⟩)⟩, ⟨by (with_reducible repeat (first | apply Kd.R_alloc | apply Kd.R_drewN | apply Kd.R_drew)); exact Kd.R_mono HO161.out (fun _ hk => ⟨hk.1.1.2, ⟨hk.1.2, hk.2⟩⟩)⟩, ⟨by (with_reducible repeat (first | refine blk_drewN ?_ _ | refine blk_drew ?_ | refine blk_alloc ?_ _)); exact BK154.out⟩, ⟨by (with_reducible repeat (first | refine blk_drewN ?_ _ | refine blk_drew ?_ | refine blk_alloc ?_ _)); exact BK155.out⟩, ⟨Gv.bw⟩⟩
  case round =>
   clear H'
   try clear c2
   try clear c2b0
   try clear c2b1
   try clear p2
   try clear c3
   try clear c7
   try clear hcz4_0 hcz4_1 hcz4_2
   try clear hcz8_0 hcz8_1 hcz8_2
   try clear hfz4_0 hfz4_1 hfz4_2
   try clear hfz8_0 hfz8_1 hfz8_2
   obtain ⟨x6_1, x7_1, x8_1, x155000_1, x155001_1, x155002_1, x156000_1, x156001_1, x156002_1, rfl, HA, HK1, HO_6, HO_7, BK154, BK155, HB⟩ := hrel
   cases gk with
   | zero => exact absurd HA.out (by simp [spec_CarryRun.l0])
   | succ k1 =>
    have H := HA.out
    clear HA
    simp only [spec_CarryRun.l0] at H
    by_cases c13 : x8_1 < (l0.length : Int)
    ·rw [if_pos c13] at H
     have c13b0 : decide (x8_1 < (l0.length : Int)) = true := decide_eq_true c13
     clear c13
     by_cases c14 : 0 ≤ x8_1
     ·rw [if_pos c14] at H
      have c14b0 : decide (0 ≤ x8_1) = true := decide_eq_true c14
      clear c14
      have HC15 := Gv.a0 H
      clear H
      have p162 : 0 ≤ (x8_1 : Int) := of_decide_eq_true (by first | (with_reducible assumption) | assumption)
      have q162 : x8_1 < (l0.length : Int) := of_decide_eq_true (by first | (with_reducible assumption) | assumption)
      obtain ⟨ad162, e162, hx162_0, hx162_1, hx162_2, hx162_3⟩ := at_T80 HR0.out x8_1 p162 q162
      cases e162
      replace hx162_0 := Gv.bx HB.out hx162_0
      replace hx162_1 := Gv.bx HB.out hx162_1
      replace hx162_2 := Gv.bx HB.out hx162_2
      replace hx162_3 := Gv.bx HB.out hx162_3
      replace p162 := eq_true p162
      replace q162 := eq_true q162
      go_upto_region 10 with (first | ((with_reducible refine gate_dst (N := 9) rfl ?_); (try (refine gate_guard (by rfl) ?_; dsimp only)); refine box_event ?hg (N := 9) ?hd (cs := #[.bool false, .int .i64 0, .int .i64 0, .int .i64 0]) (t := 80) ?hr ?_; (case hd => rfl); (case hg => rfl); (case hr => first | (go_simp; done) | (go_simp; rfl)); intro gb163 hg w16 hbox hb; have n0_ := Gv.a0 (Kd.R_below (Gv.kr HO_6.out) hb); have n1_ := Gv.a0 (Kd.R_below (Gv.kr HO_7.out) hb); have n2_ := Gv.a0 (Gv.bb BK154.out hb); have n3_ := Gv.a0 (Gv.bb BK155.out hb); have n4_ := Gv.a0 (below_step Gv.bw hb); have n5_ := Gv.a0 (hbox); have n6_ := Gv.a0 ((Gv.ble hg Gv.bw : w.heap.size ≤ gb163)); have n7_ := Gv.a0 ((Gv.ble hg Gv.bw : w.heap.size ≤ gb163)); have n8_ := Gv.a0 ((Gv.nlt hg (Gv.kb BK154.out) : gb154 ≠ gb163)); have n9_ := Gv.a0 ((Gv.ngt hg (Gv.kb BK154.out) : gb163 ≠ gb154)); have n10_ := Gv.a0 ((Gv.nlt hg (Gv.kb BK155.out) : gb155 ≠ gb163)); have n11_ := Gv.a0 ((Gv.ngt hg (Gv.kb BK155.out) : gb163 ≠ gb155)); clear HO_6; clear HO_7; clear BK154; clear BK155; clear HB; have HO_6 := n0_; have HO_7 := n1_; have BK154 := n2_; have BK155 := n3_; have HB := n4_; have BK163 := n5_; have GW163 := n6_; have GE163 := n7_; have NB154_163 := n8_; have NB163_154 := n9_; have NB155_163 := n10_; have NB163_155 := n11_; clear n0_ n1_ n2_ n3_ n4_ n5_ n6_ n7_ n8_ n9_ n10_ n11_; clear hb hbox hg; have hnb17 := NB163_154.out; have hnc17 := NB154_163.out; have hnb18 := NB163_155.out; have hnc18 := NB155_163.out; obtain ⟨hcz19_0, hcz19_1, hcz19_2, hcz19_3⟩ := Gv.c4 BK163.out; obtain ⟨hfz19_0, hfz19_1, hfz19_2, hfz19_3⟩ := Gv.f4 BK163.out))
      (try simp only [Act.put, List.setIfInBounds_toArray, List.set_cons_zero, List.set_cons_succ])
      go_cut [43] (fun v43 wc => ∃ (kq : Nat) (x43_14 : Bool), v43 = .bool x43_14 ∧ Aside0 (spec_CarryRun.j1 kq l0 x6_1 x7_1 x8_1 x43_14 x156000_1 x156001_1 x156002_1 ((rd_T80 l0 x8_1).f0) ((rd_T80 l0 x8_1).f1.f0) ((rd_T80 l0 x8_1).f1.f1) ((rd_T80 l0 x8_1).f1.f2) = some (r1, r2, r3, r4, r5)) ∧ Aside0 (kq ≤ k1) ∧ Aside0 (Kd.R k26 26 wc w.heap.size (fun k_ => some k_ ≠ (u7 : Value).ownBlock ∧ k_ ≠ gb154 ∧ k_ ≠ gb155) u6 x6_1) ∧ Aside0 (Kd.R k26 26 wc w.heap.size (fun k_ => some k_ ≠ (u6 : Value).ownBlock ∧ k_ ≠ gb154 ∧ k_ ≠ gb155) u7 x7_1) ∧ Aside0 (wc.heap[gb154]? = some (.cells #[.int .i64 x155000_1, .int .i64 x155001_1, .int .i64 x155002_1] 26 (0, 0))) ∧ Aside0 (wc.heap[gb155]? = some (.cells #[.int .i64 x156000_1, .int .i64 x156001_1, .int .i64 x156002_1] 26 (0, 0))) ∧ Aside0 (wc.heap[gb163]? = some (.cells #[.bool ((rd_T80 l0 x8_1).f0), .int .i64 ((rd_T80 l0 x8_1).f1.f0), .int .i64 ((rd_T80 l0 x8_1).f1.f1), .int .i64 ((rd_T80 l0 x8_1).f1.f2)] 80 (0, 0))) ∧ Aside0 (Below w.heap.size w wc))
      case first =>
       have H := HC15.out
       clear HC15
       replace H := Option.bind_eq_some_iff.mp H
       obtain ⟨t164, A200, H⟩ := H
       replace H : (if t164 = true then (if (rd_T80 l0 x8_1).f0 = true then (spec_CarryRun.j1 k1 l0 x6_1 x7_1 x8_1 ((x7_1.length : Int) == 0) x156000_1 x156001_1 x156002_1 ((rd_T80 l0 x8_1).f0) ((rd_T80 l0 x8_1).f1.f0) ((rd_T80 l0 x8_1).f1.f1) ((rd_T80 l0 x8_1).f1.f2)) else (spec_CarryRun.j1 k1 l0 x6_1 x7_1 x8_1 false x156000_1 x156001_1 x156002_1 ((rd_T80 l0 x8_1).f0) ((rd_T80 l0 x8_1).f1.f0) ((rd_T80 l0 x8_1).f1.f1) ((rd_T80 l0 x8_1).f1.f2))) else (spec_CarryRun.j1 k1 l0 x6_1 x7_1 x8_1 true x156000_1 x156001_1 x156002_1 ((rd_T80 l0 x8_1).f0) ((rd_T80 l0 x8_1).f1.f0) ((rd_T80 l0 x8_1).f1.f1) ((rd_T80 l0 x8_1).f1.f2))) = some (r1, r2, r3, r4, r5) := H
       have A20 := Gv.a0 A200
       clear A200
       by_cases c21 : t164 = true
       ·subst c21
        have H1 : (if (rd_T80 l0 x8_1).f0 = true then (spec_CarryRun.j1 k1 l0 x6_1 x7_1 x8_1 ((x7_1.length : Int) == 0) x156000_1 x156001_1 x156002_1 ((rd_T80 l0 x8_1).f0) ((rd_T80 l0 x8_1).f1.f0) ((rd_T80 l0 x8_1).f1.f1) ((rd_T80 l0 x8_1).f1.f2)) else (spec_CarryRun.j1 k1 l0 x6_1 x7_1 x8_1 false x156000_1 x156001_1 x156002_1 ((rd_T80 l0 x8_1).f0) ((rd_T80 l0 x8_1).f1.f0) ((rd_T80 l0 x8_1).f1.f1) ((rd_T80 l0 x8_1).f1.f2))) = some (r1, r2, r3, r4, r5) := by rw [if_pos rfl] at H; exact H
        clear H
        have H := H1
        clear H1
        obtain ⟨bq22, hbq22⟩ : ∃ b_ : Bool, b_ = ((rd_T80 l0 x8_1).f0) := ⟨_, rfl⟩
        replace H : (if bq22 = true then (spec_CarryRun.j1 k1 l0 x6_1 x7_1 x8_1 ((x7_1.length : Int) == 0) x156000_1 x156001_1 x156002_1 bq22 ((rd_T80 l0 x8_1).f1.f0) ((rd_T80 l0 x8_1).f1.f1) ((rd_T80 l0 x8_1).f1.f2)) else (spec_CarryRun.j1 k1 l0 x6_1 x7_1 x8_1 false x156000_1 x156001_1 x156002_1 bq22 ((rd_T80 l0 x8_1).f1.f0) ((rd_T80 l0 x8_1).f1.f1) ((rd_T80 l0 x8_1).f1.f2))) = some (r1, r2, r3, r4, r5) := by rw [← hbq22] at H; exact H
        have Nbq22 := Gv.a0 hbq22
        clear hbq22
        (try rw [← Nbq22.out])
        by_cases c23 : bq22 = true
        ·subst c23
         have H1 : (spec_CarryRun.j1 k1 l0 x6_1 x7_1 x8_1 ((x7_1.length : Int) == 0) x156000_1 x156001_1 x156002_1 true ((rd_T80 l0 x8_1).f1.f0) ((rd_T80 l0 x8_1).f1.f1) ((rd_T80 l0 x8_1).f1.f2)) = some (r1, r2, r3, r4, r5) := by rw [if_pos rfl] at H; exact H
         clear H
         have H := H1
         clear H1
         have H' := Gv.a0 H
         clear H
         have hnb24 := NB163_154.out
         have hnc24 := NB154_163.out
         have hnb25 := NB163_155.out
         have hnc25 := NB155_163.out
         obtain ⟨hcz26_0, hcz26_1, hcz26_2, hcz26_3⟩ := Gv.c4 BK163.out
         obtain ⟨hfz26_0, hfz26_1, hfz26_2, hfz26_3⟩ := Gv.f4 BK163.out
         go_wp2_with (first | ((with_reducible refine gate_callee (f := 55) rfl ?_); refine goesL_ (some 33) rfl rfl Try.func55 (by kernel_rfl) rfl #[.agg #[.int .i64 ((rd_T80 l0 x8_1).f1.f0), .int .i64 ((rd_T80 l0 x8_1).f1.f1), .int .i64 ((rd_T80 l0 x8_1).f1.f2)]] rfl Gv.lm ?_; (with_reducible refine (spec_CostOk.calls _ _ _ true _ A20.out).mono ?_); rintro e w27 ⟨rfl, hb⟩; refine ⟨_, rfl, ?_⟩; have n0_ := Gv.a0 (Kd.R_below (by (with_reducible repeat (first | apply Kd.R_alloc | apply Kd.R_drewN | apply Kd.R_drew)); exact (Kd.R_mono (Kd.R_far (p := ⟨gb163, 3, none⟩) (Kd.R_far (p := ⟨gb163, 2, none⟩) (Kd.R_far (p := ⟨gb163, 1, none⟩) (Kd.R_far (p := ⟨gb163, 0, none⟩) (Kd.R_types HO_6.out BK163.out (by decide)) (fun _ hk => hk.2) (.bool (true))) (fun _ hk => hk.2) (.int .i64 ((rd_T80 l0 x8_1).f1.f0))) (fun _ hk => hk.2) (.int .i64 ((rd_T80 l0 x8_1).f1.f1))) (fun _ hk => hk.2) (.int .i64 ((rd_T80 l0 x8_1).f1.f2))) (fun _ h_ => h_.1))) hb); have n1_ := Gv.a0 (Kd.R_below (by (with_reducible repeat (first | apply Kd.R_alloc | apply Kd.R_drewN | apply Kd.R_drew)); exact (Kd.R_mono (Kd.R_far (p := ⟨gb163, 3, none⟩) (Kd.R_far (p := ⟨gb163, 2, none⟩) (Kd.R_far (p := ⟨gb163, 1, none⟩) (Kd.R_far (p := ⟨gb163, 0, none⟩) (Kd.R_types HO_7.out BK163.out (by decide)) (fun _ hk => hk.2) (.bool (true))) (fun _ hk => hk.2) (.int .i64 ((rd_T80 l0 x8_1).f1.f0))) (fun _ hk => hk.2) (.int .i64 ((rd_T80 l0 x8_1).f1.f1))) (fun _ hk => hk.2) (.int .i64 ((rd_T80 l0 x8_1).f1.f2))) (fun _ h_ => h_.1))) hb); have n2_ := Gv.a0 (blk_below (g := gb154) (o := .cells #[.int .i64 x155000_1, .int .i64 x155001_1, .int .i64 x155002_1] 26 (0, 0)) Gv.bkf hb); have n3_ := Gv.a0 (blk_below (g := gb155) (o := .cells #[.int .i64 x156000_1, .int .i64 x156001_1, .int .i64 x156002_1] 26 (0, 0)) Gv.bkf hb); have n4_ := Gv.a0 (blk_below (g := gb163) (o := .cells #[.bool true, .int .i64 ((rd_T80 l0 x8_1).f1.f0), .int .i64 ((rd_T80 l0 x8_1).f1.f1), .int .i64 ((rd_T80 l0 x8_1).f1.f2)] 80 (0, 0)) (by (with_reducible repeat (first | refine blk_drewN ?_ _ | refine blk_drew ?_ | refine blk_alloc ?_ _)); refine blk_put (cs := #[.bool (true), .int .i64 ((rd_T80 l0 x8_1).f1.f0), .int .i64 ((rd_T80 l0 x8_1).f1.f1), .int .i64 0]) ?_ 3 _ rfl; (with_reducible repeat (first | refine blk_drewN ?_ _ | refine blk_drew ?_ | refine blk_alloc ?_ _)); refine blk_put (cs := #[.bool (true), .int .i64 ((rd_T80 l0 x8_1).f1.f0), .int .i64 0, .int .i64 0]) ?_ 2 _ rfl; (with_reducible repeat (first | refine blk_drewN ?_ _ | refine blk_drew ?_ | refine blk_alloc ?_ _)); refine blk_put (cs := #[.bool (true), .int .i64 0, .int .i64 0, .int .i64 0]) ?_ 1 _ rfl; (with_reducible repeat (first | refine blk_drewN ?_ _ | refine blk_drew ?_ | refine blk_alloc ?_ _)); refine blk_put (cs := #[.bool false, .int .i64 0, .int .i64 0, .int .i64 0]) ?_ 0 _ rfl; (with_reducible repeat (first | refine blk_drewN ?_ _ | refine blk_drew ?_ | refine blk_alloc ?_ _)); exact BK163.out) hb); have n5_ := Gv.a0 (below_step Gv.bw hb); clear HO_6; clear HO_7; clear BK154; clear BK155; clear BK163; clear HB; have HO_6 := n0_; have HO_7 := n1_; have BK154 := n2_; have BK155 := n3_; have BK163 := n4_; have HB := n5_; clear n0_ n1_ n2_ n3_ n4_ n5_; (try clear hb); (try clear hb2); (try clear hk); (try clear hi); obtain ⟨hcz28_0, hcz28_1, hcz28_2, hcz28_3⟩ := Gv.c4 BK163.out; obtain ⟨hfz28_0, hfz28_1, hfz28_2, hfz28_3⟩ := Gv.f4 BK163.out; obtain ⟨Ao29, co29, eo29⟩ := Kd.R_slice HO_7.out; subst eo29))
         go_meet
         case rel => (try rw [← Nbq22.out]); exact ⟨_, (((x7_1.length : Int) == 0)), Gv.rq, H', ⟨by have := HK1.out; first | omega | exact Nat.le_refl _⟩, ⟨Gv.kr HO_6.out⟩, ⟨Gv.kr HO_7.out⟩, ⟨by (with_reducible repeat (first | refine blk_drewN ?_ _ | refine blk_drew ?_ | refine blk_alloc ?_ _)); exact BK154.out⟩, ⟨by (with_reducible repeat (first | refine blk_drewN ?_ _ | refine blk_drew ?_ | refine blk_alloc ?_ _)); exact BK155.out⟩, ⟨by (with_reducible repeat (first | refine blk_drewN ?_ _ | refine blk_drew ?_ | refine blk_alloc ?_ _)); exact BK163.out⟩, ⟨Gv.bw⟩⟩
        ·replace c23 := Bool.eq_false_iff.mpr c23
         subst c23
         have H1 : (spec_CarryRun.j1 k1 l0 x6_1 x7_1 x8_1 false x156000_1 x156001_1 x156002_1 false ((rd_T80 l0 x8_1).f1.f0) ((rd_T80 l0 x8_1).f1.f1) ((rd_T80 l0 x8_1).f1.f2)) = some (r1, r2, r3, r4, r5) := by rw [if_neg (show ¬ (false = true) by decide)] at H; exact H
         clear H
         have H := H1
         clear H1
         have H' := Gv.a0 H
         clear H
         have hnb30 := NB163_154.out
         have hnc30 := NB154_163.out
         have hnb31 := NB163_155.out
         have hnc31 := NB155_163.out
         obtain ⟨hcz32_0, hcz32_1, hcz32_2, hcz32_3⟩ := Gv.c4 BK163.out
         obtain ⟨hfz32_0, hfz32_1, hfz32_2, hfz32_3⟩ := Gv.f4 BK163.out
         go_wp2_with (first | ((with_reducible refine gate_callee (f := 55) rfl ?_); refine goesL_ (some 33) rfl rfl Try.func55 (by kernel_rfl) rfl #[.agg #[.int .i64 ((rd_T80 l0 x8_1).f1.f0), .int .i64 ((rd_T80 l0 x8_1).f1.f1), .int .i64 ((rd_T80 l0 x8_1).f1.f2)]] rfl Gv.lm ?_; (with_reducible refine (spec_CostOk.calls _ _ _ true _ A20.out).mono ?_); rintro e w33 ⟨rfl, hb⟩; refine ⟨_, rfl, ?_⟩; have n0_ := Gv.a0 (Kd.R_below (by (with_reducible repeat (first | apply Kd.R_alloc | apply Kd.R_drewN | apply Kd.R_drew)); exact (Kd.R_mono (Kd.R_far (p := ⟨gb163, 3, none⟩) (Kd.R_far (p := ⟨gb163, 2, none⟩) (Kd.R_far (p := ⟨gb163, 1, none⟩) (Kd.R_far (p := ⟨gb163, 0, none⟩) (Kd.R_types HO_6.out BK163.out (by decide)) (fun _ hk => hk.2) (.bool (false))) (fun _ hk => hk.2) (.int .i64 ((rd_T80 l0 x8_1).f1.f0))) (fun _ hk => hk.2) (.int .i64 ((rd_T80 l0 x8_1).f1.f1))) (fun _ hk => hk.2) (.int .i64 ((rd_T80 l0 x8_1).f1.f2))) (fun _ h_ => h_.1))) hb); have n1_ := Gv.a0 (Kd.R_below (by (with_reducible repeat (first | apply Kd.R_alloc | apply Kd.R_drewN | apply Kd.R_drew)); exact (Kd.R_mono (Kd.R_far (p := ⟨gb163, 3, none⟩) (Kd.R_far (p := ⟨gb163, 2, none⟩) (Kd.R_far (p := ⟨gb163, 1, none⟩) (Kd.R_far (p := ⟨gb163, 0, none⟩) (Kd.R_types HO_7.out BK163.out (by decide)) (fun _ hk => hk.2) (.bool (false))) (fun _ hk => hk.2) (.int .i64 ((rd_T80 l0 x8_1).f1.f0))) (fun _ hk => hk.2) (.int .i64 ((rd_T80 l0 x8_1).f1.f1))) (fun _ hk => hk.2) (.int .i64 ((rd_T80 l0 x8_1).f1.f2))) (fun _ h_ => h_.1))) hb); have n2_ := Gv.a0 (blk_below (g := gb154) (o := .cells #[.int .i64 x155000_1, .int .i64 x155001_1, .int .i64 x155002_1] 26 (0, 0)) Gv.bkf hb); have n3_ := Gv.a0 (blk_below (g := gb155) (o := .cells #[.int .i64 x156000_1, .int .i64 x156001_1, .int .i64 x156002_1] 26 (0, 0)) Gv.bkf hb); have n4_ := Gv.a0 (blk_below (g := gb163) (o := .cells #[.bool false, .int .i64 ((rd_T80 l0 x8_1).f1.f0), .int .i64 ((rd_T80 l0 x8_1).f1.f1), .int .i64 ((rd_T80 l0 x8_1).f1.f2)] 80 (0, 0)) (by (with_reducible repeat (first | refine blk_drewN ?_ _ | refine blk_drew ?_ | refine blk_alloc ?_ _)); refine blk_put (cs := #[.bool (false), .int .i64 ((rd_T80 l0 x8_1).f1.f0), .int .i64 ((rd_T80 l0 x8_1).f1.f1), .int .i64 0]) ?_ 3 _ rfl; (with_reducible repeat (first | refine blk_drewN ?_ _ | refine blk_drew ?_ | refine blk_alloc ?_ _)); refine blk_put (cs := #[.bool (false), .int .i64 ((rd_T80 l0 x8_1).f1.f0), .int .i64 0, .int .i64 0]) ?_ 2 _ rfl; (with_reducible repeat (first | refine blk_drewN ?_ _ | refine blk_drew ?_ | refine blk_alloc ?_ _)); refine blk_put (cs := #[.bool (false), .int .i64 0, .int .i64 0, .int .i64 0]) ?_ 1 _ rfl; (with_reducible repeat (first | refine blk_drewN ?_ _ | refine blk_drew ?_ | refine blk_alloc ?_ _)); refine blk_put (cs := #[.bool false, .int .i64 0, .int .i64 0, .int .i64 0]) ?_ 0 _ rfl; (with_reducible repeat (first | refine blk_drewN ?_ _ | refine blk_drew ?_ | refine blk_alloc ?_ _)); exact BK163.out) hb); have n5_ := Gv.a0 (below_step Gv.bw hb); clear HO_6; clear HO_7; clear BK154; clear BK155; clear BK163; clear HB; have HO_6 := n0_; have HO_7 := n1_; have BK154 := n2_; have BK155 := n3_; have BK163 := n4_; have HB := n5_; clear n0_ n1_ n2_ n3_ n4_ n5_; (try clear hb); (try clear hb2); (try clear hk); (try clear hi); obtain ⟨hcz34_0, hcz34_1, hcz34_2, hcz34_3⟩ := Gv.c4 BK163.out; obtain ⟨hfz34_0, hfz34_1, hfz34_2, hfz34_3⟩ := Gv.f4 BK163.out))
         go_meet
         case rel => (try rw [← Nbq22.out]); exact ⟨_, (false), Gv.rq, H', ⟨by have := HK1.out; first | omega | exact Nat.le_refl _⟩, ⟨Gv.kr HO_6.out⟩, ⟨Gv.kr HO_7.out⟩, ⟨by (with_reducible repeat (first | refine blk_drewN ?_ _ | refine blk_drew ?_ | refine blk_alloc ?_ _)); exact BK154.out⟩, ⟨by (with_reducible repeat (first | refine blk_drewN ?_ _ | refine blk_drew ?_ | refine blk_alloc ?_ _)); exact BK155.out⟩, ⟨by (with_reducible repeat (first | refine blk_drewN ?_ _ | refine blk_drew ?_ | refine blk_alloc ?_ _)); exact BK163.out⟩, ⟨Gv.bw⟩⟩
       ·replace c21 := Bool.eq_false_iff.mpr c21
        subst c21
        have H1 : (spec_CarryRun.j1 k1 l0 x6_1 x7_1 x8_1 true x156000_1 x156001_1 x156002_1 ((rd_T80 l0 x8_1).f0) ((rd_T80 l0 x8_1).f1.f0) ((rd_T80 l0 x8_1).f1.f1) ((rd_T80 l0 x8_1).f1.f2)) = some (r1, r2, r3, r4, r5) := by rw [if_neg (show ¬ (false = true) by decide)] at H; exact H
        clear H
        have H := H1
        clear H1
        have H' := Gv.a0 H
        clear H
        have hnb35 := NB163_154.out
        have hnc35 := NB154_163.out
        have hnb36 := NB163_155.out
        have hnc36 := NB155_163.out
        obtain ⟨hcz37_0, hcz37_1, hcz37_2, hcz37_3⟩ := Gv.c4 BK163.out
        obtain ⟨hfz37_0, hfz37_1, hfz37_2, hfz37_3⟩ := Gv.f4 BK163.out
        go_wp2_with (first | ((with_reducible refine gate_callee (f := 55) rfl ?_); refine goesL_ (some 33) rfl rfl Try.func55 (by kernel_rfl) rfl #[.agg #[.int .i64 ((rd_T80 l0 x8_1).f1.f0), .int .i64 ((rd_T80 l0 x8_1).f1.f1), .int .i64 ((rd_T80 l0 x8_1).f1.f2)]] rfl Gv.lm ?_; (with_reducible refine (spec_CostOk.calls _ _ _ false _ A20.out).mono ?_); rintro e w38 ⟨rfl, hb⟩; refine ⟨_, rfl, ?_⟩; have n0_ := Gv.a0 (Kd.R_below (by (with_reducible repeat (first | apply Kd.R_alloc | apply Kd.R_drewN | apply Kd.R_drew)); exact (Kd.R_mono (Kd.R_far (p := ⟨gb163, 3, none⟩) (Kd.R_far (p := ⟨gb163, 2, none⟩) (Kd.R_far (p := ⟨gb163, 1, none⟩) (Kd.R_far (p := ⟨gb163, 0, none⟩) (Kd.R_types HO_6.out BK163.out (by decide)) (fun _ hk => hk.2) (.bool ((rd_T80 l0 x8_1).f0))) (fun _ hk => hk.2) (.int .i64 ((rd_T80 l0 x8_1).f1.f0))) (fun _ hk => hk.2) (.int .i64 ((rd_T80 l0 x8_1).f1.f1))) (fun _ hk => hk.2) (.int .i64 ((rd_T80 l0 x8_1).f1.f2))) (fun _ h_ => h_.1))) hb); have n1_ := Gv.a0 (Kd.R_below (by (with_reducible repeat (first | apply Kd.R_alloc | apply Kd.R_drewN | apply Kd.R_drew)); exact (Kd.R_mono (Kd.R_far (p := ⟨gb163, 3, none⟩) (Kd.R_far (p := ⟨gb163, 2, none⟩) (Kd.R_far (p := ⟨gb163, 1, none⟩) (Kd.R_far (p := ⟨gb163, 0, none⟩) (Kd.R_types HO_7.out BK163.out (by decide)) (fun _ hk => hk.2) (.bool ((rd_T80 l0 x8_1).f0))) (fun _ hk => hk.2) (.int .i64 ((rd_T80 l0 x8_1).f1.f0))) (fun _ hk => hk.2) (.int .i64 ((rd_T80 l0 x8_1).f1.f1))) (fun _ hk => hk.2) (.int .i64 ((rd_T80 l0 x8_1).f1.f2))) (fun _ h_ => h_.1))) hb); have n2_ := Gv.a0 (blk_below (g := gb154) (o := .cells #[.int .i64 x155000_1, .int .i64 x155001_1, .int .i64 x155002_1] 26 (0, 0)) Gv.bkf hb); have n3_ := Gv.a0 (blk_below (g := gb155) (o := .cells #[.int .i64 x156000_1, .int .i64 x156001_1, .int .i64 x156002_1] 26 (0, 0)) Gv.bkf hb); have n4_ := Gv.a0 (blk_below (g := gb163) (o := .cells #[.bool ((rd_T80 l0 x8_1).f0), .int .i64 ((rd_T80 l0 x8_1).f1.f0), .int .i64 ((rd_T80 l0 x8_1).f1.f1), .int .i64 ((rd_T80 l0 x8_1).f1.f2)] 80 (0, 0)) (by (with_reducible repeat (first | refine blk_drewN ?_ _ | refine blk_drew ?_ | refine blk_alloc ?_ _)); refine blk_put (cs := #[.bool ((rd_T80 l0 x8_1).f0), .int .i64 ((rd_T80 l0 x8_1).f1.f0), .int .i64 ((rd_T80 l0 x8_1).f1.f1), .int .i64 0]) ?_ 3 _ rfl; (with_reducible repeat (first | refine blk_drewN ?_ _ | refine blk_drew ?_ | refine blk_alloc ?_ _)); refine blk_put (cs := #[.bool ((rd_T80 l0 x8_1).f0), .int .i64 ((rd_T80 l0 x8_1).f1.f0), .int .i64 0, .int .i64 0]) ?_ 2 _ rfl; (with_reducible repeat (first | refine blk_drewN ?_ _ | refine blk_drew ?_ | refine blk_alloc ?_ _)); refine blk_put (cs := #[.bool ((rd_T80 l0 x8_1).f0), .int .i64 0, .int .i64 0, .int .i64 0]) ?_ 1 _ rfl; (with_reducible repeat (first | refine blk_drewN ?_ _ | refine blk_drew ?_ | refine blk_alloc ?_ _)); refine blk_put (cs := #[.bool false, .int .i64 0, .int .i64 0, .int .i64 0]) ?_ 0 _ rfl; (with_reducible repeat (first | refine blk_drewN ?_ _ | refine blk_drew ?_ | refine blk_alloc ?_ _)); exact BK163.out) hb); have n5_ := Gv.a0 (below_step Gv.bw hb); clear HO_6; clear HO_7; clear BK154; clear BK155; clear BK163; clear HB; have HO_6 := n0_; have HO_7 := n1_; have BK154 := n2_; have BK155 := n3_; have BK163 := n4_; have HB := n5_; clear n0_ n1_ n2_ n3_ n4_ n5_; (try clear hb); (try clear hb2); (try clear hk); (try clear hi)))
        go_meet
        case rel => (try rw [← Nbq22.out]); exact ⟨_, (true), Gv.rq, H', ⟨by have := HK1.out; first | omega | exact Nat.le_refl _⟩, ⟨Gv.kr HO_6.out⟩, ⟨Gv.kr HO_7.out⟩, ⟨by (with_reducible repeat (first | refine blk_drewN ?_ _ | refine blk_drew ?_ | refine blk_alloc ?_ _)); exact BK154.out⟩, ⟨by (with_reducible repeat (first | refine blk_drewN ?_ _ | refine blk_drew ?_ | refine blk_alloc ?_ _)); exact BK155.out⟩, ⟨by (with_reducible repeat (first | refine blk_drewN ?_ _ | refine blk_drew ?_ | refine blk_alloc ?_ _)); exact BK163.out⟩, ⟨Gv.bw⟩⟩
      case rest =>
       clear HC15
       try clear c1
       try clear p1
       try clear q1
       try clear hx1
       try clear c2
       try clear c2b0
       try clear c2b1
       try clear p2
       try clear q2
       try clear c3
       try clear c5
       try clear c7
       try clear c13
       try clear c13b0
       try clear c14
       try clear c14b0
       try clear p16
       try clear q16
       try clear hx16
       try clear c17
       try clear c18
       try clear c21
       try clear q22
       try clear c23
       try clear c24
       try clear c25
       try clear c30
       try clear c31
       try clear c35
       try clear c36
       try clear hcz19_0 hcz19_1 hcz19_2 hcz19_3
       try clear hcz26_0 hcz26_1 hcz26_2 hcz26_3
       try clear hcz28_0 hcz28_1 hcz28_2 hcz28_3
       try clear hcz32_0 hcz32_1 hcz32_2 hcz32_3
       try clear hcz34_0 hcz34_1 hcz34_2 hcz34_3
       try clear hcz37_0 hcz37_1 hcz37_2 hcz37_3
       try clear hcz4_0 hcz4_1 hcz4_2
       try clear hcz8_0 hcz8_1 hcz8_2
       try clear hfz19_0 hfz19_1 hfz19_2 hfz19_3
       try clear hfz26_0 hfz26_1 hfz26_2 hfz26_3
       try clear hfz28_0 hfz28_1 hfz28_2 hfz28_3
       try clear hfz32_0 hfz32_1 hfz32_2 hfz32_3
       try clear hfz34_0 hfz34_1 hfz34_2 hfz34_3
       try clear hfz37_0 hfz37_1 hfz37_2 hfz37_3
       try clear hfz4_0 hfz4_1 hfz4_2
       try clear hfz8_0 hfz8_1 hfz8_2
       try clear hx162_0
       try clear hx162_1
       try clear hx162_2
       try clear hx162_3
       try clear p162
       try clear p2
       try clear q162
       obtain ⟨kq, x43_14, rfl, HA, HJ14, HO_6, HO_7, BK154, BK155, BK163, HB⟩ := hcut
       cases kq with
       | zero => exact absurd HA.out (by simp [spec_CarryRun.j1])
       | succ kj14 =>
        have H := HA.out
        clear HA
        simp only [spec_CarryRun.j1] at H
        by_cases c39 : x43_14 = true
        ·subst c39
         have H1 : (some (([] : List (S26)), 0, 0, 0, wrap64 (x8_1 + 1))) = some (r1, r2, r3, r4, r5) := by rw [if_pos rfl] at H; exact H
         clear H
         have H := H1
         clear H1
         simp only [Option.some.injEq, Prod.mk.injEq] at H
         obtain ⟨rfl, rfl, rfl, rfl, rfl⟩ := H
         have hnb40 := NB154_155.out
         have hnc40 := NB155_154.out
         have hnb41 := NB154_163.out
         have hnc41 := NB163_154.out
         have hcz42_0 : wc.cell? ⟨gb154, 0, none⟩ = some (.int .i64 x155000_1) := (blk_cell BK154.out 0).trans rfl
         have hcz42_1 : wc.cell? ⟨gb154, 1, none⟩ = some (.int .i64 x155001_1) := (blk_cell BK154.out 1).trans rfl
         have hcz42_2 : wc.cell? ⟨gb154, 2, none⟩ = some (.int .i64 x155002_1) := (blk_cell BK154.out 2).trans rfl
         have hfz42_0 := blk_frozen BK154.out 0
         have hfz42_1 := blk_frozen BK154.out 1
         have hfz42_2 := blk_frozen BK154.out 2
         go_wp2
         refine bodyPost_ret (results_list (rs := [.tmp 2, .cell 3 26, .tmp 4]) rfl (by simp) (.tmp (.cell gb154 26 #[.int .i64 0, .int .i64 0, .int .i64 0] (0, 0) _ rfl (by (with_reducible repeat (first | refine blk_drewN ?_ _ | refine blk_drew ?_ | refine blk_alloc ?_ _)); refine blk_put (cs := #[.int .i64 0, .int .i64 0, .int .i64 x155002_1]) ?_ 2 _ rfl; (with_reducible repeat (first | refine blk_drewN ?_ _ | refine blk_drew ?_ | refine blk_alloc ?_ _)); refine blk_put (cs := #[.int .i64 0, .int .i64 x155001_1, .int .i64 x155002_1]) ?_ 1 _ rfl; (with_reducible repeat (first | refine blk_drewN ?_ _ | refine blk_drew ?_ | refine blk_alloc ?_ _)); refine blk_put (cs := #[.int .i64 x155000_1, .int .i64 x155001_1, .int .i64 x155002_1]) ?_ 0 _ rfl; (with_reducible repeat (first | refine blk_drewN ?_ _ | refine blk_drew ?_ | refine blk_alloc ?_ _)); exact BK154.out) Try.underlying26 rfl (by kernel_rfl) (.tmp .nil)))) rfl ?_
         exact ⟨_, Gv.rt, by first | exact Kd.R_nil _ _ _ _ _ | exact Kd.N_nil _ _ _ _ _ | exact Kd.V_nil _ _ _ _ _ | exact Kd.Q_nil _ _ _ _ _ | exact Kd.S_nil _ _ _ _ _, Gv.bw⟩
        ·replace c39 := Bool.eq_false_iff.mpr c39
         subst c39
         have H1 : (if ((rd_T80 l0 x8_1).f0) = true then (if 0 < (x7_1.length : Int) then ((spec_Settle.f kj14 x156000_1 x156001_1 x156002_1 ((rd_T26 x7_1 0).f0) ((rd_T26 x7_1 0).f1) ((rd_T26 x7_1 0).f2) ((rd_T80 l0 x8_1).f1.f0) ((rd_T80 l0 x8_1).f1.f1) ((rd_T80 l0 x8_1).f1.f2)).bind fun bt166 => ((some (([] : List (S26)) : List (S26))).bind fun y171 => (if 1 ≤ (x7_1.length : Int) then ((some (x7_1.drop 1 : List (S26))).bind fun y174 => (if y171.length + y174.length < 5864062014805 then (spec_CarryRun.l0 kj14 l0 x6_1 (y171 ++ y174) (wrap64 (x8_1 + 1)) bt166.1 bt166.2.1 bt166.2.2.1) else (none))) else (none)))) else (none)) else ((spec_Charge.f kj14 ((rd_T80 l0 x8_1).f1.f0) ((rd_T80 l0 x8_1).f1.f1) ((rd_T80 l0 x8_1).f1.f2) x156000_1 x156001_1 x156002_1).bind fun bt181 => (if x6_1.length < 5864062014805 then (if x7_1.length < 5864062014805 then (spec_CarryRun.l0 kj14 l0 (x6_1 ++ [(⟨bt181.1, bt181.2.1, bt181.2.2.1⟩ : S26)]) (x7_1 ++ [(⟨((rd_T80 l0 x8_1).f1.f0), ((rd_T80 l0 x8_1).f1.f1), ((rd_T80 l0 x8_1).f1.f2)⟩ : S26)]) (wrap64 (x8_1 + 1)) bt181.2.2.2.1 bt181.2.2.2.2.1 bt181.2.2.2.2.2) else (none)) else (none)))) = some (r1, r2, r3, r4, r5) := by rw [if_neg (show ¬ (false = true) by decide)] at H; exact H
         clear H
         have H := H1
         clear H1
         by_cases c43 : ((rd_T80 l0 x8_1).f0) = true
         ·rw [if_pos c43] at H
          have c43b0 : ((rd_T80 l0 x8_1).f0) = true := c43
          clear c43
          by_cases c44 : 0 < (x7_1.length : Int)
          ·rw [if_pos c44] at H
           have c44b0 : decide (0 < (x7_1.length : Int)) = true := decide_eq_true c44
           have c44b1 : decide (0 < x7_1.length) = true := decide_eq_true (by omega)
           clear c44
           replace H := Option.bind_eq_some_iff.mp H
           obtain ⟨⟨t166, t167, t168, t169⟩, A450, H⟩ := H
           replace H : ((some (([] : List (S26)) : List (S26))).bind fun y171 => (if 1 ≤ (x7_1.length : Int) then ((some (x7_1.drop 1 : List (S26))).bind fun y174 => (if y171.length + y174.length < 5864062014805 then (spec_CarryRun.l0 kj14 l0 x6_1 (y171 ++ y174) (wrap64 (x8_1 + 1)) t166 t167 t168) else (none))) else (none))) = some (r1, r2, r3, r4, r5) := H
           have A45 := Gv.a0 A450
           clear A450
           obtain ⟨y171, hy171⟩ : ∃ y_ : List (S26), y_ = (([] : List (S26))) := ⟨_, rfl⟩
           replace H : (if 1 ≤ (x7_1.length : Int) then ((some (x7_1.drop 1 : List (S26))).bind fun y174 => (if y171.length + y174.length < 5864062014805 then (spec_CarryRun.l0 kj14 l0 x6_1 (y171 ++ y174) (wrap64 (x8_1 + 1)) t166 t167 t168) else (none))) else (none)) = some (r1, r2, r3, r4, r5) := by first | (rw [hy171]; with_reducible exact H) | (have H2_ := (Option.bind_some _ _).symm.trans H; rw [hy171]; with_reducible exact H2_) | (have H2_ := (Option.bind_some _ _).symm.trans H; with_reducible exact H2_) | with_reducible exact H | (rw [hy171]; exact H) | exact H
           have Ny171 := Gv.a0 hy171
           clear hy171
           by_cases c46 : 1 ≤ (x7_1.length : Int)
           ·rw [if_pos c46] at H
            have c46b0 := eq_true c46
            have c46b1 : decide (1 ≤ (x7_1.length : Int)) = true := decide_eq_true c46
            clear c46
            obtain ⟨y174, hy174⟩ : ∃ y_ : List (S26), y_ = (x7_1.drop 1) := ⟨_, rfl⟩
            replace H : (if y171.length + y174.length < 5864062014805 then (spec_CarryRun.l0 kj14 l0 x6_1 (y171 ++ y174) (wrap64 (x8_1 + 1)) t166 t167 t168) else (none)) = some (r1, r2, r3, r4, r5) := by first | (rw [hy174]; with_reducible exact H) | (have H2_ := (Option.bind_some _ _).symm.trans H; rw [hy174]; with_reducible exact H2_) | (have H2_ := (Option.bind_some _ _).symm.trans H; with_reducible exact H2_) | with_reducible exact H | (rw [hy174]; exact H) | exact H
            have Ny174 := Gv.a0 hy174
            clear hy174
            by_cases c47 : y171.length + y174.length < 5864062014805
            ·rw [if_pos c47] at H
             have LMc47 := Gv.a0 c47
             clear c47
             obtain ⟨y178, hy178⟩ : ∃ y_ : List (S26), y_ = (y171 ++ y174) := ⟨_, rfl⟩
             replace H : (spec_CarryRun.l0 kj14 l0 x6_1 y178 (wrap64 (x8_1 + 1)) t166 t167 t168) = some (r1, r2, r3, r4, r5) := by first | (rw [hy178]; with_reducible exact H) | (have H2_ := (Option.bind_some _ _).symm.trans H; rw [hy178]; with_reducible exact H2_) | (have H2_ := (Option.bind_some _ _).symm.trans H; with_reducible exact H2_) | with_reducible exact H | (rw [hy178]; exact H) | exact H
             have Ny178 := Gv.a0 hy178
             clear hy178
             have H' := Gv.a0 H
             clear H
             have hnb48 := NB163_154.out
             have hnc48 := NB154_163.out
             have hnb49 := NB163_155.out
             have hnc49 := NB155_163.out
             obtain ⟨hcz50_0, hcz50_1, hcz50_2, hcz50_3⟩ := Gv.c4 BK163.out
             obtain ⟨hfz50_0, hfz50_1, hfz50_2, hfz50_3⟩ := Gv.f4 BK163.out
             try go_wp2
             have n0_ := Gv.a0 (Kd.R_drew HO_6.out)
             have n1_ := Gv.a0 (Kd.R_drew HO_7.out)
             have n2_ := Gv.a0 (blk_drew BK154.out)
             have n3_ := Gv.a0 (blk_drew BK155.out)
             have n4_ := Gv.a0 (blk_drew BK163.out)
             have n5_ := Gv.a0 (below_drew1 HB.out)
             clear HO_6
             clear HO_7
             clear BK154
             clear BK155
             clear BK163
             clear HB
             have HO_6 := n0_
             have HO_7 := n1_
             have BK154 := n2_
             have BK155 := n3_
             have BK163 := n4_
             have HB := n5_
             clear n0_ n1_ n2_ n3_ n4_ n5_
             obtain ⟨Ao52, co52, eo52⟩ := Kd.R_slice HO_7.out
             (first | subst eo52 | (injection eo52 with f1_ f2_ f3_; have f4_ := f1_.symm; have f5_ := f3_.symm; clear f1_ f2_ f3_; subst f4_; subst f5_))
             have p165 : 0 ≤ (0 : Int) := (by omega)
             have q165 : 0 < (x7_1.length : Int) := of_decide_eq_true (by first | (with_reducible assumption) | assumption)
             obtain ⟨ad165, e165, hx165_0, hx165_1, hx165_2⟩ := at_T26 (Kd.R_reads' HO_7.out).2.2 0 p165 q165
             cases e165
             have qi165 : (0 < x7_1.length) = True := eq_true (by omega)
             (try rw [show ((0 : Int)).toNat = 0 from rfl] at hx165_0)
             (try rw [show 0 * 3 = 0 from rfl] at hx165_0)
             (try rw [Addr.add_zero'] at hx165_0)
             (try rw [show ((0 : Int)).toNat = 0 from rfl] at hx165_1)
             (try rw [show 0 * 3 = 0 from rfl] at hx165_1)
             (try rw [Addr.add_zero'] at hx165_1)
             (try rw [show ((0 : Int)).toNat = 0 from rfl] at hx165_2)
             (try rw [show 0 * 3 = 0 from rfl] at hx165_2)
             (try rw [Addr.add_zero'] at hx165_2)
             replace p165 := eq_true p165
             replace q165 := eq_true q165
             refine start_ (n := 13) (S := fun w' => w'.cell? ⟨gb155, 0, none⟩ = some (.int .i64 x156000_1) ∧ w'.cell? ⟨gb155, 1, none⟩ = some (.int .i64 x156001_1) ∧ w'.cell? ⟨gb155, 2, none⟩ = some (.int .i64 x156002_1) ∧ w'.cell? ⟨gb163, 0, none⟩ = some (.bool ((rd_T80 l0 x8_1).f0)) ∧ w'.cell? ⟨gb163, 1, none⟩ = some (.int .i64 ((rd_T80 l0 x8_1).f1.f0)) ∧ w'.cell? ⟨gb163, 2, none⟩ = some (.int .i64 ((rd_T80 l0 x8_1).f1.f1)) ∧ w'.cell? ⟨gb163, 3, none⟩ = some (.int .i64 ((rd_T80 l0 x8_1).f1.f2)) ∧ w'.cell? ad165 = some (.int .i64 ((rd_T26 x7_1 0).f0)) ∧ w'.cell? ⟨ad165.block, ad165.off + 1, none⟩ = some (.int .i64 ((rd_T26 x7_1 0).f1)) ∧ w'.cell? ⟨ad165.block, ad165.off + 2, none⟩ = some (.int .i64 ((rd_T26 x7_1 0).f2))) (ds := []) #[false, false, false, false, false, false, false, false, false, false, false, false, false] (by kernel_rfl) rfl rfl ⟨(blk_cell BK155.out 0).trans rfl, (blk_cell BK155.out 1).trans rfl, (blk_cell BK155.out 2).trans rfl, (blk_cell BK163.out 0).trans rfl, (blk_cell BK163.out 1).trans rfl, (blk_cell BK163.out 2).trans rfl, (blk_cell BK163.out 3).trans rfl, hx165_0, hx165_1, hx165_2⟩ (fun hHeld => ?_); refine with_tabW spec_CarryRun.tab13 spec_CarryRun.bits13 (fun HT_ HW_ => ?_)
             generalize wc.drew = w51 at HO_6 HO_7 BK154 BK155 BK163 HB hx165_0 hx165_1 hx165_2 hHeld ⊢
             refine Gv.pu 1 (some 51) HT_ ?_
             refine Gv.pu 2 (some 52) HT_ ?_
             refine Gv.pu 4 (some 54) HT_ ?_
             refine take_ (i := 0) (N := some 50) (v := ?_) (a' := ?_) #[true, true, true, false, true, false, false, false, false, false, false, false, false] rfl rfl (take_ofW HT_.out HW_.out (by kernel_rfl)) (fun _ _ _ h => h) (Or.inl ⟨by rfl, ?_⟩) hHeld ?_ ?_
             rotate_left
             ·rintro w' ⟨s0, s1, s2, s3, s4, s5, s6, s7, s8, s9⟩
              go_simp
              with_reducible rfl
             rotate_left
             ·simp only [Act.put, List.setIfInBounds_toArray, List.set_cons_zero, List.set_cons_succ, i64_w, i32_w]
              rfl
             refine take_ (i := 3) (N := some 53) (v := ?_) (a' := ?_) #[true, true, true, true, true, false, false, false, false, false, false, false, false] rfl rfl (take_ofW HT_.out HW_.out (by kernel_rfl)) (fun _ _ _ h => h) (Or.inl ⟨by rfl, ?_⟩) hHeld ?_ ?_
             rotate_left
             ·rintro w' ⟨s0, s1, s2, s3, s4, s5, s6, s7, s8, s9⟩
              go_simp
              with_reducible rfl
             rotate_left
             ·simp only [Act.put, List.setIfInBounds_toArray, List.set_cons_zero, List.set_cons_succ, i64_w, i32_w]
              rfl
             refine take_ (i := 5) (N := some 55) (v := ?_) (a' := ?_) #[true, true, true, true, true, true, false, false, false, false, false, false, false] rfl rfl (take_ofW HT_.out HW_.out (by kernel_rfl)) (fun _ _ _ h => h) (Or.inl ⟨by rfl, ?_⟩) hHeld ?_ ?_
             rotate_left
             ·rintro w' ⟨s0, s1, s2, s3, s4, s5, s6, s7, s8, s9⟩
              go_simp
              with_reducible rfl
             rotate_left
             ·simp only [Act.put, List.setIfInBounds_toArray, List.set_cons_zero, List.set_cons_succ, i64_w, i32_w]
              rfl
             refine join_ (σ := Nat) 2 #[true, true, true, true, true, true, true, true, true, true, true, false, false] (fun s_ => [(56, .tuple #[.agg #[.int .i64 t166, .int .i64 t167, .int .i64 t168], .bool t169]), (10, .pointer (some ⟨s_, 0, none⟩)), (49, .tuple #[.agg #[.int .i64 t166, .int .i64 t167, .int .i64 t168], .bool t169]), (57, .agg #[.int .i64 t166, .int .i64 t167, .int .i64 t168]), (58, .bool t169)]) (fun s_ w' => (w'.cell? ⟨gb155, 0, none⟩ = some (.int .i64 x156000_1) ∧ w'.cell? ⟨gb155, 1, none⟩ = some (.int .i64 x156001_1) ∧ w'.cell? ⟨gb155, 2, none⟩ = some (.int .i64 x156002_1) ∧ w'.cell? ⟨gb163, 0, none⟩ = some (.bool ((rd_T80 l0 x8_1).f0)) ∧ w'.cell? ⟨gb163, 1, none⟩ = some (.int .i64 ((rd_T80 l0 x8_1).f1.f0)) ∧ w'.cell? ⟨gb163, 2, none⟩ = some (.int .i64 ((rd_T80 l0 x8_1).f1.f1)) ∧ w'.cell? ⟨gb163, 3, none⟩ = some (.int .i64 ((rd_T80 l0 x8_1).f1.f2)) ∧ w'.cell? ad165 = some (.int .i64 ((rd_T26 x7_1 0).f0)) ∧ w'.cell? ⟨ad165.block, ad165.off + 1, none⟩ = some (.int .i64 ((rd_T26 x7_1 0).f1)) ∧ w'.cell? ⟨ad165.block, ad165.off + 2, none⟩ = some (.int .i64 ((rd_T26 x7_1 0).f2))) ∧ (Kd.R k26 26 w' w.heap.size (fun k_ => some k_ ≠ (.slice (some ad165) x7_1.length co52 : Value).ownBlock ∧ k_ ≠ gb154 ∧ k_ ≠ gb155 ∧ k_ ≠ s_) u6 x6_1) ∧ (Kd.R k26 26 w' w.heap.size (fun k_ => some k_ ≠ (u6 : Value).ownBlock ∧ k_ ≠ gb154 ∧ k_ ≠ gb155 ∧ k_ ≠ s_) (.slice (some ad165) x7_1.length co52) x7_1) ∧ (w'.heap[gb154]? = some (.cells #[.int .i64 x155000_1, .int .i64 x155001_1, .int .i64 x155002_1] 26 (0, 0))) ∧ (w'.heap[gb155]? = some (.cells #[.int .i64 x156000_1, .int .i64 x156001_1, .int .i64 x156002_1] 26 (0, 0))) ∧ (w'.heap[gb163]? = some (.cells #[.bool ((rd_T80 l0 x8_1).f0), .int .i64 ((rd_T80 l0 x8_1).f1.f0), .int .i64 ((rd_T80 l0 x8_1).f1.f1), .int .i64 ((rd_T80 l0 x8_1).f1.f2)] 80 (0, 0))) ∧ (w'.heap[s_]? = some (.cells #[.int .i64 0, .int .i64 0, .int .i64 0] 26 (0, 0))) ∧ (w.heap.size ≤ s_) ∧ (w.heap.size ≤ s_) ∧ (gb154 ≠ s_) ∧ (s_ ≠ gb154) ∧ (gb155 ≠ s_) ∧ (s_ ≠ gb155) ∧ (gb163 ≠ s_) ∧ (s_ ≠ gb163) ∧ (Below w.heap.size w w')) ?_ ?_
             rotate_left
             ·intro hCont
              refine two_ (i := 6) (j := 10) (Ni := some 56) (Nj := some 10) #[true, true, true, true, true, true, true, false, false, false, false, false, false] #[true, true, true, true, true, true, false, false, false, false, true, false, false] rfl rfl rfl rfl (two_of HT_.out (by kernel_rfl)) (by decide) (by decide) (fun K hK => ?_) (fun K hK => ?_)
              ·skip
               refine goes_ Try.func18 (by kernel_rfl) rfl #[.agg #[.int .i64 x156000_1, .int .i64 x156001_1, .int .i64 x156002_1], .agg #[.int .i64 ((rd_T26 x7_1 0).f0), .int .i64 ((rd_T26 x7_1 0).f1), .int .i64 ((rd_T26 x7_1 0).f2)], .agg #[.int .i64 ((rd_T80 l0 x8_1).f1.f0), .int .i64 ((rd_T80 l0 x8_1).f1.f1), .int .i64 ((rd_T80 l0 x8_1).f1.f2)]] (by rfl) rfl rfl Gv.lm ?_
               with_reducible refine (spec_Settle.calls kj14 x156000_1 x156001_1 x156002_1 ((rd_T26 x7_1 0).f0) ((rd_T26 x7_1 0).f1) ((rd_T26 x7_1 0).f2) ((rd_T80 l0 x8_1).f1.f0) ((rd_T80 l0 x8_1).f1.f1) ((rd_T80 l0 x8_1).f1.f2) t166 t167 t168 t169 _ A45.out).mono ?_
               rintro e w53 ⟨rfl, hb⟩
               have HS7_ := (hb.cell (World.block_lt_of_cell? _ _ (hHeld.2.2.2.2.2.2.2.1))).trans (hHeld.2.2.2.2.2.2.2.1)
               have HS8_ := (hb.cell (World.block_lt_of_cell? _ _ (hHeld.2.2.2.2.2.2.2.2.1))).trans (hHeld.2.2.2.2.2.2.2.2.1)
               have HS9_ := (hb.cell (World.block_lt_of_cell? _ _ (hHeld.2.2.2.2.2.2.2.2.2))).trans (hHeld.2.2.2.2.2.2.2.2.2)
               refine ⟨_, rfl, ?_⟩
               have n0_ := Gv.a0 (Kd.R_below (Gv.kr HO_6.out) hb)
               have n1_ := Gv.a0 (Kd.R_below (Gv.kr HO_7.out) hb)
               have n2_ := Gv.a0 (Gv.bb BK154.out hb)
               have n3_ := Gv.a0 (Gv.bb BK155.out hb)
               have n4_ := Gv.a0 (Gv.bb BK163.out hb)
               have n5_ := Gv.a0 (below_step Gv.bw hb)
               clear HO_6
               clear HO_7
               clear BK154
               clear BK155
               clear BK163
               clear HB
               have HO_6 := n0_
               have HO_7 := n1_
               have BK154 := n2_
               have BK155 := n3_
               have BK163 := n4_
               have HB := n5_
               clear n0_ n1_ n2_ n3_ n4_ n5_
               (try clear hb)
               (try clear hb2)
               (try clear hk)
               (try clear hi)
               refine hK.out _ _ ⟨(blk_cell BK155.out 0).trans rfl, (blk_cell BK155.out 1).trans rfl, (blk_cell BK155.out 2).trans rfl, (blk_cell BK163.out 0).trans rfl, (blk_cell BK163.out 1).trans rfl, (blk_cell BK163.out 2).trans rfl, (blk_cell BK163.out 3).trans rfl, HS7_, HS8_, HS9_⟩ (fun hHeld => ?_)
               clear hK K
               refine norm_ (a' := ?_) ?_ ?_
               rotate_left
               ·show Act.put _ (some 56) _ = _
                simp only [Act.put, List.setIfInBounds_toArray, List.set_cons_zero, List.set_cons_succ, i64_w, i32_w]
                rfl
               refine Gv.pu 7 (some 49) HT_ ?_
               refine Gv.pu 8 (some 57) HT_ ?_
               refine Gv.pu 9 (some 58) HT_ ?_
               refine one_ (i := 10) (N := some 10) #[true, true, true, true, true, true, true, true, true, true, true, false, false] rfl rfl (one_of HT_.out (by kernel_rfl)) (by decide) (fun K hK => ?_)
               refine box_step ?hg (N := 10) ?hd (cs := #[.int .i64 0, .int .i64 0, .int .i64 0]) (t := 26) ?hr ?_; (case hd => rfl); (case hg => rfl); (case hr => first | (go_simp; done) | (go_simp; rfl))
               intro gb170 hg w54 hbox hb
               have HS7_ := (hb.cell (World.block_lt_of_cell? _ _ (hHeld.2.2.2.2.2.2.2.1))).trans (hHeld.2.2.2.2.2.2.2.1)
               have HS8_ := (hb.cell (World.block_lt_of_cell? _ _ (hHeld.2.2.2.2.2.2.2.2.1))).trans (hHeld.2.2.2.2.2.2.2.2.1)
               have HS9_ := (hb.cell (World.block_lt_of_cell? _ _ (hHeld.2.2.2.2.2.2.2.2.2))).trans (hHeld.2.2.2.2.2.2.2.2.2)
               have n0_ := Gv.a0 (Kd.R_below (Kd.R_elderB (Gv.kr HO_6.out) gb170 (Nat.le_of_eq hg.symm)) hb)
               have n1_ := Gv.a0 (Kd.R_below (Kd.R_elderB (Gv.kr HO_7.out) gb170 (Nat.le_of_eq hg.symm)) hb)
               have n2_ := Gv.a0 (Gv.bb BK154.out hb)
               have n3_ := Gv.a0 (Gv.bb BK155.out hb)
               have n4_ := Gv.a0 (Gv.bb BK163.out hb)
               have n5_ := Gv.a0 (below_step Gv.bw hb)
               have n6_ := Gv.a0 (hbox)
               have n7_ := Gv.a0 ((Gv.ble hg Gv.bw : w.heap.size ≤ gb170))
               have n8_ := Gv.a0 ((Gv.ble hg Gv.bw : w.heap.size ≤ gb170))
               have n9_ := Gv.a0 ((Gv.nlt hg (Gv.kb BK154.out) : gb154 ≠ gb170))
               have n10_ := Gv.a0 ((Gv.ngt hg (Gv.kb BK154.out) : gb170 ≠ gb154))
               have n11_ := Gv.a0 ((Gv.nlt hg (Gv.kb BK155.out) : gb155 ≠ gb170))
               have n12_ := Gv.a0 ((Gv.ngt hg (Gv.kb BK155.out) : gb170 ≠ gb155))
               have n13_ := Gv.a0 ((Gv.nlt hg (Gv.kb BK163.out) : gb163 ≠ gb170))
               have n14_ := Gv.a0 ((Gv.ngt hg (Gv.kb BK163.out) : gb170 ≠ gb163))
               clear HO_6
               clear HO_7
               clear BK154
               clear BK155
               clear BK163
               clear HB
               have HO_6 := n0_
               have HO_7 := n1_
               have BK154 := n2_
               have BK155 := n3_
               have BK163 := n4_
               have HB := n5_
               have BK170 := n6_
               have GW170 := n7_
               have GE170 := n8_
               have NB154_170 := n9_
               have NB170_154 := n10_
               have NB155_170 := n11_
               have NB170_155 := n12_
               have NB163_170 := n13_
               have NB170_163 := n14_
               clear n0_ n1_ n2_ n3_ n4_ n5_ n6_ n7_ n8_ n9_ n10_ n11_ n12_ n13_ n14_
               clear hb hbox hg
               refine hK.out _ _ ⟨(blk_cell BK155.out 0).trans rfl, (blk_cell BK155.out 1).trans rfl, (blk_cell BK155.out 2).trans rfl, (blk_cell BK163.out 0).trans rfl, (blk_cell BK163.out 1).trans rfl, (blk_cell BK163.out 2).trans rfl, (blk_cell BK163.out 3).trans rfl, HS7_, HS8_, HS9_⟩ (fun hHeld => ?_)
               clear hK K
               refine norm_ (a' := ?_) ?_ ?_
               rotate_left
               ·show Act.put _ (some 10) _ = _
                simp only [Act.put, List.setIfInBounds_toArray, List.set_cons_zero, List.set_cons_succ, i64_w, i32_w]
                rfl
               exact norm_ (by simp only [putAll, Act.put, List.setIfInBounds_toArray, List.set_cons_zero, List.set_cons_succ]) (hCont (gb170) _ ⟨hHeld, (by (with_reducible repeat (first | apply Kd.R_alloc | apply Kd.R_drewN | apply Kd.R_drew)); exact Kd.R_mono HO_6.out (fun _ hk => ⟨hk.1.1, ⟨hk.1.2.1, ⟨hk.1.2.2, hk.2⟩⟩⟩)), (by (with_reducible repeat (first | apply Kd.R_alloc | apply Kd.R_drewN | apply Kd.R_drew)); exact Kd.R_mono HO_7.out (fun _ hk => ⟨hk.1.1, ⟨hk.1.2.1, ⟨hk.1.2.2, hk.2⟩⟩⟩)), Gv.bk, Gv.bk, Gv.bk, Gv.bk, GW170.out, GE170.out, NB154_170.out, NB170_154.out, NB155_170.out, NB170_155.out, NB163_170.out, NB170_163.out, Gv.bw⟩)
              ·skip
               refine box_step ?hg (N := 10) ?hd (cs := #[.int .i64 0, .int .i64 0, .int .i64 0]) (t := 26) ?hr ?_; (case hd => rfl); (case hg => rfl); (case hr => first | (go_simp; done) | (go_simp; rfl))
               intro gb170 hg w53 hbox hb
               have HS7_ := (hb.cell (World.block_lt_of_cell? _ _ (hHeld.2.2.2.2.2.2.2.1))).trans (hHeld.2.2.2.2.2.2.2.1)
               have HS8_ := (hb.cell (World.block_lt_of_cell? _ _ (hHeld.2.2.2.2.2.2.2.2.1))).trans (hHeld.2.2.2.2.2.2.2.2.1)
               have HS9_ := (hb.cell (World.block_lt_of_cell? _ _ (hHeld.2.2.2.2.2.2.2.2.2))).trans (hHeld.2.2.2.2.2.2.2.2.2)
               have n0_ := Gv.a0 (Kd.R_below (Kd.R_elderB (Gv.kr HO_6.out) gb170 (Nat.le_of_eq hg.symm)) hb)
               have n1_ := Gv.a0 (Kd.R_below (Kd.R_elderB (Gv.kr HO_7.out) gb170 (Nat.le_of_eq hg.symm)) hb)
               have n2_ := Gv.a0 (Gv.bb BK154.out hb)
               have n3_ := Gv.a0 (Gv.bb BK155.out hb)
               have n4_ := Gv.a0 (Gv.bb BK163.out hb)
               have n5_ := Gv.a0 (below_step Gv.bw hb)
               have n6_ := Gv.a0 (hbox)
               have n7_ := Gv.a0 ((Gv.ble hg Gv.bw : w.heap.size ≤ gb170))
               have n8_ := Gv.a0 ((Gv.ble hg Gv.bw : w.heap.size ≤ gb170))
               have n9_ := Gv.a0 ((Gv.nlt hg (Gv.kb BK154.out) : gb154 ≠ gb170))
               have n10_ := Gv.a0 ((Gv.ngt hg (Gv.kb BK154.out) : gb170 ≠ gb154))
               have n11_ := Gv.a0 ((Gv.nlt hg (Gv.kb BK155.out) : gb155 ≠ gb170))
               have n12_ := Gv.a0 ((Gv.ngt hg (Gv.kb BK155.out) : gb170 ≠ gb155))
               have n13_ := Gv.a0 ((Gv.nlt hg (Gv.kb BK163.out) : gb163 ≠ gb170))
               have n14_ := Gv.a0 ((Gv.ngt hg (Gv.kb BK163.out) : gb170 ≠ gb163))
               clear HO_6
               clear HO_7
               clear BK154
               clear BK155
               clear BK163
               clear HB
               have HO_6 := n0_
               have HO_7 := n1_
               have BK154 := n2_
               have BK155 := n3_
               have BK163 := n4_
               have HB := n5_
               have BK170 := n6_
               have GW170 := n7_
               have GE170 := n8_
               have NB154_170 := n9_
               have NB170_154 := n10_
               have NB155_170 := n11_
               have NB170_155 := n12_
               have NB163_170 := n13_
               have NB170_163 := n14_
               clear n0_ n1_ n2_ n3_ n4_ n5_ n6_ n7_ n8_ n9_ n10_ n11_ n12_ n13_ n14_
               clear hb hbox hg
               refine hK.out _ _ ⟨(blk_cell BK155.out 0).trans rfl, (blk_cell BK155.out 1).trans rfl, (blk_cell BK155.out 2).trans rfl, (blk_cell BK163.out 0).trans rfl, (blk_cell BK163.out 1).trans rfl, (blk_cell BK163.out 2).trans rfl, (blk_cell BK163.out 3).trans rfl, HS7_, HS8_, HS9_⟩ (fun hHeld => ?_)
               clear hK K
               refine norm_ (a' := ?_) ?_ ?_
               rotate_left
               ·show Act.put _ (some 10) _ = _
                simp only [Act.put, List.setIfInBounds_toArray, List.set_cons_zero, List.set_cons_succ, i64_w, i32_w]
                rfl
               refine one_ (i := 6) (N := some 56) #[true, true, true, true, true, true, true, false, false, false, true, false, false] rfl rfl (one_of HT_.out (by kernel_rfl)) (by decide) (fun K hK => ?_)
               refine goes_ Try.func18 (by kernel_rfl) rfl #[.agg #[.int .i64 x156000_1, .int .i64 x156001_1, .int .i64 x156002_1], .agg #[.int .i64 ((rd_T26 x7_1 0).f0), .int .i64 ((rd_T26 x7_1 0).f1), .int .i64 ((rd_T26 x7_1 0).f2)], .agg #[.int .i64 ((rd_T80 l0 x8_1).f1.f0), .int .i64 ((rd_T80 l0 x8_1).f1.f1), .int .i64 ((rd_T80 l0 x8_1).f1.f2)]] (by rfl) rfl rfl Gv.lm ?_
               with_reducible refine (spec_Settle.calls kj14 x156000_1 x156001_1 x156002_1 ((rd_T26 x7_1 0).f0) ((rd_T26 x7_1 0).f1) ((rd_T26 x7_1 0).f2) ((rd_T80 l0 x8_1).f1.f0) ((rd_T80 l0 x8_1).f1.f1) ((rd_T80 l0 x8_1).f1.f2) t166 t167 t168 t169 _ A45.out).mono ?_
               rintro e w54 ⟨rfl, hb⟩
               have HS7_ := (hb.cell (World.block_lt_of_cell? _ _ (hHeld.2.2.2.2.2.2.2.1))).trans (hHeld.2.2.2.2.2.2.2.1)
               have HS8_ := (hb.cell (World.block_lt_of_cell? _ _ (hHeld.2.2.2.2.2.2.2.2.1))).trans (hHeld.2.2.2.2.2.2.2.2.1)
               have HS9_ := (hb.cell (World.block_lt_of_cell? _ _ (hHeld.2.2.2.2.2.2.2.2.2))).trans (hHeld.2.2.2.2.2.2.2.2.2)
               refine ⟨_, rfl, ?_⟩
               have n0_ := Gv.a0 (Kd.R_below (Gv.kr HO_6.out) hb)
               have n1_ := Gv.a0 (Kd.R_below (Gv.kr HO_7.out) hb)
               have n2_ := Gv.a0 (Gv.bb BK154.out hb)
               have n3_ := Gv.a0 (Gv.bb BK155.out hb)
               have n4_ := Gv.a0 (Gv.bb BK163.out hb)
               have n5_ := Gv.a0 (Gv.bb BK170.out hb)
               have n6_ := Gv.a0 (below_step Gv.bw hb)
               clear HO_6
               clear HO_7
               clear BK154
               clear BK155
               clear BK163
               clear BK170
               clear HB
               have HO_6 := n0_
               have HO_7 := n1_
               have BK154 := n2_
               have BK155 := n3_
               have BK163 := n4_
               have BK170 := n5_
               have HB := n6_
               clear n0_ n1_ n2_ n3_ n4_ n5_ n6_
               (try clear hb)
               (try clear hb2)
               (try clear hk)
               (try clear hi)
               refine hK.out _ _ ⟨(blk_cell BK155.out 0).trans rfl, (blk_cell BK155.out 1).trans rfl, (blk_cell BK155.out 2).trans rfl, (blk_cell BK163.out 0).trans rfl, (blk_cell BK163.out 1).trans rfl, (blk_cell BK163.out 2).trans rfl, (blk_cell BK163.out 3).trans rfl, HS7_, HS8_, HS9_⟩ (fun hHeld => ?_)
               clear hK K
               refine norm_ (a' := ?_) ?_ ?_
               rotate_left
               ·show Act.put _ (some 56) _ = _
                simp only [Act.put, List.setIfInBounds_toArray, List.set_cons_zero, List.set_cons_succ, i64_w, i32_w]
                rfl
               refine Gv.pu 7 (some 49) HT_ ?_
               refine Gv.pu 8 (some 57) HT_ ?_
               refine Gv.pu 9 (some 58) HT_ ?_
               exact norm_ (by simp only [putAll, Act.put, List.setIfInBounds_toArray, List.set_cons_zero, List.set_cons_succ]) (hCont (gb170) _ ⟨hHeld, (by (with_reducible repeat (first | apply Kd.R_alloc | apply Kd.R_drewN | apply Kd.R_drew)); exact Kd.R_mono HO_6.out (fun _ hk => ⟨hk.1.1, ⟨hk.1.2.1, ⟨hk.1.2.2, hk.2⟩⟩⟩)), (by (with_reducible repeat (first | apply Kd.R_alloc | apply Kd.R_drewN | apply Kd.R_drew)); exact Kd.R_mono HO_7.out (fun _ hk => ⟨hk.1.1, ⟨hk.1.2.1, ⟨hk.1.2.2, hk.2⟩⟩⟩)), Gv.bk, Gv.bk, Gv.bk, Gv.bk, GW170.out, GE170.out, NB154_170.out, NB170_154.out, NB155_170.out, NB170_155.out, NB163_170.out, NB170_163.out, Gv.bw⟩)
             rintro gb170 w55 ⟨hS_, h0_, h1_, h2_, h3_, h4_, h5_, h6_, h7_, h8_, h9_, h10_, h11_, h12_, h13_, h14_⟩
             have n0_ : Aside0 (Kd.R k26 26 w55 w.heap.size (fun k_ => some k_ ≠ (.slice (some ad165) x7_1.length co52 : Value).ownBlock ∧ k_ ≠ gb154 ∧ k_ ≠ gb155 ∧ k_ ≠ gb170) u6 x6_1) := ⟨h0_⟩
             have n1_ : Aside0 (Kd.R k26 26 w55 w.heap.size (fun k_ => some k_ ≠ (u6 : Value).ownBlock ∧ k_ ≠ gb154 ∧ k_ ≠ gb155 ∧ k_ ≠ gb170) (.slice (some ad165) x7_1.length co52) x7_1) := ⟨h1_⟩
             have n2_ : Aside0 (w55.heap[gb154]? = some (.cells #[.int .i64 x155000_1, .int .i64 x155001_1, .int .i64 x155002_1] 26 (0, 0))) := ⟨h2_⟩
             have n3_ : Aside0 (w55.heap[gb155]? = some (.cells #[.int .i64 x156000_1, .int .i64 x156001_1, .int .i64 x156002_1] 26 (0, 0))) := ⟨h3_⟩
             have n4_ : Aside0 (w55.heap[gb163]? = some (.cells #[.bool ((rd_T80 l0 x8_1).f0), .int .i64 ((rd_T80 l0 x8_1).f1.f0), .int .i64 ((rd_T80 l0 x8_1).f1.f1), .int .i64 ((rd_T80 l0 x8_1).f1.f2)] 80 (0, 0))) := ⟨h4_⟩
             have n5_ : Aside0 (w55.heap[gb170]? = some (.cells #[.int .i64 0, .int .i64 0, .int .i64 0] 26 (0, 0))) := ⟨h5_⟩
             have n6_ : Aside0 (w.heap.size ≤ gb170) := ⟨h6_⟩
             have n7_ : Aside0 (w.heap.size ≤ gb170) := ⟨h7_⟩
             have n8_ : Aside0 (gb154 ≠ gb170) := ⟨h8_⟩
             have n9_ : Aside0 (gb170 ≠ gb154) := ⟨h9_⟩
             have n10_ : Aside0 (gb155 ≠ gb170) := ⟨h10_⟩
             have n11_ : Aside0 (gb170 ≠ gb155) := ⟨h11_⟩
             have n12_ : Aside0 (gb163 ≠ gb170) := ⟨h12_⟩
             have n13_ : Aside0 (gb170 ≠ gb163) := ⟨h13_⟩
             have n14_ : Aside0 (Below w.heap.size w w55) := ⟨h14_⟩
             clear HO_6
             clear HO_7
             clear BK154
             clear BK155
             clear BK163
             clear HB
             clear h0_ h1_ h2_ h3_ h4_ h5_ h6_ h7_ h8_ h9_ h10_ h11_ h12_ h13_ h14_
             have HO_6 := n0_
             have HO_7 := n1_
             have BK154 := n2_
             have BK155 := n3_
             have BK163 := n4_
             have BK170 := n5_
             have GW170 := n6_
             have GE170 := n7_
             have NB154_170 := n8_
             have NB170_154 := n9_
             have NB155_170 := n10_
             have NB170_155 := n11_
             have NB163_170 := n12_
             have NB170_163 := n13_
             have HB := n14_
             clear n0_ n1_ n2_ n3_ n4_ n5_ n6_ n7_ n8_ n9_ n10_ n11_ n12_ n13_ n14_
             have hHeld : w55.cell? ⟨gb155, 0, none⟩ = some (.int .i64 x156000_1) ∧ w55.cell? ⟨gb155, 1, none⟩ = some (.int .i64 x156001_1) ∧ w55.cell? ⟨gb155, 2, none⟩ = some (.int .i64 x156002_1) ∧ w55.cell? ⟨gb163, 0, none⟩ = some (.bool ((rd_T80 l0 x8_1).f0)) ∧ w55.cell? ⟨gb163, 1, none⟩ = some (.int .i64 ((rd_T80 l0 x8_1).f1.f0)) ∧ w55.cell? ⟨gb163, 2, none⟩ = some (.int .i64 ((rd_T80 l0 x8_1).f1.f1)) ∧ w55.cell? ⟨gb163, 3, none⟩ = some (.int .i64 ((rd_T80 l0 x8_1).f1.f2)) ∧ w55.cell? ad165 = some (.int .i64 ((rd_T26 x7_1 0).f0)) ∧ w55.cell? ⟨ad165.block, ad165.off + 1, none⟩ = some (.int .i64 ((rd_T26 x7_1 0).f1)) ∧ w55.cell? ⟨ad165.block, ad165.off + 2, none⟩ = some (.int .i64 ((rd_T26 x7_1 0).f2)) := hS_
             refine norm_ (a' := ?_) ?_ ?_
             rotate_left
             ·simp only [putAll, Act.put, List.setIfInBounds_toArray, List.set_cons_zero, List.set_cons_succ]
              rfl
             refine one_ (i := 11) (N := none) #[true, true, true, true, true, true, true, true, true, true, true, true, false] rfl rfl (one_of HT_.out (by kernel_rfl)) (by decide) (fun K hK => ?_)
             have hs56 : w55.cell? ⟨gb170, 0, none⟩ = some (.int .i64 0) := (blk_cell BK170.out 0).trans rfl
             have hfs56 := blk_frozen BK170.out 0
             have hns56_0 := NB154_170.out
             have hns56_1 := NB155_170.out
             have hns56_2 := NB163_170.out
             have hms56_0 := NB170_154.out
             have hms56_1 := NB170_155.out
             have hms56_2 := NB170_163.out
             have hs57 : w55.cell? ⟨gb170, 1, none⟩ = some (.int .i64 0) := (blk_cell BK170.out 1).trans rfl
             have hfs57 := blk_frozen BK170.out 1
             have hns57_0 := NB154_170.out
             have hns57_1 := NB155_170.out
             have hns57_2 := NB163_170.out
             have hms57_0 := NB170_154.out
             have hms57_1 := NB170_155.out
             have hms57_2 := NB170_163.out
             have hs58 : w55.cell? ⟨gb170, 2, none⟩ = some (.int .i64 0) := (blk_cell BK170.out 2).trans rfl
             have hfs58 := blk_frozen BK170.out 2
             have hns58_0 := NB154_170.out
             have hns58_1 := NB155_170.out
             have hns58_2 := NB163_170.out
             have hms58_0 := NB170_154.out
             have hms58_1 := NB170_155.out
             have hms58_2 := NB170_163.out
             refine skip_ (w1 := ?_) (by rfl) rfl ?_ ?_
             rotate_left
             ·go_simp
              rfl
             refine hK.out _ _ ⟨((cell_far (p := ⟨gb170, _, none⟩) NB155_170.out _).trans (((cell_far (p := ⟨gb170, _, none⟩) NB155_170.out _).trans (((cell_far (p := ⟨gb170, _, none⟩) NB155_170.out _).trans (hHeld.1)))))), ((cell_far (p := ⟨gb170, _, none⟩) NB155_170.out _).trans (((cell_far (p := ⟨gb170, _, none⟩) NB155_170.out _).trans (((cell_far (p := ⟨gb170, _, none⟩) NB155_170.out _).trans (hHeld.2.1)))))), ((cell_far (p := ⟨gb170, _, none⟩) NB155_170.out _).trans (((cell_far (p := ⟨gb170, _, none⟩) NB155_170.out _).trans (((cell_far (p := ⟨gb170, _, none⟩) NB155_170.out _).trans (hHeld.2.2.1)))))), ((cell_far (p := ⟨gb170, _, none⟩) NB163_170.out _).trans (((cell_far (p := ⟨gb170, _, none⟩) NB163_170.out _).trans (((cell_far (p := ⟨gb170, _, none⟩) NB163_170.out _).trans (hHeld.2.2.2.1)))))), ((cell_far (p := ⟨gb170, _, none⟩) NB163_170.out _).trans (((cell_far (p := ⟨gb170, _, none⟩) NB163_170.out _).trans (((cell_far (p := ⟨gb170, _, none⟩) NB163_170.out _).trans (hHeld.2.2.2.2.1)))))), ((cell_far (p := ⟨gb170, _, none⟩) NB163_170.out _).trans (((cell_far (p := ⟨gb170, _, none⟩) NB163_170.out _).trans (((cell_far (p := ⟨gb170, _, none⟩) NB163_170.out _).trans (hHeld.2.2.2.2.2.1)))))), ((cell_far (p := ⟨gb170, _, none⟩) NB163_170.out _).trans (((cell_far (p := ⟨gb170, _, none⟩) NB163_170.out _).trans (((cell_far (p := ⟨gb170, _, none⟩) NB163_170.out _).trans (hHeld.2.2.2.2.2.2.1)))))), ((cell_far (p := ⟨gb170, _, none⟩) (by first | exact Kd.own_blk (Kd.R_away HO_7.out (fun _ hk => hk.2.2.2)) | (rw [add_block]; exact Kd.own_blk (Kd.R_away HO_7.out (fun _ hk => hk.2.2.2))) | (show (Addr.add _ _).block ≠ _; rw [add_block]; exact Kd.own_blk (Kd.R_away HO_7.out (fun _ hk => hk.2.2.2))) | (dsimp only; exact Kd.own_blk (Kd.R_away HO_7.out (fun _ hk => hk.2.2.2)))) _).trans (((cell_far (p := ⟨gb170, _, none⟩) (by first | exact Kd.own_blk (Kd.R_away HO_7.out (fun _ hk => hk.2.2.2)) | (rw [add_block]; exact Kd.own_blk (Kd.R_away HO_7.out (fun _ hk => hk.2.2.2))) | (show (Addr.add _ _).block ≠ _; rw [add_block]; exact Kd.own_blk (Kd.R_away HO_7.out (fun _ hk => hk.2.2.2))) | (dsimp only; exact Kd.own_blk (Kd.R_away HO_7.out (fun _ hk => hk.2.2.2)))) _).trans (((cell_far (p := ⟨gb170, _, none⟩) (by first | exact Kd.own_blk (Kd.R_away HO_7.out (fun _ hk => hk.2.2.2)) | (rw [add_block]; exact Kd.own_blk (Kd.R_away HO_7.out (fun _ hk => hk.2.2.2))) | (show (Addr.add _ _).block ≠ _; rw [add_block]; exact Kd.own_blk (Kd.R_away HO_7.out (fun _ hk => hk.2.2.2))) | (dsimp only; exact Kd.own_blk (Kd.R_away HO_7.out (fun _ hk => hk.2.2.2)))) _).trans (hHeld.2.2.2.2.2.2.2.1)))))), ((cell_far (p := ⟨gb170, _, none⟩) (by first | exact Kd.own_blk (Kd.R_away HO_7.out (fun _ hk => hk.2.2.2)) | (rw [add_block]; exact Kd.own_blk (Kd.R_away HO_7.out (fun _ hk => hk.2.2.2))) | (show (Addr.add _ _).block ≠ _; rw [add_block]; exact Kd.own_blk (Kd.R_away HO_7.out (fun _ hk => hk.2.2.2))) | (dsimp only; exact Kd.own_blk (Kd.R_away HO_7.out (fun _ hk => hk.2.2.2)))) _).trans (((cell_far (p := ⟨gb170, _, none⟩) (by first | exact Kd.own_blk (Kd.R_away HO_7.out (fun _ hk => hk.2.2.2)) | (rw [add_block]; exact Kd.own_blk (Kd.R_away HO_7.out (fun _ hk => hk.2.2.2))) | (show (Addr.add _ _).block ≠ _; rw [add_block]; exact Kd.own_blk (Kd.R_away HO_7.out (fun _ hk => hk.2.2.2))) | (dsimp only; exact Kd.own_blk (Kd.R_away HO_7.out (fun _ hk => hk.2.2.2)))) _).trans (((cell_far (p := ⟨gb170, _, none⟩) (by first | exact Kd.own_blk (Kd.R_away HO_7.out (fun _ hk => hk.2.2.2)) | (rw [add_block]; exact Kd.own_blk (Kd.R_away HO_7.out (fun _ hk => hk.2.2.2))) | (show (Addr.add _ _).block ≠ _; rw [add_block]; exact Kd.own_blk (Kd.R_away HO_7.out (fun _ hk => hk.2.2.2))) | (dsimp only; exact Kd.own_blk (Kd.R_away HO_7.out (fun _ hk => hk.2.2.2)))) _).trans (hHeld.2.2.2.2.2.2.2.2.1)))))), ((cell_far (p := ⟨gb170, _, none⟩) (by first | exact Kd.own_blk (Kd.R_away HO_7.out (fun _ hk => hk.2.2.2)) | (rw [add_block]; exact Kd.own_blk (Kd.R_away HO_7.out (fun _ hk => hk.2.2.2))) | (show (Addr.add _ _).block ≠ _; rw [add_block]; exact Kd.own_blk (Kd.R_away HO_7.out (fun _ hk => hk.2.2.2))) | (dsimp only; exact Kd.own_blk (Kd.R_away HO_7.out (fun _ hk => hk.2.2.2)))) _).trans (((cell_far (p := ⟨gb170, _, none⟩) (by first | exact Kd.own_blk (Kd.R_away HO_7.out (fun _ hk => hk.2.2.2)) | (rw [add_block]; exact Kd.own_blk (Kd.R_away HO_7.out (fun _ hk => hk.2.2.2))) | (show (Addr.add _ _).block ≠ _; rw [add_block]; exact Kd.own_blk (Kd.R_away HO_7.out (fun _ hk => hk.2.2.2))) | (dsimp only; exact Kd.own_blk (Kd.R_away HO_7.out (fun _ hk => hk.2.2.2)))) _).trans (((cell_far (p := ⟨gb170, _, none⟩) (by first | exact Kd.own_blk (Kd.R_away HO_7.out (fun _ hk => hk.2.2.2)) | (rw [add_block]; exact Kd.own_blk (Kd.R_away HO_7.out (fun _ hk => hk.2.2.2))) | (show (Addr.add _ _).block ≠ _; rw [add_block]; exact Kd.own_blk (Kd.R_away HO_7.out (fun _ hk => hk.2.2.2))) | (dsimp only; exact Kd.own_blk (Kd.R_away HO_7.out (fun _ hk => hk.2.2.2)))) _).trans (hHeld.2.2.2.2.2.2.2.2.2))))))⟩ (fun hHeld => ?_)
             clear hK K
             refine Gv.pu 12 (some 11) HT_ ?_
             refine done_ (done_of HT_.out (by kernel_rfl)) ?_
             have hnb59 := NB170_154.out
             have hnc59 := NB154_170.out
             have hnb60 := NB170_155.out
             have hnc60 := NB155_170.out
             have hnb61 := NB170_163.out
             have hnc61 := NB163_170.out
             have hcz62_0 : w55.cell? ⟨gb170, 0, none⟩ = some (.int .i64 0) := (blk_cell BK170.out 0).trans rfl
             have hcz62_1 : w55.cell? ⟨gb170, 1, none⟩ = some (.int .i64 0) := (blk_cell BK170.out 1).trans rfl
             have hcz62_2 : w55.cell? ⟨gb170, 2, none⟩ = some (.int .i64 0) := (blk_cell BK170.out 2).trans rfl
             have hfz62_0 := blk_frozen BK170.out 0
             have hfz62_1 := blk_frozen BK170.out 1
             have hfz62_2 := blk_frozen BK170.out 2
             have hnb63 := NB155_154.out
             have hnc63 := NB154_155.out
             have hcz64_0 : w55.cell? ⟨gb155, 0, none⟩ = some (.int .i64 x156000_1) := (blk_cell BK155.out 0).trans rfl
             have hcz64_1 : w55.cell? ⟨gb155, 1, none⟩ = some (.int .i64 x156001_1) := (blk_cell BK155.out 1).trans rfl
             have hcz64_2 : w55.cell? ⟨gb155, 2, none⟩ = some (.int .i64 x156002_1) := (blk_cell BK155.out 2).trans rfl
             have hfz64_0 := blk_frozen BK155.out 0
             have hfz64_1 := blk_frozen BK155.out 1
             have hfz64_2 := blk_frozen BK155.out 2
             try go_wp2_with (first | ((with_reducible refine gate_dst (N := 60) rfl ?_); (try (refine gate_guard (by rfl) ?_; dsimp only)); refine Kd.R_lit k26 _ 26 ?hg (N := 60) ?hd (xs := ([] : List (S26))) (inner := []) (ok := fun _ => True) (okp := fun _ => True) ?hr ?hp (fun _ hk => hk) trivial (Below.refl _ _) (Nat.le_refl _) (by simp) ?_; (case hd => rfl); (case hg => rfl); (case hr => first | (go_simp; done) | (go_simp; rfl)); (case hp => exact (Reps.none _ _)); intro v172 w65 ho66 hb hg_ hnew_; clear hg_ hnew_; (first | rw [← Ny171.out] at ho66 | (simp only [Int.reduceToNat] at ho66; rw [← Ny171.out] at ho66)); have n0_ := Gv.a0 (Kd.R_elder' (by (with_reducible repeat (first | apply Kd.R_alloc | apply Kd.R_drewN | apply Kd.R_drew)); exact (Kd.R_mono (Kd.R_mono (Kd.R_far (p := ⟨gb155, 2, none⟩) (Kd.R_far (p := ⟨gb155, 1, none⟩) (Kd.R_far (p := ⟨gb155, 0, none⟩) (Kd.R_far (p := ⟨gb170, 2, none⟩) (Kd.R_far (p := ⟨gb170, 1, none⟩) (Kd.R_far (p := ⟨gb170, 0, none⟩) (Kd.R_mono (Kd.R_mono HO_6.out (fun k_ hk => (⟨hk, hk.2.2.2⟩ : _ ∧ k_ ≠ gb170))) (fun k_ hk => (⟨hk, hk.1.2.2.1⟩ : _ ∧ k_ ≠ gb155))) (fun _ hk => hk.1.2) (.int .i64 t166)) (fun _ hk => hk.1.2) (.int .i64 t167)) (fun _ hk => hk.1.2) (.int .i64 t168)) (fun _ hk => hk.2) (.int .i64 t166)) (fun _ hk => hk.2) (.int .i64 t167)) (fun _ hk => hk.2) (.int .i64 t168)) (fun _ h_ => h_.1)) (fun _ h_ => h_.1))) (Kd.R_base ho66) hb); have n1_ := Gv.a0 (Kd.R_elder' (by (with_reducible repeat (first | apply Kd.R_alloc | apply Kd.R_drewN | apply Kd.R_drew)); exact (Kd.R_mono (Kd.R_mono (Kd.R_far (p := ⟨gb155, 2, none⟩) (Kd.R_far (p := ⟨gb155, 1, none⟩) (Kd.R_far (p := ⟨gb155, 0, none⟩) (Kd.R_far (p := ⟨gb170, 2, none⟩) (Kd.R_far (p := ⟨gb170, 1, none⟩) (Kd.R_far (p := ⟨gb170, 0, none⟩) (Kd.R_mono (Kd.R_mono HO_7.out (fun k_ hk => (⟨hk, hk.2.2.2⟩ : _ ∧ k_ ≠ gb170))) (fun k_ hk => (⟨hk, hk.1.2.2.1⟩ : _ ∧ k_ ≠ gb155))) (fun _ hk => hk.1.2) (.int .i64 t166)) (fun _ hk => hk.1.2) (.int .i64 t167)) (fun _ hk => hk.1.2) (.int .i64 t168)) (fun _ hk => hk.2) (.int .i64 t166)) (fun _ hk => hk.2) (.int .i64 t167)) (fun _ hk => hk.2) (.int .i64 t168)) (fun _ h_ => h_.1)) (fun _ h_ => h_.1))) (Kd.R_base ho66) hb); have n2_ := Gv.a0 (Kd.R_lower (Kd.R_newB (Kd.R_newB (Kd.R_newB (Kd.R_new' (Kd.R_new' ho66 (Kd.R_lt (by (with_reducible repeat (first | apply Kd.R_alloc | apply Kd.R_drewN | apply Kd.R_drew)); exact (Kd.R_mono (Kd.R_mono (Kd.R_far (p := ⟨gb155, 2, none⟩) (Kd.R_far (p := ⟨gb155, 1, none⟩) (Kd.R_far (p := ⟨gb155, 0, none⟩) (Kd.R_far (p := ⟨gb170, 2, none⟩) (Kd.R_far (p := ⟨gb170, 1, none⟩) (Kd.R_far (p := ⟨gb170, 0, none⟩) (Kd.R_mono (Kd.R_mono HO_6.out (fun k_ hk => (⟨hk, hk.2.2.2⟩ : _ ∧ k_ ≠ gb170))) (fun k_ hk => (⟨hk, hk.1.2.2.1⟩ : _ ∧ k_ ≠ gb155))) (fun _ hk => hk.1.2) (.int .i64 t166)) (fun _ hk => hk.1.2) (.int .i64 t167)) (fun _ hk => hk.1.2) (.int .i64 t168)) (fun _ hk => hk.2) (.int .i64 t166)) (fun _ hk => hk.2) (.int .i64 t167)) (fun _ hk => hk.2) (.int .i64 t168)) (fun _ h_ => h_.1)) (fun _ h_ => h_.1))))) (Kd.R_lt (by (with_reducible repeat (first | apply Kd.R_alloc | apply Kd.R_drewN | apply Kd.R_drew)); exact (Kd.R_mono (Kd.R_mono (Kd.R_far (p := ⟨gb155, 2, none⟩) (Kd.R_far (p := ⟨gb155, 1, none⟩) (Kd.R_far (p := ⟨gb155, 0, none⟩) (Kd.R_far (p := ⟨gb170, 2, none⟩) (Kd.R_far (p := ⟨gb170, 1, none⟩) (Kd.R_far (p := ⟨gb170, 0, none⟩) (Kd.R_mono (Kd.R_mono HO_7.out (fun k_ hk => (⟨hk, hk.2.2.2⟩ : _ ∧ k_ ≠ gb170))) (fun k_ hk => (⟨hk, hk.1.2.2.1⟩ : _ ∧ k_ ≠ gb155))) (fun _ hk => hk.1.2) (.int .i64 t166)) (fun _ hk => hk.1.2) (.int .i64 t167)) (fun _ hk => hk.1.2) (.int .i64 t168)) (fun _ hk => hk.2) (.int .i64 t166)) (fun _ hk => hk.2) (.int .i64 t167)) (fun _ hk => hk.2) (.int .i64 t168)) (fun _ h_ => h_.1)) (fun _ h_ => h_.1))))) (g := gb154) (o := .cells #[.int .i64 x155000_1, .int .i64 x155001_1, .int .i64 x155002_1] 26 (0, 0)) Gv.bkf) (g := gb155) (o := .cells #[.int .i64 t166, .int .i64 t167, .int .i64 t168] 26 (0, 0)) (by (with_reducible repeat (first | refine blk_drewN ?_ _ | refine blk_drew ?_ | refine blk_alloc ?_ _)); refine blk_put (cs := #[.int .i64 t166, .int .i64 t167, .int .i64 x156002_1]) ?_ 2 _ rfl; (with_reducible repeat (first | refine blk_drewN ?_ _ | refine blk_drew ?_ | refine blk_alloc ?_ _)); refine blk_put (cs := #[.int .i64 t166, .int .i64 x156001_1, .int .i64 x156002_1]) ?_ 1 _ rfl; (with_reducible repeat (first | refine blk_drewN ?_ _ | refine blk_drew ?_ | refine blk_alloc ?_ _)); refine blk_put (cs := #[.int .i64 x156000_1, .int .i64 x156001_1, .int .i64 x156002_1]) ?_ 0 _ rfl; (with_reducible repeat (first | refine blk_drewN ?_ _ | refine blk_drew ?_ | refine blk_alloc ?_ _)); refine blk_far ?_ NB155_170.out _; (with_reducible repeat (first | refine blk_drewN ?_ _ | refine blk_drew ?_ | refine blk_alloc ?_ _)); refine blk_far ?_ NB155_170.out _; (with_reducible repeat (first | refine blk_drewN ?_ _ | refine blk_drew ?_ | refine blk_alloc ?_ _)); refine blk_far ?_ NB155_170.out _; (with_reducible repeat (first | refine blk_drewN ?_ _ | refine blk_drew ?_ | refine blk_alloc ?_ _)); exact BK155.out)) (g := gb170) (o := .cells #[.int .i64 t166, .int .i64 t167, .int .i64 t168] 26 (0, 0)) (by (with_reducible repeat (first | refine blk_drewN ?_ _ | refine blk_drew ?_ | refine blk_alloc ?_ _)); refine blk_far ?_ NB170_155.out _; (with_reducible repeat (first | refine blk_drewN ?_ _ | refine blk_drew ?_ | refine blk_alloc ?_ _)); refine blk_far ?_ NB170_155.out _; (with_reducible repeat (first | refine blk_drewN ?_ _ | refine blk_drew ?_ | refine blk_alloc ?_ _)); refine blk_far ?_ NB170_155.out _; (with_reducible repeat (first | refine blk_drewN ?_ _ | refine blk_drew ?_ | refine blk_alloc ?_ _)); refine blk_put (cs := #[.int .i64 t166, .int .i64 t167, .int .i64 0]) ?_ 2 _ rfl; (with_reducible repeat (first | refine blk_drewN ?_ _ | refine blk_drew ?_ | refine blk_alloc ?_ _)); refine blk_put (cs := #[.int .i64 t166, .int .i64 0, .int .i64 0]) ?_ 1 _ rfl; (with_reducible repeat (first | refine blk_drewN ?_ _ | refine blk_drew ?_ | refine blk_alloc ?_ _)); refine blk_put (cs := #[.int .i64 0, .int .i64 0, .int .i64 0]) ?_ 0 _ rfl; (with_reducible repeat (first | refine blk_drewN ?_ _ | refine blk_drew ?_ | refine blk_alloc ?_ _)); exact BK170.out)) (below_size Gv.bw)); have n3_ := Gv.a0 (blk_below (g := gb154) (o := .cells #[.int .i64 x155000_1, .int .i64 x155001_1, .int .i64 x155002_1] 26 (0, 0)) Gv.bkf hb); have n4_ := Gv.a0 (blk_below (g := gb155) (o := .cells #[.int .i64 t166, .int .i64 t167, .int .i64 t168] 26 (0, 0)) (by (with_reducible repeat (first | refine blk_drewN ?_ _ | refine blk_drew ?_ | refine blk_alloc ?_ _)); refine blk_put (cs := #[.int .i64 t166, .int .i64 t167, .int .i64 x156002_1]) ?_ 2 _ rfl; (with_reducible repeat (first | refine blk_drewN ?_ _ | refine blk_drew ?_ | refine blk_alloc ?_ _)); refine blk_put (cs := #[.int .i64 t166, .int .i64 x156001_1, .int .i64 x156002_1]) ?_ 1 _ rfl; (with_reducible repeat (first | refine blk_drewN ?_ _ | refine blk_drew ?_ | refine blk_alloc ?_ _)); refine blk_put (cs := #[.int .i64 x156000_1, .int .i64 x156001_1, .int .i64 x156002_1]) ?_ 0 _ rfl; (with_reducible repeat (first | refine blk_drewN ?_ _ | refine blk_drew ?_ | refine blk_alloc ?_ _)); refine blk_far ?_ NB155_170.out _; (with_reducible repeat (first | refine blk_drewN ?_ _ | refine blk_drew ?_ | refine blk_alloc ?_ _)); refine blk_far ?_ NB155_170.out _; (with_reducible repeat (first | refine blk_drewN ?_ _ | refine blk_drew ?_ | refine blk_alloc ?_ _)); refine blk_far ?_ NB155_170.out _; (with_reducible repeat (first | refine blk_drewN ?_ _ | refine blk_drew ?_ | refine blk_alloc ?_ _)); exact BK155.out) hb); have n5_ := Gv.a0 (blk_below (g := gb163) (o := .cells #[.bool ((rd_T80 l0 x8_1).f0), .int .i64 ((rd_T80 l0 x8_1).f1.f0), .int .i64 ((rd_T80 l0 x8_1).f1.f1), .int .i64 ((rd_T80 l0 x8_1).f1.f2)] 80 (0, 0)) Gv.bkf hb); have n6_ := Gv.a0 (blk_below (g := gb170) (o := .cells #[.int .i64 t166, .int .i64 t167, .int .i64 t168] 26 (0, 0)) (by (with_reducible repeat (first | refine blk_drewN ?_ _ | refine blk_drew ?_ | refine blk_alloc ?_ _)); refine blk_far ?_ NB170_155.out _; (with_reducible repeat (first | refine blk_drewN ?_ _ | refine blk_drew ?_ | refine blk_alloc ?_ _)); refine blk_far ?_ NB170_155.out _; (with_reducible repeat (first | refine blk_drewN ?_ _ | refine blk_drew ?_ | refine blk_alloc ?_ _)); refine blk_far ?_ NB170_155.out _; (with_reducible repeat (first | refine blk_drewN ?_ _ | refine blk_drew ?_ | refine blk_alloc ?_ _)); refine blk_put (cs := #[.int .i64 t166, .int .i64 t167, .int .i64 0]) ?_ 2 _ rfl; (with_reducible repeat (first | refine blk_drewN ?_ _ | refine blk_drew ?_ | refine blk_alloc ?_ _)); refine blk_put (cs := #[.int .i64 t166, .int .i64 0, .int .i64 0]) ?_ 1 _ rfl; (with_reducible repeat (first | refine blk_drewN ?_ _ | refine blk_drew ?_ | refine blk_alloc ?_ _)); refine blk_put (cs := #[.int .i64 0, .int .i64 0, .int .i64 0]) ?_ 0 _ rfl; (with_reducible repeat (first | refine blk_drewN ?_ _ | refine blk_drew ?_ | refine blk_alloc ?_ _)); exact BK170.out) hb); have n7_ := Gv.a0 (below_step Gv.bw hb); clear HO_6; clear HO_7; clear BK154; clear BK155; clear BK163; clear BK170; clear HB; have HO_6 := n0_; have HO_7 := n1_; have HO173 := n2_; have BK154 := n3_; have BK155 := n4_; have BK163 := n5_; have BK170 := n6_; have HB := n7_; clear n0_ n1_ n2_ n3_ n4_ n5_ n6_ n7_; clear hb ho66; have q67 : (1 : Int) ≤ ((x7_1.length : Int) : Int) := of_decide_eq_true (by first | (with_reducible assumption) | assumption); obtain ⟨i067, hi067, _, hsz67, _⟩ := info_parts info26; have hroom67 : x7_1.length ≤ co52 := (Kd.R_reads' HO_7.out).2.1; have hC67 : Kd.C k26 _ (some ad165) x7_1.length x7_1 := (Kd.R_reads' HO_7.out).2.2; have hcut67 := cut_from (P := Try.prog) 55 26 .i64 Try.underlying55 hi067 3 hsz67 (some ad165) x7_1.length co52 1 (by omega) q67; have hr67 := Kd.C_drop (m := (1 : Int).toNat) (c := co52) hC67 (by omega) hroom67; obtain ⟨A67, hA67⟩ : ∃ A1, A1 = (if co52 = (1 : Int).toNat then (some ad165) else ((some ad165) : Option Addr).map (·.add ((1 : Int).toNat * 3))) := ⟨_, rfl⟩; obtain ⟨c67, hc67⟩ : ∃ c1, c1 = co52 - (1 : Int).toNat := ⟨_, rfl⟩; have hy67 : y174.length = x7_1.length - (1 : Int).toNat := (by rw [Ny174.out, List.length_drop] <;> omega); rw [show (x7_1).drop (1 : Int).toNat = y174 from Ny174.out.symm] at hr67; replace hr67 : Kd.C k26 _ A67 y174.length y174 := (by rw [hA67]; exact hr67); rw [← hy67, ← hA67, ← hc67] at hcut67; have HR177 := Gv.a0 hr67; have HC177 := Gv.a0 (show y174.length ≤ c67 from by rw [hy67, hc67]; exact Nat.sub_le_sub_right hroom67 _); clear hr67 hC67 hroom67 hi067 hsz67 hc67; have KY67 := Gv.a0 hy67; have KA67 := Gv.a0 hA67; clear hy67 hA67; have KL67 := Gv.a0 (show 1 ≤ x7_1.length from by omega); replace q67 := eq_true q67) | ((with_reducible refine gate_builtin (b := .append) (xs := #[.tmp 60, .tmp 62]) rfl ?_); (try (refine gate_guard (by rfl) ?_; dsimp only)); at_builtin; refine Kd.R_append_rows k26 (w0 := w) w.heap.size rfl (.tmp 60) (.tmp 62) 55 26 (.agg #[(.int .i64 0), (.int .i64 0), (.int .i64 0)]) 24 rfl Try.underlying55 info26 rfl (by decide) (by omega) v172 y171 y174 _ _ _ (fun k_ => some k_ ≠ (u6 : Value).ownBlock ∧ some k_ ≠ (.slice (some ad165) x7_1.length co52 : Value).ownBlock ∧ k_ ≠ gb154 ∧ k_ ≠ gb155 ∧ k_ ≠ gb170) (fun _ => False) rfl rfl ?aO ?aR (fun _ _ h => h) (fun _ h => h.elim) ?aF ?aB ?aS ?aL ?_; (case aR => repeat (first | exact (by repeat (first | (with_reducible exact HR177.out) | (with_reducible refine Kd.C_alloc ?_ _) | (with_reducible refine Kd.C_drewN ?_ _) | (with_reducible refine Kd.C_drew ?_) | exact HR177.out)) | (with_reducible refine Kd.C_alloc ?_ _) | (with_reducible refine Kd.C_drewN ?_ _) | (with_reducible refine Kd.C_drew ?_))); (case aB => exact Gv.bw); (case aF => exact (fun k_ hk => ⟨Kd.fresh' (Kd.R_lt (Gv.kr HO_6.out)) k_ hk, Kd.fresh' (Kd.R_lt (Gv.kr HO_7.out)) k_ hk, Kd.freshB (g := gb154) (o := .cells #[.int .i64 x155000_1, .int .i64 x155001_1, .int .i64 x155002_1] 26 (0, 0)) Gv.bk k_ hk, Kd.freshB (g := gb155) (o := .cells #[.int .i64 t166, .int .i64 t167, .int .i64 t168] 26 (0, 0)) Gv.bk k_ hk, Kd.freshB (g := gb170) (o := .cells #[.int .i64 t166, .int .i64 t167, .int .i64 t168] 26 (0, 0)) Gv.bk k_ hk⟩)); (case aO => exact (by (with_reducible repeat (first | apply Kd.R_alloc | apply Kd.R_drewN | apply Kd.R_drew)); exact Kd.R_mono HO173.out (fun _ hk => ⟨hk.1.1.1.1.2, ⟨hk.1.1.1.2, ⟨hk.1.1.2, ⟨hk.1.2, hk.2⟩⟩⟩⟩))); (case aS => exact (below_size Gv.bw)); (case aL => have := LMc47.out; omega); intro v179 w68 ho hb hg hat; rw [← Ny178.out] at ho; have n0_ := Gv.a0 (Kd.R_after (ok := (fun k_ => some k_ ≠ (.slice (some ad165) x7_1.length co52 : Value).ownBlock ∧ k_ ≠ gb154 ∧ k_ ≠ gb155 ∧ k_ ≠ gb170)) (Gv.kr HO_6.out) hg hat); have n1_ := Gv.a0 (Kd.R_after (ok := (fun k_ => some k_ ≠ (u6 : Value).ownBlock ∧ k_ ≠ gb154 ∧ k_ ≠ gb155 ∧ k_ ≠ gb170)) (Gv.kr HO_7.out) hg hat); have n2_ := Gv.a0 (blk_grown (g := gb154) (o := .cells #[.int .i64 x155000_1, .int .i64 x155001_1, .int .i64 x155002_1] 26 (0, 0)) Gv.bk hg (Kd.R_away HO173.out (fun _ hk => hk.1.1.2))); have n3_ := Gv.a0 (blk_grown (g := gb155) (o := .cells #[.int .i64 t166, .int .i64 t167, .int .i64 t168] 26 (0, 0)) Gv.bk hg (Kd.R_away HO173.out (fun _ hk => hk.1.2))); have n4_ := Gv.a0 (blk_grown (g := gb163) (o := .cells #[.bool ((rd_T80 l0 x8_1).f0), .int .i64 ((rd_T80 l0 x8_1).f1.f0), .int .i64 ((rd_T80 l0 x8_1).f1.f1), .int .i64 ((rd_T80 l0 x8_1).f1.f2)] 80 (0, 0)) Gv.bk hg (Kd.R_ne HO173.out BK163.out (by decide))); have n5_ := Gv.a0 (blk_grown (g := gb170) (o := .cells #[.int .i64 t166, .int .i64 t167, .int .i64 t168] 26 (0, 0)) Gv.bk hg (Kd.R_away HO173.out (fun _ hk => hk.2))); have n6_ := Gv.a0 (hb); have n7_ := Gv.a0 ((show Kd.C k26 w68 A67 y174.length y174 from by rw [Ny174.out, KA67.out]; exact Kd.C_drop (m := 1) (c := co52) ((Kd.R_reads' (Kd.R_after (ok := (fun k_ => some k_ ≠ (u6 : Value).ownBlock ∧ k_ ≠ gb154 ∧ k_ ≠ gb155 ∧ k_ ≠ gb170)) (Gv.kr HO_7.out) hg hat)).2.2) KL67.out ((Kd.R_reads' (Kd.R_after (ok := (fun k_ => some k_ ≠ (u6 : Value).ownBlock ∧ k_ ≠ gb154 ∧ k_ ≠ gb155 ∧ k_ ≠ gb170)) (Gv.kr HO_7.out) hg hat)).2.1))); have n8_ := Gv.a0 (ho); clear HO_6; clear HO_7; clear BK154; clear BK155; clear BK163; clear BK170; clear HB; clear HR177; clear HO173; have HO_6 := n0_; have HO_7 := n1_; have BK154 := n2_; have BK155 := n3_; have BK163 := n4_; have BK170 := n5_; have HB := n6_; have HR177 := n7_; have HO180 := n8_; clear n0_ n1_ n2_ n3_ n4_ n5_ n6_ n7_ n8_; clear ho hb hg hat))
             go_roundg kj14
             case measure => have := HK1.out; have := HJ14.out; omega
             case rel => (try rw [← Nbq22.out]); exact ⟨(x6_1), (y178), (wrap64 (x8_1 + 1)), (x155000_1), (x155001_1), (x155002_1), (t166), (t167), (t168), Gv.rq, H', ⟨by have := HK1.out; have := HJ14.out; omega⟩, ⟨by (with_reducible repeat (first | apply Kd.R_alloc | apply Kd.R_drewN | apply Kd.R_drew)); exact Kd.R_mono HO_6.out (fun _ hk => ⟨hk.2, ⟨hk.1.2.1, hk.1.2.2.1⟩⟩)⟩, ⟨by (with_reducible repeat (first | apply Kd.R_alloc | apply Kd.R_drewN | apply Kd.R_drew)); exact Kd.R_mono HO180.out (fun _ hk => ⟨hk.1, ⟨hk.2.2.1, hk.2.2.2.1⟩⟩)⟩, ⟨by (with_reducible repeat (first | refine blk_drewN ?_ _ | refine blk_drew ?_ | refine blk_alloc ?_ _)); exact BK154.out⟩, ⟨by (with_reducible repeat (first | refine blk_drewN ?_ _ | refine blk_drew ?_ | refine blk_alloc ?_ _)); exact BK155.out⟩, ⟨Gv.bw⟩⟩
            ·rw [if_neg c47] at H
             exact absurd H (by simp)
           ·rw [if_neg c46] at H
            exact absurd H (by simp)
          ·rw [if_neg c44] at H
           exact absurd H (by simp)
         ·rw [if_neg c43] at H
          have c43b0 : ((rd_T80 l0 x8_1).f0) = false := by simpa using c43
          clear c43
          replace H := Option.bind_eq_some_iff.mp H
          obtain ⟨⟨t181, t182, t183, t184, t185, t186⟩, A690, H⟩ := H
          replace H : (if x6_1.length < 5864062014805 then (if x7_1.length < 5864062014805 then (spec_CarryRun.l0 kj14 l0 (x6_1 ++ [(⟨t181, t182, t183⟩ : S26)]) (x7_1 ++ [(⟨((rd_T80 l0 x8_1).f1.f0), ((rd_T80 l0 x8_1).f1.f1), ((rd_T80 l0 x8_1).f1.f2)⟩ : S26)]) (wrap64 (x8_1 + 1)) t184 t185 t186) else (none)) else (none)) = some (r1, r2, r3, r4, r5) := H
          have A69 := Gv.a0 A690
          clear A690
          by_cases c70 : x6_1.length < 5864062014805
          ·rw [if_pos c70] at H
           have LMc70 := Gv.a0 c70
           clear c70
           obtain ⟨y189, hy189⟩ : ∃ y_ : List (S26), y_ = (x6_1 ++ [(⟨t181, t182, t183⟩ : S26)]) := ⟨_, rfl⟩
           replace H : (if x7_1.length < 5864062014805 then (spec_CarryRun.l0 kj14 l0 y189 (x7_1 ++ [(⟨((rd_T80 l0 x8_1).f1.f0), ((rd_T80 l0 x8_1).f1.f1), ((rd_T80 l0 x8_1).f1.f2)⟩ : S26)]) (wrap64 (x8_1 + 1)) t184 t185 t186) else (none)) = some (r1, r2, r3, r4, r5) := by first | (rw [hy189]; with_reducible exact H) | (have H2_ := (Option.bind_some _ _).symm.trans H; rw [hy189]; with_reducible exact H2_) | (have H2_ := (Option.bind_some _ _).symm.trans H; with_reducible exact H2_) | with_reducible exact H | (rw [hy189]; exact H) | exact H
           have Ny189 := Gv.a0 hy189
           clear hy189
           by_cases c71 : x7_1.length < 5864062014805
           ·rw [if_pos c71] at H
            have LMc71 := Gv.a0 c71
            clear c71
            obtain ⟨y192, hy192⟩ : ∃ y_ : List (S26), y_ = (x7_1 ++ [(⟨((rd_T80 l0 x8_1).f1.f0), ((rd_T80 l0 x8_1).f1.f1), ((rd_T80 l0 x8_1).f1.f2)⟩ : S26)]) := ⟨_, rfl⟩
            replace H : (spec_CarryRun.l0 kj14 l0 y189 y192 (wrap64 (x8_1 + 1)) t184 t185 t186) = some (r1, r2, r3, r4, r5) := by first | (rw [hy192]; with_reducible exact H) | (have H2_ := (Option.bind_some _ _).symm.trans H; rw [hy192]; with_reducible exact H2_) | (have H2_ := (Option.bind_some _ _).symm.trans H; with_reducible exact H2_) | with_reducible exact H | (rw [hy192]; exact H) | exact H
            have Ny192 := Gv.a0 hy192
            clear hy192
            have H' := Gv.a0 H
            clear H
            have hnb72 := NB163_154.out
            have hnc72 := NB154_163.out
            have hnb73 := NB163_155.out
            have hnc73 := NB155_163.out
            obtain ⟨hcz74_0, hcz74_1, hcz74_2, hcz74_3⟩ := Gv.c4 BK163.out
            obtain ⟨hfz74_0, hfz74_1, hfz74_2, hfz74_3⟩ := Gv.f4 BK163.out
            have hnb75 := NB155_154.out
            have hnc75 := NB154_155.out
            have hcz76_0 : wc.cell? ⟨gb155, 0, none⟩ = some (.int .i64 x156000_1) := (blk_cell BK155.out 0).trans rfl
            have hcz76_1 : wc.cell? ⟨gb155, 1, none⟩ = some (.int .i64 x156001_1) := (blk_cell BK155.out 1).trans rfl
            have hcz76_2 : wc.cell? ⟨gb155, 2, none⟩ = some (.int .i64 x156002_1) := (blk_cell BK155.out 2).trans rfl
            have hfz76_0 := blk_frozen BK155.out 0
            have hfz76_1 := blk_frozen BK155.out 1
            have hfz76_2 := blk_frozen BK155.out 2
            go_wp2_with (first | ((with_reducible refine gate_callee (f := 25) rfl ?_); refine goesL_ (some 68) rfl rfl Try.func25 (by kernel_rfl) rfl #[.agg #[.int .i64 ((rd_T80 l0 x8_1).f1.f0), .int .i64 ((rd_T80 l0 x8_1).f1.f1), .int .i64 ((rd_T80 l0 x8_1).f1.f2)], .agg #[.int .i64 x156000_1, .int .i64 x156001_1, .int .i64 x156002_1]] rfl Gv.lm ?_; (with_reducible refine (spec_Charge.calls kj14 _ _ _ x156000_1 x156001_1 x156002_1 t181 t182 t183 t184 t185 t186 _ A69.out).mono ?_); rintro e w77 ⟨rfl, hb⟩; refine ⟨_, rfl, ?_⟩; have n0_ := Gv.a0 (Kd.R_below (Gv.kr HO_6.out) hb); have n1_ := Gv.a0 (Kd.R_below (Gv.kr HO_7.out) hb); have n2_ := Gv.a0 (Gv.bb BK154.out hb); have n3_ := Gv.a0 (Gv.bb BK155.out hb); have n4_ := Gv.a0 (Gv.bb BK163.out hb); have n5_ := Gv.a0 (below_step Gv.bw hb); clear HO_6; clear HO_7; clear BK154; clear BK155; clear BK163; clear HB; have HO_6 := n0_; have HO_7 := n1_; have BK154 := n2_; have BK155 := n3_; have BK163 := n4_; have HB := n5_; clear n0_ n1_ n2_ n3_ n4_ n5_; (try clear hb); (try clear hb2); (try clear hk); (try clear hi)) | ((with_reducible refine gate_dst (N := 12) rfl ?_); (try (refine gate_guard (by rfl) ?_; dsimp only)); refine box_event ?hg (N := 12) ?hd (cs := #[.int .i64 0, .int .i64 0, .int .i64 0]) (t := 26) ?hr ?_; (case hd => rfl); (case hg => rfl); (case hr => first | (go_simp; done) | (go_simp; rfl)); intro gb187 hg w78 hbox hb; have n0_ := Gv.a0 (Kd.R_below (Kd.R_elderB (Gv.kr HO_6.out) gb187 (Nat.le_of_eq hg.symm)) hb); have n1_ := Gv.a0 (Kd.R_below (Kd.R_elderB (Gv.kr HO_7.out) gb187 (Nat.le_of_eq hg.symm)) hb); have n2_ := Gv.a0 (Gv.bb BK154.out hb); have n3_ := Gv.a0 (Gv.bb BK155.out hb); have n4_ := Gv.a0 (Gv.bb BK163.out hb); have n5_ := Gv.a0 (below_step Gv.bw hb); have n6_ := Gv.a0 (hbox); have n7_ := Gv.a0 ((Gv.ble hg Gv.bw : w.heap.size ≤ gb187)); have n8_ := Gv.a0 ((Gv.ble hg Gv.bw : w.heap.size ≤ gb187)); have n9_ := Gv.a0 ((Gv.nlt hg (Gv.kb BK154.out) : gb154 ≠ gb187)); have n10_ := Gv.a0 ((Gv.ngt hg (Gv.kb BK154.out) : gb187 ≠ gb154)); have n11_ := Gv.a0 ((Gv.nlt hg (Gv.kb BK155.out) : gb155 ≠ gb187)); have n12_ := Gv.a0 ((Gv.ngt hg (Gv.kb BK155.out) : gb187 ≠ gb155)); have n13_ := Gv.a0 ((Gv.nlt hg (Gv.kb BK163.out) : gb163 ≠ gb187)); have n14_ := Gv.a0 ((Gv.ngt hg (Gv.kb BK163.out) : gb187 ≠ gb163)); clear HO_6; clear HO_7; clear BK154; clear BK155; clear BK163; clear HB; have HO_6 := n0_; have HO_7 := n1_; have BK154 := n2_; have BK155 := n3_; have BK163 := n4_; have HB := n5_; have BK187 := n6_; have GW187 := n7_; have GE187 := n8_; have NB154_187 := n9_; have NB187_154 := n10_; have NB155_187 := n11_; have NB187_155 := n12_; have NB163_187 := n13_; have NB187_163 := n14_; clear n0_ n1_ n2_ n3_ n4_ n5_ n6_ n7_ n8_ n9_ n10_ n11_ n12_ n13_ n14_; clear hb hbox hg) | ((with_reducible refine gate_dst (N := 13) rfl ?_); (try (refine gate_guard (by rfl) ?_; dsimp only)); refine box_event ?hg (N := 13) ?hd (cs := #[.int .i64 0, .int .i64 0, .int .i64 0]) (t := 26) ?hr ?_; (case hd => rfl); (case hg => rfl); (case hr => first | (go_simp; done) | (go_simp; rfl)); intro gb188 hg w79 hbox hb; have n0_ := Gv.a0 (Kd.R_below (Kd.R_elderB (Gv.kr HO_6.out) gb188 (Nat.le_of_eq hg.symm)) hb); have n1_ := Gv.a0 (Kd.R_below (Kd.R_elderB (Gv.kr HO_7.out) gb188 (Nat.le_of_eq hg.symm)) hb); have n2_ := Gv.a0 (Gv.bb BK154.out hb); have n3_ := Gv.a0 (Gv.bb BK155.out hb); have n4_ := Gv.a0 (Gv.bb BK163.out hb); have n5_ := Gv.a0 (Gv.bb BK187.out hb); have n6_ := Gv.a0 (below_step Gv.bw hb); have n7_ := Gv.a0 (hbox); have n8_ := Gv.a0 ((Gv.ble hg Gv.bw : w.heap.size ≤ gb188)); have n9_ := Gv.a0 ((Gv.ble hg Gv.bw : w.heap.size ≤ gb188)); have n10_ := Gv.a0 ((Gv.nlt hg (Gv.kb BK154.out) : gb154 ≠ gb188)); have n11_ := Gv.a0 ((Gv.ngt hg (Gv.kb BK154.out) : gb188 ≠ gb154)); have n12_ := Gv.a0 ((Gv.nlt hg (Gv.kb BK155.out) : gb155 ≠ gb188)); have n13_ := Gv.a0 ((Gv.ngt hg (Gv.kb BK155.out) : gb188 ≠ gb155)); have n14_ := Gv.a0 ((Gv.nlt hg (Gv.kb BK163.out) : gb163 ≠ gb188)); have n15_ := Gv.a0 ((Gv.ngt hg (Gv.kb BK163.out) : gb188 ≠ gb163)); have n16_ := Gv.a0 ((Gv.nlt hg (Gv.kb BK187.out) : gb187 ≠ gb188)); have n17_ := Gv.a0 ((Gv.ngt hg (Gv.kb BK187.out) : gb188 ≠ gb187)); clear HO_6; clear HO_7; clear BK154; clear BK155; clear BK163; clear BK187; clear HB; have HO_6 := n0_; have HO_7 := n1_; have BK154 := n2_; have BK155 := n3_; have BK163 := n4_; have BK187 := n5_; have HB := n6_; have BK188 := n7_; have GW188 := n8_; have GE188 := n9_; have NB154_188 := n10_; have NB188_154 := n11_; have NB155_188 := n12_; have NB188_155 := n13_; have NB163_188 := n14_; have NB188_163 := n15_; have NB187_188 := n16_; have NB188_187 := n17_; clear n0_ n1_ n2_ n3_ n4_ n5_ n6_ n7_ n8_ n9_ n10_ n11_ n12_ n13_ n14_ n15_ n16_ n17_; clear hb hbox hg; have hnb80 := NB187_154.out; have hnc80 := NB154_187.out; have hnb81 := NB187_155.out; have hnc81 := NB155_187.out; have hnb82 := NB187_163.out; have hnc82 := NB163_187.out; have hnb83 := NB187_188.out; have hnc83 := NB188_187.out; have hcz84_0 : w79.cell? ⟨gb187, 0, none⟩ = some (.int .i64 0) := (blk_cell BK187.out 0).trans rfl; have hcz84_1 : w79.cell? ⟨gb187, 1, none⟩ = some (.int .i64 0) := (blk_cell BK187.out 1).trans rfl; have hcz84_2 : w79.cell? ⟨gb187, 2, none⟩ = some (.int .i64 0) := (blk_cell BK187.out 2).trans rfl; have hfz84_0 := blk_frozen BK187.out 0; have hfz84_1 := blk_frozen BK187.out 1; have hfz84_2 := blk_frozen BK187.out 2; have hnb85 := NB188_154.out; have hnc85 := NB154_188.out; have hnb86 := NB188_155.out; have hnc86 := NB155_188.out; have hnb87 := NB188_163.out; have hnc87 := NB163_188.out; have hcz88_0 : w79.cell? ⟨gb188, 0, none⟩ = some (.int .i64 0) := (blk_cell BK188.out 0).trans rfl; have hcz88_1 : w79.cell? ⟨gb188, 1, none⟩ = some (.int .i64 0) := (blk_cell BK188.out 1).trans rfl; have hcz88_2 : w79.cell? ⟨gb188, 2, none⟩ = some (.int .i64 0) := (blk_cell BK188.out 2).trans rfl; have hfz88_0 := blk_frozen BK188.out 0; have hfz88_1 := blk_frozen BK188.out 1; have hfz88_2 := blk_frozen BK188.out 2) | ((with_reducible refine gate_builtin (b := .append) (xs := #[.tmp 71, .tmp 73]) rfl ?_); (try (refine gate_guard (by rfl) ?_; dsimp only)); at_builtin; refine Kd.R_append k26 (w0 := w) w.heap.size rfl (.tmp 71) (.tmp 73) 55 26 (.agg #[(.int .i64 0), (.int .i64 0), (.int .i64 0)]) 24 rfl Try.underlying55 info26 rfl (by decide) (by omega) u6 x6_1 (⟨t181, t182, t183⟩ : S26) [.int .i64 t181, .int .i64 t182, .int .i64 t183] (fun k_ => some k_ ≠ (u7 : Value).ownBlock ∧ k_ ≠ gb154 ∧ k_ ≠ gb155 ∧ k_ ≠ gb187 ∧ k_ ≠ gb188) (fun _ => False) rfl (by first | (go_simp; done) | (go_simp; rfl)) ?aP (fun _ hk => hk.elim) ?aF ?aO ?aB ?aS ?aL ?_; (case aP => exact k26_mkM _ _ _ (⟨t181, t182, t183⟩ : S26)); (case aB => exact Gv.bw); (case aF => exact (fun k_ hk => ⟨Kd.fresh' (Kd.R_lt (by (with_reducible repeat (first | apply Kd.R_alloc | apply Kd.R_drewN | apply Kd.R_drew)); exact (Kd.R_mono (Kd.R_mono (Kd.R_far (p := ⟨gb188, 2, none⟩) (Kd.R_far (p := ⟨gb188, 1, none⟩) (Kd.R_far (p := ⟨gb188, 0, none⟩) (Kd.R_far (p := ⟨gb187, 2, none⟩) (Kd.R_far (p := ⟨gb187, 1, none⟩) (Kd.R_far (p := ⟨gb187, 0, none⟩) (Kd.R_mono (Kd.R_mono HO_7.out (fun k_ hk => (⟨hk, hk.1.2⟩ : _ ∧ k_ ≠ gb187))) (fun k_ hk => (⟨hk, hk.1.2⟩ : _ ∧ k_ ≠ gb188))) (fun _ hk => hk.1.2) (.int .i64 t181)) (fun _ hk => hk.1.2) (.int .i64 t182)) (fun _ hk => hk.1.2) (.int .i64 t183)) (fun _ hk => hk.2) (.int .i64 t184)) (fun _ hk => hk.2) (.int .i64 t185)) (fun _ hk => hk.2) (.int .i64 t186)) (fun _ h_ => h_.1)) (fun _ h_ => h_.1)))) k_ hk, Kd.freshB (g := gb154) (o := .cells #[.int .i64 x155000_1, .int .i64 x155001_1, .int .i64 x155002_1] 26 (0, 0)) Gv.bkf k_ hk, Kd.freshB (g := gb155) (o := .cells #[.int .i64 x156000_1, .int .i64 x156001_1, .int .i64 x156002_1] 26 (0, 0)) Gv.bkf k_ hk, Kd.freshB (g := gb187) (o := .cells #[.int .i64 t181, .int .i64 t182, .int .i64 t183] 26 (0, 0)) (by (with_reducible repeat (first | refine blk_drewN ?_ _ | refine blk_drew ?_ | refine blk_alloc ?_ _)); refine blk_far ?_ NB187_188.out _; (with_reducible repeat (first | refine blk_drewN ?_ _ | refine blk_drew ?_ | refine blk_alloc ?_ _)); refine blk_far ?_ NB187_188.out _; (with_reducible repeat (first | refine blk_drewN ?_ _ | refine blk_drew ?_ | refine blk_alloc ?_ _)); refine blk_far ?_ NB187_188.out _; (with_reducible repeat (first | refine blk_drewN ?_ _ | refine blk_drew ?_ | refine blk_alloc ?_ _)); refine blk_put (cs := #[.int .i64 t181, .int .i64 t182, .int .i64 0]) ?_ 2 _ rfl; (with_reducible repeat (first | refine blk_drewN ?_ _ | refine blk_drew ?_ | refine blk_alloc ?_ _)); refine blk_put (cs := #[.int .i64 t181, .int .i64 0, .int .i64 0]) ?_ 1 _ rfl; (with_reducible repeat (first | refine blk_drewN ?_ _ | refine blk_drew ?_ | refine blk_alloc ?_ _)); refine blk_put (cs := #[.int .i64 0, .int .i64 0, .int .i64 0]) ?_ 0 _ rfl; (with_reducible repeat (first | refine blk_drewN ?_ _ | refine blk_drew ?_ | refine blk_alloc ?_ _)); exact BK187.out) k_ hk, Kd.freshB (g := gb188) (o := .cells #[.int .i64 t184, .int .i64 t185, .int .i64 t186] 26 (0, 0)) (by (with_reducible repeat (first | refine blk_drewN ?_ _ | refine blk_drew ?_ | refine blk_alloc ?_ _)); refine blk_put (cs := #[.int .i64 t184, .int .i64 t185, .int .i64 0]) ?_ 2 _ rfl; (with_reducible repeat (first | refine blk_drewN ?_ _ | refine blk_drew ?_ | refine blk_alloc ?_ _)); refine blk_put (cs := #[.int .i64 t184, .int .i64 0, .int .i64 0]) ?_ 1 _ rfl; (with_reducible repeat (first | refine blk_drewN ?_ _ | refine blk_drew ?_ | refine blk_alloc ?_ _)); refine blk_put (cs := #[.int .i64 0, .int .i64 0, .int .i64 0]) ?_ 0 _ rfl; (with_reducible repeat (first | refine blk_drewN ?_ _ | refine blk_drew ?_ | refine blk_alloc ?_ _)); refine blk_far ?_ NB188_187.out _; (with_reducible repeat (first | refine blk_drewN ?_ _ | refine blk_drew ?_ | refine blk_alloc ?_ _)); refine blk_far ?_ NB188_187.out _; (with_reducible repeat (first | refine blk_drewN ?_ _ | refine blk_drew ?_ | refine blk_alloc ?_ _)); refine blk_far ?_ NB188_187.out _; (with_reducible repeat (first | refine blk_drewN ?_ _ | refine blk_drew ?_ | refine blk_alloc ?_ _)); exact BK188.out) k_ hk⟩)); (case aO => exact (by (with_reducible repeat (first | apply Kd.R_alloc | apply Kd.R_drewN | apply Kd.R_drew)); exact Kd.R_mono (Kd.R_far (p := ⟨gb188, 2, none⟩) (Kd.R_far (p := ⟨gb188, 1, none⟩) (Kd.R_far (p := ⟨gb188, 0, none⟩) (Kd.R_far (p := ⟨gb187, 2, none⟩) (Kd.R_far (p := ⟨gb187, 1, none⟩) (Kd.R_far (p := ⟨gb187, 0, none⟩) (Kd.R_mono (Kd.R_mono HO_6.out (fun k_ hk => (⟨hk, hk.1.2⟩ : _ ∧ k_ ≠ gb187))) (fun k_ hk => (⟨hk, hk.1.2⟩ : _ ∧ k_ ≠ gb188))) (fun _ hk => hk.1.2) (.int .i64 t181)) (fun _ hk => hk.1.2) (.int .i64 t182)) (fun _ hk => hk.1.2) (.int .i64 t183)) (fun _ hk => hk.2) (.int .i64 t184)) (fun _ hk => hk.2) (.int .i64 t185)) (fun _ hk => hk.2) (.int .i64 t186)) (fun _ hk => ⟨hk.1.1.1.1.1, ⟨hk.1.1.1.1.2.1, ⟨hk.1.1.1.1.2.2, ⟨hk.1.1.1.2, hk.1.1.2⟩⟩⟩⟩))); (case aS => exact (below_size Gv.bw)); (case aL => have := LMc70.out; omega); intro v190 w89 ho hb hg hat; rw [← Ny189.out] at ho; have n0_ := Gv.a0 (Kd.R_after (ok := (fun k_ => k_ ≠ gb154 ∧ k_ ≠ gb155 ∧ k_ ≠ gb187 ∧ k_ ≠ gb188)) (by (with_reducible repeat (first | apply Kd.R_alloc | apply Kd.R_drewN | apply Kd.R_drew)); exact Kd.R_mono (Kd.R_far (p := ⟨gb188, 2, none⟩) (Kd.R_far (p := ⟨gb188, 1, none⟩) (Kd.R_far (p := ⟨gb188, 0, none⟩) (Kd.R_far (p := ⟨gb187, 2, none⟩) (Kd.R_far (p := ⟨gb187, 1, none⟩) (Kd.R_far (p := ⟨gb187, 0, none⟩) (Kd.R_mono (Kd.R_mono HO_7.out (fun k_ hk => (⟨hk, hk.1.2⟩ : _ ∧ k_ ≠ gb187))) (fun k_ hk => (⟨hk, hk.1.2⟩ : _ ∧ k_ ≠ gb188))) (fun _ hk => hk.1.2) (.int .i64 t181)) (fun _ hk => hk.1.2) (.int .i64 t182)) (fun _ hk => hk.1.2) (.int .i64 t183)) (fun _ hk => hk.2) (.int .i64 t184)) (fun _ hk => hk.2) (.int .i64 t185)) (fun _ hk => hk.2) (.int .i64 t186)) (fun _ hk => ⟨⟨hk.1.1.1.1.2.1, ⟨hk.1.1.1.1.2.2, ⟨hk.1.1.1.2, hk.1.1.2⟩⟩⟩, hk.1.1.1.1.1⟩)) hg hat); have n1_ := Gv.a0 (blk_grown (g := gb154) (o := .cells #[.int .i64 x155000_1, .int .i64 x155001_1, .int .i64 x155002_1] 26 (0, 0)) Gv.bkf hg (Kd.R_away HO_6.out (fun _ hk => hk.1.1.2.1))); have n2_ := Gv.a0 (blk_grown (g := gb155) (o := .cells #[.int .i64 x156000_1, .int .i64 x156001_1, .int .i64 x156002_1] 26 (0, 0)) Gv.bkf hg (Kd.R_away HO_6.out (fun _ hk => hk.1.1.2.2))); have n3_ := Gv.a0 (blk_grown (g := gb163) (o := .cells #[.bool ((rd_T80 l0 x8_1).f0), .int .i64 ((rd_T80 l0 x8_1).f1.f0), .int .i64 ((rd_T80 l0 x8_1).f1.f1), .int .i64 ((rd_T80 l0 x8_1).f1.f2)] 80 (0, 0)) Gv.bkf hg (Kd.R_ne HO_6.out BK163.out (by decide))); have n4_ := Gv.a0 (blk_grown (g := gb187) (o := .cells #[.int .i64 t181, .int .i64 t182, .int .i64 t183] 26 (0, 0)) (by (with_reducible repeat (first | refine blk_drewN ?_ _ | refine blk_drew ?_ | refine blk_alloc ?_ _)); refine blk_far ?_ NB187_188.out _; (with_reducible repeat (first | refine blk_drewN ?_ _ | refine blk_drew ?_ | refine blk_alloc ?_ _)); refine blk_far ?_ NB187_188.out _; (with_reducible repeat (first | refine blk_drewN ?_ _ | refine blk_drew ?_ | refine blk_alloc ?_ _)); refine blk_far ?_ NB187_188.out _; (with_reducible repeat (first | refine blk_drewN ?_ _ | refine blk_drew ?_ | refine blk_alloc ?_ _)); refine blk_put (cs := #[.int .i64 t181, .int .i64 t182, .int .i64 0]) ?_ 2 _ rfl; (with_reducible repeat (first | refine blk_drewN ?_ _ | refine blk_drew ?_ | refine blk_alloc ?_ _)); refine blk_put (cs := #[.int .i64 t181, .int .i64 0, .int .i64 0]) ?_ 1 _ rfl; (with_reducible repeat (first | refine blk_drewN ?_ _ | refine blk_drew ?_ | refine blk_alloc ?_ _)); refine blk_put (cs := #[.int .i64 0, .int .i64 0, .int .i64 0]) ?_ 0 _ rfl; (with_reducible repeat (first | refine blk_drewN ?_ _ | refine blk_drew ?_ | refine blk_alloc ?_ _)); exact BK187.out) hg (Kd.R_away HO_6.out (fun _ hk => hk.1.2))); have n5_ := Gv.a0 (blk_grown (g := gb188) (o := .cells #[.int .i64 t184, .int .i64 t185, .int .i64 t186] 26 (0, 0)) (by (with_reducible repeat (first | refine blk_drewN ?_ _ | refine blk_drew ?_ | refine blk_alloc ?_ _)); refine blk_put (cs := #[.int .i64 t184, .int .i64 t185, .int .i64 0]) ?_ 2 _ rfl; (with_reducible repeat (first | refine blk_drewN ?_ _ | refine blk_drew ?_ | refine blk_alloc ?_ _)); refine blk_put (cs := #[.int .i64 t184, .int .i64 0, .int .i64 0]) ?_ 1 _ rfl; (with_reducible repeat (first | refine blk_drewN ?_ _ | refine blk_drew ?_ | refine blk_alloc ?_ _)); refine blk_put (cs := #[.int .i64 0, .int .i64 0, .int .i64 0]) ?_ 0 _ rfl; (with_reducible repeat (first | refine blk_drewN ?_ _ | refine blk_drew ?_ | refine blk_alloc ?_ _)); refine blk_far ?_ NB188_187.out _; (with_reducible repeat (first | refine blk_drewN ?_ _ | refine blk_drew ?_ | refine blk_alloc ?_ _)); refine blk_far ?_ NB188_187.out _; (with_reducible repeat (first | refine blk_drewN ?_ _ | refine blk_drew ?_ | refine blk_alloc ?_ _)); refine blk_far ?_ NB188_187.out _; (with_reducible repeat (first | refine blk_drewN ?_ _ | refine blk_drew ?_ | refine blk_alloc ?_ _)); exact BK188.out) hg (Kd.R_away HO_6.out (fun _ hk => hk.2))); have n6_ := Gv.a0 (hb); have n7_ := Gv.a0 (ho); clear HO_7; clear BK154; clear BK155; clear BK163; clear BK187; clear BK188; clear HB; clear HO_6; have HO_7 := n0_; have BK154 := n1_; have BK155 := n2_; have BK163 := n3_; have BK187 := n4_; have BK188 := n5_; have HB := n6_; have HO191 := n7_; clear n0_ n1_ n2_ n3_ n4_ n5_ n6_ n7_; clear ho hb hg hat; have hcz90_0 : w89.cell? ⟨gb188, 0, none⟩ = some (.int .i64 t184) := (blk_cell BK188.out 0).trans rfl; have hcz90_1 : w89.cell? ⟨gb188, 1, none⟩ = some (.int .i64 t185) := (blk_cell BK188.out 1).trans rfl; have hcz90_2 : w89.cell? ⟨gb188, 2, none⟩ = some (.int .i64 t186) := (blk_cell BK188.out 2).trans rfl; have hfz90_0 := blk_frozen BK188.out 0; have hfz90_1 := blk_frozen BK188.out 1; have hfz90_2 := blk_frozen BK188.out 2; have hcz91_0 : w89.cell? ⟨gb155, 0, none⟩ = some (.int .i64 x156000_1) := (blk_cell BK155.out 0).trans rfl; have hcz91_1 : w89.cell? ⟨gb155, 1, none⟩ = some (.int .i64 x156001_1) := (blk_cell BK155.out 1).trans rfl; have hcz91_2 : w89.cell? ⟨gb155, 2, none⟩ = some (.int .i64 x156002_1) := (blk_cell BK155.out 2).trans rfl; have hfz91_0 := blk_frozen BK155.out 0; have hfz91_1 := blk_frozen BK155.out 1; have hfz91_2 := blk_frozen BK155.out 2; obtain ⟨hcz92_0, hcz92_1, hcz92_2, hcz92_3⟩ := Gv.c4 BK163.out; obtain ⟨hfz92_0, hfz92_1, hfz92_2, hfz92_3⟩ := Gv.f4 BK163.out) | ((with_reducible refine gate_builtin (b := .append) (xs := #[.tmp 76, .tmp 79]) rfl ?_); (try (refine gate_guard (by rfl) ?_; dsimp only)); at_builtin; refine Kd.R_append k26 (w0 := w) w.heap.size rfl (.tmp 76) (.tmp 79) 55 26 (.agg #[(.int .i64 0), (.int .i64 0), (.int .i64 0)]) 24 rfl Try.underlying55 info26 rfl (by decide) (by omega) u7 x7_1 (⟨((rd_T80 l0 x8_1).f1.f0), ((rd_T80 l0 x8_1).f1.f1), ((rd_T80 l0 x8_1).f1.f2)⟩ : S26) [.int .i64 ((rd_T80 l0 x8_1).f1.f0), .int .i64 ((rd_T80 l0 x8_1).f1.f1), .int .i64 ((rd_T80 l0 x8_1).f1.f2)] (fun k_ => some k_ ≠ (v190 : Value).ownBlock ∧ k_ ≠ gb154 ∧ k_ ≠ gb155 ∧ k_ ≠ gb187 ∧ k_ ≠ gb188) (fun _ => False) rfl (by first | (go_simp; done) | (go_simp; rfl)) ?aP (fun _ hk => hk.elim) ?aF ?aO ?aB ?aS ?aL ?_; (case aP => exact k26_mkM _ _ _ (⟨((rd_T80 l0 x8_1).f1.f0), ((rd_T80 l0 x8_1).f1.f1), ((rd_T80 l0 x8_1).f1.f2)⟩ : S26)); (case aB => exact Gv.bw); (case aF => exact (fun k_ hk => ⟨Kd.fresh' (Kd.R_lt (by (with_reducible repeat (first | apply Kd.R_alloc | apply Kd.R_drewN | apply Kd.R_drew)); exact (Kd.R_mono (Kd.R_far (p := ⟨gb155, 2, none⟩) (Kd.R_far (p := ⟨gb155, 1, none⟩) (Kd.R_far (p := ⟨gb155, 0, none⟩) (Kd.R_mono HO191.out (fun k_ hk => (⟨hk, hk.2.2.1⟩ : _ ∧ k_ ≠ gb155))) (fun _ hk => hk.2) (.int .i64 t184)) (fun _ hk => hk.2) (.int .i64 t185)) (fun _ hk => hk.2) (.int .i64 t186)) (fun _ h_ => h_.1)))) k_ hk, Kd.freshB (g := gb154) (o := .cells #[.int .i64 x155000_1, .int .i64 x155001_1, .int .i64 x155002_1] 26 (0, 0)) Gv.bkf k_ hk, Kd.freshB (g := gb155) (o := .cells #[.int .i64 t184, .int .i64 t185, .int .i64 t186] 26 (0, 0)) (by (with_reducible repeat (first | refine blk_drewN ?_ _ | refine blk_drew ?_ | refine blk_alloc ?_ _)); refine blk_put (cs := #[.int .i64 t184, .int .i64 t185, .int .i64 x156002_1]) ?_ 2 _ rfl; (with_reducible repeat (first | refine blk_drewN ?_ _ | refine blk_drew ?_ | refine blk_alloc ?_ _)); refine blk_put (cs := #[.int .i64 t184, .int .i64 x156001_1, .int .i64 x156002_1]) ?_ 1 _ rfl; (with_reducible repeat (first | refine blk_drewN ?_ _ | refine blk_drew ?_ | refine blk_alloc ?_ _)); refine blk_put (cs := #[.int .i64 x156000_1, .int .i64 x156001_1, .int .i64 x156002_1]) ?_ 0 _ rfl; (with_reducible repeat (first | refine blk_drewN ?_ _ | refine blk_drew ?_ | refine blk_alloc ?_ _)); exact BK155.out) k_ hk, Kd.freshB (g := gb187) (o := .cells #[.int .i64 t181, .int .i64 t182, .int .i64 t183] 26 (0, 0)) Gv.bkf k_ hk, Kd.freshB (g := gb188) (o := .cells #[.int .i64 t184, .int .i64 t185, .int .i64 t186] 26 (0, 0)) Gv.bkf k_ hk⟩)); (case aO => exact (by (with_reducible repeat (first | apply Kd.R_alloc | apply Kd.R_drewN | apply Kd.R_drew)); exact Kd.R_mono (Kd.R_far (p := ⟨gb155, 2, none⟩) (Kd.R_far (p := ⟨gb155, 1, none⟩) (Kd.R_far (p := ⟨gb155, 0, none⟩) (Kd.R_mono HO_7.out (fun k_ hk => (⟨hk, hk.1.2.1⟩ : _ ∧ k_ ≠ gb155))) (fun _ hk => hk.2) (.int .i64 t184)) (fun _ hk => hk.2) (.int .i64 t185)) (fun _ hk => hk.2) (.int .i64 t186)) (fun _ hk => ⟨hk.1.2, ⟨hk.1.1.1, ⟨hk.1.1.2.1, ⟨hk.1.1.2.2.1, hk.1.1.2.2.2⟩⟩⟩⟩))); (case aS => exact (below_size Gv.bw)); (case aL => have := LMc71.out; omega); intro v193 w93 ho hb hg hat; rw [← Ny192.out] at ho; have n0_ := Gv.a0 (blk_grown (g := gb154) (o := .cells #[.int .i64 x155000_1, .int .i64 x155001_1, .int .i64 x155002_1] 26 (0, 0)) Gv.bkf hg (Kd.R_away HO_7.out (fun _ hk => hk.1.1))); have n1_ := Gv.a0 (blk_grown (g := gb155) (o := .cells #[.int .i64 t184, .int .i64 t185, .int .i64 t186] 26 (0, 0)) (by (with_reducible repeat (first | refine blk_drewN ?_ _ | refine blk_drew ?_ | refine blk_alloc ?_ _)); refine blk_put (cs := #[.int .i64 t184, .int .i64 t185, .int .i64 x156002_1]) ?_ 2 _ rfl; (with_reducible repeat (first | refine blk_drewN ?_ _ | refine blk_drew ?_ | refine blk_alloc ?_ _)); refine blk_put (cs := #[.int .i64 t184, .int .i64 x156001_1, .int .i64 x156002_1]) ?_ 1 _ rfl; (with_reducible repeat (first | refine blk_drewN ?_ _ | refine blk_drew ?_ | refine blk_alloc ?_ _)); refine blk_put (cs := #[.int .i64 x156000_1, .int .i64 x156001_1, .int .i64 x156002_1]) ?_ 0 _ rfl; (with_reducible repeat (first | refine blk_drewN ?_ _ | refine blk_drew ?_ | refine blk_alloc ?_ _)); exact BK155.out) hg (Kd.R_away HO_7.out (fun _ hk => hk.1.2.1))); have n2_ := Gv.a0 (blk_grown (g := gb163) (o := .cells #[.bool ((rd_T80 l0 x8_1).f0), .int .i64 ((rd_T80 l0 x8_1).f1.f0), .int .i64 ((rd_T80 l0 x8_1).f1.f1), .int .i64 ((rd_T80 l0 x8_1).f1.f2)] 80 (0, 0)) Gv.bkf hg (Kd.R_ne HO_7.out BK163.out (by decide))); have n3_ := Gv.a0 (blk_grown (g := gb187) (o := .cells #[.int .i64 t181, .int .i64 t182, .int .i64 t183] 26 (0, 0)) Gv.bkf hg (Kd.R_away HO_7.out (fun _ hk => hk.1.2.2.1))); have n4_ := Gv.a0 (blk_grown (g := gb188) (o := .cells #[.int .i64 t184, .int .i64 t185, .int .i64 t186] 26 (0, 0)) Gv.bkf hg (Kd.R_away HO_7.out (fun _ hk => hk.1.2.2.2))); have n5_ := Gv.a0 (Kd.R_after (ok := (fun k_ => k_ ≠ gb154 ∧ k_ ≠ gb155 ∧ k_ ≠ gb187 ∧ k_ ≠ gb188)) (by (with_reducible repeat (first | apply Kd.R_alloc | apply Kd.R_drewN | apply Kd.R_drew)); exact Kd.R_mono (Kd.R_far (p := ⟨gb155, 2, none⟩) (Kd.R_far (p := ⟨gb155, 1, none⟩) (Kd.R_far (p := ⟨gb155, 0, none⟩) (Kd.R_mono HO191.out (fun k_ hk => (⟨hk, hk.2.2.1⟩ : _ ∧ k_ ≠ gb155))) (fun _ hk => hk.2) (.int .i64 t184)) (fun _ hk => hk.2) (.int .i64 t185)) (fun _ hk => hk.2) (.int .i64 t186)) (fun _ hk => ⟨⟨hk.1.2.1, ⟨hk.1.2.2.1, ⟨hk.1.2.2.2.1, hk.1.2.2.2.2⟩⟩⟩, hk.1.1⟩)) hg hat); have n6_ := Gv.a0 (hb); have n7_ := Gv.a0 (ho); clear BK154; clear BK155; clear BK163; clear BK187; clear BK188; clear HO191; clear HB; clear HO_7; have BK154 := n0_; have BK155 := n1_; have BK163 := n2_; have BK187 := n3_; have BK188 := n4_; have HO191 := n5_; have HB := n6_; have HO194 := n7_; clear n0_ n1_ n2_ n3_ n4_ n5_ n6_ n7_; clear ho hb hg hat))
            go_roundg kj14
            case measure => have := HK1.out; have := HJ14.out; omega
            case rel => (try rw [← Nbq22.out]); exact ⟨(y189), (y192), (wrap64 (x8_1 + 1)), (x155000_1), (x155001_1), (x155002_1), (t184), (t185), (t186), Gv.rq, H', ⟨by have := HK1.out; have := HJ14.out; omega⟩, ⟨by (with_reducible repeat (first | apply Kd.R_alloc | apply Kd.R_drewN | apply Kd.R_drew)); exact Kd.R_mono HO191.out (fun _ hk => ⟨hk.2, ⟨hk.1.1, hk.1.2.1⟩⟩)⟩, ⟨by (with_reducible repeat (first | apply Kd.R_alloc | apply Kd.R_drewN | apply Kd.R_drew)); exact Kd.R_mono HO194.out (fun _ hk => ⟨hk.1, ⟨hk.2.1, hk.2.2.1⟩⟩)⟩, ⟨by (with_reducible repeat (first | refine blk_drewN ?_ _ | refine blk_drew ?_ | refine blk_alloc ?_ _)); exact BK154.out⟩, ⟨by (with_reducible repeat (first | refine blk_drewN ?_ _ | refine blk_drew ?_ | refine blk_alloc ?_ _)); exact BK155.out⟩, ⟨Gv.bw⟩⟩
           ·rw [if_neg c71] at H
            exact absurd H (by simp)
          ·rw [if_neg c70] at H
           exact absurd H (by simp)
     ·rw [if_neg c14] at H
      exact absurd H (by simp)
    ·rw [if_neg c13] at H
     have c13b0 : decide (x8_1 < (l0.length : Int)) = false := decide_eq_false c13
     clear c13
     simp only [Option.some.injEq, Prod.mk.injEq] at H
     obtain ⟨rfl, rfl, rfl, rfl, rfl⟩ := H
     try go_wp2
     have n0_ := Gv.a0 (Kd.R_drew HO_6.out)
     have n1_ := Gv.a0 (Kd.R_drew HO_7.out)
     have n2_ := Gv.a0 (blk_drew BK154.out)
     have n3_ := Gv.a0 (blk_drew BK155.out)
     have n4_ := Gv.a0 (below_drew1 HB.out)
     clear HO_6
     clear HO_7
     clear BK154
     clear BK155
     clear HB
     have HO_6 := n0_
     have HO_7 := n1_
     have BK154 := n2_
     have BK155 := n3_
     have HB := n4_
     clear n0_ n1_ n2_ n3_ n4_
     refine start_ (n := 5) (S := fun w' => w'.cell? ⟨gb155, 0, none⟩ = some (.int .i64 x156000_1) ∧ w'.cell? ⟨gb155, 1, none⟩ = some (.int .i64 x156001_1) ∧ w'.cell? ⟨gb155, 2, none⟩ = some (.int .i64 x156002_1)) (ds := []) #[false, false, false, false, false] (by kernel_rfl) rfl rfl ⟨(blk_cell BK155.out 0).trans rfl, (blk_cell BK155.out 1).trans rfl, (blk_cell BK155.out 2).trans rfl⟩ (fun hHeld => ?_)
     generalize wr.drew = w94 at HO_6 HO_7 BK154 BK155 HB hHeld ⊢
     refine pure_ (i := 0) (N := some 81) (v := ?_) (a' := ?_) #[true, false, false, false, false] rfl rfl (by kernel_rfl) (fun _ _ _ h => h) (Or.inl ⟨by rfl, ?_⟩) ?_ ?_
     rotate_left
     ·intro w'
      go_simp
      with_reducible rfl
     rotate_left
     ·simp only [Act.put, List.setIfInBounds_toArray, List.set_cons_zero, List.set_cons_succ, i64_w, i32_w]
      rfl
     refine pure_ (i := 2) (N := some 2) (v := ?_) (a' := ?_) #[true, false, true, false, false] rfl rfl (by kernel_rfl) (fun _ _ _ h => h) (Or.inl ⟨by rfl, ?_⟩) ?_ ?_
     rotate_left
     ·intro w'
      go_simp
      with_reducible rfl
     rotate_left
     ·simp only [Act.put, List.setIfInBounds_toArray, List.set_cons_zero, List.set_cons_succ, i64_w, i32_w]
      rfl
     refine take_ (i := 1) (N := some 82) (v := ?_) (a' := ?_) #[true, true, true, false, false] rfl rfl (by kernel_rfl) (fun _ _ _ h => h) (Or.inl ⟨by rfl, ?_⟩) hHeld ?_ ?_
     rotate_left
     ·rintro w' ⟨s0, s1, s2⟩
      go_simp
      with_reducible rfl
     rotate_left
     ·simp only [Act.put, List.setIfInBounds_toArray, List.set_cons_zero, List.set_cons_succ, i64_w, i32_w]
      rfl
     refine one_ (i := 3) (N := none) #[true, true, true, true, false] rfl rfl (by kernel_rfl) (by decide) (fun K hK => ?_)
     have hs95 : w94.cell? ⟨gb154, 0, none⟩ = some (.int .i64 x155000_1) := (blk_cell BK154.out 0).trans rfl
     have hfs95 := blk_frozen BK154.out 0
     have hns95_1 := NB155_154.out
     have hms95_1 := NB154_155.out
     have hs96 : w94.cell? ⟨gb154, 1, none⟩ = some (.int .i64 x155001_1) := (blk_cell BK154.out 1).trans rfl
     have hfs96 := blk_frozen BK154.out 1
     have hns96_1 := NB155_154.out
     have hms96_1 := NB154_155.out
     have hs97 : w94.cell? ⟨gb154, 2, none⟩ = some (.int .i64 x155002_1) := (blk_cell BK154.out 2).trans rfl
     have hfs97 := blk_frozen BK154.out 2
     have hns97_1 := NB155_154.out
     have hms97_1 := NB154_155.out
     refine skip_ (w1 := ?_) (by rfl) rfl ?_ ?_
     rotate_left
     ·go_simp
      rfl
     refine hK.out _ _ ⟨((cell_far (p := ⟨gb154, _, none⟩) NB155_154.out _).trans (((cell_far (p := ⟨gb154, _, none⟩) NB155_154.out _).trans (((cell_far (p := ⟨gb154, _, none⟩) NB155_154.out _).trans (hHeld.1)))))), ((cell_far (p := ⟨gb154, _, none⟩) NB155_154.out _).trans (((cell_far (p := ⟨gb154, _, none⟩) NB155_154.out _).trans (((cell_far (p := ⟨gb154, _, none⟩) NB155_154.out _).trans (hHeld.2.1)))))), ((cell_far (p := ⟨gb154, _, none⟩) NB155_154.out _).trans (((cell_far (p := ⟨gb154, _, none⟩) NB155_154.out _).trans (((cell_far (p := ⟨gb154, _, none⟩) NB155_154.out _).trans (hHeld.2.2))))))⟩ (fun hHeld => ?_)
     clear hK K
     refine pure_ (i := 4) (N := some 4) (v := ?_) (a' := ?_) #[true, true, true, true, true] rfl rfl (by kernel_rfl) (fun _ _ _ h => h) (Or.inl ⟨by rfl, ?_⟩) ?_ ?_
     rotate_left
     ·intro w'
      go_simp
      with_reducible rfl
     rotate_left
     ·simp only [Act.put, List.setIfInBounds_toArray, List.set_cons_zero, List.set_cons_succ, i64_w, i32_w]
      rfl
     refine done_ (by kernel_rfl) ?_
     try go_wp2
     refine bodyPost_ret (results_list (rs := [.tmp 2, .cell 3 26, .tmp 4]) rfl (by simp) (.tmp (.cell gb154 26 #[.int .i64 x156000_1, .int .i64 x156001_1, .int .i64 x156002_1] (0, 0) _ rfl (by (with_reducible repeat (first | refine blk_drewN ?_ _ | refine blk_drew ?_ | refine blk_alloc ?_ _)); refine blk_put (cs := #[.int .i64 x156000_1, .int .i64 x156001_1, .int .i64 x155002_1]) ?_ 2 _ rfl; (with_reducible repeat (first | refine blk_drewN ?_ _ | refine blk_drew ?_ | refine blk_alloc ?_ _)); refine blk_put (cs := #[.int .i64 x156000_1, .int .i64 x155001_1, .int .i64 x155002_1]) ?_ 1 _ rfl; (with_reducible repeat (first | refine blk_drewN ?_ _ | refine blk_drew ?_ | refine blk_alloc ?_ _)); refine blk_put (cs := #[.int .i64 x155000_1, .int .i64 x155001_1, .int .i64 x155002_1]) ?_ 0 _ rfl; (with_reducible repeat (first | refine blk_drewN ?_ _ | refine blk_drew ?_ | refine blk_alloc ?_ _)); exact BK154.out) Try.underlying26 rfl (by kernel_rfl) (.tmp .nil)))) rfl ?_
     exact ⟨_, Gv.rt, by (with_reducible repeat (first | apply Kd.R_alloc | apply Kd.R_drewN | apply Kd.R_drew)); exact Kd.R_mono (Kd.R_far (p := ⟨gb154, 2, none⟩) (Kd.R_far (p := ⟨gb154, 1, none⟩) (Kd.R_far (p := ⟨gb154, 0, none⟩) (Kd.R_mono HO_6.out (fun k_ hk => (⟨hk, hk.2.1⟩ : _ ∧ k_ ≠ gb154))) (fun _ hk => hk.2) (.int .i64 x156000_1)) (fun _ hk => hk.2) (.int .i64 x156001_1)) (fun _ hk => hk.2) (.int .i64 x156002_1)) (fun _ hk => trivial), Gv.bw⟩


end Go.Proofs.Ytiokbmbdhejciaa.PCr
