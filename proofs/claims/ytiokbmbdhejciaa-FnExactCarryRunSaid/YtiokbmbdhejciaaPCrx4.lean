/- Plain Lean functions of a law's Go functions, their contracts, by a program of this session (wip/pr.py over the kit's print). -/
import Derived.Test.YtiokbmbdhejciaaPCrx0
import Derived.Test.YtiokbmbdhejciaaPCrx1
import Derived.Test.YtiokbmbdhejciaaPCrx2b
import Derived.Test.YtiokbmbdhejciaaPCrx3
namespace Go.Proofs.Ytiokbmbdhejciaa.PCr
open Go.RowKit Go.Proofs.YtiokbmbdhejciaaW.PrintWords Go.Proofs.YtiokbmbdhejciaaW.PrintLast Go.Proofs.YtiokbmbdhejciaaW.PrintMore
attribute [local go_sem] max2_int min2_int max_two min_two max_three min_three max_four min_four   -- for this text's walks alone
set_option linter.unusedVariables false
set_option linter.unusedSimpArgs false

/-! ### impl_CarryRun: function 33 -/
mutual
def impl_CarryRun.l0 : Nat → List (S26) → List (S26) → List (S80) → Int → Int → Int → Int → Int → Option ((List (S26)) × Int × Int × Int × Int)
 | 0, _, _, _, _, _, _, _, _ => none
 | k + 1, x5, x7, x21, x22, x23, x284000, x284001, x284002 => if x23 < x22 then (if 0 ≤ x23 then (if x23 < (x21.length : Int) then ((impl_CostOk.f ((rd_T80 x21 x23).f1.f0) ((rd_T80 x21 x23).f1.f1) ((rd_T80 x21 x23).f1.f2)).bind fun t286 => (if t286 = true then (if (rd_T80 x21 x23).f0 = true then (impl_CarryRun.j1 k x5 x7 x23 x21 x22 x23 ((x7.length : Int) == 0) x284000 x284001 x284002 ((rd_T80 x21 x23).f0) ((rd_T80 x21 x23).f1.f0) ((rd_T80 x21 x23).f1.f1) ((rd_T80 x21 x23).f1.f2)) else (impl_CarryRun.j1 k x5 x7 x23 x21 x22 x23 false x284000 x284001 x284002 ((rd_T80 x21 x23).f0) ((rd_T80 x21 x23).f1.f0) ((rd_T80 x21 x23).f1.f1) ((rd_T80 x21 x23).f1.f2))) else (impl_CarryRun.j1 k x5 x7 x23 x21 x22 x23 true x284000 x284001 x284002 ((rd_T80 x21 x23).f0) ((rd_T80 x21 x23).f1.f0) ((rd_T80 x21 x23).f1.f1) ((rd_T80 x21 x23).f1.f2)))) else (none)) else (none)) else (some (x5, x284000, x284001, x284002, 0))
def impl_CarryRun.j1 : Nat → List (S26) → List (S26) → Int → List (S80) → Int → Int → Bool → Int → Int → Int → Bool → Int → Int → Int → Option ((List (S26)) × Int × Int × Int × Int)
 | 0, _, _, _, _, _, _, _, _, _, _, _, _, _, _ => none
 | k + 1, x5, x7, x8, x21, x22, x23, x40, x284000, x284001, x284002, x286000, x286001, x286002, x286003 => if x40 = true then (some (([] : List (S26)), 0, 0, 0, wrap64 (x8 + 1))) else (if x286000 = true then (if 0 < (x7.length : Int) then ((impl_Settle.f k x284000 x284001 x284002 ((rd_T26 x7 0).f0) ((rd_T26 x7 0).f1) ((rd_T26 x7 0).f2) x286001 x286002 x286003).bind fun bt288 => (if bt288.2.2.2 = true then (if 1 ≤ (x7.length : Int) then (impl_CarryRun.l0 k x5 (x7.drop (1 : Int).toNat) x21 x22 (wrap64 (x23 + 1)) bt288.1 bt288.2.1 bt288.2.2.1) else (none)) else (some (([] : List (S26)), 0, 0, 0, wrap64 (x8 + 1))))) else (none)) else ((impl_Charge.f k x286001 x286002 x286003 x284000 x284001 x284002).bind fun bt296 => ((some (([(⟨bt296.1, bt296.2.1, bt296.2.2.1⟩ : S26)] : List (S26)) : List (S26))).bind fun y304 => (if x5.length + y304.length < 5864062014805 then ((some (([(⟨x286001, x286002, x286003⟩ : S26)] : List (S26)) : List (S26))).bind fun y310 => (if x7.length + y310.length < 5864062014805 then (impl_CarryRun.l0 k (x5 ++ y304) (x7 ++ y310) x21 x22 (wrap64 (x23 + 1)) bt296.2.2.2.1 bt296.2.2.2.2.1 bt296.2.2.2.2.2) else (none))) else (none)))))
end
def impl_CarryRun.f (k : Nat) (l0 : List (S80)) : Option ((List (S26)) × Int × Int × Int × Int) := if (l0.length : Int) > 1000 then (some (([] : List (S26)), 0, 0, 0, (-1))) else (impl_CarryRun.l0 k (([] : List (S26))) (([] : List (S26))) l0 (l0.length : Int) 0 0 0 0)
theorem impl_CarryRun.mono_l : ∀ k, (∀ y0 y1 y2 y3 y4 y5 y6 y7, LeO (impl_CarryRun.l0 k y0 y1 y2 y3 y4 y5 y6 y7) (impl_CarryRun.l0 (k + 1) y0 y1 y2 y3 y4 y5 y6 y7)) ∧ (∀ y0 y1 y2 y3 y4 y5 y6 y7 y8 y9 y10 y11 y12 y13, LeO (impl_CarryRun.j1 k y0 y1 y2 y3 y4 y5 y6 y7 y8 y9 y10 y11 y12 y13) (impl_CarryRun.j1 (k + 1) y0 y1 y2 y3 y4 y5 y6 y7 y8 y9 y10 y11 y12 y13))
 | 0 => ⟨fun _ _ _ _ _ _ _ _ r h => by simp [impl_CarryRun.l0] at h, fun _ _ _ _ _ _ _ _ _ _ _ _ _ _ r h => by simp [impl_CarryRun.j1] at h⟩
 | k + 1 => by
  obtain ⟨ih0, ih1⟩ := impl_CarryRun.mono_l k
  refine ⟨?_, ?_⟩
  ·intro y0 y1 y2 y3 y4 y5 y6 y7
   unfold impl_CarryRun.l0
   repeat' first
   | (with_reducible exact ih0 _ _ _ _ _ _ _ _)
   | (with_reducible exact ih1 _ _ _ _ _ _ _ _ _ _ _ _ _ _)
   | (with_reducible exact impl_Charge.mono _ _ _ _ _ _ _)
   | (with_reducible exact impl_Settle.mono _ _ _ _ _ _ _ _ _ _)
   | (with_reducible exact LeO.refl _)
   | (with_reducible exact LeO.none _)
   | (with_reducible refine LeO.ite ?_ ?_)
   | (with_reducible refine LeO.bind ?_ (fun _ => ?_))
   | exact ih0 _ _ _ _ _ _ _ _
   | exact ih1 _ _ _ _ _ _ _ _ _ _ _ _ _ _
   | exact impl_Charge.mono _ _ _ _ _ _ _
   | exact impl_Settle.mono _ _ _ _ _ _ _ _ _ _
   | exact LeO.none _
   | refine LeO.ite ?_ ?_
   | refine LeO.bind ?_ (fun _ => ?_)
  ·intro y0 y1 y2 y3 y4 y5 y6 y7 y8 y9 y10 y11 y12 y13
   unfold impl_CarryRun.j1
   repeat' first
   | (with_reducible exact ih0 _ _ _ _ _ _ _ _)
   | (with_reducible exact ih1 _ _ _ _ _ _ _ _ _ _ _ _ _ _)
   | (with_reducible exact impl_Charge.mono _ _ _ _ _ _ _)
   | (with_reducible exact impl_Settle.mono _ _ _ _ _ _ _ _ _ _)
   | (with_reducible exact LeO.refl _)
   | (with_reducible exact LeO.none _)
   | (with_reducible refine LeO.ite ?_ ?_)
   | (with_reducible refine LeO.bind ?_ (fun _ => ?_))
   | exact ih0 _ _ _ _ _ _ _ _
   | exact ih1 _ _ _ _ _ _ _ _ _ _ _ _ _ _
   | exact impl_Charge.mono _ _ _ _ _ _ _
   | exact impl_Settle.mono _ _ _ _ _ _ _ _ _ _
   | exact LeO.none _
   | refine LeO.ite ?_ ?_
   | refine LeO.bind ?_ (fun _ => ?_)
theorem impl_CarryRun.mono : ∀ a0 k, LeO (impl_CarryRun.f k a0) (impl_CarryRun.f (k + 1) a0) := by
 intro a0 k
 obtain ⟨ih0, ih1⟩ := impl_CarryRun.mono_l k
 unfold impl_CarryRun.f
 repeat' first
   | (with_reducible exact ih0 _ _ _ _ _ _ _ _)
   | (with_reducible exact ih1 _ _ _ _ _ _ _ _ _ _ _ _ _ _)
   | (with_reducible exact impl_Charge.mono _ _ _ _ _ _ _)
   | (with_reducible exact impl_Settle.mono _ _ _ _ _ _ _ _ _ _)
   | (with_reducible exact LeO.refl _)
   | (with_reducible exact LeO.none _)
   | (with_reducible refine LeO.ite ?_ ?_)
   | (with_reducible refine LeO.bind ?_ (fun _ => ?_))
   | exact ih0 _ _ _ _ _ _ _ _
   | exact ih1 _ _ _ _ _ _ _ _ _ _ _ _ _ _
   | exact impl_Charge.mono _ _ _ _ _ _ _
   | exact impl_Settle.mono _ _ _ _ _ _ _ _ _ _
   | exact LeO.none _
   | refine LeO.ite ?_ ?_
   | refine LeO.bind ?_ (fun _ => ?_)
def impl_CarryRun.T11 : Bool × List (List Nat × List Nat) := (true, [([], []), ([], []), ([1], [1]), ([0, 2], [0, 2]), ([], []), ([], []), ([5], [5]), ([6], [6]), ([4, 7, 3], [4, 7]), ([], []), ([3, 8, 0, 1, 2, 3], [0, 3]), ([8, 10, 0, 1, 2, 3, 4, 5, 6, 7, 8, 10], [4, 8]), ([9, 11, 0, 1, 2, 3, 4, 5, 6, 7, 8, 9, 10, 11], [9])])
def impl_CarryRun.B11 : List Nat := [0, 0, 2, 7, 0, 0, 32, 96, 255, 0, 511, 1535, 4095]
theorem impl_CarryRun.tab11 : rtab .any (opsOf Try.f33 11) = impl_CarryRun.T11 := by kernel_rfl
theorem impl_CarryRun.bits11 : waitsOk impl_CarryRun.T11.2 impl_CarryRun.B11 = true := by kernel_rfl
def impl_CarryRun.T12 : Bool × List (List Nat × List Nat) := (true, [([], []), ([], []), ([1], [1]), ([2], [2]), ([], []), ([4], [4]), ([0, 3, 5], [0, 3, 5]), ([6], [6]), ([7], [7]), ([7], [7]), ([], []), ([10, 8, 6, 0, 1, 2, 3, 4, 5, 6, 7, 8, 10], [8, 10]), ([9, 11, 0, 1, 2, 3, 4, 5, 6, 7, 8, 9, 10, 11], [9])])
def impl_CarryRun.B12 : List Nat := [0, 0, 2, 6, 0, 16, 63, 127, 255, 255, 0, 1535, 4095]
theorem impl_CarryRun.tab12 : rtab .any (opsOf Try.f33 12) = impl_CarryRun.T12 := by kernel_rfl
theorem impl_CarryRun.bits12 : waitsOk impl_CarryRun.T12.2 impl_CarryRun.B12 = true := by kernel_rfl
set_option maxHeartbeats 8000000 in
set_option maxRecDepth 100000 in
theorem impl_CarryRun.calls (k : Nat) (A0 : Option Addr) (c0 : Nat) (l0 : List (S80)) (r1 : List (S26)) (r2 : Int) (r3 : Int) (r4 : Int) (r5 : Int) (w : World) (hr0 : Kd.C k80 w A0 l0.length l0) (hc0 : l0.length ≤ c0) (h : impl_CarryRun.f k l0 = some (r1, r2, r3, r4, r5)) :
  Calls Try.prog 33 #[.slice A0 l0.length c0] w fun e w' => ∃ v0_ : Value, e = .returned (.tuple #[v0_, .agg #[.int .i64 r2, .int .i64 r3, .int .i64 r4], .int .i64 r5]) ∧ Kd.R k26 26 w' w.heap.size (fun _ => True) v0_ r1 ∧ Below w.heap.size w w' := by
 have hu26 := Try.underlying26
 have hu80 := Try.underlying80
 have HR0 := Gv.a0 hr0
 have HC0 := Gv.a0 hc0
 clear hr0 hc0
 have HB := Gv.a0 (Below.refl w.heap.size w)
 have H : (if (l0.length : Int) > 1000 then (some (([] : List (S26)), 0, 0, 0, (-1))) else (impl_CarryRun.l0 k (([] : List (S26))) (([] : List (S26))) l0 (l0.length : Int) 0 0 0 0)) = some (r1, r2, r3, r4, r5) := h
 clear h
 by_cases c2 : (l0.length : Int) > 1000
 ·rw [if_pos c2] at H
  have c2b0 : decide (1000 < (l0.length : Int)) = true := decide_eq_true c2
  have c2b1 : decide (1000 < l0.length) = true := decide_eq_true (by omega)
  clear c2
  simp only [Option.some.injEq, Prod.mk.injEq] at H
  obtain ⟨rfl, rfl, rfl, rfl, rfl⟩ := H
  go_enter Try.func33, Try.ntmps33
  go_wp2_with (first | ((with_reducible refine gate_dst (N := 3) rfl ?_); (try (refine gate_guard (by rfl) ?_; dsimp only)); refine box_event ?hg (N := 3) ?hd (cs := #[.int .i64 0, .int .i64 0, .int .i64 0]) (t := 26) ?hr ?_; (case hd => rfl); (case hg => rfl); (case hr => first | (go_simp; done) | (go_simp; rfl)); intro gb276 hg w3 hbox hb; have n0_ := Gv.a0 (below_step Gv.bw hb); have n1_ := Gv.a0 (hbox); have n2_ := Gv.a0 ((Gv.ble hg Gv.bw : w.heap.size ≤ gb276)); have n3_ := Gv.a0 ((Gv.ble hg Gv.bw : w.heap.size ≤ gb276)); clear HB; have HB := n0_; have BK276 := n1_; have GW276 := n2_; have GE276 := n3_; clear n0_ n1_ n2_ n3_; clear hb hbox hg; have hcz4_0 : w3.cell? ⟨gb276, 0, none⟩ = some (.int .i64 0) := (blk_cell BK276.out 0).trans rfl; have hcz4_1 : w3.cell? ⟨gb276, 1, none⟩ = some (.int .i64 0) := (blk_cell BK276.out 1).trans rfl; have hcz4_2 : w3.cell? ⟨gb276, 2, none⟩ = some (.int .i64 0) := (blk_cell BK276.out 2).trans rfl; have hfz4_0 := blk_frozen BK276.out 0; have hfz4_1 := blk_frozen BK276.out 1; have hfz4_2 := blk_frozen BK276.out 2))
  refine bodyPost_ret (results_list (rs := [.tmp 2, .cell 3 26, .tmp 4]) rfl (by simp) (.tmp (.cell gb276 26 #[.int .i64 0, .int .i64 0, .int .i64 0] (0, 0) _ rfl (by (with_reducible repeat (first | refine blk_drewN ?_ _ | refine blk_drew ?_ | refine blk_alloc ?_ _)); refine blk_put (cs := #[.int .i64 0, .int .i64 0, .int .i64 0]) ?_ 2 _ rfl; (with_reducible repeat (first | refine blk_drewN ?_ _ | refine blk_drew ?_ | refine blk_alloc ?_ _)); refine blk_put (cs := #[.int .i64 0, .int .i64 0, .int .i64 0]) ?_ 1 _ rfl; (with_reducible repeat (first | refine blk_drewN ?_ _ | refine blk_drew ?_ | refine blk_alloc ?_ _)); refine blk_put (cs := #[.int .i64 0, .int .i64 0, .int .i64 0]) ?_ 0 _ rfl; (with_reducible repeat (first | refine blk_drewN ?_ _ | refine blk_drew ?_ | refine blk_alloc ?_ _)); exact BK276.out) Try.underlying26 rfl (by kernel_rfl) (.tmp .nil)))) rfl ?_
  exact ⟨_, Gv.rt, by first | exact Kd.R_nil _ _ _ _ _ | exact Kd.N_nil _ _ _ _ _ | exact Kd.V_nil _ _ _ _ _ | exact Kd.Q_nil _ _ _ _ _ | exact Kd.S_nil _ _ _ _ _, Gv.bw⟩
 ·rw [if_neg c2] at H
  have c2b0 : decide (1000 < (l0.length : Int)) = false := decide_eq_false c2
  have c2b1 : decide (1000 < l0.length) = false := decide_eq_false (by omega)
  clear c2
  obtain ⟨y277, hy277⟩ : ∃ y_ : List (S26), y_ = (([] : List (S26))) := ⟨_, rfl⟩
  replace H : (impl_CarryRun.l0 k y277 (([] : List (S26))) l0 (l0.length : Int) 0 0 0 0) = some (r1, r2, r3, r4, r5) := by first | (rw [hy277]; with_reducible exact H) | (have H2_ := (Option.bind_some _ _).symm.trans H; rw [hy277]; with_reducible exact H2_) | (have H2_ := (Option.bind_some _ _).symm.trans H; with_reducible exact H2_) | with_reducible exact H | (rw [hy277]; exact H) | exact H
  have Ny277 := Gv.a0 hy277
  clear hy277
  obtain ⟨y280, hy280⟩ : ∃ y_ : List (S26), y_ = (([] : List (S26))) := ⟨_, rfl⟩
  replace H : (impl_CarryRun.l0 k y277 y280 l0 (l0.length : Int) 0 0 0 0) = some (r1, r2, r3, r4, r5) := by first | (rw [hy280]; with_reducible exact H) | (have H2_ := (Option.bind_some _ _).symm.trans H; rw [hy280]; with_reducible exact H2_) | (have H2_ := (Option.bind_some _ _).symm.trans H; with_reducible exact H2_) | with_reducible exact H | (rw [hy280]; exact H) | exact H
  have Ny280 := Gv.a0 hy280
  clear hy280
  have H' := Gv.a0 H
  clear H
  go_enter Try.func33, Try.ntmps33
  go_wp2_with (first | ((with_reducible refine gate_dst (N := 3) rfl ?_); (try (refine gate_guard (by rfl) ?_; dsimp only)); refine box_event ?hg (N := 3) ?hd (cs := #[.int .i64 0, .int .i64 0, .int .i64 0]) (t := 26) ?hr ?_; (case hd => rfl); (case hg => rfl); (case hr => first | (go_simp; done) | (go_simp; rfl)); intro gb276 hg w5 hbox hb; have n0_ := Gv.a0 (below_step Gv.bw hb); have n1_ := Gv.a0 (hbox); have n2_ := Gv.a0 ((Gv.ble hg Gv.bw : w.heap.size ≤ gb276)); have n3_ := Gv.a0 ((Gv.ble hg Gv.bw : w.heap.size ≤ gb276)); clear HB; have HB := n0_; have BK276 := n1_; have GW276 := n2_; have GE276 := n3_; clear n0_ n1_ n2_ n3_; clear hb hbox hg) | ((with_reducible refine gate_dst (N := 18) rfl ?_); (try (refine gate_guard (by rfl) ?_; dsimp only)); refine Kd.R_lit k26 _ 26 ?hg (N := 18) ?hd (xs := ([] : List (S26))) (inner := []) (ok := fun _ => True) (okp := fun _ => True) ?hr ?hp (fun _ hk => hk) trivial (Below.refl _ _) (Nat.le_refl _) (by simp) ?_; (case hd => rfl); (case hg => rfl); (case hr => first | (go_simp; done) | (go_simp; rfl)); (case hp => exact (Reps.none _ _)); intro v278 w6 ho7 hb hg_ hnew_; clear hg_ hnew_; (first | rw [← Ny277.out] at ho7 | (simp only [Int.reduceToNat] at ho7; rw [← Ny277.out] at ho7)); have n0_ := Gv.a0 (Kd.R_lower (Kd.R_newB ho7 (g := gb276) (o := .cells #[.int .i64 0, .int .i64 0, .int .i64 0] 26 (0, 0)) Gv.bk) (below_size Gv.bw)); have n1_ := Gv.a0 (Gv.bb BK276.out hb); have n2_ := Gv.a0 (below_step Gv.bw hb); clear BK276; clear HB; have HO279 := n0_; have BK276 := n1_; have HB := n2_; clear n0_ n1_ n2_; clear hb ho7) | ((with_reducible refine gate_dst (N := 20) rfl ?_); (try (refine gate_guard (by rfl) ?_; dsimp only)); refine Kd.R_lit k26 _ 26 ?hg (N := 20) ?hd (xs := ([] : List (S26))) (inner := []) (ok := fun _ => True) (okp := fun _ => True) ?hr ?hp (fun _ hk => hk) trivial (Below.refl _ _) (Nat.le_refl _) (by simp) ?_; (case hd => rfl); (case hg => rfl); (case hr => first | (go_simp; done) | (go_simp; rfl)); (case hp => exact (Reps.none _ _)); intro v281 w8 ho9 hb hg_ hnew_; clear hg_ hnew_; (first | rw [← Ny280.out] at ho9 | (simp only [Int.reduceToNat] at ho9; rw [← Ny280.out] at ho9)); have n0_ := Gv.a0 (Kd.R_elder' (Gv.kr HO279.out) (Kd.R_base ho9) hb); have n1_ := Gv.a0 (Kd.R_lower (Kd.R_newB (Kd.R_new' ho9 (Kd.R_lt (Gv.kr HO279.out))) (g := gb276) (o := .cells #[.int .i64 0, .int .i64 0, .int .i64 0] 26 (0, 0)) Gv.bk) (below_size Gv.bw)); have n2_ := Gv.a0 (Gv.bb BK276.out hb); have n3_ := Gv.a0 (below_step Gv.bw hb); clear HO279; clear BK276; clear HB; have HO279 := n0_; have HO282 := n1_; have BK276 := n2_; have HB := n3_; clear n0_ n1_ n2_ n3_; clear hb ho9) | ((with_reducible refine gate_dst (N := 6) rfl ?_); (try (refine gate_guard (by rfl) ?_; dsimp only)); refine box_event ?hg (N := 6) ?hd (cs := #[.int .i64 0, .int .i64 0, .int .i64 0]) (t := 26) ?hr ?_; (case hd => rfl); (case hg => rfl); (case hr => first | (go_simp; done) | (go_simp; rfl)); intro gb283 hg w10 hbox hb; have n0_ := Gv.a0 (Kd.R_below (Kd.R_elderB (Gv.kr HO279.out) gb283 (Nat.le_of_eq hg.symm)) hb); have n1_ := Gv.a0 (Kd.R_below (Kd.R_elderB (Gv.kr HO282.out) gb283 (Nat.le_of_eq hg.symm)) hb); have n2_ := Gv.a0 (Gv.bb BK276.out hb); have n3_ := Gv.a0 (below_step Gv.bw hb); have n4_ := Gv.a0 (hbox); have n5_ := Gv.a0 ((Gv.ble hg Gv.bw : w.heap.size ≤ gb283)); have n6_ := Gv.a0 ((Gv.ble hg Gv.bw : w.heap.size ≤ gb283)); have n7_ := Gv.a0 ((Gv.nlt hg (Gv.kb BK276.out) : gb276 ≠ gb283)); have n8_ := Gv.a0 ((Gv.ngt hg (Gv.kb BK276.out) : gb283 ≠ gb276)); clear HO279; clear HO282; clear BK276; clear HB; have HO279 := n0_; have HO282 := n1_; have BK276 := n2_; have HB := n3_; have BK283 := n4_; have GW283 := n5_; have GE283 := n6_; have NB276_283 := n7_; have NB283_276 := n8_; clear n0_ n1_ n2_ n3_ n4_ n5_ n6_ n7_ n8_; clear hb hbox hg; have hnb11 := NB283_276.out; have hnc11 := NB276_283.out; have hcz12_0 : w10.cell? ⟨gb283, 0, none⟩ = some (.int .i64 0) := (blk_cell BK283.out 0).trans rfl; have hcz12_1 : w10.cell? ⟨gb283, 1, none⟩ = some (.int .i64 0) := (blk_cell BK283.out 1).trans rfl; have hcz12_2 : w10.cell? ⟨gb283, 2, none⟩ = some (.int .i64 0) := (blk_cell BK283.out 2).trans rfl; have hfz12_0 := blk_frozen BK283.out 0; have hfz12_1 := blk_frozen BK283.out 1; have hfz12_2 := blk_frozen BK283.out 2))
  go_loopg [5, 7, 23] k (fun kq v5 v7 v23 w' => ∃ (x5_1 : List (S26)) (x7_1 : List (S26)) (x23_1 : Int) (x277000_1 : Int) (x277001_1 : Int) (x277002_1 : Int) (x284000_1 : Int) (x284001_1 : Int) (x284002_1 : Int), v23 = .int .i64 x23_1 ∧ Aside0 (impl_CarryRun.l0 kq x5_1 x7_1 l0 (l0.length : Int) x23_1 x284000_1 x284001_1 x284002_1 = some (r1, r2, r3, r4, r5)) ∧ Aside0 (kq ≤ k) ∧ Aside0 (Kd.R k26 26 w' w.heap.size (fun k_ => some k_ ≠ (v7 : Value).ownBlock ∧ k_ ≠ gb276 ∧ k_ ≠ gb283) v5 x5_1) ∧ Aside0 (Kd.Q k26 26 w' w.heap.size (fun k_ => some k_ ≠ (v5 : Value).ownBlock ∧ k_ ≠ gb276 ∧ k_ ≠ gb283) v7 x7_1) ∧ Aside0 (w'.heap[gb276]? = some (.cells #[.int .i64 x277000_1, .int .i64 x277001_1, .int .i64 x277002_1] 26 (0, 0))) ∧ Aside0 (w'.heap[gb283]? = some (.cells #[.int .i64 x284000_1, .int .i64 x284001_1, .int .i64 x284002_1] 26 (0, 0))) ∧ Aside0 (Below w.heap.size w w'))
  case atStart => exact ⟨(y277), (y280), (0), (0), (0), (0), (0), (0), (0), Gv.rq, H', ⟨Nat.le_refl _⟩, ⟨by (with_reducible repeat (first | apply Kd.R_alloc | apply Kd.R_drewN | apply Kd.R_drew)); exact Kd.R_mono (Kd.R_far (p := ⟨gb283, 2, none⟩) (Kd.R_far (p := ⟨gb283, 1, none⟩) (Kd.R_far (p := ⟨gb283, 0, none⟩) (Kd.R_mono HO279.out (fun k_ hk => (⟨hk, hk.2⟩ : _ ∧ k_ ≠ gb283))) (fun _ hk => hk.2) (.int .i64 0)) (fun _ hk => hk.2) (.int .i64 0)) (fun _ hk => hk.2) (.int .i64 0)) (fun _ hk => ⟨hk.1.1.2, ⟨hk.1.1.1.2, hk.1.2⟩⟩)⟩, ⟨Kd.Q_of_R (by (with_reducible repeat (first | apply Kd.R_alloc | apply Kd.R_drewN | apply Kd.R_drew)); exact Kd.R_mono (Kd.R_far (p := ⟨gb283, 2, none⟩) (Kd.R_far (p := ⟨gb283, 1, none⟩) (Kd.R_far (p := ⟨gb283, 0, none⟩) (Kd.R_mono HO282.out (fun k_ hk => (⟨hk, hk.2⟩ : _ ∧ k_ ≠ gb283))) (fun _ hk => hk.2) (.int .i64 0)) (fun _ hk => hk.2) (.int .i64 0)) (fun _ hk => hk.2) (.int .i64 0)) (fun _ hk => ⟨hk.1.1.1.2, ⟨hk.1.1.2, hk.1.2⟩⟩))⟩, ⟨by (with_reducible repeat (first | refine blk_drewN ?_ _ | refine blk_drew ?_ | refine blk_alloc ?_ _)); refine blk_far ?_ NB276_283.out _; (with_reducible repeat (first | refine blk_drewN ?_ _ | refine blk_drew ?_ | refine blk_alloc ?_ _)); refine blk_far ?_ NB276_283.out _; (with_reducible repeat (first | refine blk_drewN ?_ _ | refine blk_drew ?_ | refine blk_alloc ?_ _)); refine blk_far ?_ NB276_283.out _; (with_reducible repeat (first | refine blk_drewN ?_ _ | refine blk_drew ?_ | refine blk_alloc ?_ _)); exact BK276.out⟩, ⟨by (with_reducible repeat (first | refine blk_drewN ?_ _ | refine blk_drew ?_ | refine blk_alloc ?_ _)); refine blk_put (cs := #[.int .i64 0, .int .i64 0, .int .i64 0]) ?_ 2 _ rfl; (with_reducible repeat (first | refine blk_drewN ?_ _ | refine blk_drew ?_ | refine blk_alloc ?_ _)); refine blk_put (cs := #[.int .i64 0, .int .i64 0, .int .i64 0]) ?_ 1 _ rfl; (with_reducible repeat (first | refine blk_drewN ?_ _ | refine blk_drew ?_ | refine blk_alloc ?_ _)); refine blk_put (cs := #[.int .i64 0, .int .i64 0, .int .i64 0]) ?_ 0 _ rfl; (with_reducible repeat (first | refine blk_drewN ?_ _ | refine blk_drew ?_ | refine blk_alloc ?_ _)); exact BK283.out⟩, ⟨Gv.bw⟩⟩
  case round =>
   clear H'
   try clear c1
   try clear c2
   try clear c2b0
   try clear c2b1
   try clear p2
   try clear c3
   try clear c11
   try clear hcz12_0 hcz12_1 hcz12_2
   try clear hcz4_0 hcz4_1 hcz4_2
   try clear hfz12_0 hfz12_1 hfz12_2
   try clear hfz4_0 hfz4_1 hfz4_2
   obtain ⟨x5_1, x7_1, x23_1, x277000_1, x277001_1, x277002_1, x284000_1, x284001_1, x284002_1, rfl, HA, HK1, HO_5, HO_7, BK276, BK283, HB⟩ := hrel
   cases gk with
   | zero => exact absurd HA.out (by simp [impl_CarryRun.l0])
   | succ k1 =>
    have H := HA.out
    clear HA
    simp only [impl_CarryRun.l0] at H
    by_cases c13 : x23_1 < (l0.length : Int)
    ·rw [if_pos c13] at H
     have c13b0 : decide (x23_1 < (l0.length : Int)) = true := decide_eq_true c13
     clear c13
     by_cases c14 : 0 ≤ x23_1
     ·rw [if_pos c14] at H
      have c14b0 : decide (0 ≤ x23_1) = true := decide_eq_true c14
      clear c14
      by_cases c15 : x23_1 < (l0.length : Int)
      ·rw [if_pos c15] at H
       have c15b0 : decide (x23_1 < (l0.length : Int)) = true := decide_eq_true c15
       clear c15
       have HC16 := Gv.a0 H
       clear H
       have p284 : 0 ≤ (x23_1 : Int) := of_decide_eq_true (by first | (with_reducible assumption) | assumption)
       have q284 : x23_1 < (l0.length : Int) := of_decide_eq_true (by first | (with_reducible assumption) | assumption)
       obtain ⟨ad284, e284, hx284_0, hx284_1, hx284_2, hx284_3⟩ := at_T80 HR0.out x23_1 p284 q284
       cases e284
       replace hx284_0 := Gv.bx HB.out hx284_0
       replace hx284_1 := Gv.bx HB.out hx284_1
       replace hx284_2 := Gv.bx HB.out hx284_2
       replace hx284_3 := Gv.bx HB.out hx284_3
       replace p284 := eq_true p284
       replace q284 := eq_true q284
       go_upto_region 7 with (first | ((with_reducible refine gate_dst (N := 9) rfl ?_); (try (refine gate_guard (by rfl) ?_; dsimp only)); refine box_event ?hg (N := 9) ?hd (cs := #[.bool false, .int .i64 0, .int .i64 0, .int .i64 0]) (t := 80) ?hr ?_; (case hd => rfl); (case hg => rfl); (case hr => first | (go_simp; done) | (go_simp; rfl)); intro gb285 hg w17 hbox hb; have n0_ := Gv.a0 (Kd.R_below (Gv.kr HO_5.out) hb); have n1_ := Gv.a0 (Kd.Q_below (by (with_reducible repeat (first | apply Kd.Q_alloc | apply Kd.Q_drewN | apply Kd.Q_drew)); exact HO_7.out) hb); have n2_ := Gv.a0 (Gv.bb BK276.out hb); have n3_ := Gv.a0 (Gv.bb BK283.out hb); have n4_ := Gv.a0 (below_step Gv.bw hb); have n5_ := Gv.a0 (hbox); have n6_ := Gv.a0 ((Gv.ble hg Gv.bw : w.heap.size ≤ gb285)); have n7_ := Gv.a0 ((Gv.ble hg Gv.bw : w.heap.size ≤ gb285)); have n8_ := Gv.a0 ((Gv.nlt hg (Gv.kb BK276.out) : gb276 ≠ gb285)); have n9_ := Gv.a0 ((Gv.ngt hg (Gv.kb BK276.out) : gb285 ≠ gb276)); have n10_ := Gv.a0 ((Gv.nlt hg (Gv.kb BK283.out) : gb283 ≠ gb285)); have n11_ := Gv.a0 ((Gv.ngt hg (Gv.kb BK283.out) : gb285 ≠ gb283)); clear HO_5; clear HO_7; clear BK276; clear BK283; clear HB; have HO_5 := n0_; have HO_7 := n1_; have BK276 := n2_; have BK283 := n3_; have HB := n4_; have BK285 := n5_; have GW285 := n6_; have GE285 := n7_; have NB276_285 := n8_; have NB285_276 := n9_; have NB283_285 := n10_; have NB285_283 := n11_; clear n0_ n1_ n2_ n3_ n4_ n5_ n6_ n7_ n8_ n9_ n10_ n11_; clear hb hbox hg; have hnb18 := NB285_276.out; have hnc18 := NB276_285.out; have hnb19 := NB285_283.out; have hnc19 := NB283_285.out; obtain ⟨hcz20_0, hcz20_1, hcz20_2, hcz20_3⟩ := Gv.c4 BK285.out; obtain ⟨hfz20_0, hfz20_1, hfz20_2, hfz20_3⟩ := Gv.f4 BK285.out))
       (try simp only [Act.put, List.setIfInBounds_toArray, List.set_cons_zero, List.set_cons_succ])
       go_cut [40] (fun v40 wc => ∃ (kq : Nat) (x40_15 : Bool), v40 = .bool x40_15 ∧ Aside0 (impl_CarryRun.j1 kq x5_1 x7_1 x23_1 l0 (l0.length : Int) x23_1 x40_15 x284000_1 x284001_1 x284002_1 ((rd_T80 l0 x23_1).f0) ((rd_T80 l0 x23_1).f1.f0) ((rd_T80 l0 x23_1).f1.f1) ((rd_T80 l0 x23_1).f1.f2) = some (r1, r2, r3, r4, r5)) ∧ Aside0 (kq ≤ k1) ∧ Aside0 (Kd.R k26 26 wc w.heap.size (fun k_ => some k_ ≠ (u7 : Value).ownBlock ∧ k_ ≠ gb276 ∧ k_ ≠ gb283) u5 x5_1) ∧ Aside0 (Kd.Q k26 26 wc w.heap.size (fun k_ => some k_ ≠ (u5 : Value).ownBlock ∧ k_ ≠ gb276 ∧ k_ ≠ gb283) u7 x7_1) ∧ Aside0 (wc.heap[gb276]? = some (.cells #[.int .i64 x277000_1, .int .i64 x277001_1, .int .i64 x277002_1] 26 (0, 0))) ∧ Aside0 (wc.heap[gb283]? = some (.cells #[.int .i64 x284000_1, .int .i64 x284001_1, .int .i64 x284002_1] 26 (0, 0))) ∧ Aside0 (wc.heap[gb285]? = some (.cells #[.bool ((rd_T80 l0 x23_1).f0), .int .i64 ((rd_T80 l0 x23_1).f1.f0), .int .i64 ((rd_T80 l0 x23_1).f1.f1), .int .i64 ((rd_T80 l0 x23_1).f1.f2)] 80 (0, 0))) ∧ Aside0 (Below w.heap.size w wc))
       case first =>
        have H := HC16.out
        clear HC16
        replace H := Option.bind_eq_some_iff.mp H
        obtain ⟨t286, A210, H⟩ := H
        replace H : (if t286 = true then (if (rd_T80 l0 x23_1).f0 = true then (impl_CarryRun.j1 k1 x5_1 x7_1 x23_1 l0 (l0.length : Int) x23_1 ((x7_1.length : Int) == 0) x284000_1 x284001_1 x284002_1 ((rd_T80 l0 x23_1).f0) ((rd_T80 l0 x23_1).f1.f0) ((rd_T80 l0 x23_1).f1.f1) ((rd_T80 l0 x23_1).f1.f2)) else (impl_CarryRun.j1 k1 x5_1 x7_1 x23_1 l0 (l0.length : Int) x23_1 false x284000_1 x284001_1 x284002_1 ((rd_T80 l0 x23_1).f0) ((rd_T80 l0 x23_1).f1.f0) ((rd_T80 l0 x23_1).f1.f1) ((rd_T80 l0 x23_1).f1.f2))) else (impl_CarryRun.j1 k1 x5_1 x7_1 x23_1 l0 (l0.length : Int) x23_1 true x284000_1 x284001_1 x284002_1 ((rd_T80 l0 x23_1).f0) ((rd_T80 l0 x23_1).f1.f0) ((rd_T80 l0 x23_1).f1.f1) ((rd_T80 l0 x23_1).f1.f2))) = some (r1, r2, r3, r4, r5) := H
        have A21 := Gv.a0 A210
        clear A210
        by_cases c22 : t286 = true
        ·subst c22
         have H1 : (if (rd_T80 l0 x23_1).f0 = true then (impl_CarryRun.j1 k1 x5_1 x7_1 x23_1 l0 (l0.length : Int) x23_1 ((x7_1.length : Int) == 0) x284000_1 x284001_1 x284002_1 ((rd_T80 l0 x23_1).f0) ((rd_T80 l0 x23_1).f1.f0) ((rd_T80 l0 x23_1).f1.f1) ((rd_T80 l0 x23_1).f1.f2)) else (impl_CarryRun.j1 k1 x5_1 x7_1 x23_1 l0 (l0.length : Int) x23_1 false x284000_1 x284001_1 x284002_1 ((rd_T80 l0 x23_1).f0) ((rd_T80 l0 x23_1).f1.f0) ((rd_T80 l0 x23_1).f1.f1) ((rd_T80 l0 x23_1).f1.f2))) = some (r1, r2, r3, r4, r5) := by rw [if_pos rfl] at H; exact H
         clear H
         have H := H1
         clear H1
         obtain ⟨bq23, hbq23⟩ : ∃ b_ : Bool, b_ = ((rd_T80 l0 x23_1).f0) := ⟨_, rfl⟩
         replace H : (if bq23 = true then (impl_CarryRun.j1 k1 x5_1 x7_1 x23_1 l0 (l0.length : Int) x23_1 ((x7_1.length : Int) == 0) x284000_1 x284001_1 x284002_1 bq23 ((rd_T80 l0 x23_1).f1.f0) ((rd_T80 l0 x23_1).f1.f1) ((rd_T80 l0 x23_1).f1.f2)) else (impl_CarryRun.j1 k1 x5_1 x7_1 x23_1 l0 (l0.length : Int) x23_1 false x284000_1 x284001_1 x284002_1 bq23 ((rd_T80 l0 x23_1).f1.f0) ((rd_T80 l0 x23_1).f1.f1) ((rd_T80 l0 x23_1).f1.f2))) = some (r1, r2, r3, r4, r5) := by rw [← hbq23] at H; exact H
         have Nbq23 := Gv.a0 hbq23
         clear hbq23
         (try rw [← Nbq23.out])
         by_cases c24 : bq23 = true
         ·subst c24
          have H1 : (impl_CarryRun.j1 k1 x5_1 x7_1 x23_1 l0 (l0.length : Int) x23_1 ((x7_1.length : Int) == 0) x284000_1 x284001_1 x284002_1 true ((rd_T80 l0 x23_1).f1.f0) ((rd_T80 l0 x23_1).f1.f1) ((rd_T80 l0 x23_1).f1.f2)) = some (r1, r2, r3, r4, r5) := by rw [if_pos rfl] at H; exact H
          clear H
          have H := H1
          clear H1
          have H' := Gv.a0 H
          clear H
          have hnb25 := NB285_276.out
          have hnc25 := NB276_285.out
          have hnb26 := NB285_283.out
          have hnc26 := NB283_285.out
          obtain ⟨hcz27_0, hcz27_1, hcz27_2, hcz27_3⟩ := Gv.c4 BK285.out
          obtain ⟨hfz27_0, hfz27_1, hfz27_2, hfz27_3⟩ := Gv.f4 BK285.out
          go_wp2_with (first | ((with_reducible refine gate_callee (f := 57) rfl ?_); refine goesL_ (some 30) rfl rfl Try.func57 (by kernel_rfl) rfl #[.agg #[.int .i64 ((rd_T80 l0 x23_1).f1.f0), .int .i64 ((rd_T80 l0 x23_1).f1.f1), .int .i64 ((rd_T80 l0 x23_1).f1.f2)]] rfl Gv.lm ?_; (with_reducible refine (impl_CostOk.calls _ _ _ true _ A21.out).mono ?_); rintro e w28 ⟨rfl, hb⟩; refine ⟨_, rfl, ?_⟩; have n0_ := Gv.a0 (Kd.R_below (by (with_reducible repeat (first | apply Kd.R_alloc | apply Kd.R_drewN | apply Kd.R_drew)); exact (Kd.R_mono (Kd.R_far (p := ⟨gb285, 3, none⟩) (Kd.R_far (p := ⟨gb285, 2, none⟩) (Kd.R_far (p := ⟨gb285, 1, none⟩) (Kd.R_far (p := ⟨gb285, 0, none⟩) (Kd.R_types HO_5.out BK285.out (by decide)) (fun _ hk => hk.2) (.bool (true))) (fun _ hk => hk.2) (.int .i64 ((rd_T80 l0 x23_1).f1.f0))) (fun _ hk => hk.2) (.int .i64 ((rd_T80 l0 x23_1).f1.f1))) (fun _ hk => hk.2) (.int .i64 ((rd_T80 l0 x23_1).f1.f2))) (fun _ h_ => h_.1))) hb); have n1_ := Gv.a0 (Kd.Q_below (by (with_reducible repeat (first | apply Kd.Q_alloc | apply Kd.Q_drewN | apply Kd.Q_drew)); exact (Kd.Q_mono (Kd.Q_far (p := ⟨gb285, 3, none⟩) (Kd.Q_far (p := ⟨gb285, 2, none⟩) (Kd.Q_far (p := ⟨gb285, 1, none⟩) (Kd.Q_far (p := ⟨gb285, 0, none⟩) (Kd.Q_types HO_7.out BK285.out (by decide)) (fun _ hk => hk.2) (.bool (true))) (fun _ hk => hk.2) (.int .i64 ((rd_T80 l0 x23_1).f1.f0))) (fun _ hk => hk.2) (.int .i64 ((rd_T80 l0 x23_1).f1.f1))) (fun _ hk => hk.2) (.int .i64 ((rd_T80 l0 x23_1).f1.f2))) (fun _ h_ => h_.1))) hb); have n2_ := Gv.a0 (blk_below (g := gb276) (o := .cells #[.int .i64 x277000_1, .int .i64 x277001_1, .int .i64 x277002_1] 26 (0, 0)) Gv.bkf hb); have n3_ := Gv.a0 (blk_below (g := gb283) (o := .cells #[.int .i64 x284000_1, .int .i64 x284001_1, .int .i64 x284002_1] 26 (0, 0)) Gv.bkf hb); have n4_ := Gv.a0 (blk_below (g := gb285) (o := .cells #[.bool true, .int .i64 ((rd_T80 l0 x23_1).f1.f0), .int .i64 ((rd_T80 l0 x23_1).f1.f1), .int .i64 ((rd_T80 l0 x23_1).f1.f2)] 80 (0, 0)) (by (with_reducible repeat (first | refine blk_drewN ?_ _ | refine blk_drew ?_ | refine blk_alloc ?_ _)); refine blk_put (cs := #[.bool (true), .int .i64 ((rd_T80 l0 x23_1).f1.f0), .int .i64 ((rd_T80 l0 x23_1).f1.f1), .int .i64 0]) ?_ 3 _ rfl; (with_reducible repeat (first | refine blk_drewN ?_ _ | refine blk_drew ?_ | refine blk_alloc ?_ _)); refine blk_put (cs := #[.bool (true), .int .i64 ((rd_T80 l0 x23_1).f1.f0), .int .i64 0, .int .i64 0]) ?_ 2 _ rfl; (with_reducible repeat (first | refine blk_drewN ?_ _ | refine blk_drew ?_ | refine blk_alloc ?_ _)); refine blk_put (cs := #[.bool (true), .int .i64 0, .int .i64 0, .int .i64 0]) ?_ 1 _ rfl; (with_reducible repeat (first | refine blk_drewN ?_ _ | refine blk_drew ?_ | refine blk_alloc ?_ _)); refine blk_put (cs := #[.bool false, .int .i64 0, .int .i64 0, .int .i64 0]) ?_ 0 _ rfl; (with_reducible repeat (first | refine blk_drewN ?_ _ | refine blk_drew ?_ | refine blk_alloc ?_ _)); exact BK285.out) hb); have n5_ := Gv.a0 (below_step Gv.bw hb); clear HO_5; clear HO_7; clear BK276; clear BK283; clear BK285; clear HB; have HO_5 := n0_; have HO_7 := n1_; have BK276 := n2_; have BK283 := n3_; have BK285 := n4_; have HB := n5_; clear n0_ n1_ n2_ n3_ n4_ n5_; (try clear hb); (try clear hb2); (try clear hk); (try clear hi); obtain ⟨hcz29_0, hcz29_1, hcz29_2, hcz29_3⟩ := Gv.c4 BK285.out; obtain ⟨hfz29_0, hfz29_1, hfz29_2, hfz29_3⟩ := Gv.f4 BK285.out; obtain ⟨Ao30, co30, eo30, _⟩ := Kd.Q_slice HO_7.out; subst eo30))
          go_meet
          case rel => (try rw [← Nbq23.out]); exact ⟨_, (((x7_1.length : Int) == 0)), Gv.rq, H', ⟨by have := HK1.out; first | omega | exact Nat.le_refl _⟩, ⟨Gv.kr HO_5.out⟩, ⟨by (with_reducible repeat (first | apply Kd.Q_alloc | apply Kd.Q_drewN | apply Kd.Q_drew)); exact HO_7.out⟩, ⟨by (with_reducible repeat (first | refine blk_drewN ?_ _ | refine blk_drew ?_ | refine blk_alloc ?_ _)); exact BK276.out⟩, ⟨by (with_reducible repeat (first | refine blk_drewN ?_ _ | refine blk_drew ?_ | refine blk_alloc ?_ _)); exact BK283.out⟩, ⟨by (with_reducible repeat (first | refine blk_drewN ?_ _ | refine blk_drew ?_ | refine blk_alloc ?_ _)); exact BK285.out⟩, ⟨Gv.bw⟩⟩
         ·replace c24 := Bool.eq_false_iff.mpr c24
          subst c24
          have H1 : (impl_CarryRun.j1 k1 x5_1 x7_1 x23_1 l0 (l0.length : Int) x23_1 false x284000_1 x284001_1 x284002_1 false ((rd_T80 l0 x23_1).f1.f0) ((rd_T80 l0 x23_1).f1.f1) ((rd_T80 l0 x23_1).f1.f2)) = some (r1, r2, r3, r4, r5) := by rw [if_neg (show ¬ (false = true) by decide)] at H; exact H
          clear H
          have H := H1
          clear H1
          have H' := Gv.a0 H
          clear H
          have hnb31 := NB285_276.out
          have hnc31 := NB276_285.out
          have hnb32 := NB285_283.out
          have hnc32 := NB283_285.out
          obtain ⟨hcz33_0, hcz33_1, hcz33_2, hcz33_3⟩ := Gv.c4 BK285.out
          obtain ⟨hfz33_0, hfz33_1, hfz33_2, hfz33_3⟩ := Gv.f4 BK285.out
          go_wp2_with (first | ((with_reducible refine gate_callee (f := 57) rfl ?_); refine goesL_ (some 30) rfl rfl Try.func57 (by kernel_rfl) rfl #[.agg #[.int .i64 ((rd_T80 l0 x23_1).f1.f0), .int .i64 ((rd_T80 l0 x23_1).f1.f1), .int .i64 ((rd_T80 l0 x23_1).f1.f2)]] rfl Gv.lm ?_; (with_reducible refine (impl_CostOk.calls _ _ _ true _ A21.out).mono ?_); rintro e w34 ⟨rfl, hb⟩; refine ⟨_, rfl, ?_⟩; have n0_ := Gv.a0 (Kd.R_below (by (with_reducible repeat (first | apply Kd.R_alloc | apply Kd.R_drewN | apply Kd.R_drew)); exact (Kd.R_mono (Kd.R_far (p := ⟨gb285, 3, none⟩) (Kd.R_far (p := ⟨gb285, 2, none⟩) (Kd.R_far (p := ⟨gb285, 1, none⟩) (Kd.R_far (p := ⟨gb285, 0, none⟩) (Kd.R_types HO_5.out BK285.out (by decide)) (fun _ hk => hk.2) (.bool (false))) (fun _ hk => hk.2) (.int .i64 ((rd_T80 l0 x23_1).f1.f0))) (fun _ hk => hk.2) (.int .i64 ((rd_T80 l0 x23_1).f1.f1))) (fun _ hk => hk.2) (.int .i64 ((rd_T80 l0 x23_1).f1.f2))) (fun _ h_ => h_.1))) hb); have n1_ := Gv.a0 (Kd.Q_below (by (with_reducible repeat (first | apply Kd.Q_alloc | apply Kd.Q_drewN | apply Kd.Q_drew)); exact (Kd.Q_mono (Kd.Q_far (p := ⟨gb285, 3, none⟩) (Kd.Q_far (p := ⟨gb285, 2, none⟩) (Kd.Q_far (p := ⟨gb285, 1, none⟩) (Kd.Q_far (p := ⟨gb285, 0, none⟩) (Kd.Q_types HO_7.out BK285.out (by decide)) (fun _ hk => hk.2) (.bool (false))) (fun _ hk => hk.2) (.int .i64 ((rd_T80 l0 x23_1).f1.f0))) (fun _ hk => hk.2) (.int .i64 ((rd_T80 l0 x23_1).f1.f1))) (fun _ hk => hk.2) (.int .i64 ((rd_T80 l0 x23_1).f1.f2))) (fun _ h_ => h_.1))) hb); have n2_ := Gv.a0 (blk_below (g := gb276) (o := .cells #[.int .i64 x277000_1, .int .i64 x277001_1, .int .i64 x277002_1] 26 (0, 0)) Gv.bkf hb); have n3_ := Gv.a0 (blk_below (g := gb283) (o := .cells #[.int .i64 x284000_1, .int .i64 x284001_1, .int .i64 x284002_1] 26 (0, 0)) Gv.bkf hb); have n4_ := Gv.a0 (blk_below (g := gb285) (o := .cells #[.bool false, .int .i64 ((rd_T80 l0 x23_1).f1.f0), .int .i64 ((rd_T80 l0 x23_1).f1.f1), .int .i64 ((rd_T80 l0 x23_1).f1.f2)] 80 (0, 0)) (by (with_reducible repeat (first | refine blk_drewN ?_ _ | refine blk_drew ?_ | refine blk_alloc ?_ _)); refine blk_put (cs := #[.bool (false), .int .i64 ((rd_T80 l0 x23_1).f1.f0), .int .i64 ((rd_T80 l0 x23_1).f1.f1), .int .i64 0]) ?_ 3 _ rfl; (with_reducible repeat (first | refine blk_drewN ?_ _ | refine blk_drew ?_ | refine blk_alloc ?_ _)); refine blk_put (cs := #[.bool (false), .int .i64 ((rd_T80 l0 x23_1).f1.f0), .int .i64 0, .int .i64 0]) ?_ 2 _ rfl; (with_reducible repeat (first | refine blk_drewN ?_ _ | refine blk_drew ?_ | refine blk_alloc ?_ _)); refine blk_put (cs := #[.bool (false), .int .i64 0, .int .i64 0, .int .i64 0]) ?_ 1 _ rfl; (with_reducible repeat (first | refine blk_drewN ?_ _ | refine blk_drew ?_ | refine blk_alloc ?_ _)); refine blk_put (cs := #[.bool false, .int .i64 0, .int .i64 0, .int .i64 0]) ?_ 0 _ rfl; (with_reducible repeat (first | refine blk_drewN ?_ _ | refine blk_drew ?_ | refine blk_alloc ?_ _)); exact BK285.out) hb); have n5_ := Gv.a0 (below_step Gv.bw hb); clear HO_5; clear HO_7; clear BK276; clear BK283; clear BK285; clear HB; have HO_5 := n0_; have HO_7 := n1_; have BK276 := n2_; have BK283 := n3_; have BK285 := n4_; have HB := n5_; clear n0_ n1_ n2_ n3_ n4_ n5_; (try clear hb); (try clear hb2); (try clear hk); (try clear hi); obtain ⟨hcz35_0, hcz35_1, hcz35_2, hcz35_3⟩ := Gv.c4 BK285.out; obtain ⟨hfz35_0, hfz35_1, hfz35_2, hfz35_3⟩ := Gv.f4 BK285.out))
          go_meet
          case rel => (try rw [← Nbq23.out]); exact ⟨_, (false), Gv.rq, H', ⟨by have := HK1.out; first | omega | exact Nat.le_refl _⟩, ⟨Gv.kr HO_5.out⟩, ⟨by (with_reducible repeat (first | apply Kd.Q_alloc | apply Kd.Q_drewN | apply Kd.Q_drew)); exact HO_7.out⟩, ⟨by (with_reducible repeat (first | refine blk_drewN ?_ _ | refine blk_drew ?_ | refine blk_alloc ?_ _)); exact BK276.out⟩, ⟨by (with_reducible repeat (first | refine blk_drewN ?_ _ | refine blk_drew ?_ | refine blk_alloc ?_ _)); exact BK283.out⟩, ⟨by (with_reducible repeat (first | refine blk_drewN ?_ _ | refine blk_drew ?_ | refine blk_alloc ?_ _)); exact BK285.out⟩, ⟨Gv.bw⟩⟩
        ·replace c22 := Bool.eq_false_iff.mpr c22
         subst c22
         have H1 : (impl_CarryRun.j1 k1 x5_1 x7_1 x23_1 l0 (l0.length : Int) x23_1 true x284000_1 x284001_1 x284002_1 ((rd_T80 l0 x23_1).f0) ((rd_T80 l0 x23_1).f1.f0) ((rd_T80 l0 x23_1).f1.f1) ((rd_T80 l0 x23_1).f1.f2)) = some (r1, r2, r3, r4, r5) := by rw [if_neg (show ¬ (false = true) by decide)] at H; exact H
         clear H
         have H := H1
         clear H1
         have H' := Gv.a0 H
         clear H
         have hnb36 := NB285_276.out
         have hnc36 := NB276_285.out
         have hnb37 := NB285_283.out
         have hnc37 := NB283_285.out
         obtain ⟨hcz38_0, hcz38_1, hcz38_2, hcz38_3⟩ := Gv.c4 BK285.out
         obtain ⟨hfz38_0, hfz38_1, hfz38_2, hfz38_3⟩ := Gv.f4 BK285.out
         go_wp2_with (first | ((with_reducible refine gate_callee (f := 57) rfl ?_); refine goesL_ (some 30) rfl rfl Try.func57 (by kernel_rfl) rfl #[.agg #[.int .i64 ((rd_T80 l0 x23_1).f1.f0), .int .i64 ((rd_T80 l0 x23_1).f1.f1), .int .i64 ((rd_T80 l0 x23_1).f1.f2)]] rfl Gv.lm ?_; (with_reducible refine (impl_CostOk.calls _ _ _ false _ A21.out).mono ?_); rintro e w39 ⟨rfl, hb⟩; refine ⟨_, rfl, ?_⟩; have n0_ := Gv.a0 (Kd.R_below (by (with_reducible repeat (first | apply Kd.R_alloc | apply Kd.R_drewN | apply Kd.R_drew)); exact (Kd.R_mono (Kd.R_far (p := ⟨gb285, 3, none⟩) (Kd.R_far (p := ⟨gb285, 2, none⟩) (Kd.R_far (p := ⟨gb285, 1, none⟩) (Kd.R_far (p := ⟨gb285, 0, none⟩) (Kd.R_types HO_5.out BK285.out (by decide)) (fun _ hk => hk.2) (.bool ((rd_T80 l0 x23_1).f0))) (fun _ hk => hk.2) (.int .i64 ((rd_T80 l0 x23_1).f1.f0))) (fun _ hk => hk.2) (.int .i64 ((rd_T80 l0 x23_1).f1.f1))) (fun _ hk => hk.2) (.int .i64 ((rd_T80 l0 x23_1).f1.f2))) (fun _ h_ => h_.1))) hb); have n1_ := Gv.a0 (Kd.Q_below (by (with_reducible repeat (first | apply Kd.Q_alloc | apply Kd.Q_drewN | apply Kd.Q_drew)); exact (Kd.Q_mono (Kd.Q_far (p := ⟨gb285, 3, none⟩) (Kd.Q_far (p := ⟨gb285, 2, none⟩) (Kd.Q_far (p := ⟨gb285, 1, none⟩) (Kd.Q_far (p := ⟨gb285, 0, none⟩) (Kd.Q_types HO_7.out BK285.out (by decide)) (fun _ hk => hk.2) (.bool ((rd_T80 l0 x23_1).f0))) (fun _ hk => hk.2) (.int .i64 ((rd_T80 l0 x23_1).f1.f0))) (fun _ hk => hk.2) (.int .i64 ((rd_T80 l0 x23_1).f1.f1))) (fun _ hk => hk.2) (.int .i64 ((rd_T80 l0 x23_1).f1.f2))) (fun _ h_ => h_.1))) hb); have n2_ := Gv.a0 (blk_below (g := gb276) (o := .cells #[.int .i64 x277000_1, .int .i64 x277001_1, .int .i64 x277002_1] 26 (0, 0)) Gv.bkf hb); have n3_ := Gv.a0 (blk_below (g := gb283) (o := .cells #[.int .i64 x284000_1, .int .i64 x284001_1, .int .i64 x284002_1] 26 (0, 0)) Gv.bkf hb); have n4_ := Gv.a0 (blk_below (g := gb285) (o := .cells #[.bool ((rd_T80 l0 x23_1).f0), .int .i64 ((rd_T80 l0 x23_1).f1.f0), .int .i64 ((rd_T80 l0 x23_1).f1.f1), .int .i64 ((rd_T80 l0 x23_1).f1.f2)] 80 (0, 0)) (by (with_reducible repeat (first | refine blk_drewN ?_ _ | refine blk_drew ?_ | refine blk_alloc ?_ _)); refine blk_put (cs := #[.bool ((rd_T80 l0 x23_1).f0), .int .i64 ((rd_T80 l0 x23_1).f1.f0), .int .i64 ((rd_T80 l0 x23_1).f1.f1), .int .i64 0]) ?_ 3 _ rfl; (with_reducible repeat (first | refine blk_drewN ?_ _ | refine blk_drew ?_ | refine blk_alloc ?_ _)); refine blk_put (cs := #[.bool ((rd_T80 l0 x23_1).f0), .int .i64 ((rd_T80 l0 x23_1).f1.f0), .int .i64 0, .int .i64 0]) ?_ 2 _ rfl; (with_reducible repeat (first | refine blk_drewN ?_ _ | refine blk_drew ?_ | refine blk_alloc ?_ _)); refine blk_put (cs := #[.bool ((rd_T80 l0 x23_1).f0), .int .i64 0, .int .i64 0, .int .i64 0]) ?_ 1 _ rfl; (with_reducible repeat (first | refine blk_drewN ?_ _ | refine blk_drew ?_ | refine blk_alloc ?_ _)); refine blk_put (cs := #[.bool false, .int .i64 0, .int .i64 0, .int .i64 0]) ?_ 0 _ rfl; (with_reducible repeat (first | refine blk_drewN ?_ _ | refine blk_drew ?_ | refine blk_alloc ?_ _)); exact BK285.out) hb); have n5_ := Gv.a0 (below_step Gv.bw hb); clear HO_5; clear HO_7; clear BK276; clear BK283; clear BK285; clear HB; have HO_5 := n0_; have HO_7 := n1_; have BK276 := n2_; have BK283 := n3_; have BK285 := n4_; have HB := n5_; clear n0_ n1_ n2_ n3_ n4_ n5_; (try clear hb); (try clear hb2); (try clear hk); (try clear hi)))
         go_meet
         case rel => (try rw [← Nbq23.out]); exact ⟨_, (true), Gv.rq, H', ⟨by have := HK1.out; first | omega | exact Nat.le_refl _⟩, ⟨Gv.kr HO_5.out⟩, ⟨by (with_reducible repeat (first | apply Kd.Q_alloc | apply Kd.Q_drewN | apply Kd.Q_drew)); exact HO_7.out⟩, ⟨by (with_reducible repeat (first | refine blk_drewN ?_ _ | refine blk_drew ?_ | refine blk_alloc ?_ _)); exact BK276.out⟩, ⟨by (with_reducible repeat (first | refine blk_drewN ?_ _ | refine blk_drew ?_ | refine blk_alloc ?_ _)); exact BK283.out⟩, ⟨by (with_reducible repeat (first | refine blk_drewN ?_ _ | refine blk_drew ?_ | refine blk_alloc ?_ _)); exact BK285.out⟩, ⟨Gv.bw⟩⟩
       case rest =>
        clear HC16
        try clear c1
        try clear c2
        try clear c2b0
        try clear c2b1
        try clear p2
        try clear q2
        try clear hx2
        try clear c3
        try clear c5
        try clear c11
        try clear c13
        try clear c13b0
        try clear c14
        try clear c14b0
        try clear c15
        try clear c15b0
        try clear c18
        try clear c19
        try clear c22
        try clear q23
        try clear c24
        try clear c25
        try clear c26
        try clear p28
        try clear q28
        try clear hx28
        try clear c31
        try clear c32
        try clear c33
        try clear c36
        try clear c37
        try clear hcz12_0 hcz12_1 hcz12_2
        try clear hcz20_0 hcz20_1 hcz20_2 hcz20_3
        try clear hcz27_0 hcz27_1 hcz27_2 hcz27_3
        try clear hcz29_0 hcz29_1 hcz29_2 hcz29_3
        try clear hcz33_0 hcz33_1 hcz33_2 hcz33_3
        try clear hcz35_0 hcz35_1 hcz35_2 hcz35_3
        try clear hcz38_0 hcz38_1 hcz38_2 hcz38_3
        try clear hcz4_0 hcz4_1 hcz4_2
        try clear hfz12_0 hfz12_1 hfz12_2
        try clear hfz20_0 hfz20_1 hfz20_2 hfz20_3
        try clear hfz27_0 hfz27_1 hfz27_2 hfz27_3
        try clear hfz29_0 hfz29_1 hfz29_2 hfz29_3
        try clear hfz33_0 hfz33_1 hfz33_2 hfz33_3
        try clear hfz35_0 hfz35_1 hfz35_2 hfz35_3
        try clear hfz38_0 hfz38_1 hfz38_2 hfz38_3
        try clear hfz4_0 hfz4_1 hfz4_2
        try clear hx284_0
        try clear hx284_1
        try clear hx284_2
        try clear hx284_3
        try clear p2
        try clear p284
        try clear q284
        obtain ⟨kq, x40_15, rfl, HA, HJ15, HO_5, HO_7, BK276, BK283, BK285, HB⟩ := hcut
        cases kq with
        | zero => exact absurd HA.out (by simp [impl_CarryRun.j1])
        | succ kj15 =>
         have H := HA.out
         clear HA
         simp only [impl_CarryRun.j1] at H
         by_cases c40 : x40_15 = true
         ·subst c40
          have H1 : (some (([] : List (S26)), 0, 0, 0, wrap64 (x23_1 + 1))) = some (r1, r2, r3, r4, r5) := by rw [if_pos rfl] at H; exact H
          clear H
          have H := H1
          clear H1
          simp only [Option.some.injEq, Prod.mk.injEq] at H
          obtain ⟨rfl, rfl, rfl, rfl, rfl⟩ := H
          have hnb41 := NB276_283.out
          have hnc41 := NB283_276.out
          have hnb42 := NB276_285.out
          have hnc42 := NB285_276.out
          have hcz43_0 : wc.cell? ⟨gb276, 0, none⟩ = some (.int .i64 x277000_1) := (blk_cell BK276.out 0).trans rfl
          have hcz43_1 : wc.cell? ⟨gb276, 1, none⟩ = some (.int .i64 x277001_1) := (blk_cell BK276.out 1).trans rfl
          have hcz43_2 : wc.cell? ⟨gb276, 2, none⟩ = some (.int .i64 x277002_1) := (blk_cell BK276.out 2).trans rfl
          have hfz43_0 := blk_frozen BK276.out 0
          have hfz43_1 := blk_frozen BK276.out 1
          have hfz43_2 := blk_frozen BK276.out 2
          go_wp2
          refine bodyPost_ret (results_list (rs := [.tmp 2, .cell 3 26, .tmp 4]) rfl (by simp) (.tmp (.cell gb276 26 #[.int .i64 0, .int .i64 0, .int .i64 0] (0, 0) _ rfl (by (with_reducible repeat (first | refine blk_drewN ?_ _ | refine blk_drew ?_ | refine blk_alloc ?_ _)); refine blk_put (cs := #[.int .i64 0, .int .i64 0, .int .i64 x277002_1]) ?_ 2 _ rfl; (with_reducible repeat (first | refine blk_drewN ?_ _ | refine blk_drew ?_ | refine blk_alloc ?_ _)); refine blk_put (cs := #[.int .i64 0, .int .i64 x277001_1, .int .i64 x277002_1]) ?_ 1 _ rfl; (with_reducible repeat (first | refine blk_drewN ?_ _ | refine blk_drew ?_ | refine blk_alloc ?_ _)); refine blk_put (cs := #[.int .i64 x277000_1, .int .i64 x277001_1, .int .i64 x277002_1]) ?_ 0 _ rfl; (with_reducible repeat (first | refine blk_drewN ?_ _ | refine blk_drew ?_ | refine blk_alloc ?_ _)); exact BK276.out) Try.underlying26 rfl (by kernel_rfl) (.tmp .nil)))) rfl ?_
          exact ⟨_, Gv.rt, by first | exact Kd.R_nil _ _ _ _ _ | exact Kd.N_nil _ _ _ _ _ | exact Kd.V_nil _ _ _ _ _ | exact Kd.Q_nil _ _ _ _ _ | exact Kd.S_nil _ _ _ _ _, Gv.bw⟩
         ·replace c40 := Bool.eq_false_iff.mpr c40
          subst c40
          have H1 : (if ((rd_T80 l0 x23_1).f0) = true then (if 0 < (x7_1.length : Int) then ((impl_Settle.f kj15 x284000_1 x284001_1 x284002_1 ((rd_T26 x7_1 0).f0) ((rd_T26 x7_1 0).f1) ((rd_T26 x7_1 0).f2) ((rd_T80 l0 x23_1).f1.f0) ((rd_T80 l0 x23_1).f1.f1) ((rd_T80 l0 x23_1).f1.f2)).bind fun bt288 => (if bt288.2.2.2 = true then (if 1 ≤ (x7_1.length : Int) then (impl_CarryRun.l0 kj15 x5_1 (x7_1.drop (1 : Int).toNat) l0 (l0.length : Int) (wrap64 (x23_1 + 1)) bt288.1 bt288.2.1 bt288.2.2.1) else (none)) else (some (([] : List (S26)), 0, 0, 0, wrap64 (x23_1 + 1))))) else (none)) else ((impl_Charge.f kj15 ((rd_T80 l0 x23_1).f1.f0) ((rd_T80 l0 x23_1).f1.f1) ((rd_T80 l0 x23_1).f1.f2) x284000_1 x284001_1 x284002_1).bind fun bt296 => ((some (([(⟨bt296.1, bt296.2.1, bt296.2.2.1⟩ : S26)] : List (S26)) : List (S26))).bind fun y304 => (if x5_1.length + y304.length < 5864062014805 then ((some (([(⟨((rd_T80 l0 x23_1).f1.f0), ((rd_T80 l0 x23_1).f1.f1), ((rd_T80 l0 x23_1).f1.f2)⟩ : S26)] : List (S26)) : List (S26))).bind fun y310 => (if x7_1.length + y310.length < 5864062014805 then (impl_CarryRun.l0 kj15 (x5_1 ++ y304) (x7_1 ++ y310) l0 (l0.length : Int) (wrap64 (x23_1 + 1)) bt296.2.2.2.1 bt296.2.2.2.2.1 bt296.2.2.2.2.2) else (none))) else (none))))) = some (r1, r2, r3, r4, r5) := by rw [if_neg (show ¬ (false = true) by decide)] at H; exact H
          clear H
          have H := H1
          clear H1
          by_cases c44 : ((rd_T80 l0 x23_1).f0) = true
          ·rw [if_pos c44] at H
           have c44b0 : ((rd_T80 l0 x23_1).f0) = true := c44
           clear c44
           by_cases c45 : 0 < (x7_1.length : Int)
           ·rw [if_pos c45] at H
            have c45b0 : decide (0 < (x7_1.length : Int)) = true := decide_eq_true c45
            have c45b1 : decide (0 < x7_1.length) = true := decide_eq_true (by omega)
            clear c45
            replace H := Option.bind_eq_some_iff.mp H
            obtain ⟨⟨t288, t289, t290, t291⟩, A460, H⟩ := H
            replace H : (if t291 = true then (if 1 ≤ (x7_1.length : Int) then (impl_CarryRun.l0 kj15 x5_1 (x7_1.drop (1 : Int).toNat) l0 (l0.length : Int) (wrap64 (x23_1 + 1)) t288 t289 t290) else (none)) else (some (([] : List (S26)), 0, 0, 0, wrap64 (x23_1 + 1)))) = some (r1, r2, r3, r4, r5) := H
            have A46 := Gv.a0 A460
            clear A460
            by_cases c47 : t291 = true
            ·subst c47
             have H1 : (if 1 ≤ (x7_1.length : Int) then (impl_CarryRun.l0 kj15 x5_1 (x7_1.drop (1 : Int).toNat) l0 (l0.length : Int) (wrap64 (x23_1 + 1)) t288 t289 t290) else (none)) = some (r1, r2, r3, r4, r5) := by rw [if_pos rfl] at H; exact H
             clear H
             have H := H1
             clear H1
             by_cases c48 : 1 ≤ (x7_1.length : Int)
             ·rw [if_pos c48] at H
              have c48b0 := eq_true c48
              have c48b1 : decide (1 ≤ (x7_1.length : Int)) = true := decide_eq_true c48
              clear c48
              obtain ⟨y293, hy293⟩ : ∃ y_ : List (S26), y_ = (x7_1.drop (1 : Int).toNat) := ⟨_, rfl⟩
              replace H : (impl_CarryRun.l0 kj15 x5_1 y293 l0 (l0.length : Int) (wrap64 (x23_1 + 1)) t288 t289 t290) = some (r1, r2, r3, r4, r5) := by first | (rw [hy293]; with_reducible exact H) | (have H2_ := (Option.bind_some _ _).symm.trans H; rw [hy293]; with_reducible exact H2_) | (have H2_ := (Option.bind_some _ _).symm.trans H; with_reducible exact H2_) | with_reducible exact H | (rw [hy293]; exact H) | exact H
              have Ny293 := Gv.a0 hy293
              clear hy293
              have H' := Gv.a0 H
              clear H
              have hnb49 := NB285_276.out
              have hnc49 := NB276_285.out
              have hnb50 := NB285_283.out
              have hnc50 := NB283_285.out
              obtain ⟨hcz51_0, hcz51_1, hcz51_2, hcz51_3⟩ := Gv.c4 BK285.out
              obtain ⟨hfz51_0, hfz51_1, hfz51_2, hfz51_3⟩ := Gv.f4 BK285.out
              try go_wp2
              have n0_ := Gv.a0 (Kd.R_drew HO_5.out)
              have n1_ := Gv.a0 (Kd.Q_drew HO_7.out)
              have n2_ := Gv.a0 (blk_drew BK276.out)
              have n3_ := Gv.a0 (blk_drew BK283.out)
              have n4_ := Gv.a0 (blk_drew BK285.out)
              have n5_ := Gv.a0 (below_drew1 HB.out)
              clear HO_5 HO_7 BK276 BK283 BK285 HB
              have HO_5 := n0_
              have HO_7 := n1_
              have BK276 := n2_
              have BK283 := n3_
              have BK285 := n4_
              have HB := n5_
              clear n0_ n1_ n2_ n3_ n4_ n5_
              obtain ⟨Ao53, co53, eo53, _⟩ := Kd.Q_slice HO_7.out
              (first | subst eo53 | (injection eo53 with f1_ f2_ f3_; have f4_ := f1_.symm; have f5_ := f3_.symm; clear f1_ f2_ f3_; subst f4_; subst f5_))
              have p287 : 0 ≤ (0 : Int) := (by omega)
              have q287 : 0 < (x7_1.length : Int) := of_decide_eq_true (by first | (with_reducible assumption) | assumption)
              obtain ⟨ad287, e287, hx287_0, hx287_1, hx287_2⟩ := at_T26 (Kd.Q_reads' HO_7.out).2.2 0 p287 q287
              cases e287
              have qi287 : (0 < x7_1.length) = True := eq_true (by omega)
              (try rw [show ((0 : Int)).toNat = 0 from rfl] at hx287_0)
              (try rw [show 0 * 3 = 0 from rfl] at hx287_0)
              (try rw [Addr.add_zero'] at hx287_0)
              (try rw [show ((0 : Int)).toNat = 0 from rfl] at hx287_1)
              (try rw [show 0 * 3 = 0 from rfl] at hx287_1)
              (try rw [Addr.add_zero'] at hx287_1)
              (try rw [show ((0 : Int)).toNat = 0 from rfl] at hx287_2)
              (try rw [show 0 * 3 = 0 from rfl] at hx287_2)
              (try rw [Addr.add_zero'] at hx287_2)
              replace p287 := eq_true p287
              replace q287 := eq_true q287
              refine start_ (n := 13) (S := fun w' => w'.cell? ⟨gb283, 0, none⟩ = some (.int .i64 x284000_1) ∧ w'.cell? ⟨gb283, 1, none⟩ = some (.int .i64 x284001_1) ∧ w'.cell? ⟨gb283, 2, none⟩ = some (.int .i64 x284002_1) ∧ w'.cell? ⟨gb285, 0, none⟩ = some (.bool ((rd_T80 l0 x23_1).f0)) ∧ w'.cell? ⟨gb285, 1, none⟩ = some (.int .i64 ((rd_T80 l0 x23_1).f1.f0)) ∧ w'.cell? ⟨gb285, 2, none⟩ = some (.int .i64 ((rd_T80 l0 x23_1).f1.f1)) ∧ w'.cell? ⟨gb285, 3, none⟩ = some (.int .i64 ((rd_T80 l0 x23_1).f1.f2)) ∧ w'.cell? ad287 = some (.int .i64 ((rd_T26 x7_1 0).f0)) ∧ w'.cell? ⟨ad287.block, ad287.off + 1, none⟩ = some (.int .i64 ((rd_T26 x7_1 0).f1)) ∧ w'.cell? ⟨ad287.block, ad287.off + 2, none⟩ = some (.int .i64 ((rd_T26 x7_1 0).f2))) (ds := []) #[false, false, false, false, false, false, false, false, false, false, false, false, false] (by kernel_rfl) rfl rfl ⟨(blk_cell BK283.out 0).trans rfl, (blk_cell BK283.out 1).trans rfl, (blk_cell BK283.out 2).trans rfl, (blk_cell BK285.out 0).trans rfl, (blk_cell BK285.out 1).trans rfl, (blk_cell BK285.out 2).trans rfl, (blk_cell BK285.out 3).trans rfl, hx287_0, hx287_1, hx287_2⟩ (fun hHeld => ?_); refine with_tabW impl_CarryRun.tab12 impl_CarryRun.bits12 (fun HT_ HW_ => ?_)
              generalize wc.drew = w52 at HO_5 HO_7 BK276 BK283 BK285 HB hx287_0 hx287_1 hx287_2 hHeld ⊢
              refine Gv.pu 1 (some 66) HT_ ?_
              refine Gv.pu 2 (some 67) HT_ ?_
              refine Gv.pu 4 (some 69) HT_ ?_
              refine take_ (i := 0) (N := some 65) (v := ?_) (a' := ?_) #[true, true, true, false, true, false, false, false, false, false, false, false, false] rfl rfl (take_ofW HT_.out HW_.out (by kernel_rfl)) (fun _ _ _ h => h) (Or.inl ⟨by rfl, ?_⟩) hHeld ?_ ?_
              rotate_left
              ·rintro w' ⟨s0, s1, s2, s3, s4, s5, s6, s7, s8, s9⟩
               go_simp
               with_reducible rfl
              rotate_left
              ·simp only [Act.put, List.setIfInBounds_toArray, List.set_cons_zero, List.set_cons_succ, i64_w, i32_w]
               rfl
              refine take_ (i := 3) (N := some 68) (v := ?_) (a' := ?_) #[true, true, true, true, true, false, false, false, false, false, false, false, false] rfl rfl (take_ofW HT_.out HW_.out (by kernel_rfl)) (fun _ _ _ h => h) (Or.inl ⟨by rfl, ?_⟩) hHeld ?_ ?_
              rotate_left
              ·rintro w' ⟨s0, s1, s2, s3, s4, s5, s6, s7, s8, s9⟩
               go_simp
               with_reducible rfl
              rotate_left
              ·simp only [Act.put, List.setIfInBounds_toArray, List.set_cons_zero, List.set_cons_succ, i64_w, i32_w]
               rfl
              refine take_ (i := 5) (N := some 70) (v := ?_) (a' := ?_) #[true, true, true, true, true, true, false, false, false, false, false, false, false] rfl rfl (take_ofW HT_.out HW_.out (by kernel_rfl)) (fun _ _ _ h => h) (Or.inl ⟨by rfl, ?_⟩) hHeld ?_ ?_
              rotate_left
              ·rintro w' ⟨s0, s1, s2, s3, s4, s5, s6, s7, s8, s9⟩
               go_simp
               with_reducible rfl
              rotate_left
              ·simp only [Act.put, List.setIfInBounds_toArray, List.set_cons_zero, List.set_cons_succ, i64_w, i32_w]
               rfl
              refine join_ (σ := Nat) 2 #[true, true, true, true, true, true, true, true, true, true, true, false, false] (fun s_ => [(71, .tuple #[.agg #[.int .i64 t288, .int .i64 t289, .int .i64 t290], .bool true]), (12, .pointer (some ⟨s_, 0, none⟩)), (64, .tuple #[.agg #[.int .i64 t288, .int .i64 t289, .int .i64 t290], .bool true]), (72, .agg #[.int .i64 t288, .int .i64 t289, .int .i64 t290]), (73, .bool true)]) (fun s_ w' => (w'.cell? ⟨gb283, 0, none⟩ = some (.int .i64 x284000_1) ∧ w'.cell? ⟨gb283, 1, none⟩ = some (.int .i64 x284001_1) ∧ w'.cell? ⟨gb283, 2, none⟩ = some (.int .i64 x284002_1) ∧ w'.cell? ⟨gb285, 0, none⟩ = some (.bool ((rd_T80 l0 x23_1).f0)) ∧ w'.cell? ⟨gb285, 1, none⟩ = some (.int .i64 ((rd_T80 l0 x23_1).f1.f0)) ∧ w'.cell? ⟨gb285, 2, none⟩ = some (.int .i64 ((rd_T80 l0 x23_1).f1.f1)) ∧ w'.cell? ⟨gb285, 3, none⟩ = some (.int .i64 ((rd_T80 l0 x23_1).f1.f2)) ∧ w'.cell? ad287 = some (.int .i64 ((rd_T26 x7_1 0).f0)) ∧ w'.cell? ⟨ad287.block, ad287.off + 1, none⟩ = some (.int .i64 ((rd_T26 x7_1 0).f1)) ∧ w'.cell? ⟨ad287.block, ad287.off + 2, none⟩ = some (.int .i64 ((rd_T26 x7_1 0).f2))) ∧ (Kd.R k26 26 w' w.heap.size (fun k_ => some k_ ≠ (.slice (some ad287) x7_1.length co53 : Value).ownBlock ∧ k_ ≠ gb276 ∧ k_ ≠ gb283 ∧ k_ ≠ s_) u5 x5_1) ∧ (Kd.Q k26 26 w' w.heap.size (fun k_ => some k_ ≠ (u5 : Value).ownBlock ∧ k_ ≠ gb276 ∧ k_ ≠ gb283 ∧ k_ ≠ s_) (.slice (some ad287) x7_1.length co53) x7_1) ∧ (w'.heap[gb276]? = some (.cells #[.int .i64 x277000_1, .int .i64 x277001_1, .int .i64 x277002_1] 26 (0, 0))) ∧ (w'.heap[gb283]? = some (.cells #[.int .i64 x284000_1, .int .i64 x284001_1, .int .i64 x284002_1] 26 (0, 0))) ∧ (w'.heap[gb285]? = some (.cells #[.bool ((rd_T80 l0 x23_1).f0), .int .i64 ((rd_T80 l0 x23_1).f1.f0), .int .i64 ((rd_T80 l0 x23_1).f1.f1), .int .i64 ((rd_T80 l0 x23_1).f1.f2)] 80 (0, 0))) ∧ (w'.heap[s_]? = some (.cells #[.int .i64 0, .int .i64 0, .int .i64 0] 26 (0, 0))) ∧ (w.heap.size ≤ s_) ∧ (w.heap.size ≤ s_) ∧ (gb276 ≠ s_) ∧ (s_ ≠ gb276) ∧ (gb283 ≠ s_) ∧ (s_ ≠ gb283) ∧ (gb285 ≠ s_) ∧ (s_ ≠ gb285) ∧ (Below w.heap.size w w')) ?_ ?_
              rotate_left
              ·intro hCont
               refine two_ (i := 6) (j := 10) (Ni := some 71) (Nj := some 12) #[true, true, true, true, true, true, true, false, false, false, false, false, false] #[true, true, true, true, true, true, false, false, false, false, true, false, false] rfl rfl rfl rfl (two_of HT_.out (by kernel_rfl)) (by decide) (by decide) (fun K hK => ?_) (fun K hK => ?_)
               ·skip
                refine goes_ Try.func19 (by kernel_rfl) rfl #[.agg #[.int .i64 x284000_1, .int .i64 x284001_1, .int .i64 x284002_1], .agg #[.int .i64 ((rd_T26 x7_1 0).f0), .int .i64 ((rd_T26 x7_1 0).f1), .int .i64 ((rd_T26 x7_1 0).f2)], .agg #[.int .i64 ((rd_T80 l0 x23_1).f1.f0), .int .i64 ((rd_T80 l0 x23_1).f1.f1), .int .i64 ((rd_T80 l0 x23_1).f1.f2)]] (by rfl) rfl rfl Gv.lm ?_
                with_reducible refine (impl_Settle.calls kj15 x284000_1 x284001_1 x284002_1 ((rd_T26 x7_1 0).f0) ((rd_T26 x7_1 0).f1) ((rd_T26 x7_1 0).f2) ((rd_T80 l0 x23_1).f1.f0) ((rd_T80 l0 x23_1).f1.f1) ((rd_T80 l0 x23_1).f1.f2) t288 t289 t290 true _ A46.out).mono ?_
                rintro e w54 ⟨rfl, hb⟩
                have HS7_ := (hb.cell (World.block_lt_of_cell? _ _ (hHeld.2.2.2.2.2.2.2.1))).trans (hHeld.2.2.2.2.2.2.2.1)
                have HS8_ := (hb.cell (World.block_lt_of_cell? _ _ (hHeld.2.2.2.2.2.2.2.2.1))).trans (hHeld.2.2.2.2.2.2.2.2.1)
                have HS9_ := (hb.cell (World.block_lt_of_cell? _ _ (hHeld.2.2.2.2.2.2.2.2.2))).trans (hHeld.2.2.2.2.2.2.2.2.2)
                refine ⟨_, rfl, ?_⟩
                have n0_ := Gv.a0 (Kd.R_below HO_5.out hb)
                have n1_ := Gv.a0 (Kd.Q_below (by (with_reducible repeat (first | apply Kd.Q_alloc | apply Kd.Q_drewN | apply Kd.Q_drew)); exact HO_7.out) hb)
                have n2_ := Gv.a0 (blk_below BK276.out hb)
                have n3_ := Gv.a0 (blk_below BK283.out hb)
                have n4_ := Gv.a0 (blk_below BK285.out hb)
                have n5_ := Gv.a0 (below_step HB.out hb)
                clear HO_5 HO_7 BK276 BK283 BK285 HB
                have HO_5 := n0_
                have HO_7 := n1_
                have BK276 := n2_
                have BK283 := n3_
                have BK285 := n4_
                have HB := n5_
                clear n0_ n1_ n2_ n3_ n4_ n5_
                (try clear hb)
                (try clear hb2)
                (try clear hk)
                (try clear hi)
                refine hK.out _ _ ⟨(blk_cell BK283.out 0).trans rfl, (blk_cell BK283.out 1).trans rfl, (blk_cell BK283.out 2).trans rfl, (blk_cell BK285.out 0).trans rfl, (blk_cell BK285.out 1).trans rfl, (blk_cell BK285.out 2).trans rfl, (blk_cell BK285.out 3).trans rfl, HS7_, HS8_, HS9_⟩ (fun hHeld => ?_)
                clear hK K
                refine norm_ (a' := ?_) ?_ ?_
                rotate_left
                ·show Act.put _ (some 71) _ = _
                 simp only [Act.put, List.setIfInBounds_toArray, List.set_cons_zero, List.set_cons_succ, i64_w, i32_w]
                 rfl
                refine Gv.pu 7 (some 64) HT_ ?_
                refine Gv.pu 8 (some 72) HT_ ?_
                refine Gv.pu 9 (some 73) HT_ ?_
                refine one_ (i := 10) (N := some 12) #[true, true, true, true, true, true, true, true, true, true, true, false, false] rfl rfl (one_of HT_.out (by kernel_rfl)) (by decide) (fun K hK => ?_)
                refine box_step ?hg (N := 12) ?hd (cs := #[.int .i64 0, .int .i64 0, .int .i64 0]) (t := 26) ?hr ?_; (case hd => rfl); (case hg => rfl); (case hr => first | (go_simp; done) | (go_simp; rfl))
                intro gb292 hg w55 hbox hb
                have HS7_ := (hb.cell (World.block_lt_of_cell? _ _ (hHeld.2.2.2.2.2.2.2.1))).trans (hHeld.2.2.2.2.2.2.2.1)
                have HS8_ := (hb.cell (World.block_lt_of_cell? _ _ (hHeld.2.2.2.2.2.2.2.2.1))).trans (hHeld.2.2.2.2.2.2.2.2.1)
                have HS9_ := (hb.cell (World.block_lt_of_cell? _ _ (hHeld.2.2.2.2.2.2.2.2.2))).trans (hHeld.2.2.2.2.2.2.2.2.2)
                have n0_ := Gv.a0 (Kd.R_below (Kd.R_elderB HO_5.out gb292 (Nat.le_of_eq hg.symm)) hb)
                have n1_ := Gv.a0 (Kd.Q_below (Kd.Q_elderB (by (with_reducible repeat (first | apply Kd.Q_alloc | apply Kd.Q_drewN | apply Kd.Q_drew)); exact HO_7.out) gb292 (Nat.le_of_eq hg.symm)) hb)
                have n2_ := Gv.a0 (blk_below BK276.out hb)
                have n3_ := Gv.a0 (blk_below BK283.out hb)
                have n4_ := Gv.a0 (blk_below BK285.out hb)
                have n5_ := Gv.a0 (below_step HB.out hb)
                have n6_ := Gv.a0 (hbox)
                have n7_ := Gv.a0 (Gv.ble hg HB.out : w.heap.size ≤ gb292)
                have n8_ := Gv.a0 (Gv.ble hg HB.out : w.heap.size ≤ gb292)
                have n9_ := Gv.a0 (Gv.nlt hg BK276.out : gb276 ≠ gb292)
                have n10_ := Gv.a0 (Gv.ngt hg BK276.out : gb292 ≠ gb276)
                have n11_ := Gv.a0 (Gv.nlt hg BK283.out : gb283 ≠ gb292)
                have n12_ := Gv.a0 (Gv.ngt hg BK283.out : gb292 ≠ gb283)
                have n13_ := Gv.a0 (Gv.nlt hg BK285.out : gb285 ≠ gb292)
                have n14_ := Gv.a0 (Gv.ngt hg BK285.out : gb292 ≠ gb285)
                clear HO_5 HO_7 BK276 BK283 BK285 HB
                have HO_5 := n0_
                have HO_7 := n1_
                have BK276 := n2_
                have BK283 := n3_
                have BK285 := n4_
                have HB := n5_
                have BK292 := n6_
                have GW292 := n7_
                have GE292 := n8_
                have NB276_292 := n9_
                have NB292_276 := n10_
                have NB283_292 := n11_
                have NB292_283 := n12_
                have NB285_292 := n13_
                have NB292_285 := n14_
                clear n0_ n1_ n2_ n3_ n4_ n5_ n6_ n7_ n8_ n9_ n10_ n11_ n12_ n13_ n14_
                clear hb hbox hg
                refine hK.out _ _ ⟨(blk_cell BK283.out 0).trans rfl, (blk_cell BK283.out 1).trans rfl, (blk_cell BK283.out 2).trans rfl, (blk_cell BK285.out 0).trans rfl, (blk_cell BK285.out 1).trans rfl, (blk_cell BK285.out 2).trans rfl, (blk_cell BK285.out 3).trans rfl, HS7_, HS8_, HS9_⟩ (fun hHeld => ?_)
                clear hK K
                refine norm_ (a' := ?_) ?_ ?_
                rotate_left
                ·show Act.put _ (some 12) _ = _
                 simp only [Act.put, List.setIfInBounds_toArray, List.set_cons_zero, List.set_cons_succ, i64_w, i32_w]
                 rfl
                exact norm_ (by simp only [putAll, Act.put, List.setIfInBounds_toArray, List.set_cons_zero, List.set_cons_succ]) (hCont (gb292) _ ⟨hHeld, (by (with_reducible repeat (first | apply Kd.R_alloc | apply Kd.R_drewN | apply Kd.R_drew)); exact Kd.R_mono HO_5.out (fun _ hk => ⟨hk.1.1, ⟨hk.1.2.1, ⟨hk.1.2.2, hk.2⟩⟩⟩)), (by (with_reducible repeat (first | apply Kd.Q_alloc | apply Kd.Q_drewN | apply Kd.Q_drew)); exact Kd.Q_mono HO_7.out (fun _ hk => ⟨hk.1.1, ⟨hk.1.2.1, ⟨hk.1.2.2, hk.2⟩⟩⟩)), BK276.out, BK283.out, BK285.out, BK292.out, GW292.out, GE292.out, NB276_292.out, NB292_276.out, NB283_292.out, NB292_283.out, NB285_292.out, NB292_285.out, HB.out⟩)
               ·skip
                refine box_step ?hg (N := 12) ?hd (cs := #[.int .i64 0, .int .i64 0, .int .i64 0]) (t := 26) ?hr ?_; (case hd => rfl); (case hg => rfl); (case hr => first | (go_simp; done) | (go_simp; rfl))
                intro gb292 hg w54 hbox hb
                have HS7_ := (hb.cell (World.block_lt_of_cell? _ _ (hHeld.2.2.2.2.2.2.2.1))).trans (hHeld.2.2.2.2.2.2.2.1)
                have HS8_ := (hb.cell (World.block_lt_of_cell? _ _ (hHeld.2.2.2.2.2.2.2.2.1))).trans (hHeld.2.2.2.2.2.2.2.2.1)
                have HS9_ := (hb.cell (World.block_lt_of_cell? _ _ (hHeld.2.2.2.2.2.2.2.2.2))).trans (hHeld.2.2.2.2.2.2.2.2.2)
                have n0_ := Gv.a0 (Kd.R_below (Kd.R_elderB HO_5.out gb292 (Nat.le_of_eq hg.symm)) hb)
                have n1_ := Gv.a0 (Kd.Q_below (Kd.Q_elderB (by (with_reducible repeat (first | apply Kd.Q_alloc | apply Kd.Q_drewN | apply Kd.Q_drew)); exact HO_7.out) gb292 (Nat.le_of_eq hg.symm)) hb)
                have n2_ := Gv.a0 (blk_below BK276.out hb)
                have n3_ := Gv.a0 (blk_below BK283.out hb)
                have n4_ := Gv.a0 (blk_below BK285.out hb)
                have n5_ := Gv.a0 (below_step HB.out hb)
                have n6_ := Gv.a0 (hbox)
                have n7_ := Gv.a0 (Gv.ble hg HB.out : w.heap.size ≤ gb292)
                have n8_ := Gv.a0 (Gv.ble hg HB.out : w.heap.size ≤ gb292)
                have n9_ := Gv.a0 (Gv.nlt hg BK276.out : gb276 ≠ gb292)
                have n10_ := Gv.a0 (Gv.ngt hg BK276.out : gb292 ≠ gb276)
                have n11_ := Gv.a0 (Gv.nlt hg BK283.out : gb283 ≠ gb292)
                have n12_ := Gv.a0 (Gv.ngt hg BK283.out : gb292 ≠ gb283)
                have n13_ := Gv.a0 (Gv.nlt hg BK285.out : gb285 ≠ gb292)
                have n14_ := Gv.a0 (Gv.ngt hg BK285.out : gb292 ≠ gb285)
                clear HO_5 HO_7 BK276 BK283 BK285 HB
                have HO_5 := n0_
                have HO_7 := n1_
                have BK276 := n2_
                have BK283 := n3_
                have BK285 := n4_
                have HB := n5_
                have BK292 := n6_
                have GW292 := n7_
                have GE292 := n8_
                have NB276_292 := n9_
                have NB292_276 := n10_
                have NB283_292 := n11_
                have NB292_283 := n12_
                have NB285_292 := n13_
                have NB292_285 := n14_
                clear n0_ n1_ n2_ n3_ n4_ n5_ n6_ n7_ n8_ n9_ n10_ n11_ n12_ n13_ n14_
                clear hb hbox hg
                refine hK.out _ _ ⟨(blk_cell BK283.out 0).trans rfl, (blk_cell BK283.out 1).trans rfl, (blk_cell BK283.out 2).trans rfl, (blk_cell BK285.out 0).trans rfl, (blk_cell BK285.out 1).trans rfl, (blk_cell BK285.out 2).trans rfl, (blk_cell BK285.out 3).trans rfl, HS7_, HS8_, HS9_⟩ (fun hHeld => ?_)
                clear hK K
                refine norm_ (a' := ?_) ?_ ?_
                rotate_left
                ·show Act.put _ (some 12) _ = _
                 simp only [Act.put, List.setIfInBounds_toArray, List.set_cons_zero, List.set_cons_succ, i64_w, i32_w]
                 rfl
                refine one_ (i := 6) (N := some 71) #[true, true, true, true, true, true, true, false, false, false, true, false, false] rfl rfl (one_of HT_.out (by kernel_rfl)) (by decide) (fun K hK => ?_)
                refine goes_ Try.func19 (by kernel_rfl) rfl #[.agg #[.int .i64 x284000_1, .int .i64 x284001_1, .int .i64 x284002_1], .agg #[.int .i64 ((rd_T26 x7_1 0).f0), .int .i64 ((rd_T26 x7_1 0).f1), .int .i64 ((rd_T26 x7_1 0).f2)], .agg #[.int .i64 ((rd_T80 l0 x23_1).f1.f0), .int .i64 ((rd_T80 l0 x23_1).f1.f1), .int .i64 ((rd_T80 l0 x23_1).f1.f2)]] (by rfl) rfl rfl Gv.lm ?_
                with_reducible refine (impl_Settle.calls kj15 x284000_1 x284001_1 x284002_1 ((rd_T26 x7_1 0).f0) ((rd_T26 x7_1 0).f1) ((rd_T26 x7_1 0).f2) ((rd_T80 l0 x23_1).f1.f0) ((rd_T80 l0 x23_1).f1.f1) ((rd_T80 l0 x23_1).f1.f2) t288 t289 t290 true _ A46.out).mono ?_
                rintro e w55 ⟨rfl, hb⟩
                have HS7_ := (hb.cell (World.block_lt_of_cell? _ _ (hHeld.2.2.2.2.2.2.2.1))).trans (hHeld.2.2.2.2.2.2.2.1)
                have HS8_ := (hb.cell (World.block_lt_of_cell? _ _ (hHeld.2.2.2.2.2.2.2.2.1))).trans (hHeld.2.2.2.2.2.2.2.2.1)
                have HS9_ := (hb.cell (World.block_lt_of_cell? _ _ (hHeld.2.2.2.2.2.2.2.2.2))).trans (hHeld.2.2.2.2.2.2.2.2.2)
                refine ⟨_, rfl, ?_⟩
                have n0_ := Gv.a0 (Kd.R_below HO_5.out hb)
                have n1_ := Gv.a0 (Kd.Q_below (by (with_reducible repeat (first | apply Kd.Q_alloc | apply Kd.Q_drewN | apply Kd.Q_drew)); exact HO_7.out) hb)
                have n2_ := Gv.a0 (blk_below BK276.out hb)
                have n3_ := Gv.a0 (blk_below BK283.out hb)
                have n4_ := Gv.a0 (blk_below BK285.out hb)
                have n5_ := Gv.a0 (blk_below BK292.out hb)
                have n6_ := Gv.a0 (below_step HB.out hb)
                clear HO_5 HO_7 BK276 BK283 BK285 BK292 HB
                have HO_5 := n0_
                have HO_7 := n1_
                have BK276 := n2_
                have BK283 := n3_
                have BK285 := n4_
                have BK292 := n5_
                have HB := n6_
                clear n0_ n1_ n2_ n3_ n4_ n5_ n6_
                (try clear hb)
                (try clear hb2)
                (try clear hk)
                (try clear hi)
                refine hK.out _ _ ⟨(blk_cell BK283.out 0).trans rfl, (blk_cell BK283.out 1).trans rfl, (blk_cell BK283.out 2).trans rfl, (blk_cell BK285.out 0).trans rfl, (blk_cell BK285.out 1).trans rfl, (blk_cell BK285.out 2).trans rfl, (blk_cell BK285.out 3).trans rfl, HS7_, HS8_, HS9_⟩ (fun hHeld => ?_)
                clear hK K
                refine norm_ (a' := ?_) ?_ ?_
                rotate_left
                ·show Act.put _ (some 71) _ = _
                 simp only [Act.put, List.setIfInBounds_toArray, List.set_cons_zero, List.set_cons_succ, i64_w, i32_w]
                 rfl
                refine Gv.pu 7 (some 64) HT_ ?_
                refine Gv.pu 8 (some 72) HT_ ?_
                refine Gv.pu 9 (some 73) HT_ ?_
                exact norm_ (by simp only [putAll, Act.put, List.setIfInBounds_toArray, List.set_cons_zero, List.set_cons_succ]) (hCont (gb292) _ ⟨hHeld, (by (with_reducible repeat (first | apply Kd.R_alloc | apply Kd.R_drewN | apply Kd.R_drew)); exact Kd.R_mono HO_5.out (fun _ hk => ⟨hk.1.1, ⟨hk.1.2.1, ⟨hk.1.2.2, hk.2⟩⟩⟩)), (by (with_reducible repeat (first | apply Kd.Q_alloc | apply Kd.Q_drewN | apply Kd.Q_drew)); exact Kd.Q_mono HO_7.out (fun _ hk => ⟨hk.1.1, ⟨hk.1.2.1, ⟨hk.1.2.2, hk.2⟩⟩⟩)), BK276.out, BK283.out, BK285.out, BK292.out, GW292.out, GE292.out, NB276_292.out, NB292_276.out, NB283_292.out, NB292_283.out, NB285_292.out, NB292_285.out, HB.out⟩)
              rintro gb292 w56 ⟨hS_, h0_, h1_, h2_, h3_, h4_, h5_, h6_, h7_, h8_, h9_, h10_, h11_, h12_, h13_, h14_⟩
              have n0_ : Aside0 (Kd.R k26 26 w56 w.heap.size (fun k_ => some k_ ≠ (.slice (some ad287) x7_1.length co53 : Value).ownBlock ∧ k_ ≠ gb276 ∧ k_ ≠ gb283 ∧ k_ ≠ gb292) u5 x5_1) := ⟨h0_⟩
              have n1_ : Aside0 (Kd.Q k26 26 w56 w.heap.size (fun k_ => some k_ ≠ (u5 : Value).ownBlock ∧ k_ ≠ gb276 ∧ k_ ≠ gb283 ∧ k_ ≠ gb292) (.slice (some ad287) x7_1.length co53) x7_1) := ⟨h1_⟩
              have n2_ : Aside0 (w56.heap[gb276]? = some (.cells #[.int .i64 x277000_1, .int .i64 x277001_1, .int .i64 x277002_1] 26 (0, 0))) := ⟨h2_⟩
              have n3_ : Aside0 (w56.heap[gb283]? = some (.cells #[.int .i64 x284000_1, .int .i64 x284001_1, .int .i64 x284002_1] 26 (0, 0))) := ⟨h3_⟩
              have n4_ : Aside0 (w56.heap[gb285]? = some (.cells #[.bool ((rd_T80 l0 x23_1).f0), .int .i64 ((rd_T80 l0 x23_1).f1.f0), .int .i64 ((rd_T80 l0 x23_1).f1.f1), .int .i64 ((rd_T80 l0 x23_1).f1.f2)] 80 (0, 0))) := ⟨h4_⟩
              have n5_ : Aside0 (w56.heap[gb292]? = some (.cells #[.int .i64 0, .int .i64 0, .int .i64 0] 26 (0, 0))) := ⟨h5_⟩
              have n6_ : Aside0 (w.heap.size ≤ gb292) := ⟨h6_⟩
              have n7_ : Aside0 (w.heap.size ≤ gb292) := ⟨h7_⟩
              have n8_ : Aside0 (gb276 ≠ gb292) := ⟨h8_⟩
              have n9_ : Aside0 (gb292 ≠ gb276) := ⟨h9_⟩
              have n10_ : Aside0 (gb283 ≠ gb292) := ⟨h10_⟩
              have n11_ : Aside0 (gb292 ≠ gb283) := ⟨h11_⟩
              have n12_ : Aside0 (gb285 ≠ gb292) := ⟨h12_⟩
              have n13_ : Aside0 (gb292 ≠ gb285) := ⟨h13_⟩
              have n14_ : Aside0 (Below w.heap.size w w56) := ⟨h14_⟩
              clear HO_5 HO_7 BK276 BK283 BK285 HB
              clear h0_ h1_ h2_ h3_ h4_ h5_ h6_ h7_ h8_ h9_ h10_ h11_ h12_ h13_ h14_
              have HO_5 := n0_
              have HO_7 := n1_
              have BK276 := n2_
              have BK283 := n3_
              have BK285 := n4_
              have BK292 := n5_
              have GW292 := n6_
              have GE292 := n7_
              have NB276_292 := n8_
              have NB292_276 := n9_
              have NB283_292 := n10_
              have NB292_283 := n11_
              have NB285_292 := n12_
              have NB292_285 := n13_
              have HB := n14_
              clear n0_ n1_ n2_ n3_ n4_ n5_ n6_ n7_ n8_ n9_ n10_ n11_ n12_ n13_ n14_
              have hHeld : w56.cell? ⟨gb283, 0, none⟩ = some (.int .i64 x284000_1) ∧ w56.cell? ⟨gb283, 1, none⟩ = some (.int .i64 x284001_1) ∧ w56.cell? ⟨gb283, 2, none⟩ = some (.int .i64 x284002_1) ∧ w56.cell? ⟨gb285, 0, none⟩ = some (.bool ((rd_T80 l0 x23_1).f0)) ∧ w56.cell? ⟨gb285, 1, none⟩ = some (.int .i64 ((rd_T80 l0 x23_1).f1.f0)) ∧ w56.cell? ⟨gb285, 2, none⟩ = some (.int .i64 ((rd_T80 l0 x23_1).f1.f1)) ∧ w56.cell? ⟨gb285, 3, none⟩ = some (.int .i64 ((rd_T80 l0 x23_1).f1.f2)) ∧ w56.cell? ad287 = some (.int .i64 ((rd_T26 x7_1 0).f0)) ∧ w56.cell? ⟨ad287.block, ad287.off + 1, none⟩ = some (.int .i64 ((rd_T26 x7_1 0).f1)) ∧ w56.cell? ⟨ad287.block, ad287.off + 2, none⟩ = some (.int .i64 ((rd_T26 x7_1 0).f2)) := hS_
              refine norm_ (a' := ?_) ?_ ?_
              rotate_left
              ·simp only [putAll, Act.put, List.setIfInBounds_toArray, List.set_cons_zero, List.set_cons_succ]
               rfl
              refine one_ (i := 11) (N := none) #[true, true, true, true, true, true, true, true, true, true, true, true, false] rfl rfl (one_of HT_.out (by kernel_rfl)) (by decide) (fun K hK => ?_)
              have hs57 : w56.cell? ⟨gb292, 0, none⟩ = some (.int .i64 0) := (blk_cell BK292.out 0).trans rfl
              have hfs57 := blk_frozen BK292.out 0
              have hns57_0 := NB276_292.out
              have hns57_1 := NB283_292.out
              have hns57_2 := NB285_292.out
              have hms57_0 := NB292_276.out
              have hms57_1 := NB292_283.out
              have hms57_2 := NB292_285.out
              have hs58 : w56.cell? ⟨gb292, 1, none⟩ = some (.int .i64 0) := (blk_cell BK292.out 1).trans rfl
              have hfs58 := blk_frozen BK292.out 1
              have hns58_0 := NB276_292.out
              have hns58_1 := NB283_292.out
              have hns58_2 := NB285_292.out
              have hms58_0 := NB292_276.out
              have hms58_1 := NB292_283.out
              have hms58_2 := NB292_285.out
              have hs59 : w56.cell? ⟨gb292, 2, none⟩ = some (.int .i64 0) := (blk_cell BK292.out 2).trans rfl
              have hfs59 := blk_frozen BK292.out 2
              have hns59_0 := NB276_292.out
              have hns59_1 := NB283_292.out
              have hns59_2 := NB285_292.out
              have hms59_0 := NB292_276.out
              have hms59_1 := NB292_283.out
              have hms59_2 := NB292_285.out
              refine skip_ (w1 := ?_) (by rfl) rfl ?_ ?_
              rotate_left
              ·go_simp
               rfl
              refine hK.out _ _ ⟨((cell_far (p := ⟨gb292, _, none⟩) NB283_292.out _).trans (((cell_far (p := ⟨gb292, _, none⟩) NB283_292.out _).trans (((cell_far (p := ⟨gb292, _, none⟩) NB283_292.out _).trans (hHeld.1)))))), ((cell_far (p := ⟨gb292, _, none⟩) NB283_292.out _).trans (((cell_far (p := ⟨gb292, _, none⟩) NB283_292.out _).trans (((cell_far (p := ⟨gb292, _, none⟩) NB283_292.out _).trans (hHeld.2.1)))))), ((cell_far (p := ⟨gb292, _, none⟩) NB283_292.out _).trans (((cell_far (p := ⟨gb292, _, none⟩) NB283_292.out _).trans (((cell_far (p := ⟨gb292, _, none⟩) NB283_292.out _).trans (hHeld.2.2.1)))))), ((cell_far (p := ⟨gb292, _, none⟩) NB285_292.out _).trans (((cell_far (p := ⟨gb292, _, none⟩) NB285_292.out _).trans (((cell_far (p := ⟨gb292, _, none⟩) NB285_292.out _).trans (hHeld.2.2.2.1)))))), ((cell_far (p := ⟨gb292, _, none⟩) NB285_292.out _).trans (((cell_far (p := ⟨gb292, _, none⟩) NB285_292.out _).trans (((cell_far (p := ⟨gb292, _, none⟩) NB285_292.out _).trans (hHeld.2.2.2.2.1)))))), ((cell_far (p := ⟨gb292, _, none⟩) NB285_292.out _).trans (((cell_far (p := ⟨gb292, _, none⟩) NB285_292.out _).trans (((cell_far (p := ⟨gb292, _, none⟩) NB285_292.out _).trans (hHeld.2.2.2.2.2.1)))))), ((cell_far (p := ⟨gb292, _, none⟩) NB285_292.out _).trans (((cell_far (p := ⟨gb292, _, none⟩) NB285_292.out _).trans (((cell_far (p := ⟨gb292, _, none⟩) NB285_292.out _).trans (hHeld.2.2.2.2.2.2.1)))))), ((cell_far (p := ⟨gb292, _, none⟩) (by first | exact Kd.own_blk (Kd.Q_away HO_7.out (fun _ hk => hk.2.2.2)) | (rw [add_block]; exact Kd.own_blk (Kd.Q_away HO_7.out (fun _ hk => hk.2.2.2))) | (show (Addr.add _ _).block ≠ _; rw [add_block]; exact Kd.own_blk (Kd.Q_away HO_7.out (fun _ hk => hk.2.2.2))) | (dsimp only; exact Kd.own_blk (Kd.Q_away HO_7.out (fun _ hk => hk.2.2.2)))) _).trans (((cell_far (p := ⟨gb292, _, none⟩) (by first | exact Kd.own_blk (Kd.Q_away HO_7.out (fun _ hk => hk.2.2.2)) | (rw [add_block]; exact Kd.own_blk (Kd.Q_away HO_7.out (fun _ hk => hk.2.2.2))) | (show (Addr.add _ _).block ≠ _; rw [add_block]; exact Kd.own_blk (Kd.Q_away HO_7.out (fun _ hk => hk.2.2.2))) | (dsimp only; exact Kd.own_blk (Kd.Q_away HO_7.out (fun _ hk => hk.2.2.2)))) _).trans (((cell_far (p := ⟨gb292, _, none⟩) (by first | exact Kd.own_blk (Kd.Q_away HO_7.out (fun _ hk => hk.2.2.2)) | (rw [add_block]; exact Kd.own_blk (Kd.Q_away HO_7.out (fun _ hk => hk.2.2.2))) | (show (Addr.add _ _).block ≠ _; rw [add_block]; exact Kd.own_blk (Kd.Q_away HO_7.out (fun _ hk => hk.2.2.2))) | (dsimp only; exact Kd.own_blk (Kd.Q_away HO_7.out (fun _ hk => hk.2.2.2)))) _).trans (hHeld.2.2.2.2.2.2.2.1)))))), ((cell_far (p := ⟨gb292, _, none⟩) (by first | exact Kd.own_blk (Kd.Q_away HO_7.out (fun _ hk => hk.2.2.2)) | (rw [add_block]; exact Kd.own_blk (Kd.Q_away HO_7.out (fun _ hk => hk.2.2.2))) | (show (Addr.add _ _).block ≠ _; rw [add_block]; exact Kd.own_blk (Kd.Q_away HO_7.out (fun _ hk => hk.2.2.2))) | (dsimp only; exact Kd.own_blk (Kd.Q_away HO_7.out (fun _ hk => hk.2.2.2)))) _).trans (((cell_far (p := ⟨gb292, _, none⟩) (by first | exact Kd.own_blk (Kd.Q_away HO_7.out (fun _ hk => hk.2.2.2)) | (rw [add_block]; exact Kd.own_blk (Kd.Q_away HO_7.out (fun _ hk => hk.2.2.2))) | (show (Addr.add _ _).block ≠ _; rw [add_block]; exact Kd.own_blk (Kd.Q_away HO_7.out (fun _ hk => hk.2.2.2))) | (dsimp only; exact Kd.own_blk (Kd.Q_away HO_7.out (fun _ hk => hk.2.2.2)))) _).trans (((cell_far (p := ⟨gb292, _, none⟩) (by first | exact Kd.own_blk (Kd.Q_away HO_7.out (fun _ hk => hk.2.2.2)) | (rw [add_block]; exact Kd.own_blk (Kd.Q_away HO_7.out (fun _ hk => hk.2.2.2))) | (show (Addr.add _ _).block ≠ _; rw [add_block]; exact Kd.own_blk (Kd.Q_away HO_7.out (fun _ hk => hk.2.2.2))) | (dsimp only; exact Kd.own_blk (Kd.Q_away HO_7.out (fun _ hk => hk.2.2.2)))) _).trans (hHeld.2.2.2.2.2.2.2.2.1)))))), ((cell_far (p := ⟨gb292, _, none⟩) (by first | exact Kd.own_blk (Kd.Q_away HO_7.out (fun _ hk => hk.2.2.2)) | (rw [add_block]; exact Kd.own_blk (Kd.Q_away HO_7.out (fun _ hk => hk.2.2.2))) | (show (Addr.add _ _).block ≠ _; rw [add_block]; exact Kd.own_blk (Kd.Q_away HO_7.out (fun _ hk => hk.2.2.2))) | (dsimp only; exact Kd.own_blk (Kd.Q_away HO_7.out (fun _ hk => hk.2.2.2)))) _).trans (((cell_far (p := ⟨gb292, _, none⟩) (by first | exact Kd.own_blk (Kd.Q_away HO_7.out (fun _ hk => hk.2.2.2)) | (rw [add_block]; exact Kd.own_blk (Kd.Q_away HO_7.out (fun _ hk => hk.2.2.2))) | (show (Addr.add _ _).block ≠ _; rw [add_block]; exact Kd.own_blk (Kd.Q_away HO_7.out (fun _ hk => hk.2.2.2))) | (dsimp only; exact Kd.own_blk (Kd.Q_away HO_7.out (fun _ hk => hk.2.2.2)))) _).trans (((cell_far (p := ⟨gb292, _, none⟩) (by first | exact Kd.own_blk (Kd.Q_away HO_7.out (fun _ hk => hk.2.2.2)) | (rw [add_block]; exact Kd.own_blk (Kd.Q_away HO_7.out (fun _ hk => hk.2.2.2))) | (show (Addr.add _ _).block ≠ _; rw [add_block]; exact Kd.own_blk (Kd.Q_away HO_7.out (fun _ hk => hk.2.2.2))) | (dsimp only; exact Kd.own_blk (Kd.Q_away HO_7.out (fun _ hk => hk.2.2.2)))) _).trans (hHeld.2.2.2.2.2.2.2.2.2))))))⟩ (fun hHeld => ?_)
              clear hK K
              refine Gv.pu 12 (some 13) HT_ ?_
              refine done_ (done_of HT_.out (by kernel_rfl)) ?_
              try go_wp2
              have n0_ : Aside0 (Kd.R k26 26 (((w56.setCell ⟨gb292, 0, none⟩ (.int .i64 t288)).setCell ⟨gb292, 1, none⟩ (.int .i64 t289)).setCell ⟨gb292, 2, none⟩ (.int .i64 t290)) w.heap.size (fun k_ => some k_ ≠ (.slice (some ad287) x7_1.length co53 : Value).ownBlock ∧ k_ ≠ gb276 ∧ k_ ≠ gb283 ∧ k_ ≠ gb292) u5 x5_1) := ⟨by (with_reducible repeat (first | apply Kd.R_alloc | apply Kd.R_drewN | apply Kd.R_drew)); exact Kd.R_mono (Kd.R_far (p := ⟨gb292, 2, none⟩) (Kd.R_far (p := ⟨gb292, 1, none⟩) (Kd.R_far (p := ⟨gb292, 0, none⟩) (Kd.R_mono HO_5.out (fun k_ hk => (⟨hk, hk.2.2.2⟩ : _ ∧ k_ ≠ gb292))) (fun _ hk => hk.2) (.int .i64 t288)) (fun _ hk => hk.2) (.int .i64 t289)) (fun _ hk => hk.2) (.int .i64 t290)) (fun _ hk => ⟨hk.1.1, ⟨hk.1.2.1, ⟨hk.1.2.2.1, hk.1.2.2.2⟩⟩⟩)⟩
              have n1_ : Aside0 (Kd.Q k26 26 (((w56.setCell ⟨gb292, 0, none⟩ (.int .i64 t288)).setCell ⟨gb292, 1, none⟩ (.int .i64 t289)).setCell ⟨gb292, 2, none⟩ (.int .i64 t290)) w.heap.size (fun k_ => some k_ ≠ (u5 : Value).ownBlock ∧ k_ ≠ gb276 ∧ k_ ≠ gb283 ∧ k_ ≠ gb292) (.slice (some ad287) x7_1.length co53) x7_1) := ⟨by (with_reducible repeat (first | apply Kd.Q_alloc | apply Kd.Q_drewN | apply Kd.Q_drew)); exact Kd.Q_mono (Kd.Q_far (p := ⟨gb292, 2, none⟩) (Kd.Q_far (p := ⟨gb292, 1, none⟩) (Kd.Q_far (p := ⟨gb292, 0, none⟩) (Kd.Q_mono HO_7.out (fun k_ hk => (⟨hk, hk.2.2.2⟩ : _ ∧ k_ ≠ gb292))) (fun _ hk => hk.2) (.int .i64 t288)) (fun _ hk => hk.2) (.int .i64 t289)) (fun _ hk => hk.2) (.int .i64 t290)) (fun _ hk => ⟨hk.1.1, ⟨hk.1.2.1, ⟨hk.1.2.2.1, hk.1.2.2.2⟩⟩⟩)⟩
              have n2_ : Aside0 ((((w56.setCell ⟨gb292, 0, none⟩ (.int .i64 t288)).setCell ⟨gb292, 1, none⟩ (.int .i64 t289)).setCell ⟨gb292, 2, none⟩ (.int .i64 t290)).heap[gb276]? = some (.cells #[.int .i64 x277000_1, .int .i64 x277001_1, .int .i64 x277002_1] 26 (0, 0))) := ⟨by (with_reducible repeat (first | refine blk_drewN ?_ _ | refine blk_drew ?_ | refine blk_alloc ?_ _)); refine blk_far ?_ NB276_292.out _; (with_reducible repeat (first | refine blk_drewN ?_ _ | refine blk_drew ?_ | refine blk_alloc ?_ _)); refine blk_far ?_ NB276_292.out _; (with_reducible repeat (first | refine blk_drewN ?_ _ | refine blk_drew ?_ | refine blk_alloc ?_ _)); refine blk_far ?_ NB276_292.out _; (with_reducible repeat (first | refine blk_drewN ?_ _ | refine blk_drew ?_ | refine blk_alloc ?_ _)); exact BK276.out⟩
              have n3_ : Aside0 ((((w56.setCell ⟨gb292, 0, none⟩ (.int .i64 t288)).setCell ⟨gb292, 1, none⟩ (.int .i64 t289)).setCell ⟨gb292, 2, none⟩ (.int .i64 t290)).heap[gb283]? = some (.cells #[.int .i64 x284000_1, .int .i64 x284001_1, .int .i64 x284002_1] 26 (0, 0))) := ⟨by (with_reducible repeat (first | refine blk_drewN ?_ _ | refine blk_drew ?_ | refine blk_alloc ?_ _)); refine blk_far ?_ NB283_292.out _; (with_reducible repeat (first | refine blk_drewN ?_ _ | refine blk_drew ?_ | refine blk_alloc ?_ _)); refine blk_far ?_ NB283_292.out _; (with_reducible repeat (first | refine blk_drewN ?_ _ | refine blk_drew ?_ | refine blk_alloc ?_ _)); refine blk_far ?_ NB283_292.out _; (with_reducible repeat (first | refine blk_drewN ?_ _ | refine blk_drew ?_ | refine blk_alloc ?_ _)); exact BK283.out⟩
              have n4_ : Aside0 ((((w56.setCell ⟨gb292, 0, none⟩ (.int .i64 t288)).setCell ⟨gb292, 1, none⟩ (.int .i64 t289)).setCell ⟨gb292, 2, none⟩ (.int .i64 t290)).heap[gb285]? = some (.cells #[.bool ((rd_T80 l0 x23_1).f0), .int .i64 ((rd_T80 l0 x23_1).f1.f0), .int .i64 ((rd_T80 l0 x23_1).f1.f1), .int .i64 ((rd_T80 l0 x23_1).f1.f2)] 80 (0, 0))) := ⟨by (with_reducible repeat (first | refine blk_drewN ?_ _ | refine blk_drew ?_ | refine blk_alloc ?_ _)); refine blk_far ?_ NB285_292.out _; (with_reducible repeat (first | refine blk_drewN ?_ _ | refine blk_drew ?_ | refine blk_alloc ?_ _)); refine blk_far ?_ NB285_292.out _; (with_reducible repeat (first | refine blk_drewN ?_ _ | refine blk_drew ?_ | refine blk_alloc ?_ _)); refine blk_far ?_ NB285_292.out _; (with_reducible repeat (first | refine blk_drewN ?_ _ | refine blk_drew ?_ | refine blk_alloc ?_ _)); exact BK285.out⟩
              have n5_ : Aside0 ((((w56.setCell ⟨gb292, 0, none⟩ (.int .i64 t288)).setCell ⟨gb292, 1, none⟩ (.int .i64 t289)).setCell ⟨gb292, 2, none⟩ (.int .i64 t290)).heap[gb292]? = some (.cells #[.int .i64 t288, .int .i64 t289, .int .i64 t290] 26 (0, 0))) := ⟨by (with_reducible repeat (first | refine blk_drewN ?_ _ | refine blk_drew ?_ | refine blk_alloc ?_ _)); refine blk_put (cs := #[.int .i64 t288, .int .i64 t289, .int .i64 0]) ?_ 2 _ rfl; (with_reducible repeat (first | refine blk_drewN ?_ _ | refine blk_drew ?_ | refine blk_alloc ?_ _)); refine blk_put (cs := #[.int .i64 t288, .int .i64 0, .int .i64 0]) ?_ 1 _ rfl; (with_reducible repeat (first | refine blk_drewN ?_ _ | refine blk_drew ?_ | refine blk_alloc ?_ _)); refine blk_put (cs := #[.int .i64 0, .int .i64 0, .int .i64 0]) ?_ 0 _ rfl; (with_reducible repeat (first | refine blk_drewN ?_ _ | refine blk_drew ?_ | refine blk_alloc ?_ _)); exact BK292.out⟩
              have n6_ : Aside0 (Below w.heap.size w (((w56.setCell ⟨gb292, 0, none⟩ (.int .i64 t288)).setCell ⟨gb292, 1, none⟩ (.int .i64 t289)).setCell ⟨gb292, 2, none⟩ (.int .i64 t290))) := ⟨Gv.bw⟩
              (try clear HO_5)
              (try clear HO_7)
              (try clear BK276)
              (try clear BK283)
              (try clear BK285)
              (try clear BK292)
              (try clear HB)
              generalize (((w56.setCell ⟨gb292, 0, none⟩ (.int .i64 t288)).setCell ⟨gb292, 1, none⟩ (.int .i64 t289)).setCell ⟨gb292, 2, none⟩ (.int .i64 t290)) = w60 at n0_ n1_ n2_ n3_ n4_ n5_ n6_ ⊢
              have HO_5 := n0_
              have HO_7 := n1_
              have BK276 := n2_
              have BK283 := n3_
              have BK285 := n4_
              have BK292 := n5_
              have HB := n6_
              clear n0_ n1_ n2_ n3_ n4_ n5_ n6_
              have n0_ := Gv.a0 (Kd.R_drew HO_5.out)
              have n1_ := Gv.a0 (Kd.Q_drew HO_7.out)
              have n2_ := Gv.a0 (blk_drew BK276.out)
              have n3_ := Gv.a0 (blk_drew BK283.out)
              have n4_ := Gv.a0 (blk_drew BK285.out)
              have n5_ := Gv.a0 (blk_drew BK292.out)
              have n6_ := Gv.a0 (below_drew1 HB.out)
              clear HO_5 HO_7 BK276 BK283 BK285 BK292 HB
              have HO_5 := n0_
              have HO_7 := n1_
              have BK276 := n2_
              have BK283 := n3_
              have BK285 := n4_
              have BK292 := n5_
              have HB := n6_
              clear n0_ n1_ n2_ n3_ n4_ n5_ n6_
              have q62 : (1 : Int) ≤ ((x7_1.length : Int) : Int) := of_decide_eq_true (by first | (with_reducible assumption) | assumption)
              obtain ⟨i062, hi062, _, hsz62, _⟩ := info_parts info26
              have hcut62 := cut_from (P := Try.prog) 55 26 .i64 Try.underlying55 hi062 3 hsz62 (some ad287) x7_1.length co53 1 (by omega) q62
              have hr62 := Kd.Q_drop (k := (1 : Int).toNat) HO_7.out (by omega)
              obtain ⟨A62, hA62⟩ : ∃ A1, A1 = (if co53 = (1 : Int).toNat then (some ad287) else ((some ad287) : Option Addr).map (·.add ((1 : Int).toNat * 3))) := ⟨_, rfl⟩
              obtain ⟨c62, hc62⟩ : ∃ c1, c1 = co53 - (1 : Int).toNat := ⟨_, rfl⟩
              have hy62 : y293.length = x7_1.length - (1 : Int).toNat := (by rw [Ny293.out, List.length_drop])
              rw [← Ny293.out] at hr62
              rw [← hy62, ← hA62, ← hc62] at hcut62
              replace hr62 : Kd.Q k26 26 w60.drew w.heap.size (fun k_ => some k_ ≠ (u5 : Value).ownBlock ∧ k_ ≠ gb276 ∧ k_ ≠ gb283 ∧ k_ ≠ gb292) (.slice A62 y293.length c62) y293 := (by rw [hA62, hc62, hy62]; exact hr62)
              have HE62 : Aside0 ((Value.slice A62 y293.length c62).ownBlock = (.slice (some ad287) x7_1.length co53 : Value).ownBlock) := ⟨by rw [hA62]; split <;> (cases ((some ad287) : Option Addr) <;> rfl)⟩
              clear hy62 hi062 hsz62 HO_7 hA62 hc62
              have HO295 := Gv.a0 hr62
              clear hr62
              replace q62 := eq_true q62
              have n_ := Gv.a0 (Kd.R_mono (ok' := fun k_ => (some k_ ≠ (.slice A62 y293.length c62 : Value).ownBlock ∧ (k_ ≠ gb276 ∧ (k_ ≠ gb283 ∧ k_ ≠ gb292)))) HO_5.out (fun k_ hk => ⟨(by rw [HE62.out]; exact hk.1), ⟨hk.2.1, ⟨hk.2.2.1, hk.2.2.2⟩⟩⟩))
              clear HO_5
              have HO_5 := n_
              clear n_
              refine start_ (n := 5) (S := fun w' => w'.cell? ⟨gb292, 0, none⟩ = some (.int .i64 t288) ∧ w'.cell? ⟨gb292, 1, none⟩ = some (.int .i64 t289) ∧ w'.cell? ⟨gb292, 2, none⟩ = some (.int .i64 t290)) (ds := []) #[false, false, false, false, false] (by kernel_rfl) rfl rfl ⟨(blk_cell BK292.out 0).trans rfl, (blk_cell BK292.out 1).trans rfl, (blk_cell BK292.out 2).trans rfl⟩ (fun hHeld => ?_)
              generalize w60.drew = w61 at HO_5 HO_7 BK276 BK283 BK285 BK292 HB HO295 hHeld ⊢
              refine pure_ (i := 1) (N := some 80) (v := ?_) (a' := ?_) #[false, true, false, false, false] rfl rfl (by kernel_rfl) (fun _ _ _ h => h) (Or.inl ⟨by rfl, ?_⟩) ?_ ?_
              rotate_left
              ·intro w'
               go_simp
               with_reducible rfl
              rotate_left
              ·simp only [Act.put, List.setIfInBounds_toArray, List.set_cons_zero, List.set_cons_succ, i64_w, i32_w]
               rfl
              refine pure_ (i := 2) (N := some 81) (v := ?_) (a' := ?_) #[false, true, true, false, false] rfl rfl (by kernel_rfl) (fun _ _ _ h => h) (Or.inl ⟨by rfl, ?_⟩) ?_ ?_
              rotate_left
              ·intro w'
               go_simp
               with_reducible rfl
              rotate_left
              ·simp only [Act.put, List.setIfInBounds_toArray, List.set_cons_zero, List.set_cons_succ, i64_w, i32_w]
               rfl
              refine take_ (i := 0) (N := some 79) (v := ?_) (a' := ?_) #[true, true, true, false, false] rfl rfl (by kernel_rfl) (fun _ _ _ h => h) (Or.inl ⟨by rfl, ?_⟩) hHeld ?_ ?_
              rotate_left
              ·rintro w' ⟨s0, s1, s2⟩
               go_simp
               with_reducible rfl
              rotate_left
              ·simp only [Act.put, List.setIfInBounds_toArray, List.set_cons_zero, List.set_cons_succ, i64_w, i32_w]
               rfl
              refine one_ (i := 3) (N := none) #[true, true, true, true, false] rfl rfl (by kernel_rfl) (by decide) (fun K hK => ?_)
              have hs63 : w61.cell? ⟨gb283, 0, none⟩ = some (.int .i64 x284000_1) := (blk_cell BK283.out 0).trans rfl
              have hfs63 := blk_frozen BK283.out 0
              have hns63_0 := NB276_283.out
              have hns63_2 := NB285_283.out
              have hns63_3 := NB292_283.out
              have hms63_0 := NB283_276.out
              have hms63_2 := NB283_285.out
              have hms63_3 := NB283_292.out
              have hs64 : w61.cell? ⟨gb283, 1, none⟩ = some (.int .i64 x284001_1) := (blk_cell BK283.out 1).trans rfl
              have hfs64 := blk_frozen BK283.out 1
              have hns64_0 := NB276_283.out
              have hns64_2 := NB285_283.out
              have hns64_3 := NB292_283.out
              have hms64_0 := NB283_276.out
              have hms64_2 := NB283_285.out
              have hms64_3 := NB283_292.out
              have hs65 : w61.cell? ⟨gb283, 2, none⟩ = some (.int .i64 x284002_1) := (blk_cell BK283.out 2).trans rfl
              have hfs65 := blk_frozen BK283.out 2
              have hns65_0 := NB276_283.out
              have hns65_2 := NB285_283.out
              have hns65_3 := NB292_283.out
              have hms65_0 := NB283_276.out
              have hms65_2 := NB283_285.out
              have hms65_3 := NB283_292.out
              refine skip_ (w1 := ?_) (by rfl) rfl ?_ ?_
              rotate_left
              ·go_simp
               rfl
              refine hK.out _ _ ⟨((cell_far (p := ⟨gb283, _, none⟩) NB292_283.out _).trans (((cell_far (p := ⟨gb283, _, none⟩) NB292_283.out _).trans (((cell_far (p := ⟨gb283, _, none⟩) NB292_283.out _).trans (hHeld.1)))))), ((cell_far (p := ⟨gb283, _, none⟩) NB292_283.out _).trans (((cell_far (p := ⟨gb283, _, none⟩) NB292_283.out _).trans (((cell_far (p := ⟨gb283, _, none⟩) NB292_283.out _).trans (hHeld.2.1)))))), ((cell_far (p := ⟨gb283, _, none⟩) NB292_283.out _).trans (((cell_far (p := ⟨gb283, _, none⟩) NB292_283.out _).trans (((cell_far (p := ⟨gb283, _, none⟩) NB292_283.out _).trans (hHeld.2.2))))))⟩ (fun hHeld => ?_)
              clear hK K
              refine pure_ (i := 4) (N := some 7) (v := ?_) (a' := ?_) #[true, true, true, true, true] rfl rfl (by kernel_rfl) (fun _ _ _ h => h) (Or.inl ⟨by rfl, ?_⟩) ?_ ?_
              rotate_left
              ·intro w'
               go_simp
               with_reducible rfl
              rotate_left
              ·simp only [Act.put, List.setIfInBounds_toArray, List.set_cons_zero, List.set_cons_succ, i64_w, i32_w]
               rfl
              refine done_ (by kernel_rfl) ?_
              try go_wp2
              go_roundg kj15
              case measure => have := HK1.out; have := HJ15.out; omega
              case rel => (try rw [← Nbq23.out]); exact ⟨(x5_1), (y293), (wrap64 (x23_1 + 1)), (x277000_1), (x277001_1), (x277002_1), (t288), (t289), (t290), Gv.rq, H', ⟨by have := HK1.out; have := HJ15.out; omega⟩, ⟨by (with_reducible repeat (first | apply Kd.R_alloc | apply Kd.R_drewN | apply Kd.R_drew)); exact Kd.R_mono (Kd.R_far (p := ⟨gb283, 2, none⟩) (Kd.R_far (p := ⟨gb283, 1, none⟩) (Kd.R_far (p := ⟨gb283, 0, none⟩) (Kd.R_mono HO_5.out (fun k_ hk => (⟨hk, hk.2.2.1⟩ : _ ∧ k_ ≠ gb283))) (fun _ hk => hk.2) (.int .i64 t288)) (fun _ hk => hk.2) (.int .i64 t289)) (fun _ hk => hk.2) (.int .i64 t290)) (fun _ hk => ⟨hk.1.1, ⟨hk.1.2.1, hk.1.2.2.1⟩⟩)⟩, ⟨by (with_reducible repeat (first | apply Kd.Q_alloc | apply Kd.Q_drewN | apply Kd.Q_drew)); exact Kd.Q_mono (Kd.Q_far (p := ⟨gb283, 2, none⟩) (Kd.Q_far (p := ⟨gb283, 1, none⟩) (Kd.Q_far (p := ⟨gb283, 0, none⟩) (Kd.Q_mono HO295.out (fun k_ hk => (⟨hk, hk.2.2.1⟩ : _ ∧ k_ ≠ gb283))) (fun _ hk => hk.2) (.int .i64 t288)) (fun _ hk => hk.2) (.int .i64 t289)) (fun _ hk => hk.2) (.int .i64 t290)) (fun _ hk => ⟨hk.1.1, ⟨hk.1.2.1, hk.1.2.2.1⟩⟩)⟩, ⟨by (with_reducible repeat (first | refine blk_drewN ?_ _ | refine blk_drew ?_ | refine blk_alloc ?_ _)); refine blk_far ?_ NB276_283.out _; (with_reducible repeat (first | refine blk_drewN ?_ _ | refine blk_drew ?_ | refine blk_alloc ?_ _)); refine blk_far ?_ NB276_283.out _; (with_reducible repeat (first | refine blk_drewN ?_ _ | refine blk_drew ?_ | refine blk_alloc ?_ _)); refine blk_far ?_ NB276_283.out _; (with_reducible repeat (first | refine blk_drewN ?_ _ | refine blk_drew ?_ | refine blk_alloc ?_ _)); exact BK276.out⟩, ⟨by (with_reducible repeat (first | refine blk_drewN ?_ _ | refine blk_drew ?_ | refine blk_alloc ?_ _)); refine blk_put (cs := #[.int .i64 t288, .int .i64 t289, .int .i64 x284002_1]) ?_ 2 _ rfl; (with_reducible repeat (first | refine blk_drewN ?_ _ | refine blk_drew ?_ | refine blk_alloc ?_ _)); refine blk_put (cs := #[.int .i64 t288, .int .i64 x284001_1, .int .i64 x284002_1]) ?_ 1 _ rfl; (with_reducible repeat (first | refine blk_drewN ?_ _ | refine blk_drew ?_ | refine blk_alloc ?_ _)); refine blk_put (cs := #[.int .i64 x284000_1, .int .i64 x284001_1, .int .i64 x284002_1]) ?_ 0 _ rfl; (with_reducible repeat (first | refine blk_drewN ?_ _ | refine blk_drew ?_ | refine blk_alloc ?_ _)); exact BK283.out⟩, ⟨Gv.bw⟩⟩
             ·rw [if_neg c48] at H
              exact absurd H (by simp)
            ·replace c47 := Bool.eq_false_iff.mpr c47
             subst c47
             have H1 : (some (([] : List (S26)), 0, 0, 0, wrap64 (x23_1 + 1))) = some (r1, r2, r3, r4, r5) := by rw [if_neg (show ¬ (false = true) by decide)] at H; exact H
             clear H
             have H := H1
             clear H1
             simp only [Option.some.injEq, Prod.mk.injEq] at H
             obtain ⟨rfl, rfl, rfl, rfl, rfl⟩ := H
             have hnb66 := NB285_276.out
             have hnc66 := NB276_285.out
             have hnb67 := NB285_283.out
             have hnc67 := NB283_285.out
             obtain ⟨hcz68_0, hcz68_1, hcz68_2, hcz68_3⟩ := Gv.c4 BK285.out
             obtain ⟨hfz68_0, hfz68_1, hfz68_2, hfz68_3⟩ := Gv.f4 BK285.out
             try go_wp2
             have n0_ := Gv.a0 (Kd.R_drew HO_5.out)
             have n1_ := Gv.a0 (Kd.Q_drew HO_7.out)
             have n2_ := Gv.a0 (blk_drew BK276.out)
             have n3_ := Gv.a0 (blk_drew BK283.out)
             have n4_ := Gv.a0 (blk_drew BK285.out)
             have n5_ := Gv.a0 (below_drew1 HB.out)
             clear HO_5 HO_7 BK276 BK283 BK285 HB
             have HO_5 := n0_
             have HO_7 := n1_
             have BK276 := n2_
             have BK283 := n3_
             have BK285 := n4_
             have HB := n5_
             clear n0_ n1_ n2_ n3_ n4_ n5_
             obtain ⟨Ao70, co70, eo70, _⟩ := Kd.Q_slice HO_7.out
             (first | subst eo70 | (injection eo70 with f1_ f2_ f3_; have f4_ := f1_.symm; have f5_ := f3_.symm; clear f1_ f2_ f3_; subst f4_; subst f5_))
             have p287 : 0 ≤ (0 : Int) := (by omega)
             have q287 : 0 < (x7_1.length : Int) := of_decide_eq_true (by first | (with_reducible assumption) | assumption)
             obtain ⟨ad287, e287, hx287_0, hx287_1, hx287_2⟩ := at_T26 (Kd.Q_reads' HO_7.out).2.2 0 p287 q287
             cases e287
             have qi287 : (0 < x7_1.length) = True := eq_true (by omega)
             (try rw [show ((0 : Int)).toNat = 0 from rfl] at hx287_0)
             (try rw [show 0 * 3 = 0 from rfl] at hx287_0)
             (try rw [Addr.add_zero'] at hx287_0)
             (try rw [show ((0 : Int)).toNat = 0 from rfl] at hx287_1)
             (try rw [show 0 * 3 = 0 from rfl] at hx287_1)
             (try rw [Addr.add_zero'] at hx287_1)
             (try rw [show ((0 : Int)).toNat = 0 from rfl] at hx287_2)
             (try rw [show 0 * 3 = 0 from rfl] at hx287_2)
             (try rw [Addr.add_zero'] at hx287_2)
             replace p287 := eq_true p287
             replace q287 := eq_true q287
             refine start_ (n := 13) (S := fun w' => w'.cell? ⟨gb283, 0, none⟩ = some (.int .i64 x284000_1) ∧ w'.cell? ⟨gb283, 1, none⟩ = some (.int .i64 x284001_1) ∧ w'.cell? ⟨gb283, 2, none⟩ = some (.int .i64 x284002_1) ∧ w'.cell? ⟨gb285, 0, none⟩ = some (.bool ((rd_T80 l0 x23_1).f0)) ∧ w'.cell? ⟨gb285, 1, none⟩ = some (.int .i64 ((rd_T80 l0 x23_1).f1.f0)) ∧ w'.cell? ⟨gb285, 2, none⟩ = some (.int .i64 ((rd_T80 l0 x23_1).f1.f1)) ∧ w'.cell? ⟨gb285, 3, none⟩ = some (.int .i64 ((rd_T80 l0 x23_1).f1.f2)) ∧ w'.cell? ad287 = some (.int .i64 ((rd_T26 x7_1 0).f0)) ∧ w'.cell? ⟨ad287.block, ad287.off + 1, none⟩ = some (.int .i64 ((rd_T26 x7_1 0).f1)) ∧ w'.cell? ⟨ad287.block, ad287.off + 2, none⟩ = some (.int .i64 ((rd_T26 x7_1 0).f2))) (ds := []) #[false, false, false, false, false, false, false, false, false, false, false, false, false] (by kernel_rfl) rfl rfl ⟨(blk_cell BK283.out 0).trans rfl, (blk_cell BK283.out 1).trans rfl, (blk_cell BK283.out 2).trans rfl, (blk_cell BK285.out 0).trans rfl, (blk_cell BK285.out 1).trans rfl, (blk_cell BK285.out 2).trans rfl, (blk_cell BK285.out 3).trans rfl, hx287_0, hx287_1, hx287_2⟩ (fun hHeld => ?_); refine with_tabW impl_CarryRun.tab12 impl_CarryRun.bits12 (fun HT_ HW_ => ?_)
             generalize wc.drew = w69 at HO_5 HO_7 BK276 BK283 BK285 HB hx287_0 hx287_1 hx287_2 hHeld ⊢
             refine Gv.pu 1 (some 66) HT_ ?_
             refine Gv.pu 2 (some 67) HT_ ?_
             refine Gv.pu 4 (some 69) HT_ ?_
             refine take_ (i := 0) (N := some 65) (v := ?_) (a' := ?_) #[true, true, true, false, true, false, false, false, false, false, false, false, false] rfl rfl (take_ofW HT_.out HW_.out (by kernel_rfl)) (fun _ _ _ h => h) (Or.inl ⟨by rfl, ?_⟩) hHeld ?_ ?_
             rotate_left
             ·rintro w' ⟨s0, s1, s2, s3, s4, s5, s6, s7, s8, s9⟩
              go_simp
              with_reducible rfl
             rotate_left
             ·simp only [Act.put, List.setIfInBounds_toArray, List.set_cons_zero, List.set_cons_succ, i64_w, i32_w]
              rfl
             refine take_ (i := 3) (N := some 68) (v := ?_) (a' := ?_) #[true, true, true, true, true, false, false, false, false, false, false, false, false] rfl rfl (take_ofW HT_.out HW_.out (by kernel_rfl)) (fun _ _ _ h => h) (Or.inl ⟨by rfl, ?_⟩) hHeld ?_ ?_
             rotate_left
             ·rintro w' ⟨s0, s1, s2, s3, s4, s5, s6, s7, s8, s9⟩
              go_simp
              with_reducible rfl
             rotate_left
             ·simp only [Act.put, List.setIfInBounds_toArray, List.set_cons_zero, List.set_cons_succ, i64_w, i32_w]
              rfl
             refine take_ (i := 5) (N := some 70) (v := ?_) (a' := ?_) #[true, true, true, true, true, true, false, false, false, false, false, false, false] rfl rfl (take_ofW HT_.out HW_.out (by kernel_rfl)) (fun _ _ _ h => h) (Or.inl ⟨by rfl, ?_⟩) hHeld ?_ ?_
             rotate_left
             ·rintro w' ⟨s0, s1, s2, s3, s4, s5, s6, s7, s8, s9⟩
              go_simp
              with_reducible rfl
             rotate_left
             ·simp only [Act.put, List.setIfInBounds_toArray, List.set_cons_zero, List.set_cons_succ, i64_w, i32_w]
              rfl
             refine join_ (σ := Nat) 2 #[true, true, true, true, true, true, true, true, true, true, true, false, false] (fun s_ => [(71, .tuple #[.agg #[.int .i64 t288, .int .i64 t289, .int .i64 t290], .bool false]), (12, .pointer (some ⟨s_, 0, none⟩)), (64, .tuple #[.agg #[.int .i64 t288, .int .i64 t289, .int .i64 t290], .bool false]), (72, .agg #[.int .i64 t288, .int .i64 t289, .int .i64 t290]), (73, .bool false)]) (fun s_ w' => (w'.cell? ⟨gb283, 0, none⟩ = some (.int .i64 x284000_1) ∧ w'.cell? ⟨gb283, 1, none⟩ = some (.int .i64 x284001_1) ∧ w'.cell? ⟨gb283, 2, none⟩ = some (.int .i64 x284002_1) ∧ w'.cell? ⟨gb285, 0, none⟩ = some (.bool ((rd_T80 l0 x23_1).f0)) ∧ w'.cell? ⟨gb285, 1, none⟩ = some (.int .i64 ((rd_T80 l0 x23_1).f1.f0)) ∧ w'.cell? ⟨gb285, 2, none⟩ = some (.int .i64 ((rd_T80 l0 x23_1).f1.f1)) ∧ w'.cell? ⟨gb285, 3, none⟩ = some (.int .i64 ((rd_T80 l0 x23_1).f1.f2)) ∧ w'.cell? ad287 = some (.int .i64 ((rd_T26 x7_1 0).f0)) ∧ w'.cell? ⟨ad287.block, ad287.off + 1, none⟩ = some (.int .i64 ((rd_T26 x7_1 0).f1)) ∧ w'.cell? ⟨ad287.block, ad287.off + 2, none⟩ = some (.int .i64 ((rd_T26 x7_1 0).f2))) ∧ (Kd.R k26 26 w' w.heap.size (fun k_ => some k_ ≠ (.slice (some ad287) x7_1.length co70 : Value).ownBlock ∧ k_ ≠ gb276 ∧ k_ ≠ gb283 ∧ k_ ≠ s_) u5 x5_1) ∧ (Kd.Q k26 26 w' w.heap.size (fun k_ => some k_ ≠ (u5 : Value).ownBlock ∧ k_ ≠ gb276 ∧ k_ ≠ gb283 ∧ k_ ≠ s_) (.slice (some ad287) x7_1.length co70) x7_1) ∧ (w'.heap[gb276]? = some (.cells #[.int .i64 x277000_1, .int .i64 x277001_1, .int .i64 x277002_1] 26 (0, 0))) ∧ (w'.heap[gb283]? = some (.cells #[.int .i64 x284000_1, .int .i64 x284001_1, .int .i64 x284002_1] 26 (0, 0))) ∧ (w'.heap[gb285]? = some (.cells #[.bool ((rd_T80 l0 x23_1).f0), .int .i64 ((rd_T80 l0 x23_1).f1.f0), .int .i64 ((rd_T80 l0 x23_1).f1.f1), .int .i64 ((rd_T80 l0 x23_1).f1.f2)] 80 (0, 0))) ∧ (w'.heap[s_]? = some (.cells #[.int .i64 0, .int .i64 0, .int .i64 0] 26 (0, 0))) ∧ (w.heap.size ≤ s_) ∧ (w.heap.size ≤ s_) ∧ (gb276 ≠ s_) ∧ (s_ ≠ gb276) ∧ (gb283 ≠ s_) ∧ (s_ ≠ gb283) ∧ (gb285 ≠ s_) ∧ (s_ ≠ gb285) ∧ (Below w.heap.size w w')) ?_ ?_
             rotate_left
             ·intro hCont
              refine two_ (i := 6) (j := 10) (Ni := some 71) (Nj := some 12) #[true, true, true, true, true, true, true, false, false, false, false, false, false] #[true, true, true, true, true, true, false, false, false, false, true, false, false] rfl rfl rfl rfl (two_of HT_.out (by kernel_rfl)) (by decide) (by decide) (fun K hK => ?_) (fun K hK => ?_)
              ·skip
               refine goes_ Try.func19 (by kernel_rfl) rfl #[.agg #[.int .i64 x284000_1, .int .i64 x284001_1, .int .i64 x284002_1], .agg #[.int .i64 ((rd_T26 x7_1 0).f0), .int .i64 ((rd_T26 x7_1 0).f1), .int .i64 ((rd_T26 x7_1 0).f2)], .agg #[.int .i64 ((rd_T80 l0 x23_1).f1.f0), .int .i64 ((rd_T80 l0 x23_1).f1.f1), .int .i64 ((rd_T80 l0 x23_1).f1.f2)]] (by rfl) rfl rfl Gv.lm ?_
               with_reducible refine (impl_Settle.calls kj15 x284000_1 x284001_1 x284002_1 ((rd_T26 x7_1 0).f0) ((rd_T26 x7_1 0).f1) ((rd_T26 x7_1 0).f2) ((rd_T80 l0 x23_1).f1.f0) ((rd_T80 l0 x23_1).f1.f1) ((rd_T80 l0 x23_1).f1.f2) t288 t289 t290 false _ A46.out).mono ?_
               rintro e w71 ⟨rfl, hb⟩
               have HS7_ := (hb.cell (World.block_lt_of_cell? _ _ (hHeld.2.2.2.2.2.2.2.1))).trans (hHeld.2.2.2.2.2.2.2.1)
               have HS8_ := (hb.cell (World.block_lt_of_cell? _ _ (hHeld.2.2.2.2.2.2.2.2.1))).trans (hHeld.2.2.2.2.2.2.2.2.1)
               have HS9_ := (hb.cell (World.block_lt_of_cell? _ _ (hHeld.2.2.2.2.2.2.2.2.2))).trans (hHeld.2.2.2.2.2.2.2.2.2)
               refine ⟨_, rfl, ?_⟩
               have n0_ := Gv.a0 (Kd.R_below HO_5.out hb)
               have n1_ := Gv.a0 (Kd.Q_below (by (with_reducible repeat (first | apply Kd.Q_alloc | apply Kd.Q_drewN | apply Kd.Q_drew)); exact HO_7.out) hb)
               have n2_ := Gv.a0 (blk_below BK276.out hb)
               have n3_ := Gv.a0 (blk_below BK283.out hb)
               have n4_ := Gv.a0 (blk_below BK285.out hb)
               have n5_ := Gv.a0 (below_step HB.out hb)
               clear HO_5 HO_7 BK276 BK283 BK285 HB
               have HO_5 := n0_
               have HO_7 := n1_
               have BK276 := n2_
               have BK283 := n3_
               have BK285 := n4_
               have HB := n5_
               clear n0_ n1_ n2_ n3_ n4_ n5_
               (try clear hb)
               (try clear hb2)
               (try clear hk)
               (try clear hi)
               refine hK.out _ _ ⟨(blk_cell BK283.out 0).trans rfl, (blk_cell BK283.out 1).trans rfl, (blk_cell BK283.out 2).trans rfl, (blk_cell BK285.out 0).trans rfl, (blk_cell BK285.out 1).trans rfl, (blk_cell BK285.out 2).trans rfl, (blk_cell BK285.out 3).trans rfl, HS7_, HS8_, HS9_⟩ (fun hHeld => ?_)
               clear hK K
               refine norm_ (a' := ?_) ?_ ?_
               rotate_left
               ·show Act.put _ (some 71) _ = _
                simp only [Act.put, List.setIfInBounds_toArray, List.set_cons_zero, List.set_cons_succ, i64_w, i32_w]
                rfl
               refine Gv.pu 7 (some 64) HT_ ?_
               refine Gv.pu 8 (some 72) HT_ ?_
               refine Gv.pu 9 (some 73) HT_ ?_
               refine one_ (i := 10) (N := some 12) #[true, true, true, true, true, true, true, true, true, true, true, false, false] rfl rfl (one_of HT_.out (by kernel_rfl)) (by decide) (fun K hK => ?_)
               refine box_step ?hg (N := 12) ?hd (cs := #[.int .i64 0, .int .i64 0, .int .i64 0]) (t := 26) ?hr ?_; (case hd => rfl); (case hg => rfl); (case hr => first | (go_simp; done) | (go_simp; rfl))
               intro gb292 hg w72 hbox hb
               have HS7_ := (hb.cell (World.block_lt_of_cell? _ _ (hHeld.2.2.2.2.2.2.2.1))).trans (hHeld.2.2.2.2.2.2.2.1)
               have HS8_ := (hb.cell (World.block_lt_of_cell? _ _ (hHeld.2.2.2.2.2.2.2.2.1))).trans (hHeld.2.2.2.2.2.2.2.2.1)
               have HS9_ := (hb.cell (World.block_lt_of_cell? _ _ (hHeld.2.2.2.2.2.2.2.2.2))).trans (hHeld.2.2.2.2.2.2.2.2.2)
               have n0_ := Gv.a0 (Kd.R_below (Kd.R_elderB HO_5.out gb292 (Nat.le_of_eq hg.symm)) hb)
               have n1_ := Gv.a0 (Kd.Q_below (Kd.Q_elderB (by (with_reducible repeat (first | apply Kd.Q_alloc | apply Kd.Q_drewN | apply Kd.Q_drew)); exact HO_7.out) gb292 (Nat.le_of_eq hg.symm)) hb)
               have n2_ := Gv.a0 (blk_below BK276.out hb)
               have n3_ := Gv.a0 (blk_below BK283.out hb)
               have n4_ := Gv.a0 (blk_below BK285.out hb)
               have n5_ := Gv.a0 (below_step HB.out hb)
               have n6_ := Gv.a0 (hbox)
               have n7_ := Gv.a0 (Gv.ble hg HB.out : w.heap.size ≤ gb292)
               have n8_ := Gv.a0 (Gv.ble hg HB.out : w.heap.size ≤ gb292)
               have n9_ := Gv.a0 (Gv.nlt hg BK276.out : gb276 ≠ gb292)
               have n10_ := Gv.a0 (Gv.ngt hg BK276.out : gb292 ≠ gb276)
               have n11_ := Gv.a0 (Gv.nlt hg BK283.out : gb283 ≠ gb292)
               have n12_ := Gv.a0 (Gv.ngt hg BK283.out : gb292 ≠ gb283)
               have n13_ := Gv.a0 (Gv.nlt hg BK285.out : gb285 ≠ gb292)
               have n14_ := Gv.a0 (Gv.ngt hg BK285.out : gb292 ≠ gb285)
               clear HO_5 HO_7 BK276 BK283 BK285 HB
               have HO_5 := n0_
               have HO_7 := n1_
               have BK276 := n2_
               have BK283 := n3_
               have BK285 := n4_
               have HB := n5_
               have BK292 := n6_
               have GW292 := n7_
               have GE292 := n8_
               have NB276_292 := n9_
               have NB292_276 := n10_
               have NB283_292 := n11_
               have NB292_283 := n12_
               have NB285_292 := n13_
               have NB292_285 := n14_
               clear n0_ n1_ n2_ n3_ n4_ n5_ n6_ n7_ n8_ n9_ n10_ n11_ n12_ n13_ n14_
               clear hb hbox hg
               refine hK.out _ _ ⟨(blk_cell BK283.out 0).trans rfl, (blk_cell BK283.out 1).trans rfl, (blk_cell BK283.out 2).trans rfl, (blk_cell BK285.out 0).trans rfl, (blk_cell BK285.out 1).trans rfl, (blk_cell BK285.out 2).trans rfl, (blk_cell BK285.out 3).trans rfl, HS7_, HS8_, HS9_⟩ (fun hHeld => ?_)
               clear hK K
               refine norm_ (a' := ?_) ?_ ?_
               rotate_left
               ·show Act.put _ (some 12) _ = _
                simp only [Act.put, List.setIfInBounds_toArray, List.set_cons_zero, List.set_cons_succ, i64_w, i32_w]
                rfl
               exact norm_ (by simp only [putAll, Act.put, List.setIfInBounds_toArray, List.set_cons_zero, List.set_cons_succ]) (hCont (gb292) _ ⟨hHeld, (by (with_reducible repeat (first | apply Kd.R_alloc | apply Kd.R_drewN | apply Kd.R_drew)); exact Kd.R_mono HO_5.out (fun _ hk => ⟨hk.1.1, ⟨hk.1.2.1, ⟨hk.1.2.2, hk.2⟩⟩⟩)), (by (with_reducible repeat (first | apply Kd.Q_alloc | apply Kd.Q_drewN | apply Kd.Q_drew)); exact Kd.Q_mono HO_7.out (fun _ hk => ⟨hk.1.1, ⟨hk.1.2.1, ⟨hk.1.2.2, hk.2⟩⟩⟩)), BK276.out, BK283.out, BK285.out, BK292.out, GW292.out, GE292.out, NB276_292.out, NB292_276.out, NB283_292.out, NB292_283.out, NB285_292.out, NB292_285.out, HB.out⟩)
              ·skip
               refine box_step ?hg (N := 12) ?hd (cs := #[.int .i64 0, .int .i64 0, .int .i64 0]) (t := 26) ?hr ?_; (case hd => rfl); (case hg => rfl); (case hr => first | (go_simp; done) | (go_simp; rfl))
               intro gb292 hg w71 hbox hb
               have HS7_ := (hb.cell (World.block_lt_of_cell? _ _ (hHeld.2.2.2.2.2.2.2.1))).trans (hHeld.2.2.2.2.2.2.2.1)
               have HS8_ := (hb.cell (World.block_lt_of_cell? _ _ (hHeld.2.2.2.2.2.2.2.2.1))).trans (hHeld.2.2.2.2.2.2.2.2.1)
               have HS9_ := (hb.cell (World.block_lt_of_cell? _ _ (hHeld.2.2.2.2.2.2.2.2.2))).trans (hHeld.2.2.2.2.2.2.2.2.2)
               have n0_ := Gv.a0 (Kd.R_below (Kd.R_elderB HO_5.out gb292 (Nat.le_of_eq hg.symm)) hb)
               have n1_ := Gv.a0 (Kd.Q_below (Kd.Q_elderB (by (with_reducible repeat (first | apply Kd.Q_alloc | apply Kd.Q_drewN | apply Kd.Q_drew)); exact HO_7.out) gb292 (Nat.le_of_eq hg.symm)) hb)
               have n2_ := Gv.a0 (blk_below BK276.out hb)
               have n3_ := Gv.a0 (blk_below BK283.out hb)
               have n4_ := Gv.a0 (blk_below BK285.out hb)
               have n5_ := Gv.a0 (below_step HB.out hb)
               have n6_ := Gv.a0 (hbox)
               have n7_ := Gv.a0 (Gv.ble hg HB.out : w.heap.size ≤ gb292)
               have n8_ := Gv.a0 (Gv.ble hg HB.out : w.heap.size ≤ gb292)
               have n9_ := Gv.a0 (Gv.nlt hg BK276.out : gb276 ≠ gb292)
               have n10_ := Gv.a0 (Gv.ngt hg BK276.out : gb292 ≠ gb276)
               have n11_ := Gv.a0 (Gv.nlt hg BK283.out : gb283 ≠ gb292)
               have n12_ := Gv.a0 (Gv.ngt hg BK283.out : gb292 ≠ gb283)
               have n13_ := Gv.a0 (Gv.nlt hg BK285.out : gb285 ≠ gb292)
               have n14_ := Gv.a0 (Gv.ngt hg BK285.out : gb292 ≠ gb285)
               clear HO_5 HO_7 BK276 BK283 BK285 HB
               have HO_5 := n0_
               have HO_7 := n1_
               have BK276 := n2_
               have BK283 := n3_
               have BK285 := n4_
               have HB := n5_
               have BK292 := n6_
               have GW292 := n7_
               have GE292 := n8_
               have NB276_292 := n9_
               have NB292_276 := n10_
               have NB283_292 := n11_
               have NB292_283 := n12_
               have NB285_292 := n13_
               have NB292_285 := n14_
               clear n0_ n1_ n2_ n3_ n4_ n5_ n6_ n7_ n8_ n9_ n10_ n11_ n12_ n13_ n14_
               clear hb hbox hg
               refine hK.out _ _ ⟨(blk_cell BK283.out 0).trans rfl, (blk_cell BK283.out 1).trans rfl, (blk_cell BK283.out 2).trans rfl, (blk_cell BK285.out 0).trans rfl, (blk_cell BK285.out 1).trans rfl, (blk_cell BK285.out 2).trans rfl, (blk_cell BK285.out 3).trans rfl, HS7_, HS8_, HS9_⟩ (fun hHeld => ?_)
               clear hK K
               refine norm_ (a' := ?_) ?_ ?_
               rotate_left
               ·show Act.put _ (some 12) _ = _
                simp only [Act.put, List.setIfInBounds_toArray, List.set_cons_zero, List.set_cons_succ, i64_w, i32_w]
                rfl
               refine one_ (i := 6) (N := some 71) #[true, true, true, true, true, true, true, false, false, false, true, false, false] rfl rfl (one_of HT_.out (by kernel_rfl)) (by decide) (fun K hK => ?_)
               refine goes_ Try.func19 (by kernel_rfl) rfl #[.agg #[.int .i64 x284000_1, .int .i64 x284001_1, .int .i64 x284002_1], .agg #[.int .i64 ((rd_T26 x7_1 0).f0), .int .i64 ((rd_T26 x7_1 0).f1), .int .i64 ((rd_T26 x7_1 0).f2)], .agg #[.int .i64 ((rd_T80 l0 x23_1).f1.f0), .int .i64 ((rd_T80 l0 x23_1).f1.f1), .int .i64 ((rd_T80 l0 x23_1).f1.f2)]] (by rfl) rfl rfl Gv.lm ?_
               with_reducible refine (impl_Settle.calls kj15 x284000_1 x284001_1 x284002_1 ((rd_T26 x7_1 0).f0) ((rd_T26 x7_1 0).f1) ((rd_T26 x7_1 0).f2) ((rd_T80 l0 x23_1).f1.f0) ((rd_T80 l0 x23_1).f1.f1) ((rd_T80 l0 x23_1).f1.f2) t288 t289 t290 false _ A46.out).mono ?_
               rintro e w72 ⟨rfl, hb⟩
               have HS7_ := (hb.cell (World.block_lt_of_cell? _ _ (hHeld.2.2.2.2.2.2.2.1))).trans (hHeld.2.2.2.2.2.2.2.1)
               have HS8_ := (hb.cell (World.block_lt_of_cell? _ _ (hHeld.2.2.2.2.2.2.2.2.1))).trans (hHeld.2.2.2.2.2.2.2.2.1)
               have HS9_ := (hb.cell (World.block_lt_of_cell? _ _ (hHeld.2.2.2.2.2.2.2.2.2))).trans (hHeld.2.2.2.2.2.2.2.2.2)
               refine ⟨_, rfl, ?_⟩
               have n0_ := Gv.a0 (Kd.R_below HO_5.out hb)
               have n1_ := Gv.a0 (Kd.Q_below (by (with_reducible repeat (first | apply Kd.Q_alloc | apply Kd.Q_drewN | apply Kd.Q_drew)); exact HO_7.out) hb)
               have n2_ := Gv.a0 (blk_below BK276.out hb)
               have n3_ := Gv.a0 (blk_below BK283.out hb)
               have n4_ := Gv.a0 (blk_below BK285.out hb)
               have n5_ := Gv.a0 (blk_below BK292.out hb)
               have n6_ := Gv.a0 (below_step HB.out hb)
               clear HO_5 HO_7 BK276 BK283 BK285 BK292 HB
               have HO_5 := n0_
               have HO_7 := n1_
               have BK276 := n2_
               have BK283 := n3_
               have BK285 := n4_
               have BK292 := n5_
               have HB := n6_
               clear n0_ n1_ n2_ n3_ n4_ n5_ n6_
               (try clear hb)
               (try clear hb2)
               (try clear hk)
               (try clear hi)
               refine hK.out _ _ ⟨(blk_cell BK283.out 0).trans rfl, (blk_cell BK283.out 1).trans rfl, (blk_cell BK283.out 2).trans rfl, (blk_cell BK285.out 0).trans rfl, (blk_cell BK285.out 1).trans rfl, (blk_cell BK285.out 2).trans rfl, (blk_cell BK285.out 3).trans rfl, HS7_, HS8_, HS9_⟩ (fun hHeld => ?_)
               clear hK K
               refine norm_ (a' := ?_) ?_ ?_
               rotate_left
               ·show Act.put _ (some 71) _ = _
                simp only [Act.put, List.setIfInBounds_toArray, List.set_cons_zero, List.set_cons_succ, i64_w, i32_w]
                rfl
               refine Gv.pu 7 (some 64) HT_ ?_
               refine Gv.pu 8 (some 72) HT_ ?_
               refine Gv.pu 9 (some 73) HT_ ?_
               exact norm_ (by simp only [putAll, Act.put, List.setIfInBounds_toArray, List.set_cons_zero, List.set_cons_succ]) (hCont (gb292) _ ⟨hHeld, (by (with_reducible repeat (first | apply Kd.R_alloc | apply Kd.R_drewN | apply Kd.R_drew)); exact Kd.R_mono HO_5.out (fun _ hk => ⟨hk.1.1, ⟨hk.1.2.1, ⟨hk.1.2.2, hk.2⟩⟩⟩)), (by (with_reducible repeat (first | apply Kd.Q_alloc | apply Kd.Q_drewN | apply Kd.Q_drew)); exact Kd.Q_mono HO_7.out (fun _ hk => ⟨hk.1.1, ⟨hk.1.2.1, ⟨hk.1.2.2, hk.2⟩⟩⟩)), BK276.out, BK283.out, BK285.out, BK292.out, GW292.out, GE292.out, NB276_292.out, NB292_276.out, NB283_292.out, NB292_283.out, NB285_292.out, NB292_285.out, HB.out⟩)
             rintro gb292 w73 ⟨hS_, h0_, h1_, h2_, h3_, h4_, h5_, h6_, h7_, h8_, h9_, h10_, h11_, h12_, h13_, h14_⟩
             have n0_ : Aside0 (Kd.R k26 26 w73 w.heap.size (fun k_ => some k_ ≠ (.slice (some ad287) x7_1.length co70 : Value).ownBlock ∧ k_ ≠ gb276 ∧ k_ ≠ gb283 ∧ k_ ≠ gb292) u5 x5_1) := ⟨h0_⟩
             have n1_ : Aside0 (Kd.Q k26 26 w73 w.heap.size (fun k_ => some k_ ≠ (u5 : Value).ownBlock ∧ k_ ≠ gb276 ∧ k_ ≠ gb283 ∧ k_ ≠ gb292) (.slice (some ad287) x7_1.length co70) x7_1) := ⟨h1_⟩
             have n2_ : Aside0 (w73.heap[gb276]? = some (.cells #[.int .i64 x277000_1, .int .i64 x277001_1, .int .i64 x277002_1] 26 (0, 0))) := ⟨h2_⟩
             have n3_ : Aside0 (w73.heap[gb283]? = some (.cells #[.int .i64 x284000_1, .int .i64 x284001_1, .int .i64 x284002_1] 26 (0, 0))) := ⟨h3_⟩
             have n4_ : Aside0 (w73.heap[gb285]? = some (.cells #[.bool ((rd_T80 l0 x23_1).f0), .int .i64 ((rd_T80 l0 x23_1).f1.f0), .int .i64 ((rd_T80 l0 x23_1).f1.f1), .int .i64 ((rd_T80 l0 x23_1).f1.f2)] 80 (0, 0))) := ⟨h4_⟩
             have n5_ : Aside0 (w73.heap[gb292]? = some (.cells #[.int .i64 0, .int .i64 0, .int .i64 0] 26 (0, 0))) := ⟨h5_⟩
             have n6_ : Aside0 (w.heap.size ≤ gb292) := ⟨h6_⟩
             have n7_ : Aside0 (w.heap.size ≤ gb292) := ⟨h7_⟩
             have n8_ : Aside0 (gb276 ≠ gb292) := ⟨h8_⟩
             have n9_ : Aside0 (gb292 ≠ gb276) := ⟨h9_⟩
             have n10_ : Aside0 (gb283 ≠ gb292) := ⟨h10_⟩
             have n11_ : Aside0 (gb292 ≠ gb283) := ⟨h11_⟩
             have n12_ : Aside0 (gb285 ≠ gb292) := ⟨h12_⟩
             have n13_ : Aside0 (gb292 ≠ gb285) := ⟨h13_⟩
             have n14_ : Aside0 (Below w.heap.size w w73) := ⟨h14_⟩
             clear HO_5 HO_7 BK276 BK283 BK285 HB
             clear h0_ h1_ h2_ h3_ h4_ h5_ h6_ h7_ h8_ h9_ h10_ h11_ h12_ h13_ h14_
             have HO_5 := n0_
             have HO_7 := n1_
             have BK276 := n2_
             have BK283 := n3_
             have BK285 := n4_
             have BK292 := n5_
             have GW292 := n6_
             have GE292 := n7_
             have NB276_292 := n8_
             have NB292_276 := n9_
             have NB283_292 := n10_
             have NB292_283 := n11_
             have NB285_292 := n12_
             have NB292_285 := n13_
             have HB := n14_
             clear n0_ n1_ n2_ n3_ n4_ n5_ n6_ n7_ n8_ n9_ n10_ n11_ n12_ n13_ n14_
             have hHeld : w73.cell? ⟨gb283, 0, none⟩ = some (.int .i64 x284000_1) ∧ w73.cell? ⟨gb283, 1, none⟩ = some (.int .i64 x284001_1) ∧ w73.cell? ⟨gb283, 2, none⟩ = some (.int .i64 x284002_1) ∧ w73.cell? ⟨gb285, 0, none⟩ = some (.bool ((rd_T80 l0 x23_1).f0)) ∧ w73.cell? ⟨gb285, 1, none⟩ = some (.int .i64 ((rd_T80 l0 x23_1).f1.f0)) ∧ w73.cell? ⟨gb285, 2, none⟩ = some (.int .i64 ((rd_T80 l0 x23_1).f1.f1)) ∧ w73.cell? ⟨gb285, 3, none⟩ = some (.int .i64 ((rd_T80 l0 x23_1).f1.f2)) ∧ w73.cell? ad287 = some (.int .i64 ((rd_T26 x7_1 0).f0)) ∧ w73.cell? ⟨ad287.block, ad287.off + 1, none⟩ = some (.int .i64 ((rd_T26 x7_1 0).f1)) ∧ w73.cell? ⟨ad287.block, ad287.off + 2, none⟩ = some (.int .i64 ((rd_T26 x7_1 0).f2)) := hS_
             refine norm_ (a' := ?_) ?_ ?_
             rotate_left
             ·simp only [putAll, Act.put, List.setIfInBounds_toArray, List.set_cons_zero, List.set_cons_succ]
              rfl
             refine one_ (i := 11) (N := none) #[true, true, true, true, true, true, true, true, true, true, true, true, false] rfl rfl (one_of HT_.out (by kernel_rfl)) (by decide) (fun K hK => ?_)
             have hs74 : w73.cell? ⟨gb292, 0, none⟩ = some (.int .i64 0) := (blk_cell BK292.out 0).trans rfl
             have hfs74 := blk_frozen BK292.out 0
             have hns74_0 := NB276_292.out
             have hns74_1 := NB283_292.out
             have hns74_2 := NB285_292.out
             have hms74_0 := NB292_276.out
             have hms74_1 := NB292_283.out
             have hms74_2 := NB292_285.out
             have hs75 : w73.cell? ⟨gb292, 1, none⟩ = some (.int .i64 0) := (blk_cell BK292.out 1).trans rfl
             have hfs75 := blk_frozen BK292.out 1
             have hns75_0 := NB276_292.out
             have hns75_1 := NB283_292.out
             have hns75_2 := NB285_292.out
             have hms75_0 := NB292_276.out
             have hms75_1 := NB292_283.out
             have hms75_2 := NB292_285.out
             have hs76 : w73.cell? ⟨gb292, 2, none⟩ = some (.int .i64 0) := (blk_cell BK292.out 2).trans rfl
             have hfs76 := blk_frozen BK292.out 2
             have hns76_0 := NB276_292.out
             have hns76_1 := NB283_292.out
             have hns76_2 := NB285_292.out
             have hms76_0 := NB292_276.out
             have hms76_1 := NB292_283.out
             have hms76_2 := NB292_285.out
             refine skip_ (w1 := ?_) (by rfl) rfl ?_ ?_
             rotate_left
             ·go_simp
              rfl
             refine hK.out _ _ ⟨((cell_far (p := ⟨gb292, _, none⟩) NB283_292.out _).trans (((cell_far (p := ⟨gb292, _, none⟩) NB283_292.out _).trans (((cell_far (p := ⟨gb292, _, none⟩) NB283_292.out _).trans (hHeld.1)))))), ((cell_far (p := ⟨gb292, _, none⟩) NB283_292.out _).trans (((cell_far (p := ⟨gb292, _, none⟩) NB283_292.out _).trans (((cell_far (p := ⟨gb292, _, none⟩) NB283_292.out _).trans (hHeld.2.1)))))), ((cell_far (p := ⟨gb292, _, none⟩) NB283_292.out _).trans (((cell_far (p := ⟨gb292, _, none⟩) NB283_292.out _).trans (((cell_far (p := ⟨gb292, _, none⟩) NB283_292.out _).trans (hHeld.2.2.1)))))), ((cell_far (p := ⟨gb292, _, none⟩) NB285_292.out _).trans (((cell_far (p := ⟨gb292, _, none⟩) NB285_292.out _).trans (((cell_far (p := ⟨gb292, _, none⟩) NB285_292.out _).trans (hHeld.2.2.2.1)))))), ((cell_far (p := ⟨gb292, _, none⟩) NB285_292.out _).trans (((cell_far (p := ⟨gb292, _, none⟩) NB285_292.out _).trans (((cell_far (p := ⟨gb292, _, none⟩) NB285_292.out _).trans (hHeld.2.2.2.2.1)))))), ((cell_far (p := ⟨gb292, _, none⟩) NB285_292.out _).trans (((cell_far (p := ⟨gb292, _, none⟩) NB285_292.out _).trans (((cell_far (p := ⟨gb292, _, none⟩) NB285_292.out _).trans (hHeld.2.2.2.2.2.1)))))), ((cell_far (p := ⟨gb292, _, none⟩) NB285_292.out _).trans (((cell_far (p := ⟨gb292, _, none⟩) NB285_292.out _).trans (((cell_far (p := ⟨gb292, _, none⟩) NB285_292.out _).trans (hHeld.2.2.2.2.2.2.1)))))), ((cell_far (p := ⟨gb292, _, none⟩) (by first | exact Kd.own_blk (Kd.Q_away HO_7.out (fun _ hk => hk.2.2.2)) | (rw [add_block]; exact Kd.own_blk (Kd.Q_away HO_7.out (fun _ hk => hk.2.2.2))) | (show (Addr.add _ _).block ≠ _; rw [add_block]; exact Kd.own_blk (Kd.Q_away HO_7.out (fun _ hk => hk.2.2.2))) | (dsimp only; exact Kd.own_blk (Kd.Q_away HO_7.out (fun _ hk => hk.2.2.2)))) _).trans (((cell_far (p := ⟨gb292, _, none⟩) (by first | exact Kd.own_blk (Kd.Q_away HO_7.out (fun _ hk => hk.2.2.2)) | (rw [add_block]; exact Kd.own_blk (Kd.Q_away HO_7.out (fun _ hk => hk.2.2.2))) | (show (Addr.add _ _).block ≠ _; rw [add_block]; exact Kd.own_blk (Kd.Q_away HO_7.out (fun _ hk => hk.2.2.2))) | (dsimp only; exact Kd.own_blk (Kd.Q_away HO_7.out (fun _ hk => hk.2.2.2)))) _).trans (((cell_far (p := ⟨gb292, _, none⟩) (by first | exact Kd.own_blk (Kd.Q_away HO_7.out (fun _ hk => hk.2.2.2)) | (rw [add_block]; exact Kd.own_blk (Kd.Q_away HO_7.out (fun _ hk => hk.2.2.2))) | (show (Addr.add _ _).block ≠ _; rw [add_block]; exact Kd.own_blk (Kd.Q_away HO_7.out (fun _ hk => hk.2.2.2))) | (dsimp only; exact Kd.own_blk (Kd.Q_away HO_7.out (fun _ hk => hk.2.2.2)))) _).trans (hHeld.2.2.2.2.2.2.2.1)))))), ((cell_far (p := ⟨gb292, _, none⟩) (by first | exact Kd.own_blk (Kd.Q_away HO_7.out (fun _ hk => hk.2.2.2)) | (rw [add_block]; exact Kd.own_blk (Kd.Q_away HO_7.out (fun _ hk => hk.2.2.2))) | (show (Addr.add _ _).block ≠ _; rw [add_block]; exact Kd.own_blk (Kd.Q_away HO_7.out (fun _ hk => hk.2.2.2))) | (dsimp only; exact Kd.own_blk (Kd.Q_away HO_7.out (fun _ hk => hk.2.2.2)))) _).trans (((cell_far (p := ⟨gb292, _, none⟩) (by first | exact Kd.own_blk (Kd.Q_away HO_7.out (fun _ hk => hk.2.2.2)) | (rw [add_block]; exact Kd.own_blk (Kd.Q_away HO_7.out (fun _ hk => hk.2.2.2))) | (show (Addr.add _ _).block ≠ _; rw [add_block]; exact Kd.own_blk (Kd.Q_away HO_7.out (fun _ hk => hk.2.2.2))) | (dsimp only; exact Kd.own_blk (Kd.Q_away HO_7.out (fun _ hk => hk.2.2.2)))) _).trans (((cell_far (p := ⟨gb292, _, none⟩) (by first | exact Kd.own_blk (Kd.Q_away HO_7.out (fun _ hk => hk.2.2.2)) | (rw [add_block]; exact Kd.own_blk (Kd.Q_away HO_7.out (fun _ hk => hk.2.2.2))) | (show (Addr.add _ _).block ≠ _; rw [add_block]; exact Kd.own_blk (Kd.Q_away HO_7.out (fun _ hk => hk.2.2.2))) | (dsimp only; exact Kd.own_blk (Kd.Q_away HO_7.out (fun _ hk => hk.2.2.2)))) _).trans (hHeld.2.2.2.2.2.2.2.2.1)))))), ((cell_far (p := ⟨gb292, _, none⟩) (by first | exact Kd.own_blk (Kd.Q_away HO_7.out (fun _ hk => hk.2.2.2)) | (rw [add_block]; exact Kd.own_blk (Kd.Q_away HO_7.out (fun _ hk => hk.2.2.2))) | (show (Addr.add _ _).block ≠ _; rw [add_block]; exact Kd.own_blk (Kd.Q_away HO_7.out (fun _ hk => hk.2.2.2))) | (dsimp only; exact Kd.own_blk (Kd.Q_away HO_7.out (fun _ hk => hk.2.2.2)))) _).trans (((cell_far (p := ⟨gb292, _, none⟩) (by first | exact Kd.own_blk (Kd.Q_away HO_7.out (fun _ hk => hk.2.2.2)) | (rw [add_block]; exact Kd.own_blk (Kd.Q_away HO_7.out (fun _ hk => hk.2.2.2))) | (show (Addr.add _ _).block ≠ _; rw [add_block]; exact Kd.own_blk (Kd.Q_away HO_7.out (fun _ hk => hk.2.2.2))) | (dsimp only; exact Kd.own_blk (Kd.Q_away HO_7.out (fun _ hk => hk.2.2.2)))) _).trans (((cell_far (p := ⟨gb292, _, none⟩) (by first | exact Kd.own_blk (Kd.Q_away HO_7.out (fun _ hk => hk.2.2.2)) | (rw [add_block]; exact Kd.own_blk (Kd.Q_away HO_7.out (fun _ hk => hk.2.2.2))) | (show (Addr.add _ _).block ≠ _; rw [add_block]; exact Kd.own_blk (Kd.Q_away HO_7.out (fun _ hk => hk.2.2.2))) | (dsimp only; exact Kd.own_blk (Kd.Q_away HO_7.out (fun _ hk => hk.2.2.2)))) _).trans (hHeld.2.2.2.2.2.2.2.2.2))))))⟩ (fun hHeld => ?_)
             clear hK K
             refine Gv.pu 12 (some 13) HT_ ?_
             refine done_ (done_of HT_.out (by kernel_rfl)) ?_
             have hnb77 := NB276_283.out
             have hnc77 := NB283_276.out
             have hnb78 := NB276_292.out
             have hnc78 := NB292_276.out
             have hcz79_0 : w73.cell? ⟨gb276, 0, none⟩ = some (.int .i64 x277000_1) := (blk_cell BK276.out 0).trans rfl
             have hcz79_1 : w73.cell? ⟨gb276, 1, none⟩ = some (.int .i64 x277001_1) := (blk_cell BK276.out 1).trans rfl
             have hcz79_2 : w73.cell? ⟨gb276, 2, none⟩ = some (.int .i64 x277002_1) := (blk_cell BK276.out 2).trans rfl
             have hfz79_0 := blk_frozen BK276.out 0
             have hfz79_1 := blk_frozen BK276.out 1
             have hfz79_2 := blk_frozen BK276.out 2
             try go_wp2
             refine bodyPost_ret (results_list (rs := [.tmp 2, .cell 3 26, .tmp 4]) rfl (by simp) (.tmp (.cell gb276 26 #[.int .i64 0, .int .i64 0, .int .i64 0] (0, 0) _ rfl (by (with_reducible repeat (first | refine blk_drewN ?_ _ | refine blk_drew ?_ | refine blk_alloc ?_ _)); refine blk_put (cs := #[.int .i64 0, .int .i64 0, .int .i64 x277002_1]) ?_ 2 _ rfl; (with_reducible repeat (first | refine blk_drewN ?_ _ | refine blk_drew ?_ | refine blk_alloc ?_ _)); refine blk_put (cs := #[.int .i64 0, .int .i64 x277001_1, .int .i64 x277002_1]) ?_ 1 _ rfl; (with_reducible repeat (first | refine blk_drewN ?_ _ | refine blk_drew ?_ | refine blk_alloc ?_ _)); refine blk_put (cs := #[.int .i64 x277000_1, .int .i64 x277001_1, .int .i64 x277002_1]) ?_ 0 _ rfl; (with_reducible repeat (first | refine blk_drewN ?_ _ | refine blk_drew ?_ | refine blk_alloc ?_ _)); refine blk_far ?_ NB276_292.out _; (with_reducible repeat (first | refine blk_drewN ?_ _ | refine blk_drew ?_ | refine blk_alloc ?_ _)); refine blk_far ?_ NB276_292.out _; (with_reducible repeat (first | refine blk_drewN ?_ _ | refine blk_drew ?_ | refine blk_alloc ?_ _)); refine blk_far ?_ NB276_292.out _; (with_reducible repeat (first | refine blk_drewN ?_ _ | refine blk_drew ?_ | refine blk_alloc ?_ _)); exact BK276.out) Try.underlying26 rfl (by kernel_rfl) (.tmp .nil)))) rfl ?_
             exact ⟨_, Gv.rt, by first | exact Kd.R_nil _ _ _ _ _ | exact Kd.N_nil _ _ _ _ _ | exact Kd.V_nil _ _ _ _ _ | exact Kd.Q_nil _ _ _ _ _ | exact Kd.S_nil _ _ _ _ _, Gv.bw⟩
           ·rw [if_neg c45] at H
            exact absurd H (by simp)
          ·rw [if_neg c44] at H
           have c44b0 : ((rd_T80 l0 x23_1).f0) = false := by simpa using c44
           clear c44
           replace H := Option.bind_eq_some_iff.mp H
           obtain ⟨⟨t296, t297, t298, t299, t300, t301⟩, A800, H⟩ := H
           replace H : ((some (([(⟨t296, t297, t298⟩ : S26)] : List (S26)) : List (S26))).bind fun y304 => (if x5_1.length + y304.length < 5864062014805 then ((some (([(⟨((rd_T80 l0 x23_1).f1.f0), ((rd_T80 l0 x23_1).f1.f1), ((rd_T80 l0 x23_1).f1.f2)⟩ : S26)] : List (S26)) : List (S26))).bind fun y310 => (if x7_1.length + y310.length < 5864062014805 then (impl_CarryRun.l0 kj15 (x5_1 ++ y304) (x7_1 ++ y310) l0 (l0.length : Int) (wrap64 (x23_1 + 1)) t299 t300 t301) else (none))) else (none))) = some (r1, r2, r3, r4, r5) := H
           have A80 := Gv.a0 A800
           clear A800
           obtain ⟨y304, hy304⟩ : ∃ y_ : List (S26), y_ = (([(⟨t296, t297, t298⟩ : S26)] : List (S26))) := ⟨_, rfl⟩
           replace H : (if x5_1.length + y304.length < 5864062014805 then ((some (([(⟨((rd_T80 l0 x23_1).f1.f0), ((rd_T80 l0 x23_1).f1.f1), ((rd_T80 l0 x23_1).f1.f2)⟩ : S26)] : List (S26)) : List (S26))).bind fun y310 => (if x7_1.length + y310.length < 5864062014805 then (impl_CarryRun.l0 kj15 (x5_1 ++ y304) (x7_1 ++ y310) l0 (l0.length : Int) (wrap64 (x23_1 + 1)) t299 t300 t301) else (none))) else (none)) = some (r1, r2, r3, r4, r5) := by first | (rw [hy304]; with_reducible exact H) | (have H2_ := (Option.bind_some _ _).symm.trans H; rw [hy304]; with_reducible exact H2_) | (have H2_ := (Option.bind_some _ _).symm.trans H; with_reducible exact H2_) | with_reducible exact H | (rw [hy304]; exact H) | exact H
           have Ny304 := Gv.a0 hy304
           clear hy304
           by_cases c81 : x5_1.length + y304.length < 5864062014805
           ·rw [if_pos c81] at H
            have LMc81 := Gv.a0 c81
            clear c81
            obtain ⟨y307, hy307⟩ : ∃ y_ : List (S26), y_ = (x5_1 ++ y304) := ⟨_, rfl⟩
            replace H : ((some (([(⟨((rd_T80 l0 x23_1).f1.f0), ((rd_T80 l0 x23_1).f1.f1), ((rd_T80 l0 x23_1).f1.f2)⟩ : S26)] : List (S26)) : List (S26))).bind fun y310 => (if x7_1.length + y310.length < 5864062014805 then (impl_CarryRun.l0 kj15 y307 (x7_1 ++ y310) l0 (l0.length : Int) (wrap64 (x23_1 + 1)) t299 t300 t301) else (none))) = some (r1, r2, r3, r4, r5) := by first | (rw [hy307]; with_reducible exact H) | (have H2_ := (Option.bind_some _ _).symm.trans H; rw [hy307]; with_reducible exact H2_) | (have H2_ := (Option.bind_some _ _).symm.trans H; with_reducible exact H2_) | with_reducible exact H | (rw [hy307]; exact H) | exact H
            have Ny307 := Gv.a0 hy307
            clear hy307
            obtain ⟨y310, hy310⟩ : ∃ y_ : List (S26), y_ = (([(⟨((rd_T80 l0 x23_1).f1.f0), ((rd_T80 l0 x23_1).f1.f1), ((rd_T80 l0 x23_1).f1.f2)⟩ : S26)] : List (S26))) := ⟨_, rfl⟩
            replace H : (if x7_1.length + y310.length < 5864062014805 then (impl_CarryRun.l0 kj15 y307 (x7_1 ++ y310) l0 (l0.length : Int) (wrap64 (x23_1 + 1)) t299 t300 t301) else (none)) = some (r1, r2, r3, r4, r5) := by first | (rw [hy310]; with_reducible exact H) | (have H2_ := (Option.bind_some _ _).symm.trans H; rw [hy310]; with_reducible exact H2_) | (have H2_ := (Option.bind_some _ _).symm.trans H; with_reducible exact H2_) | with_reducible exact H | (rw [hy310]; exact H) | exact H
            have Ny310 := Gv.a0 hy310
            clear hy310
            by_cases c82 : x7_1.length + y310.length < 5864062014805
            ·rw [if_pos c82] at H
             have LMc82 := Gv.a0 c82
             clear c82
             obtain ⟨y313, hy313⟩ : ∃ y_ : List (S26), y_ = (x7_1 ++ y310) := ⟨_, rfl⟩
             replace H : (impl_CarryRun.l0 kj15 y307 y313 l0 (l0.length : Int) (wrap64 (x23_1 + 1)) t299 t300 t301) = some (r1, r2, r3, r4, r5) := by first | (rw [hy313]; with_reducible exact H) | (have H2_ := (Option.bind_some _ _).symm.trans H; rw [hy313]; with_reducible exact H2_) | (have H2_ := (Option.bind_some _ _).symm.trans H; with_reducible exact H2_) | with_reducible exact H | (rw [hy313]; exact H) | exact H
             have Ny313 := Gv.a0 hy313
             clear hy313
             have H' := Gv.a0 H
             clear H
             have hnb83 := NB285_276.out
             have hnc83 := NB276_285.out
             have hnb84 := NB285_283.out
             have hnc84 := NB283_285.out
             obtain ⟨hcz85_0, hcz85_1, hcz85_2, hcz85_3⟩ := Gv.c4 BK285.out
             obtain ⟨hfz85_0, hfz85_1, hfz85_2, hfz85_3⟩ := Gv.f4 BK285.out
             have hnb86 := NB283_276.out
             have hnc86 := NB276_283.out
             have hcz87_0 : wc.cell? ⟨gb283, 0, none⟩ = some (.int .i64 x284000_1) := (blk_cell BK283.out 0).trans rfl
             have hcz87_1 : wc.cell? ⟨gb283, 1, none⟩ = some (.int .i64 x284001_1) := (blk_cell BK283.out 1).trans rfl
             have hcz87_2 : wc.cell? ⟨gb283, 2, none⟩ = some (.int .i64 x284002_1) := (blk_cell BK283.out 2).trans rfl
             have hfz87_0 := blk_frozen BK283.out 0
             have hfz87_1 := blk_frozen BK283.out 1
             have hfz87_2 := blk_frozen BK283.out 2
             try go_wp2_with (first | ((with_reducible refine gate_callee (f := 26) rfl ?_); refine goesL_ (some 51) rfl rfl Try.func26 (by kernel_rfl) rfl #[.agg #[.int .i64 ((rd_T80 l0 x23_1).f1.f0), .int .i64 ((rd_T80 l0 x23_1).f1.f1), .int .i64 ((rd_T80 l0 x23_1).f1.f2)], .agg #[.int .i64 x284000_1, .int .i64 x284001_1, .int .i64 x284002_1]] rfl Gv.lm ?_; (with_reducible refine (impl_Charge.calls kj15 _ _ _ x284000_1 x284001_1 x284002_1 t296 t297 t298 t299 t300 t301 _ A80.out).mono ?_); rintro e w88 ⟨rfl, hb⟩; refine ⟨_, rfl, ?_⟩; have n0_ := Gv.a0 (Kd.R_below (Gv.kr HO_5.out) hb); have n1_ := Gv.a0 (Kd.Q_below (by (with_reducible repeat (first | apply Kd.Q_alloc | apply Kd.Q_drewN | apply Kd.Q_drew)); exact HO_7.out) hb); have n2_ := Gv.a0 (Gv.bb BK276.out hb); have n3_ := Gv.a0 (Gv.bb BK283.out hb); have n4_ := Gv.a0 (Gv.bb BK285.out hb); have n5_ := Gv.a0 (below_step Gv.bw hb); clear HO_5; clear HO_7; clear BK276; clear BK283; clear BK285; clear HB; have HO_5 := n0_; have HO_7 := n1_; have BK276 := n2_; have BK283 := n3_; have BK285 := n4_; have HB := n5_; clear n0_ n1_ n2_ n3_ n4_ n5_; (try clear hb); (try clear hb2); (try clear hk); (try clear hi)) | ((with_reducible refine gate_dst (N := 10) rfl ?_); (try (refine gate_guard (by rfl) ?_; dsimp only)); refine box_event ?hg (N := 10) ?hd (cs := #[.int .i64 0, .int .i64 0, .int .i64 0]) (t := 26) ?hr ?_; (case hd => rfl); (case hg => rfl); (case hr => first | (go_simp; done) | (go_simp; rfl)); intro gb302 hg w89 hbox hb; have n0_ := Gv.a0 (Kd.R_below (Kd.R_elderB (Gv.kr HO_5.out) gb302 (Nat.le_of_eq hg.symm)) hb); have n1_ := Gv.a0 (Kd.Q_below (Kd.Q_elderB (by (with_reducible repeat (first | apply Kd.Q_alloc | apply Kd.Q_drewN | apply Kd.Q_drew)); exact HO_7.out) gb302 (Nat.le_of_eq hg.symm)) hb); have n2_ := Gv.a0 (Gv.bb BK276.out hb); have n3_ := Gv.a0 (Gv.bb BK283.out hb); have n4_ := Gv.a0 (Gv.bb BK285.out hb); have n5_ := Gv.a0 (below_step Gv.bw hb); have n6_ := Gv.a0 (hbox); have n7_ := Gv.a0 ((Gv.ble hg Gv.bw : w.heap.size ≤ gb302)); have n8_ := Gv.a0 ((Gv.ble hg Gv.bw : w.heap.size ≤ gb302)); have n9_ := Gv.a0 ((Gv.nlt hg (Gv.kb BK276.out) : gb276 ≠ gb302)); have n10_ := Gv.a0 ((Gv.ngt hg (Gv.kb BK276.out) : gb302 ≠ gb276)); have n11_ := Gv.a0 ((Gv.nlt hg (Gv.kb BK283.out) : gb283 ≠ gb302)); have n12_ := Gv.a0 ((Gv.ngt hg (Gv.kb BK283.out) : gb302 ≠ gb283)); have n13_ := Gv.a0 ((Gv.nlt hg (Gv.kb BK285.out) : gb285 ≠ gb302)); have n14_ := Gv.a0 ((Gv.ngt hg (Gv.kb BK285.out) : gb302 ≠ gb285)); clear HO_5; clear HO_7; clear BK276; clear BK283; clear BK285; clear HB; have HO_5 := n0_; have HO_7 := n1_; have BK276 := n2_; have BK283 := n3_; have BK285 := n4_; have HB := n5_; have BK302 := n6_; have GW302 := n7_; have GE302 := n8_; have NB276_302 := n9_; have NB302_276 := n10_; have NB283_302 := n11_; have NB302_283 := n12_; have NB285_302 := n13_; have NB302_285 := n14_; clear n0_ n1_ n2_ n3_ n4_ n5_ n6_ n7_ n8_ n9_ n10_ n11_ n12_ n13_ n14_; clear hb hbox hg) | ((with_reducible refine gate_dst (N := 11) rfl ?_); (try (refine gate_guard (by rfl) ?_; dsimp only)); refine box_event ?hg (N := 11) ?hd (cs := #[.int .i64 0, .int .i64 0, .int .i64 0]) (t := 26) ?hr ?_; (case hd => rfl); (case hg => rfl); (case hr => first | (go_simp; done) | (go_simp; rfl)); intro gb303 hg w90 hbox hb; have n0_ := Gv.a0 (Kd.R_below (Kd.R_elderB (Gv.kr HO_5.out) gb303 (Nat.le_of_eq hg.symm)) hb); have n1_ := Gv.a0 (Kd.Q_below (Kd.Q_elderB (by (with_reducible repeat (first | apply Kd.Q_alloc | apply Kd.Q_drewN | apply Kd.Q_drew)); exact HO_7.out) gb303 (Nat.le_of_eq hg.symm)) hb); have n2_ := Gv.a0 (Gv.bb BK276.out hb); have n3_ := Gv.a0 (Gv.bb BK283.out hb); have n4_ := Gv.a0 (Gv.bb BK285.out hb); have n5_ := Gv.a0 (Gv.bb BK302.out hb); have n6_ := Gv.a0 (below_step Gv.bw hb); have n7_ := Gv.a0 (hbox); have n8_ := Gv.a0 ((Gv.ble hg Gv.bw : w.heap.size ≤ gb303)); have n9_ := Gv.a0 ((Gv.ble hg Gv.bw : w.heap.size ≤ gb303)); have n10_ := Gv.a0 ((Gv.nlt hg (Gv.kb BK276.out) : gb276 ≠ gb303)); have n11_ := Gv.a0 ((Gv.ngt hg (Gv.kb BK276.out) : gb303 ≠ gb276)); have n12_ := Gv.a0 ((Gv.nlt hg (Gv.kb BK283.out) : gb283 ≠ gb303)); have n13_ := Gv.a0 ((Gv.ngt hg (Gv.kb BK283.out) : gb303 ≠ gb283)); have n14_ := Gv.a0 ((Gv.nlt hg (Gv.kb BK285.out) : gb285 ≠ gb303)); have n15_ := Gv.a0 ((Gv.ngt hg (Gv.kb BK285.out) : gb303 ≠ gb285)); have n16_ := Gv.a0 ((Gv.nlt hg (Gv.kb BK302.out) : gb302 ≠ gb303)); have n17_ := Gv.a0 ((Gv.ngt hg (Gv.kb BK302.out) : gb303 ≠ gb302)); clear HO_5; clear HO_7; clear BK276; clear BK283; clear BK285; clear BK302; clear HB; have HO_5 := n0_; have HO_7 := n1_; have BK276 := n2_; have BK283 := n3_; have BK285 := n4_; have BK302 := n5_; have HB := n6_; have BK303 := n7_; have GW303 := n8_; have GE303 := n9_; have NB276_303 := n10_; have NB303_276 := n11_; have NB283_303 := n12_; have NB303_283 := n13_; have NB285_303 := n14_; have NB303_285 := n15_; have NB302_303 := n16_; have NB303_302 := n17_; clear n0_ n1_ n2_ n3_ n4_ n5_ n6_ n7_ n8_ n9_ n10_ n11_ n12_ n13_ n14_ n15_ n16_ n17_; clear hb hbox hg; have hnb91 := NB302_276.out; have hnc91 := NB276_302.out; have hnb92 := NB302_283.out; have hnc92 := NB283_302.out; have hnb93 := NB302_285.out; have hnc93 := NB285_302.out; have hnb94 := NB302_303.out; have hnc94 := NB303_302.out; have hcz95_0 : w90.cell? ⟨gb302, 0, none⟩ = some (.int .i64 0) := (blk_cell BK302.out 0).trans rfl; have hcz95_1 : w90.cell? ⟨gb302, 1, none⟩ = some (.int .i64 0) := (blk_cell BK302.out 1).trans rfl; have hcz95_2 : w90.cell? ⟨gb302, 2, none⟩ = some (.int .i64 0) := (blk_cell BK302.out 2).trans rfl; have hfz95_0 := blk_frozen BK302.out 0; have hfz95_1 := blk_frozen BK302.out 1; have hfz95_2 := blk_frozen BK302.out 2; have hnb96 := NB303_276.out; have hnc96 := NB276_303.out; have hnb97 := NB303_283.out; have hnc97 := NB283_303.out; have hnb98 := NB303_285.out; have hnc98 := NB285_303.out; have hcz99_0 : w90.cell? ⟨gb303, 0, none⟩ = some (.int .i64 0) := (blk_cell BK303.out 0).trans rfl; have hcz99_1 : w90.cell? ⟨gb303, 1, none⟩ = some (.int .i64 0) := (blk_cell BK303.out 1).trans rfl; have hcz99_2 : w90.cell? ⟨gb303, 2, none⟩ = some (.int .i64 0) := (blk_cell BK303.out 2).trans rfl; have hfz99_0 := blk_frozen BK303.out 0; have hfz99_1 := blk_frozen BK303.out 1; have hfz99_2 := blk_frozen BK303.out 2; obtain ⟨Ao100, co100, eo100⟩ := Kd.R_slice HO_5.out; subst eo100; obtain ⟨Ao101, co101, eo101, _⟩ := Kd.Q_slice HO_7.out; subst eo101))
             have n0_ : Aside0 (Kd.R k26 26 ((((((w90.setCell ⟨gb302, 0, none⟩ (.int .i64 t296)).setCell ⟨gb302, 1, none⟩ (.int .i64 t297)).setCell ⟨gb302, 2, none⟩ (.int .i64 t298)).setCell ⟨gb303, 0, none⟩ (.int .i64 t299)).setCell ⟨gb303, 1, none⟩ (.int .i64 t300)).setCell ⟨gb303, 2, none⟩ (.int .i64 t301)) w.heap.size (fun k_ => some k_ ≠ (.slice Ao101 x7_1.length co101 : Value).ownBlock ∧ k_ ≠ gb276 ∧ k_ ≠ gb283 ∧ k_ ≠ gb302 ∧ k_ ≠ gb303) (.slice Ao100 x5_1.length co100) x5_1) := ⟨by (with_reducible repeat (first | apply Kd.R_alloc | apply Kd.R_drewN | apply Kd.R_drew)); exact Kd.R_mono (Kd.R_far (p := ⟨gb303, 2, none⟩) (Kd.R_far (p := ⟨gb303, 1, none⟩) (Kd.R_far (p := ⟨gb303, 0, none⟩) (Kd.R_far (p := ⟨gb302, 2, none⟩) (Kd.R_far (p := ⟨gb302, 1, none⟩) (Kd.R_far (p := ⟨gb302, 0, none⟩) (Kd.R_mono (Kd.R_mono HO_5.out (fun k_ hk => (⟨hk, hk.1.2⟩ : _ ∧ k_ ≠ gb302))) (fun k_ hk => (⟨hk, hk.1.2⟩ : _ ∧ k_ ≠ gb303))) (fun _ hk => hk.1.2) (.int .i64 t296)) (fun _ hk => hk.1.2) (.int .i64 t297)) (fun _ hk => hk.1.2) (.int .i64 t298)) (fun _ hk => hk.2) (.int .i64 t299)) (fun _ hk => hk.2) (.int .i64 t300)) (fun _ hk => hk.2) (.int .i64 t301)) (fun _ hk => ⟨hk.1.1.1.1.1, ⟨hk.1.1.1.1.2.1, ⟨hk.1.1.1.1.2.2, ⟨hk.1.1.1.2, hk.1.1.2⟩⟩⟩⟩)⟩
             have n1_ : Aside0 (Kd.Q k26 26 ((((((w90.setCell ⟨gb302, 0, none⟩ (.int .i64 t296)).setCell ⟨gb302, 1, none⟩ (.int .i64 t297)).setCell ⟨gb302, 2, none⟩ (.int .i64 t298)).setCell ⟨gb303, 0, none⟩ (.int .i64 t299)).setCell ⟨gb303, 1, none⟩ (.int .i64 t300)).setCell ⟨gb303, 2, none⟩ (.int .i64 t301)) w.heap.size (fun k_ => some k_ ≠ (.slice Ao100 x5_1.length co100 : Value).ownBlock ∧ k_ ≠ gb276 ∧ k_ ≠ gb283 ∧ k_ ≠ gb302 ∧ k_ ≠ gb303) (.slice Ao101 x7_1.length co101) x7_1) := ⟨by (with_reducible repeat (first | apply Kd.Q_alloc | apply Kd.Q_drewN | apply Kd.Q_drew)); exact Kd.Q_mono (Kd.Q_far (p := ⟨gb303, 2, none⟩) (Kd.Q_far (p := ⟨gb303, 1, none⟩) (Kd.Q_far (p := ⟨gb303, 0, none⟩) (Kd.Q_far (p := ⟨gb302, 2, none⟩) (Kd.Q_far (p := ⟨gb302, 1, none⟩) (Kd.Q_far (p := ⟨gb302, 0, none⟩) (Kd.Q_mono (Kd.Q_mono HO_7.out (fun k_ hk => (⟨hk, hk.1.2⟩ : _ ∧ k_ ≠ gb302))) (fun k_ hk => (⟨hk, hk.1.2⟩ : _ ∧ k_ ≠ gb303))) (fun _ hk => hk.1.2) (.int .i64 t296)) (fun _ hk => hk.1.2) (.int .i64 t297)) (fun _ hk => hk.1.2) (.int .i64 t298)) (fun _ hk => hk.2) (.int .i64 t299)) (fun _ hk => hk.2) (.int .i64 t300)) (fun _ hk => hk.2) (.int .i64 t301)) (fun _ hk => ⟨hk.1.1.1.1.1, ⟨hk.1.1.1.1.2.1, ⟨hk.1.1.1.1.2.2, ⟨hk.1.1.1.2, hk.1.1.2⟩⟩⟩⟩)⟩
             have n2_ : Aside0 (((((((w90.setCell ⟨gb302, 0, none⟩ (.int .i64 t296)).setCell ⟨gb302, 1, none⟩ (.int .i64 t297)).setCell ⟨gb302, 2, none⟩ (.int .i64 t298)).setCell ⟨gb303, 0, none⟩ (.int .i64 t299)).setCell ⟨gb303, 1, none⟩ (.int .i64 t300)).setCell ⟨gb303, 2, none⟩ (.int .i64 t301)).heap[gb276]? = some (.cells #[.int .i64 x277000_1, .int .i64 x277001_1, .int .i64 x277002_1] 26 (0, 0))) := ⟨by (with_reducible repeat (first | refine blk_drewN ?_ _ | refine blk_drew ?_ | refine blk_alloc ?_ _)); refine blk_far ?_ NB276_303.out _; (with_reducible repeat (first | refine blk_drewN ?_ _ | refine blk_drew ?_ | refine blk_alloc ?_ _)); refine blk_far ?_ NB276_303.out _; (with_reducible repeat (first | refine blk_drewN ?_ _ | refine blk_drew ?_ | refine blk_alloc ?_ _)); refine blk_far ?_ NB276_303.out _; (with_reducible repeat (first | refine blk_drewN ?_ _ | refine blk_drew ?_ | refine blk_alloc ?_ _)); refine blk_far ?_ NB276_302.out _; (with_reducible repeat (first | refine blk_drewN ?_ _ | refine blk_drew ?_ | refine blk_alloc ?_ _)); refine blk_far ?_ NB276_302.out _; (with_reducible repeat (first | refine blk_drewN ?_ _ | refine blk_drew ?_ | refine blk_alloc ?_ _)); refine blk_far ?_ NB276_302.out _; (with_reducible repeat (first | refine blk_drewN ?_ _ | refine blk_drew ?_ | refine blk_alloc ?_ _)); exact BK276.out⟩
             have n3_ : Aside0 (((((((w90.setCell ⟨gb302, 0, none⟩ (.int .i64 t296)).setCell ⟨gb302, 1, none⟩ (.int .i64 t297)).setCell ⟨gb302, 2, none⟩ (.int .i64 t298)).setCell ⟨gb303, 0, none⟩ (.int .i64 t299)).setCell ⟨gb303, 1, none⟩ (.int .i64 t300)).setCell ⟨gb303, 2, none⟩ (.int .i64 t301)).heap[gb283]? = some (.cells #[.int .i64 x284000_1, .int .i64 x284001_1, .int .i64 x284002_1] 26 (0, 0))) := ⟨by (with_reducible repeat (first | refine blk_drewN ?_ _ | refine blk_drew ?_ | refine blk_alloc ?_ _)); refine blk_far ?_ NB283_303.out _; (with_reducible repeat (first | refine blk_drewN ?_ _ | refine blk_drew ?_ | refine blk_alloc ?_ _)); refine blk_far ?_ NB283_303.out _; (with_reducible repeat (first | refine blk_drewN ?_ _ | refine blk_drew ?_ | refine blk_alloc ?_ _)); refine blk_far ?_ NB283_303.out _; (with_reducible repeat (first | refine blk_drewN ?_ _ | refine blk_drew ?_ | refine blk_alloc ?_ _)); refine blk_far ?_ NB283_302.out _; (with_reducible repeat (first | refine blk_drewN ?_ _ | refine blk_drew ?_ | refine blk_alloc ?_ _)); refine blk_far ?_ NB283_302.out _; (with_reducible repeat (first | refine blk_drewN ?_ _ | refine blk_drew ?_ | refine blk_alloc ?_ _)); refine blk_far ?_ NB283_302.out _; (with_reducible repeat (first | refine blk_drewN ?_ _ | refine blk_drew ?_ | refine blk_alloc ?_ _)); exact BK283.out⟩
             have n4_ : Aside0 (((((((w90.setCell ⟨gb302, 0, none⟩ (.int .i64 t296)).setCell ⟨gb302, 1, none⟩ (.int .i64 t297)).setCell ⟨gb302, 2, none⟩ (.int .i64 t298)).setCell ⟨gb303, 0, none⟩ (.int .i64 t299)).setCell ⟨gb303, 1, none⟩ (.int .i64 t300)).setCell ⟨gb303, 2, none⟩ (.int .i64 t301)).heap[gb285]? = some (.cells #[.bool ((rd_T80 l0 x23_1).f0), .int .i64 ((rd_T80 l0 x23_1).f1.f0), .int .i64 ((rd_T80 l0 x23_1).f1.f1), .int .i64 ((rd_T80 l0 x23_1).f1.f2)] 80 (0, 0))) := ⟨by (with_reducible repeat (first | refine blk_drewN ?_ _ | refine blk_drew ?_ | refine blk_alloc ?_ _)); refine blk_far ?_ NB285_303.out _; (with_reducible repeat (first | refine blk_drewN ?_ _ | refine blk_drew ?_ | refine blk_alloc ?_ _)); refine blk_far ?_ NB285_303.out _; (with_reducible repeat (first | refine blk_drewN ?_ _ | refine blk_drew ?_ | refine blk_alloc ?_ _)); refine blk_far ?_ NB285_303.out _; (with_reducible repeat (first | refine blk_drewN ?_ _ | refine blk_drew ?_ | refine blk_alloc ?_ _)); refine blk_far ?_ NB285_302.out _; (with_reducible repeat (first | refine blk_drewN ?_ _ | refine blk_drew ?_ | refine blk_alloc ?_ _)); refine blk_far ?_ NB285_302.out _; (with_reducible repeat (first | refine blk_drewN ?_ _ | refine blk_drew ?_ | refine blk_alloc ?_ _)); refine blk_far ?_ NB285_302.out _; (with_reducible repeat (first | refine blk_drewN ?_ _ | refine blk_drew ?_ | refine blk_alloc ?_ _)); exact BK285.out⟩
             have n5_ : Aside0 (((((((w90.setCell ⟨gb302, 0, none⟩ (.int .i64 t296)).setCell ⟨gb302, 1, none⟩ (.int .i64 t297)).setCell ⟨gb302, 2, none⟩ (.int .i64 t298)).setCell ⟨gb303, 0, none⟩ (.int .i64 t299)).setCell ⟨gb303, 1, none⟩ (.int .i64 t300)).setCell ⟨gb303, 2, none⟩ (.int .i64 t301)).heap[gb302]? = some (.cells #[.int .i64 t296, .int .i64 t297, .int .i64 t298] 26 (0, 0))) := ⟨by (with_reducible repeat (first | refine blk_drewN ?_ _ | refine blk_drew ?_ | refine blk_alloc ?_ _)); refine blk_far ?_ NB302_303.out _; (with_reducible repeat (first | refine blk_drewN ?_ _ | refine blk_drew ?_ | refine blk_alloc ?_ _)); refine blk_far ?_ NB302_303.out _; (with_reducible repeat (first | refine blk_drewN ?_ _ | refine blk_drew ?_ | refine blk_alloc ?_ _)); refine blk_far ?_ NB302_303.out _; (with_reducible repeat (first | refine blk_drewN ?_ _ | refine blk_drew ?_ | refine blk_alloc ?_ _)); refine blk_put (cs := #[.int .i64 t296, .int .i64 t297, .int .i64 0]) ?_ 2 _ rfl; (with_reducible repeat (first | refine blk_drewN ?_ _ | refine blk_drew ?_ | refine blk_alloc ?_ _)); refine blk_put (cs := #[.int .i64 t296, .int .i64 0, .int .i64 0]) ?_ 1 _ rfl; (with_reducible repeat (first | refine blk_drewN ?_ _ | refine blk_drew ?_ | refine blk_alloc ?_ _)); refine blk_put (cs := #[.int .i64 0, .int .i64 0, .int .i64 0]) ?_ 0 _ rfl; (with_reducible repeat (first | refine blk_drewN ?_ _ | refine blk_drew ?_ | refine blk_alloc ?_ _)); exact BK302.out⟩
             have n6_ : Aside0 (((((((w90.setCell ⟨gb302, 0, none⟩ (.int .i64 t296)).setCell ⟨gb302, 1, none⟩ (.int .i64 t297)).setCell ⟨gb302, 2, none⟩ (.int .i64 t298)).setCell ⟨gb303, 0, none⟩ (.int .i64 t299)).setCell ⟨gb303, 1, none⟩ (.int .i64 t300)).setCell ⟨gb303, 2, none⟩ (.int .i64 t301)).heap[gb303]? = some (.cells #[.int .i64 t299, .int .i64 t300, .int .i64 t301] 26 (0, 0))) := ⟨by (with_reducible repeat (first | refine blk_drewN ?_ _ | refine blk_drew ?_ | refine blk_alloc ?_ _)); refine blk_put (cs := #[.int .i64 t299, .int .i64 t300, .int .i64 0]) ?_ 2 _ rfl; (with_reducible repeat (first | refine blk_drewN ?_ _ | refine blk_drew ?_ | refine blk_alloc ?_ _)); refine blk_put (cs := #[.int .i64 t299, .int .i64 0, .int .i64 0]) ?_ 1 _ rfl; (with_reducible repeat (first | refine blk_drewN ?_ _ | refine blk_drew ?_ | refine blk_alloc ?_ _)); refine blk_put (cs := #[.int .i64 0, .int .i64 0, .int .i64 0]) ?_ 0 _ rfl; (with_reducible repeat (first | refine blk_drewN ?_ _ | refine blk_drew ?_ | refine blk_alloc ?_ _)); refine blk_far ?_ NB303_302.out _; (with_reducible repeat (first | refine blk_drewN ?_ _ | refine blk_drew ?_ | refine blk_alloc ?_ _)); refine blk_far ?_ NB303_302.out _; (with_reducible repeat (first | refine blk_drewN ?_ _ | refine blk_drew ?_ | refine blk_alloc ?_ _)); refine blk_far ?_ NB303_302.out _; (with_reducible repeat (first | refine blk_drewN ?_ _ | refine blk_drew ?_ | refine blk_alloc ?_ _)); exact BK303.out⟩
             have n7_ : Aside0 (Below w.heap.size w ((((((w90.setCell ⟨gb302, 0, none⟩ (.int .i64 t296)).setCell ⟨gb302, 1, none⟩ (.int .i64 t297)).setCell ⟨gb302, 2, none⟩ (.int .i64 t298)).setCell ⟨gb303, 0, none⟩ (.int .i64 t299)).setCell ⟨gb303, 1, none⟩ (.int .i64 t300)).setCell ⟨gb303, 2, none⟩ (.int .i64 t301))) := ⟨Gv.bw⟩
             (try clear HO_5)
             (try clear HO_7)
             (try clear BK276)
             (try clear BK283)
             (try clear BK285)
             (try clear BK302)
             (try clear BK303)
             (try clear HB)
             generalize ((((((w90.setCell ⟨gb302, 0, none⟩ (.int .i64 t296)).setCell ⟨gb302, 1, none⟩ (.int .i64 t297)).setCell ⟨gb302, 2, none⟩ (.int .i64 t298)).setCell ⟨gb303, 0, none⟩ (.int .i64 t299)).setCell ⟨gb303, 1, none⟩ (.int .i64 t300)).setCell ⟨gb303, 2, none⟩ (.int .i64 t301)) = w102 at n0_ n1_ n2_ n3_ n4_ n5_ n6_ n7_ ⊢
             have HO_5 := n0_
             have HO_7 := n1_
             have BK276 := n2_
             have BK283 := n3_
             have BK285 := n4_
             have BK302 := n5_
             have BK303 := n6_
             have HB := n7_
             clear n0_ n1_ n2_ n3_ n4_ n5_ n6_ n7_
             have n0_ := Gv.a0 (Kd.R_drew HO_5.out)
             have n1_ := Gv.a0 (Kd.Q_drew HO_7.out)
             have n2_ := Gv.a0 (blk_drew BK276.out)
             have n3_ := Gv.a0 (blk_drew BK283.out)
             have n4_ := Gv.a0 (blk_drew BK285.out)
             have n5_ := Gv.a0 (blk_drew BK302.out)
             have n6_ := Gv.a0 (blk_drew BK303.out)
             have n7_ := Gv.a0 (below_drew1 HB.out)
             clear HO_5 HO_7 BK276 BK283 BK285 BK302 BK303 HB
             have HO_5 := n0_
             have HO_7 := n1_
             have BK276 := n2_
             have BK283 := n3_
             have BK285 := n4_
             have BK302 := n5_
             have BK303 := n6_
             have HB := n7_
             clear n0_ n1_ n2_ n3_ n4_ n5_ n6_ n7_
             refine start_ (n := 13) (S := fun w' => w'.cell? ⟨gb302, 0, none⟩ = some (.int .i64 t296) ∧ w'.cell? ⟨gb302, 1, none⟩ = some (.int .i64 t297) ∧ w'.cell? ⟨gb302, 2, none⟩ = some (.int .i64 t298) ∧ w'.cell? ⟨gb285, 0, none⟩ = some (.bool ((rd_T80 l0 x23_1).f0)) ∧ w'.cell? ⟨gb285, 1, none⟩ = some (.int .i64 ((rd_T80 l0 x23_1).f1.f0)) ∧ w'.cell? ⟨gb285, 2, none⟩ = some (.int .i64 ((rd_T80 l0 x23_1).f1.f1)) ∧ w'.cell? ⟨gb285, 3, none⟩ = some (.int .i64 ((rd_T80 l0 x23_1).f1.f2)) ∧ w'.cell? ⟨gb303, 0, none⟩ = some (.int .i64 t299) ∧ w'.cell? ⟨gb303, 1, none⟩ = some (.int .i64 t300) ∧ w'.cell? ⟨gb303, 2, none⟩ = some (.int .i64 t301)) (ds := []) #[false, false, false, false, false, false, false, false, false, false, false, false, false] (by kernel_rfl) rfl rfl ⟨(blk_cell BK302.out 0).trans rfl, (blk_cell BK302.out 1).trans rfl, (blk_cell BK302.out 2).trans rfl, (blk_cell BK285.out 0).trans rfl, (blk_cell BK285.out 1).trans rfl, (blk_cell BK285.out 2).trans rfl, (blk_cell BK285.out 3).trans rfl, (blk_cell BK303.out 0).trans rfl, (blk_cell BK303.out 1).trans rfl, (blk_cell BK303.out 2).trans rfl⟩ (fun hHeld => ?_); refine with_tabW impl_CarryRun.tab11 impl_CarryRun.bits11 (fun HT_ HW_ => ?_)
             generalize w102.drew = w103 at HO_5 HO_7 BK276 BK283 BK285 BK302 BK303 HB hHeld ⊢
             refine Gv.pu 0 (some 54) HT_ ?_
             refine Gv.pu 4 (some 58) HT_ ?_
             refine Gv.pu 5 (some 59) HT_ ?_
             refine take_ (i := 1) (N := some 55) (v := ?_) (a' := ?_) #[true, true, false, false, true, true, false, false, false, false, false, false, false] rfl rfl (take_ofW HT_.out HW_.out (by kernel_rfl)) (fun _ _ _ h => h) (Or.inl ⟨by rfl, ?_⟩) hHeld ?_ ?_
             rotate_left
             ·rintro w' ⟨s0, s1, s2, s3, s4, s5, s6, s7, s8, s9⟩
              go_simp
              with_reducible rfl
             rotate_left
             ·simp only [Act.put, List.setIfInBounds_toArray, List.set_cons_zero, List.set_cons_succ, i64_w, i32_w]
              rfl
             refine take_ (i := 6) (N := some 60) (v := ?_) (a' := ?_) #[true, true, false, false, true, true, true, false, false, false, false, false, false] rfl rfl (take_ofW HT_.out HW_.out (by kernel_rfl)) (fun _ _ _ h => h) (Or.inl ⟨by rfl, ?_⟩) hHeld ?_ ?_
             rotate_left
             ·rintro w' ⟨s0, s1, s2, s3, s4, s5, s6, s7, s8, s9⟩
              go_simp
              with_reducible rfl
             rotate_left
             ·simp only [Act.put, List.setIfInBounds_toArray, List.set_cons_zero, List.set_cons_succ, i64_w, i32_w]
              rfl
             refine take_ (i := 9) (N := some 63) (v := ?_) (a' := ?_) #[true, true, false, false, true, true, true, false, false, true, false, false, false] rfl rfl (take_ofW HT_.out HW_.out (by kernel_rfl)) (fun _ _ _ h => h) (Or.inl ⟨by rfl, ?_⟩) hHeld ?_ ?_
             rotate_left
             ·rintro w' ⟨s0, s1, s2, s3, s4, s5, s6, s7, s8, s9⟩
              go_simp
              with_reducible rfl
             rotate_left
             ·simp only [Act.put, List.setIfInBounds_toArray, List.set_cons_zero, List.set_cons_succ, i64_w, i32_w]
              rfl
             refine join_ (σ := Value × Value × Value) 4 #[true, true, true, true, true, true, true, true, false, true, false, false, false] (fun s_ => [(56, s_.1), (57, s_.2.1), (61, s_.2.2)]) (fun s_ w' => (w'.cell? ⟨gb302, 0, none⟩ = some (.int .i64 t296) ∧ w'.cell? ⟨gb302, 1, none⟩ = some (.int .i64 t297) ∧ w'.cell? ⟨gb302, 2, none⟩ = some (.int .i64 t298) ∧ w'.cell? ⟨gb285, 0, none⟩ = some (.bool ((rd_T80 l0 x23_1).f0)) ∧ w'.cell? ⟨gb285, 1, none⟩ = some (.int .i64 ((rd_T80 l0 x23_1).f1.f0)) ∧ w'.cell? ⟨gb285, 2, none⟩ = some (.int .i64 ((rd_T80 l0 x23_1).f1.f1)) ∧ w'.cell? ⟨gb285, 3, none⟩ = some (.int .i64 ((rd_T80 l0 x23_1).f1.f2)) ∧ w'.cell? ⟨gb303, 0, none⟩ = some (.int .i64 t299) ∧ w'.cell? ⟨gb303, 1, none⟩ = some (.int .i64 t300) ∧ w'.cell? ⟨gb303, 2, none⟩ = some (.int .i64 t301)) ∧ (Kd.R k26 26 w' w.heap.size (fun k_ => some k_ ≠ (s_.2.1 : Value).ownBlock ∧ some k_ ≠ (s_.2.2 : Value).ownBlock ∧ some k_ ≠ (.slice Ao101 x7_1.length co101 : Value).ownBlock ∧ k_ ≠ gb276 ∧ k_ ≠ gb283 ∧ k_ ≠ gb302 ∧ k_ ≠ gb303) s_.1 y304) ∧ (Kd.R k26 26 w' w.heap.size (fun k_ => some k_ ≠ (s_.1 : Value).ownBlock ∧ some k_ ≠ (s_.2.2 : Value).ownBlock ∧ some k_ ≠ (.slice Ao101 x7_1.length co101 : Value).ownBlock ∧ k_ ≠ gb276 ∧ k_ ≠ gb283 ∧ k_ ≠ gb302 ∧ k_ ≠ gb303) s_.2.1 y307) ∧ (Kd.R k26 26 w' w.heap.size (fun k_ => some k_ ≠ (s_.1 : Value).ownBlock ∧ some k_ ≠ (s_.2.1 : Value).ownBlock ∧ some k_ ≠ (.slice Ao101 x7_1.length co101 : Value).ownBlock ∧ k_ ≠ gb276 ∧ k_ ≠ gb283 ∧ k_ ≠ gb302 ∧ k_ ≠ gb303) s_.2.2 y310) ∧ (Kd.Q k26 26 w' w.heap.size (fun k_ => some k_ ≠ (s_.1 : Value).ownBlock ∧ some k_ ≠ (s_.2.1 : Value).ownBlock ∧ some k_ ≠ (s_.2.2 : Value).ownBlock ∧ k_ ≠ gb276 ∧ k_ ≠ gb283 ∧ k_ ≠ gb302 ∧ k_ ≠ gb303) (.slice Ao101 x7_1.length co101) x7_1) ∧ (w'.heap[gb276]? = some (.cells #[.int .i64 x277000_1, .int .i64 x277001_1, .int .i64 x277002_1] 26 (0, 0))) ∧ (w'.heap[gb283]? = some (.cells #[.int .i64 x284000_1, .int .i64 x284001_1, .int .i64 x284002_1] 26 (0, 0))) ∧ (w'.heap[gb285]? = some (.cells #[.bool ((rd_T80 l0 x23_1).f0), .int .i64 ((rd_T80 l0 x23_1).f1.f0), .int .i64 ((rd_T80 l0 x23_1).f1.f1), .int .i64 ((rd_T80 l0 x23_1).f1.f2)] 80 (0, 0))) ∧ (w'.heap[gb302]? = some (.cells #[.int .i64 t296, .int .i64 t297, .int .i64 t298] 26 (0, 0))) ∧ (w'.heap[gb303]? = some (.cells #[.int .i64 t299, .int .i64 t300, .int .i64 t301] 26 (0, 0))) ∧ (Below w.heap.size w w')) ?_ ?_
             rotate_left
             ·intro hCont
              refine two_ (i := 2) (j := 7) (Ni := some 56) (Nj := some 61) #[true, true, true, false, true, true, true, false, false, true, false, false, false] #[true, true, false, false, true, true, true, true, false, true, false, false, false] rfl rfl rfl rfl (two_of HT_.out (by kernel_rfl)) (by decide) (by decide) (fun K hK => ?_) (fun K hK => ?_)
              ·skip
               refine Kd.R_lit_step k26 _ 26 ?hg (N := 56) ?hd (xs := ([(⟨t296, t297, t298⟩ : S26)] : List (S26))) (inner := [.int .i64 t296, .int .i64 t297, .int .i64 t298]) (ok := fun _ => True) (okp := fun _ => True) ?hr ?hp (fun _ hk => hk) trivial (Below.refl _ _) (Nat.le_refl _) (by simp) ?_; (case hd => rfl); (case hg => rfl); (case hr => first | (go_simp; done) | (go_simp; rfl)); (case hp => exact (Reps.c3 (show Kd.M k26 _ _ _ (⟨t296, t297, t298⟩ : S26) [.int .i64 t296, .int .i64 t297, .int .i64 t298] from (k26_mkM _ _ _ (⟨t296, t297, t298⟩ : S26) )) (Reps.none _ _)))
               intro v305 w104 ho105 hb hg_ hnew_
               clear hg_ hnew_
               (first | rw [← Ny304.out] at ho105 | (simp only [Int.reduceToNat] at ho105; rw [← Ny304.out] at ho105))
               have n0_ := Gv.a0 (Kd.R_elder' HO_5.out (Kd.R_base ho105) hb)
               have n1_ := Gv.a0 (Kd.Q_elder' (by (with_reducible repeat (first | apply Kd.Q_alloc | apply Kd.Q_drewN | apply Kd.Q_drew)); exact HO_7.out) (Kd.R_base ho105) hb)
               have n2_ := Gv.a0 (Kd.R_lower (Kd.R_newB (Kd.R_newB (Kd.R_newB (Kd.R_newB (Kd.R_new' (Kd.R_new' ho105 (Kd.R_lt HO_5.out)) (Kd.Q_lt (by (with_reducible repeat (first | apply Kd.Q_alloc | apply Kd.Q_drewN | apply Kd.Q_drew)); exact HO_7.out))) (g := gb276) (o := .cells #[.int .i64 x277000_1, .int .i64 x277001_1, .int .i64 x277002_1] 26 (0, 0)) BK276.out) (g := gb283) (o := .cells #[.int .i64 x284000_1, .int .i64 x284001_1, .int .i64 x284002_1] 26 (0, 0)) BK283.out) (g := gb302) (o := .cells #[.int .i64 t296, .int .i64 t297, .int .i64 t298] 26 (0, 0)) BK302.out) (g := gb303) (o := .cells #[.int .i64 t299, .int .i64 t300, .int .i64 t301] 26 (0, 0)) BK303.out) (below_size HB.out))
               have n3_ := Gv.a0 (blk_below BK276.out hb)
               have n4_ := Gv.a0 (blk_below BK283.out hb)
               have n5_ := Gv.a0 (blk_below BK285.out hb)
               have n6_ := Gv.a0 (blk_below BK302.out hb)
               have n7_ := Gv.a0 (blk_below BK303.out hb)
               have n8_ := Gv.a0 (below_step HB.out hb)
               clear HO_5 HO_7 BK276 BK283 BK285 BK302 BK303 HB
               have HO_5 := n0_
               have HO_7 := n1_
               have HO306 := n2_
               have BK276 := n3_
               have BK283 := n4_
               have BK285 := n5_
               have BK302 := n6_
               have BK303 := n7_
               have HB := n8_
               clear n0_ n1_ n2_ n3_ n4_ n5_ n6_ n7_ n8_
               clear hb ho105
               obtain ⟨Ao107, co107, eo107⟩ := Kd.R_slice HO306.out
               (first | subst eo107 | (injection eo107 with f1_ f2_ f3_; have f4_ := f1_.symm; have f5_ := f3_.symm; clear f1_ f2_ f3_; subst f4_; subst f5_))
               refine hK.out _ _ ⟨(blk_cell BK302.out 0).trans rfl, (blk_cell BK302.out 1).trans rfl, (blk_cell BK302.out 2).trans rfl, (blk_cell BK285.out 0).trans rfl, (blk_cell BK285.out 1).trans rfl, (blk_cell BK285.out 2).trans rfl, (blk_cell BK285.out 3).trans rfl, (blk_cell BK303.out 0).trans rfl, (blk_cell BK303.out 1).trans rfl, (blk_cell BK303.out 2).trans rfl⟩ (fun hHeld => ?_)
               clear hK K
               refine norm_ (a' := ?_) ?_ ?_
               rotate_left
               ·show Act.put _ (some 56) _ = _
                simp only [Act.put, List.setIfInBounds_toArray, List.set_cons_zero, List.set_cons_succ, i64_w, i32_w]
                rfl
               refine two_ (i := 3) (j := 7) (Ni := some 57) (Nj := some 61) #[true, true, true, true, true, true, true, false, false, true, false, false, false] #[true, true, true, false, true, true, true, true, false, true, false, false, false] rfl rfl rfl rfl (two_of HT_.out (by kernel_rfl)) (by decide) (by decide) (fun K hK => ?_) (fun K hK => ?_)
               ·skip
                refine Kd.R_append_rows_step k26 (w0 := w) w.heap.size (by rfl) (.tmp 54) (.tmp 56) 55 26 (.agg #[(.int .i64 0), (.int .i64 0), (.int .i64 0)]) 24 rfl Try.underlying55 info26 rfl (by decide) (by omega) (.slice Ao100 x5_1.length co100) x5_1 y304 _ _ _ (fun k_ => some k_ ≠ (.slice Ao101 x7_1.length co101 : Value).ownBlock ∧ some k_ ≠ (.slice Ao107 y304.length co107 : Value).ownBlock ∧ k_ ≠ gb276 ∧ k_ ≠ gb283 ∧ k_ ≠ gb302 ∧ k_ ≠ gb303) (fun _ => False) rfl rfl ?aO ?aR (fun _ _ h => h) (fun _ h => h.elim) ?aF ?aB ?aS ?aL ?_
                (case aR => repeat (first | exact (Kd.R_reads' HO306.out).2.2 | (with_reducible refine Kd.C_alloc ?_ _) | (with_reducible refine Kd.C_drewN ?_ _) | (with_reducible refine Kd.C_drew ?_)))
                (case aB => exact HB.out)
                (case aF => exact (fun k_ hk => ⟨Kd.fresh' (Kd.Q_lt (by (with_reducible repeat (first | apply Kd.Q_alloc | apply Kd.Q_drewN | apply Kd.Q_drew)); exact HO_7.out)) k_ hk, Kd.fresh' (Kd.R_lt HO306.out) k_ hk, Kd.freshB (g := gb276) (o := .cells #[.int .i64 x277000_1, .int .i64 x277001_1, .int .i64 x277002_1] 26 (0, 0)) BK276.out k_ hk, Kd.freshB (g := gb283) (o := .cells #[.int .i64 x284000_1, .int .i64 x284001_1, .int .i64 x284002_1] 26 (0, 0)) BK283.out k_ hk, Kd.freshB (g := gb302) (o := .cells #[.int .i64 t296, .int .i64 t297, .int .i64 t298] 26 (0, 0)) BK302.out k_ hk, Kd.freshB (g := gb303) (o := .cells #[.int .i64 t299, .int .i64 t300, .int .i64 t301] 26 (0, 0)) BK303.out k_ hk⟩))
                (case aO => exact (by (with_reducible repeat (first | apply Kd.R_alloc | apply Kd.R_drewN | apply Kd.R_drew)); exact Kd.R_mono HO_5.out (fun _ hk => ⟨hk.1.1, ⟨hk.2, ⟨hk.1.2.1, ⟨hk.1.2.2.1, ⟨hk.1.2.2.2.1, hk.1.2.2.2.2⟩⟩⟩⟩⟩)))
                (case aS => exact (below_size HB.out))
                (case aL => have := LMc81.out; omega)
                intro v308 w106 ho hb hg hat
                rw [← Ny307.out] at ho
                have n0_ := Gv.a0 (Kd.Q_after (ok := (fun k_ => some k_ ≠ (.slice Ao107 y304.length co107 : Value).ownBlock ∧ k_ ≠ gb276 ∧ k_ ≠ gb283 ∧ k_ ≠ gb302 ∧ k_ ≠ gb303)) (by (with_reducible repeat (first | apply Kd.Q_alloc | apply Kd.Q_drewN | apply Kd.Q_drew)); exact Kd.Q_mono HO_7.out (fun _ hk => ⟨⟨hk.2, ⟨hk.1.2.1, ⟨hk.1.2.2.1, ⟨hk.1.2.2.2.1, hk.1.2.2.2.2⟩⟩⟩⟩, hk.1.1⟩)) hg hat)
                have n1_ := Gv.a0 (blk_grown (g := gb276) (o := .cells #[.int .i64 x277000_1, .int .i64 x277001_1, .int .i64 x277002_1] 26 (0, 0)) BK276.out hg (Kd.R_away HO_5.out (fun _ hk => hk.1.2.1)))
                have n2_ := Gv.a0 (blk_grown (g := gb283) (o := .cells #[.int .i64 x284000_1, .int .i64 x284001_1, .int .i64 x284002_1] 26 (0, 0)) BK283.out hg (Kd.R_away HO_5.out (fun _ hk => hk.1.2.2.1)))
                have n3_ := Gv.a0 (blk_grown (g := gb285) (o := .cells #[.bool ((rd_T80 l0 x23_1).f0), .int .i64 ((rd_T80 l0 x23_1).f1.f0), .int .i64 ((rd_T80 l0 x23_1).f1.f1), .int .i64 ((rd_T80 l0 x23_1).f1.f2)] 80 (0, 0)) BK285.out hg (Kd.R_ne HO_5.out BK285.out (by decide)))
                have n4_ := Gv.a0 (blk_grown (g := gb302) (o := .cells #[.int .i64 t296, .int .i64 t297, .int .i64 t298] 26 (0, 0)) BK302.out hg (Kd.R_away HO_5.out (fun _ hk => hk.1.2.2.2.1)))
                have n5_ := Gv.a0 (blk_grown (g := gb303) (o := .cells #[.int .i64 t299, .int .i64 t300, .int .i64 t301] 26 (0, 0)) BK303.out hg (Kd.R_away HO_5.out (fun _ hk => hk.1.2.2.2.2)))
                have n6_ := Gv.a0 (Kd.R_after (ok := (fun k_ => some k_ ≠ (.slice Ao101 x7_1.length co101 : Value).ownBlock ∧ k_ ≠ gb276 ∧ k_ ≠ gb283 ∧ k_ ≠ gb302 ∧ k_ ≠ gb303)) (by (with_reducible repeat (first | apply Kd.R_alloc | apply Kd.R_drewN | apply Kd.R_drew)); exact Kd.R_mono HO306.out (fun _ hk => ⟨⟨hk.1.1.1.1.2, ⟨hk.1.1.1.2, ⟨hk.1.1.2, ⟨hk.1.2, hk.2⟩⟩⟩⟩, hk.1.1.1.1.1.2⟩)) hg hat)
                have n7_ := Gv.a0 (hb)
                have n8_ := Gv.a0 (ho)
                clear HO_7 BK276 BK283 BK285 BK302 BK303 HO306 HB HO_5
                have HO_7 := n0_
                have BK276 := n1_
                have BK283 := n2_
                have BK285 := n3_
                have BK302 := n4_
                have BK303 := n5_
                have HO306 := n6_
                have HB := n7_
                have HO309 := n8_
                clear n0_ n1_ n2_ n3_ n4_ n5_ n6_ n7_ n8_
                clear ho hb hg hat
                refine hK.out _ _ ⟨(blk_cell BK302.out 0).trans rfl, (blk_cell BK302.out 1).trans rfl, (blk_cell BK302.out 2).trans rfl, (blk_cell BK285.out 0).trans rfl, (blk_cell BK285.out 1).trans rfl, (blk_cell BK285.out 2).trans rfl, (blk_cell BK285.out 3).trans rfl, (blk_cell BK303.out 0).trans rfl, (blk_cell BK303.out 1).trans rfl, (blk_cell BK303.out 2).trans rfl⟩ (fun hHeld => ?_)
                clear hK K
                refine norm_ (a' := ?_) ?_ ?_
                rotate_left
                ·show Act.put _ (some 57) _ = _
                 simp only [Act.put, List.setIfInBounds_toArray, List.set_cons_zero, List.set_cons_succ, i64_w, i32_w]
                 rfl
                refine one_ (i := 7) (N := some 61) #[true, true, true, true, true, true, true, true, false, true, false, false, false] rfl rfl (one_of HT_.out (by kernel_rfl)) (by decide) (fun K hK => ?_)
                refine Kd.R_lit_step k26 _ 26 ?hg (N := 61) ?hd (xs := ([(⟨((rd_T80 l0 x23_1).f1.f0), ((rd_T80 l0 x23_1).f1.f1), ((rd_T80 l0 x23_1).f1.f2)⟩ : S26)] : List (S26))) (inner := [.int .i64 ((rd_T80 l0 x23_1).f1.f0), .int .i64 ((rd_T80 l0 x23_1).f1.f1), .int .i64 ((rd_T80 l0 x23_1).f1.f2)]) (ok := fun _ => True) (okp := fun _ => True) ?hr ?hp (fun _ hk => hk) trivial (Below.refl _ _) (Nat.le_refl _) (by simp) ?_; (case hd => rfl); (case hg => rfl); (case hr => first | (go_simp; done) | (go_simp; rfl)); (case hp => exact (Reps.c3 (show Kd.M k26 _ _ _ (⟨((rd_T80 l0 x23_1).f1.f0), ((rd_T80 l0 x23_1).f1.f1), ((rd_T80 l0 x23_1).f1.f2)⟩ : S26) [.int .i64 ((rd_T80 l0 x23_1).f1.f0), .int .i64 ((rd_T80 l0 x23_1).f1.f1), .int .i64 ((rd_T80 l0 x23_1).f1.f2)] from (k26_mkM _ _ _ (⟨((rd_T80 l0 x23_1).f1.f0), ((rd_T80 l0 x23_1).f1.f1), ((rd_T80 l0 x23_1).f1.f2)⟩ : S26) )) (Reps.none _ _)))
                intro v311 w108 ho109 hb hg_ hnew_
                clear hg_ hnew_
                (first | rw [← Ny310.out] at ho109 | (simp only [Int.reduceToNat] at ho109; rw [← Ny310.out] at ho109))
                have n0_ := Gv.a0 (Kd.Q_elder' (by (with_reducible repeat (first | apply Kd.Q_alloc | apply Kd.Q_drewN | apply Kd.Q_drew)); exact HO_7.out) (Kd.R_base ho109) hb)
                have n1_ := Gv.a0 (Kd.R_elder' HO306.out (Kd.R_base ho109) hb)
                have n2_ := Gv.a0 (Kd.R_elder' HO309.out (Kd.R_base ho109) hb)
                have n3_ := Gv.a0 (Kd.R_lower (Kd.R_newB (Kd.R_newB (Kd.R_newB (Kd.R_newB (Kd.R_new' (Kd.R_new' (Kd.R_new' ho109 (Kd.Q_lt (by (with_reducible repeat (first | apply Kd.Q_alloc | apply Kd.Q_drewN | apply Kd.Q_drew)); exact HO_7.out))) (Kd.R_lt HO306.out)) (Kd.R_lt HO309.out)) (g := gb276) (o := .cells #[.int .i64 x277000_1, .int .i64 x277001_1, .int .i64 x277002_1] 26 (0, 0)) BK276.out) (g := gb283) (o := .cells #[.int .i64 x284000_1, .int .i64 x284001_1, .int .i64 x284002_1] 26 (0, 0)) BK283.out) (g := gb302) (o := .cells #[.int .i64 t296, .int .i64 t297, .int .i64 t298] 26 (0, 0)) BK302.out) (g := gb303) (o := .cells #[.int .i64 t299, .int .i64 t300, .int .i64 t301] 26 (0, 0)) BK303.out) (below_size HB.out))
                have n4_ := Gv.a0 (blk_below BK276.out hb)
                have n5_ := Gv.a0 (blk_below BK283.out hb)
                have n6_ := Gv.a0 (blk_below BK285.out hb)
                have n7_ := Gv.a0 (blk_below BK302.out hb)
                have n8_ := Gv.a0 (blk_below BK303.out hb)
                have n9_ := Gv.a0 (below_step HB.out hb)
                clear HO_7 HO306 HO309 BK276 BK283 BK285 BK302 BK303 HB
                have HO_7 := n0_
                have HO306 := n1_
                have HO309 := n2_
                have HO312 := n3_
                have BK276 := n4_
                have BK283 := n5_
                have BK285 := n6_
                have BK302 := n7_
                have BK303 := n8_
                have HB := n9_
                clear n0_ n1_ n2_ n3_ n4_ n5_ n6_ n7_ n8_ n9_
                clear hb ho109
                refine hK.out _ _ ⟨(blk_cell BK302.out 0).trans rfl, (blk_cell BK302.out 1).trans rfl, (blk_cell BK302.out 2).trans rfl, (blk_cell BK285.out 0).trans rfl, (blk_cell BK285.out 1).trans rfl, (blk_cell BK285.out 2).trans rfl, (blk_cell BK285.out 3).trans rfl, (blk_cell BK303.out 0).trans rfl, (blk_cell BK303.out 1).trans rfl, (blk_cell BK303.out 2).trans rfl⟩ (fun hHeld => ?_)
                clear hK K
                refine norm_ (a' := ?_) ?_ ?_
                rotate_left
                ·show Act.put _ (some 61) _ = _
                 simp only [Act.put, List.setIfInBounds_toArray, List.set_cons_zero, List.set_cons_succ, i64_w, i32_w]
                 rfl
                exact norm_ (by simp only [putAll, Act.put, List.setIfInBounds_toArray, List.set_cons_zero, List.set_cons_succ]) (hCont (.slice Ao107 y304.length co107, v308, v311) _ ⟨hHeld, (by (with_reducible repeat (first | apply Kd.R_alloc | apply Kd.R_drewN | apply Kd.R_drew)); exact Kd.R_mono HO306.out (fun _ hk => ⟨hk.1.2, ⟨hk.2, ⟨hk.1.1.1, ⟨hk.1.1.2.1, ⟨hk.1.1.2.2.1, ⟨hk.1.1.2.2.2.1, hk.1.1.2.2.2.2⟩⟩⟩⟩⟩⟩)), (by (with_reducible repeat (first | apply Kd.R_alloc | apply Kd.R_drewN | apply Kd.R_drew)); exact Kd.R_mono HO309.out (fun _ hk => ⟨hk.1.2.1, ⟨hk.2, ⟨hk.1.1, ⟨hk.1.2.2.1, ⟨hk.1.2.2.2.1, ⟨hk.1.2.2.2.2.1, hk.1.2.2.2.2.2⟩⟩⟩⟩⟩⟩)), (by (with_reducible repeat (first | apply Kd.R_alloc | apply Kd.R_drewN | apply Kd.R_drew)); exact Kd.R_mono HO312.out (fun _ hk => ⟨hk.1.1.1.1.1.2, ⟨hk.1.1.1.1.2, ⟨hk.1.1.1.1.1.1.2, ⟨hk.1.1.1.2, ⟨hk.1.1.2, ⟨hk.1.2, hk.2⟩⟩⟩⟩⟩⟩)), (by (with_reducible repeat (first | apply Kd.Q_alloc | apply Kd.Q_drewN | apply Kd.Q_drew)); exact Kd.Q_mono HO_7.out (fun _ hk => ⟨hk.1.1.1, ⟨hk.1.2, ⟨hk.2, ⟨hk.1.1.2.1, ⟨hk.1.1.2.2.1, ⟨hk.1.1.2.2.2.1, hk.1.1.2.2.2.2⟩⟩⟩⟩⟩⟩)), BK276.out, BK283.out, BK285.out, BK302.out, BK303.out, HB.out⟩)
               ·skip
                refine Kd.R_lit_step k26 _ 26 ?hg (N := 61) ?hd (xs := ([(⟨((rd_T80 l0 x23_1).f1.f0), ((rd_T80 l0 x23_1).f1.f1), ((rd_T80 l0 x23_1).f1.f2)⟩ : S26)] : List (S26))) (inner := [.int .i64 ((rd_T80 l0 x23_1).f1.f0), .int .i64 ((rd_T80 l0 x23_1).f1.f1), .int .i64 ((rd_T80 l0 x23_1).f1.f2)]) (ok := fun _ => True) (okp := fun _ => True) ?hr ?hp (fun _ hk => hk) trivial (Below.refl _ _) (Nat.le_refl _) (by simp) ?_; (case hd => rfl); (case hg => rfl); (case hr => first | (go_simp; done) | (go_simp; rfl)); (case hp => exact (Reps.c3 (show Kd.M k26 _ _ _ (⟨((rd_T80 l0 x23_1).f1.f0), ((rd_T80 l0 x23_1).f1.f1), ((rd_T80 l0 x23_1).f1.f2)⟩ : S26) [.int .i64 ((rd_T80 l0 x23_1).f1.f0), .int .i64 ((rd_T80 l0 x23_1).f1.f1), .int .i64 ((rd_T80 l0 x23_1).f1.f2)] from (k26_mkM _ _ _ (⟨((rd_T80 l0 x23_1).f1.f0), ((rd_T80 l0 x23_1).f1.f1), ((rd_T80 l0 x23_1).f1.f2)⟩ : S26) )) (Reps.none _ _)))
                intro v311 w106 ho107 hb hg_ hnew_
                clear hg_ hnew_
                (first | rw [← Ny310.out] at ho107 | (simp only [Int.reduceToNat] at ho107; rw [← Ny310.out] at ho107))
                have n0_ := Gv.a0 (Kd.R_elder' HO_5.out (Kd.R_base ho107) hb)
                have n1_ := Gv.a0 (Kd.Q_elder' (by (with_reducible repeat (first | apply Kd.Q_alloc | apply Kd.Q_drewN | apply Kd.Q_drew)); exact HO_7.out) (Kd.R_base ho107) hb)
                have n2_ := Gv.a0 (Kd.R_elder' HO306.out (Kd.R_base ho107) hb)
                have n3_ := Gv.a0 (Kd.R_lower (Kd.R_newB (Kd.R_newB (Kd.R_newB (Kd.R_newB (Kd.R_new' (Kd.R_new' (Kd.R_new' ho107 (Kd.R_lt HO_5.out)) (Kd.Q_lt (by (with_reducible repeat (first | apply Kd.Q_alloc | apply Kd.Q_drewN | apply Kd.Q_drew)); exact HO_7.out))) (Kd.R_lt HO306.out)) (g := gb276) (o := .cells #[.int .i64 x277000_1, .int .i64 x277001_1, .int .i64 x277002_1] 26 (0, 0)) BK276.out) (g := gb283) (o := .cells #[.int .i64 x284000_1, .int .i64 x284001_1, .int .i64 x284002_1] 26 (0, 0)) BK283.out) (g := gb302) (o := .cells #[.int .i64 t296, .int .i64 t297, .int .i64 t298] 26 (0, 0)) BK302.out) (g := gb303) (o := .cells #[.int .i64 t299, .int .i64 t300, .int .i64 t301] 26 (0, 0)) BK303.out) (below_size HB.out))
                have n4_ := Gv.a0 (blk_below BK276.out hb)
                have n5_ := Gv.a0 (blk_below BK283.out hb)
                have n6_ := Gv.a0 (blk_below BK285.out hb)
                have n7_ := Gv.a0 (blk_below BK302.out hb)
                have n8_ := Gv.a0 (blk_below BK303.out hb)
                have n9_ := Gv.a0 (below_step HB.out hb)
                clear HO_5 HO_7 HO306 BK276 BK283 BK285 BK302 BK303 HB
                have HO_5 := n0_
                have HO_7 := n1_
                have HO306 := n2_
                have HO312 := n3_
                have BK276 := n4_
                have BK283 := n5_
                have BK285 := n6_
                have BK302 := n7_
                have BK303 := n8_
                have HB := n9_
                clear n0_ n1_ n2_ n3_ n4_ n5_ n6_ n7_ n8_ n9_
                clear hb ho107
                obtain ⟨Ao109, co109, eo109⟩ := Kd.R_slice HO306.out
                (first | subst eo109 | (injection eo109 with f1_ f2_ f3_; have f4_ := f1_.symm; have f5_ := f3_.symm; clear f1_ f2_ f3_; subst f4_; subst f5_))
                refine hK.out _ _ ⟨(blk_cell BK302.out 0).trans rfl, (blk_cell BK302.out 1).trans rfl, (blk_cell BK302.out 2).trans rfl, (blk_cell BK285.out 0).trans rfl, (blk_cell BK285.out 1).trans rfl, (blk_cell BK285.out 2).trans rfl, (blk_cell BK285.out 3).trans rfl, (blk_cell BK303.out 0).trans rfl, (blk_cell BK303.out 1).trans rfl, (blk_cell BK303.out 2).trans rfl⟩ (fun hHeld => ?_)
                clear hK K
                refine norm_ (a' := ?_) ?_ ?_
                rotate_left
                ·show Act.put _ (some 61) _ = _
                 simp only [Act.put, List.setIfInBounds_toArray, List.set_cons_zero, List.set_cons_succ, i64_w, i32_w]
                 rfl
                refine one_ (i := 3) (N := some 57) #[true, true, true, true, true, true, true, true, false, true, false, false, false] rfl rfl (one_of HT_.out (by kernel_rfl)) (by decide) (fun K hK => ?_)
                refine Kd.R_append_rows_step k26 (w0 := w) w.heap.size (by rfl) (.tmp 54) (.tmp 56) 55 26 (.agg #[(.int .i64 0), (.int .i64 0), (.int .i64 0)]) 24 rfl Try.underlying55 info26 rfl (by decide) (by omega) (.slice Ao100 x5_1.length co100) x5_1 y304 _ _ _ (fun k_ => some k_ ≠ (.slice Ao101 x7_1.length co101 : Value).ownBlock ∧ some k_ ≠ (.slice Ao109 y304.length co109 : Value).ownBlock ∧ some k_ ≠ (v311 : Value).ownBlock ∧ k_ ≠ gb276 ∧ k_ ≠ gb283 ∧ k_ ≠ gb302 ∧ k_ ≠ gb303) (fun _ => False) rfl rfl ?aO ?aR (fun _ _ h => h) (fun _ h => h.elim) ?aF ?aB ?aS ?aL ?_
                (case aR => repeat (first | exact (Kd.R_reads' HO306.out).2.2 | (with_reducible refine Kd.C_alloc ?_ _) | (with_reducible refine Kd.C_drewN ?_ _) | (with_reducible refine Kd.C_drew ?_)))
                (case aB => exact HB.out)
                (case aF => exact (fun k_ hk => ⟨Kd.fresh' (Kd.Q_lt (by (with_reducible repeat (first | apply Kd.Q_alloc | apply Kd.Q_drewN | apply Kd.Q_drew)); exact HO_7.out)) k_ hk, Kd.fresh' (Kd.R_lt HO306.out) k_ hk, Kd.fresh' (Kd.R_lt HO312.out) k_ hk, Kd.freshB (g := gb276) (o := .cells #[.int .i64 x277000_1, .int .i64 x277001_1, .int .i64 x277002_1] 26 (0, 0)) BK276.out k_ hk, Kd.freshB (g := gb283) (o := .cells #[.int .i64 x284000_1, .int .i64 x284001_1, .int .i64 x284002_1] 26 (0, 0)) BK283.out k_ hk, Kd.freshB (g := gb302) (o := .cells #[.int .i64 t296, .int .i64 t297, .int .i64 t298] 26 (0, 0)) BK302.out k_ hk, Kd.freshB (g := gb303) (o := .cells #[.int .i64 t299, .int .i64 t300, .int .i64 t301] 26 (0, 0)) BK303.out k_ hk⟩))
                (case aO => exact (by (with_reducible repeat (first | apply Kd.R_alloc | apply Kd.R_drewN | apply Kd.R_drew)); exact Kd.R_mono HO_5.out (fun _ hk => ⟨hk.1.1.1, ⟨hk.1.2, ⟨hk.2, ⟨hk.1.1.2.1, ⟨hk.1.1.2.2.1, ⟨hk.1.1.2.2.2.1, hk.1.1.2.2.2.2⟩⟩⟩⟩⟩⟩)))
                (case aS => exact (below_size HB.out))
                (case aL => have := LMc81.out; omega)
                intro v308 w108 ho hb hg hat
                rw [← Ny307.out] at ho
                have n0_ := Gv.a0 (Kd.Q_after (ok := (fun k_ => some k_ ≠ (.slice Ao109 y304.length co109 : Value).ownBlock ∧ some k_ ≠ (v311 : Value).ownBlock ∧ k_ ≠ gb276 ∧ k_ ≠ gb283 ∧ k_ ≠ gb302 ∧ k_ ≠ gb303)) (by (with_reducible repeat (first | apply Kd.Q_alloc | apply Kd.Q_drewN | apply Kd.Q_drew)); exact Kd.Q_mono HO_7.out (fun _ hk => ⟨⟨hk.1.2, ⟨hk.2, ⟨hk.1.1.2.1, ⟨hk.1.1.2.2.1, ⟨hk.1.1.2.2.2.1, hk.1.1.2.2.2.2⟩⟩⟩⟩⟩, hk.1.1.1⟩)) hg hat)
                have n1_ := Gv.a0 (blk_grown (g := gb276) (o := .cells #[.int .i64 x277000_1, .int .i64 x277001_1, .int .i64 x277002_1] 26 (0, 0)) BK276.out hg (Kd.R_away HO_5.out (fun _ hk => hk.1.1.2.1)))
                have n2_ := Gv.a0 (blk_grown (g := gb283) (o := .cells #[.int .i64 x284000_1, .int .i64 x284001_1, .int .i64 x284002_1] 26 (0, 0)) BK283.out hg (Kd.R_away HO_5.out (fun _ hk => hk.1.1.2.2.1)))
                have n3_ := Gv.a0 (blk_grown (g := gb285) (o := .cells #[.bool ((rd_T80 l0 x23_1).f0), .int .i64 ((rd_T80 l0 x23_1).f1.f0), .int .i64 ((rd_T80 l0 x23_1).f1.f1), .int .i64 ((rd_T80 l0 x23_1).f1.f2)] 80 (0, 0)) BK285.out hg (Kd.R_ne HO_5.out BK285.out (by decide)))
                have n4_ := Gv.a0 (blk_grown (g := gb302) (o := .cells #[.int .i64 t296, .int .i64 t297, .int .i64 t298] 26 (0, 0)) BK302.out hg (Kd.R_away HO_5.out (fun _ hk => hk.1.1.2.2.2.1)))
                have n5_ := Gv.a0 (blk_grown (g := gb303) (o := .cells #[.int .i64 t299, .int .i64 t300, .int .i64 t301] 26 (0, 0)) BK303.out hg (Kd.R_away HO_5.out (fun _ hk => hk.1.1.2.2.2.2)))
                have n6_ := Gv.a0 (Kd.R_after (ok := (fun k_ => some k_ ≠ (.slice Ao101 x7_1.length co101 : Value).ownBlock ∧ some k_ ≠ (v311 : Value).ownBlock ∧ k_ ≠ gb276 ∧ k_ ≠ gb283 ∧ k_ ≠ gb302 ∧ k_ ≠ gb303)) (by (with_reducible repeat (first | apply Kd.R_alloc | apply Kd.R_drewN | apply Kd.R_drew)); exact Kd.R_mono HO306.out (fun _ hk => ⟨⟨hk.1.1.1.1.1.2, ⟨hk.2, ⟨hk.1.1.1.1.2, ⟨hk.1.1.1.2, ⟨hk.1.1.2, hk.1.2⟩⟩⟩⟩⟩, hk.1.1.1.1.1.1.2⟩)) hg hat)
                have n7_ := Gv.a0 (Kd.R_after (ok := (fun k_ => some k_ ≠ (.slice Ao101 x7_1.length co101 : Value).ownBlock ∧ some k_ ≠ (.slice Ao109 y304.length co109 : Value).ownBlock ∧ k_ ≠ gb276 ∧ k_ ≠ gb283 ∧ k_ ≠ gb302 ∧ k_ ≠ gb303)) (by (with_reducible repeat (first | apply Kd.R_alloc | apply Kd.R_drewN | apply Kd.R_drew)); exact Kd.R_mono HO312.out (fun _ hk => ⟨⟨hk.1.1.1.1.1.2, ⟨hk.1.1.1.1.2, ⟨hk.1.1.1.2, ⟨hk.1.1.2, ⟨hk.1.2, hk.2⟩⟩⟩⟩⟩, hk.1.1.1.1.1.1.2⟩)) hg hat)
                have n8_ := Gv.a0 (hb)
                have n9_ := Gv.a0 (ho)
                clear HO_7 BK276 BK283 BK285 BK302 BK303 HO306 HO312 HB HO_5
                have HO_7 := n0_
                have BK276 := n1_
                have BK283 := n2_
                have BK285 := n3_
                have BK302 := n4_
                have BK303 := n5_
                have HO306 := n6_
                have HO312 := n7_
                have HB := n8_
                have HO309 := n9_
                clear n0_ n1_ n2_ n3_ n4_ n5_ n6_ n7_ n8_ n9_
                clear ho hb hg hat
                refine hK.out _ _ ⟨(blk_cell BK302.out 0).trans rfl, (blk_cell BK302.out 1).trans rfl, (blk_cell BK302.out 2).trans rfl, (blk_cell BK285.out 0).trans rfl, (blk_cell BK285.out 1).trans rfl, (blk_cell BK285.out 2).trans rfl, (blk_cell BK285.out 3).trans rfl, (blk_cell BK303.out 0).trans rfl, (blk_cell BK303.out 1).trans rfl, (blk_cell BK303.out 2).trans rfl⟩ (fun hHeld => ?_)
                clear hK K
                refine norm_ (a' := ?_) ?_ ?_
                rotate_left
                ·show Act.put _ (some 57) _ = _
                 simp only [Act.put, List.setIfInBounds_toArray, List.set_cons_zero, List.set_cons_succ, i64_w, i32_w]
                 rfl
                exact norm_ (by simp only [putAll, Act.put, List.setIfInBounds_toArray, List.set_cons_zero, List.set_cons_succ]) (hCont (.slice Ao109 y304.length co109, v308, v311) _ ⟨hHeld, (by (with_reducible repeat (first | apply Kd.R_alloc | apply Kd.R_drewN | apply Kd.R_drew)); exact Kd.R_mono HO306.out (fun _ hk => ⟨hk.2, ⟨hk.1.2.1, ⟨hk.1.1, ⟨hk.1.2.2.1, ⟨hk.1.2.2.2.1, ⟨hk.1.2.2.2.2.1, hk.1.2.2.2.2.2⟩⟩⟩⟩⟩⟩)), (by (with_reducible repeat (first | apply Kd.R_alloc | apply Kd.R_drewN | apply Kd.R_drew)); exact Kd.R_mono HO309.out (fun _ hk => ⟨hk.2.1, ⟨hk.2.2.1, ⟨hk.1, ⟨hk.2.2.2.1, ⟨hk.2.2.2.2.1, ⟨hk.2.2.2.2.2.1, hk.2.2.2.2.2.2⟩⟩⟩⟩⟩⟩)), (by (with_reducible repeat (first | apply Kd.R_alloc | apply Kd.R_drewN | apply Kd.R_drew)); exact Kd.R_mono HO312.out (fun _ hk => ⟨hk.1.2.1, ⟨hk.2, ⟨hk.1.1, ⟨hk.1.2.2.1, ⟨hk.1.2.2.2.1, ⟨hk.1.2.2.2.2.1, hk.1.2.2.2.2.2⟩⟩⟩⟩⟩⟩)), (by (with_reducible repeat (first | apply Kd.Q_alloc | apply Kd.Q_drewN | apply Kd.Q_drew)); exact Kd.Q_mono HO_7.out (fun _ hk => ⟨hk.1.1, ⟨hk.2, ⟨hk.1.2.1, ⟨hk.1.2.2.1, ⟨hk.1.2.2.2.1, ⟨hk.1.2.2.2.2.1, hk.1.2.2.2.2.2⟩⟩⟩⟩⟩⟩)), BK276.out, BK283.out, BK285.out, BK302.out, BK303.out, HB.out⟩)
              ·skip
               refine Kd.R_lit_step k26 _ 26 ?hg (N := 61) ?hd (xs := ([(⟨((rd_T80 l0 x23_1).f1.f0), ((rd_T80 l0 x23_1).f1.f1), ((rd_T80 l0 x23_1).f1.f2)⟩ : S26)] : List (S26))) (inner := [.int .i64 ((rd_T80 l0 x23_1).f1.f0), .int .i64 ((rd_T80 l0 x23_1).f1.f1), .int .i64 ((rd_T80 l0 x23_1).f1.f2)]) (ok := fun _ => True) (okp := fun _ => True) ?hr ?hp (fun _ hk => hk) trivial (Below.refl _ _) (Nat.le_refl _) (by simp) ?_; (case hd => rfl); (case hg => rfl); (case hr => first | (go_simp; done) | (go_simp; rfl)); (case hp => exact (Reps.c3 (show Kd.M k26 _ _ _ (⟨((rd_T80 l0 x23_1).f1.f0), ((rd_T80 l0 x23_1).f1.f1), ((rd_T80 l0 x23_1).f1.f2)⟩ : S26) [.int .i64 ((rd_T80 l0 x23_1).f1.f0), .int .i64 ((rd_T80 l0 x23_1).f1.f1), .int .i64 ((rd_T80 l0 x23_1).f1.f2)] from (k26_mkM _ _ _ (⟨((rd_T80 l0 x23_1).f1.f0), ((rd_T80 l0 x23_1).f1.f1), ((rd_T80 l0 x23_1).f1.f2)⟩ : S26) )) (Reps.none _ _)))
               intro v311 w104 ho105 hb hg_ hnew_
               clear hg_ hnew_
               (first | rw [← Ny310.out] at ho105 | (simp only [Int.reduceToNat] at ho105; rw [← Ny310.out] at ho105))
               have n0_ := Gv.a0 (Kd.R_elder' HO_5.out (Kd.R_base ho105) hb)
               have n1_ := Gv.a0 (Kd.Q_elder' (by (with_reducible repeat (first | apply Kd.Q_alloc | apply Kd.Q_drewN | apply Kd.Q_drew)); exact HO_7.out) (Kd.R_base ho105) hb)
               have n2_ := Gv.a0 (Kd.R_lower (Kd.R_newB (Kd.R_newB (Kd.R_newB (Kd.R_newB (Kd.R_new' (Kd.R_new' ho105 (Kd.R_lt HO_5.out)) (Kd.Q_lt (by (with_reducible repeat (first | apply Kd.Q_alloc | apply Kd.Q_drewN | apply Kd.Q_drew)); exact HO_7.out))) (g := gb276) (o := .cells #[.int .i64 x277000_1, .int .i64 x277001_1, .int .i64 x277002_1] 26 (0, 0)) BK276.out) (g := gb283) (o := .cells #[.int .i64 x284000_1, .int .i64 x284001_1, .int .i64 x284002_1] 26 (0, 0)) BK283.out) (g := gb302) (o := .cells #[.int .i64 t296, .int .i64 t297, .int .i64 t298] 26 (0, 0)) BK302.out) (g := gb303) (o := .cells #[.int .i64 t299, .int .i64 t300, .int .i64 t301] 26 (0, 0)) BK303.out) (below_size HB.out))
               have n3_ := Gv.a0 (blk_below BK276.out hb)
               have n4_ := Gv.a0 (blk_below BK283.out hb)
               have n5_ := Gv.a0 (blk_below BK285.out hb)
               have n6_ := Gv.a0 (blk_below BK302.out hb)
               have n7_ := Gv.a0 (blk_below BK303.out hb)
               have n8_ := Gv.a0 (below_step HB.out hb)
               clear HO_5 HO_7 BK276 BK283 BK285 BK302 BK303 HB
               have HO_5 := n0_
               have HO_7 := n1_
               have HO312 := n2_
               have BK276 := n3_
               have BK283 := n4_
               have BK285 := n5_
               have BK302 := n6_
               have BK303 := n7_
               have HB := n8_
               clear n0_ n1_ n2_ n3_ n4_ n5_ n6_ n7_ n8_
               clear hb ho105
               refine hK.out _ _ ⟨(blk_cell BK302.out 0).trans rfl, (blk_cell BK302.out 1).trans rfl, (blk_cell BK302.out 2).trans rfl, (blk_cell BK285.out 0).trans rfl, (blk_cell BK285.out 1).trans rfl, (blk_cell BK285.out 2).trans rfl, (blk_cell BK285.out 3).trans rfl, (blk_cell BK303.out 0).trans rfl, (blk_cell BK303.out 1).trans rfl, (blk_cell BK303.out 2).trans rfl⟩ (fun hHeld => ?_)
               clear hK K
               refine norm_ (a' := ?_) ?_ ?_
               rotate_left
               ·show Act.put _ (some 61) _ = _
                simp only [Act.put, List.setIfInBounds_toArray, List.set_cons_zero, List.set_cons_succ, i64_w, i32_w]
                rfl
               refine one_ (i := 2) (N := some 56) #[true, true, true, false, true, true, true, true, false, true, false, false, false] rfl rfl (one_of HT_.out (by kernel_rfl)) (by decide) (fun K hK => ?_)
               refine Kd.R_lit_step k26 _ 26 ?hg (N := 56) ?hd (xs := ([(⟨t296, t297, t298⟩ : S26)] : List (S26))) (inner := [.int .i64 t296, .int .i64 t297, .int .i64 t298]) (ok := fun _ => True) (okp := fun _ => True) ?hr ?hp (fun _ hk => hk) trivial (Below.refl _ _) (Nat.le_refl _) (by simp) ?_; (case hd => rfl); (case hg => rfl); (case hr => first | (go_simp; done) | (go_simp; rfl)); (case hp => exact (Reps.c3 (show Kd.M k26 _ _ _ (⟨t296, t297, t298⟩ : S26) [.int .i64 t296, .int .i64 t297, .int .i64 t298] from (k26_mkM _ _ _ (⟨t296, t297, t298⟩ : S26) )) (Reps.none _ _)))
               intro v305 w106 ho107 hb hg_ hnew_
               clear hg_ hnew_
               (first | rw [← Ny304.out] at ho107 | (simp only [Int.reduceToNat] at ho107; rw [← Ny304.out] at ho107))
               have n0_ := Gv.a0 (Kd.R_elder' HO_5.out (Kd.R_base ho107) hb)
               have n1_ := Gv.a0 (Kd.Q_elder' (by (with_reducible repeat (first | apply Kd.Q_alloc | apply Kd.Q_drewN | apply Kd.Q_drew)); exact HO_7.out) (Kd.R_base ho107) hb)
               have n2_ := Gv.a0 (Kd.R_elder' HO312.out (Kd.R_base ho107) hb)
               have n3_ := Gv.a0 (Kd.R_lower (Kd.R_newB (Kd.R_newB (Kd.R_newB (Kd.R_newB (Kd.R_new' (Kd.R_new' (Kd.R_new' ho107 (Kd.R_lt HO_5.out)) (Kd.Q_lt (by (with_reducible repeat (first | apply Kd.Q_alloc | apply Kd.Q_drewN | apply Kd.Q_drew)); exact HO_7.out))) (Kd.R_lt HO312.out)) (g := gb276) (o := .cells #[.int .i64 x277000_1, .int .i64 x277001_1, .int .i64 x277002_1] 26 (0, 0)) BK276.out) (g := gb283) (o := .cells #[.int .i64 x284000_1, .int .i64 x284001_1, .int .i64 x284002_1] 26 (0, 0)) BK283.out) (g := gb302) (o := .cells #[.int .i64 t296, .int .i64 t297, .int .i64 t298] 26 (0, 0)) BK302.out) (g := gb303) (o := .cells #[.int .i64 t299, .int .i64 t300, .int .i64 t301] 26 (0, 0)) BK303.out) (below_size HB.out))
               have n4_ := Gv.a0 (blk_below BK276.out hb)
               have n5_ := Gv.a0 (blk_below BK283.out hb)
               have n6_ := Gv.a0 (blk_below BK285.out hb)
               have n7_ := Gv.a0 (blk_below BK302.out hb)
               have n8_ := Gv.a0 (blk_below BK303.out hb)
               have n9_ := Gv.a0 (below_step HB.out hb)
               clear HO_5 HO_7 HO312 BK276 BK283 BK285 BK302 BK303 HB
               have HO_5 := n0_
               have HO_7 := n1_
               have HO312 := n2_
               have HO306 := n3_
               have BK276 := n4_
               have BK283 := n5_
               have BK285 := n6_
               have BK302 := n7_
               have BK303 := n8_
               have HB := n9_
               clear n0_ n1_ n2_ n3_ n4_ n5_ n6_ n7_ n8_ n9_
               clear hb ho107
               obtain ⟨Ao109, co109, eo109⟩ := Kd.R_slice HO306.out
               (first | subst eo109 | (injection eo109 with f1_ f2_ f3_; have f4_ := f1_.symm; have f5_ := f3_.symm; clear f1_ f2_ f3_; subst f4_; subst f5_))
               refine hK.out _ _ ⟨(blk_cell BK302.out 0).trans rfl, (blk_cell BK302.out 1).trans rfl, (blk_cell BK302.out 2).trans rfl, (blk_cell BK285.out 0).trans rfl, (blk_cell BK285.out 1).trans rfl, (blk_cell BK285.out 2).trans rfl, (blk_cell BK285.out 3).trans rfl, (blk_cell BK303.out 0).trans rfl, (blk_cell BK303.out 1).trans rfl, (blk_cell BK303.out 2).trans rfl⟩ (fun hHeld => ?_)
               clear hK K
               refine norm_ (a' := ?_) ?_ ?_
               rotate_left
               ·show Act.put _ (some 56) _ = _
                simp only [Act.put, List.setIfInBounds_toArray, List.set_cons_zero, List.set_cons_succ, i64_w, i32_w]
                rfl
               refine one_ (i := 3) (N := some 57) #[true, true, true, true, true, true, true, true, false, true, false, false, false] rfl rfl (one_of HT_.out (by kernel_rfl)) (by decide) (fun K hK => ?_)
               refine Kd.R_append_rows_step k26 (w0 := w) w.heap.size (by rfl) (.tmp 54) (.tmp 56) 55 26 (.agg #[(.int .i64 0), (.int .i64 0), (.int .i64 0)]) 24 rfl Try.underlying55 info26 rfl (by decide) (by omega) (.slice Ao100 x5_1.length co100) x5_1 y304 _ _ _ (fun k_ => some k_ ≠ (.slice Ao101 x7_1.length co101 : Value).ownBlock ∧ some k_ ≠ (v311 : Value).ownBlock ∧ some k_ ≠ (.slice Ao109 y304.length co109 : Value).ownBlock ∧ k_ ≠ gb276 ∧ k_ ≠ gb283 ∧ k_ ≠ gb302 ∧ k_ ≠ gb303) (fun _ => False) rfl rfl ?aO ?aR (fun _ _ h => h) (fun _ h => h.elim) ?aF ?aB ?aS ?aL ?_
               (case aR => repeat (first | exact (Kd.R_reads' HO306.out).2.2 | (with_reducible refine Kd.C_alloc ?_ _) | (with_reducible refine Kd.C_drewN ?_ _) | (with_reducible refine Kd.C_drew ?_)))
               (case aB => exact HB.out)
               (case aF => exact (fun k_ hk => ⟨Kd.fresh' (Kd.Q_lt (by (with_reducible repeat (first | apply Kd.Q_alloc | apply Kd.Q_drewN | apply Kd.Q_drew)); exact HO_7.out)) k_ hk, Kd.fresh' (Kd.R_lt HO312.out) k_ hk, Kd.fresh' (Kd.R_lt HO306.out) k_ hk, Kd.freshB (g := gb276) (o := .cells #[.int .i64 x277000_1, .int .i64 x277001_1, .int .i64 x277002_1] 26 (0, 0)) BK276.out k_ hk, Kd.freshB (g := gb283) (o := .cells #[.int .i64 x284000_1, .int .i64 x284001_1, .int .i64 x284002_1] 26 (0, 0)) BK283.out k_ hk, Kd.freshB (g := gb302) (o := .cells #[.int .i64 t296, .int .i64 t297, .int .i64 t298] 26 (0, 0)) BK302.out k_ hk, Kd.freshB (g := gb303) (o := .cells #[.int .i64 t299, .int .i64 t300, .int .i64 t301] 26 (0, 0)) BK303.out k_ hk⟩))
               (case aO => exact (by (with_reducible repeat (first | apply Kd.R_alloc | apply Kd.R_drewN | apply Kd.R_drew)); exact Kd.R_mono HO_5.out (fun _ hk => ⟨hk.1.1.1, ⟨hk.1.2, ⟨hk.2, ⟨hk.1.1.2.1, ⟨hk.1.1.2.2.1, ⟨hk.1.1.2.2.2.1, hk.1.1.2.2.2.2⟩⟩⟩⟩⟩⟩)))
               (case aS => exact (below_size HB.out))
               (case aL => have := LMc81.out; omega)
               intro v308 w108 ho hb hg hat
               rw [← Ny307.out] at ho
               have n0_ := Gv.a0 (Kd.Q_after (ok := (fun k_ => some k_ ≠ (v311 : Value).ownBlock ∧ some k_ ≠ (.slice Ao109 y304.length co109 : Value).ownBlock ∧ k_ ≠ gb276 ∧ k_ ≠ gb283 ∧ k_ ≠ gb302 ∧ k_ ≠ gb303)) (by (with_reducible repeat (first | apply Kd.Q_alloc | apply Kd.Q_drewN | apply Kd.Q_drew)); exact Kd.Q_mono HO_7.out (fun _ hk => ⟨⟨hk.1.2, ⟨hk.2, ⟨hk.1.1.2.1, ⟨hk.1.1.2.2.1, ⟨hk.1.1.2.2.2.1, hk.1.1.2.2.2.2⟩⟩⟩⟩⟩, hk.1.1.1⟩)) hg hat)
               have n1_ := Gv.a0 (blk_grown (g := gb276) (o := .cells #[.int .i64 x277000_1, .int .i64 x277001_1, .int .i64 x277002_1] 26 (0, 0)) BK276.out hg (Kd.R_away HO_5.out (fun _ hk => hk.1.1.2.1)))
               have n2_ := Gv.a0 (blk_grown (g := gb283) (o := .cells #[.int .i64 x284000_1, .int .i64 x284001_1, .int .i64 x284002_1] 26 (0, 0)) BK283.out hg (Kd.R_away HO_5.out (fun _ hk => hk.1.1.2.2.1)))
               have n3_ := Gv.a0 (blk_grown (g := gb285) (o := .cells #[.bool ((rd_T80 l0 x23_1).f0), .int .i64 ((rd_T80 l0 x23_1).f1.f0), .int .i64 ((rd_T80 l0 x23_1).f1.f1), .int .i64 ((rd_T80 l0 x23_1).f1.f2)] 80 (0, 0)) BK285.out hg (Kd.R_ne HO_5.out BK285.out (by decide)))
               have n4_ := Gv.a0 (blk_grown (g := gb302) (o := .cells #[.int .i64 t296, .int .i64 t297, .int .i64 t298] 26 (0, 0)) BK302.out hg (Kd.R_away HO_5.out (fun _ hk => hk.1.1.2.2.2.1)))
               have n5_ := Gv.a0 (blk_grown (g := gb303) (o := .cells #[.int .i64 t299, .int .i64 t300, .int .i64 t301] 26 (0, 0)) BK303.out hg (Kd.R_away HO_5.out (fun _ hk => hk.1.1.2.2.2.2)))
               have n6_ := Gv.a0 (Kd.R_after (ok := (fun k_ => some k_ ≠ (.slice Ao101 x7_1.length co101 : Value).ownBlock ∧ some k_ ≠ (.slice Ao109 y304.length co109 : Value).ownBlock ∧ k_ ≠ gb276 ∧ k_ ≠ gb283 ∧ k_ ≠ gb302 ∧ k_ ≠ gb303)) (by (with_reducible repeat (first | apply Kd.R_alloc | apply Kd.R_drewN | apply Kd.R_drew)); exact Kd.R_mono HO312.out (fun _ hk => ⟨⟨hk.1.1.1.1.1.2, ⟨hk.2, ⟨hk.1.1.1.1.2, ⟨hk.1.1.1.2, ⟨hk.1.1.2, hk.1.2⟩⟩⟩⟩⟩, hk.1.1.1.1.1.1.2⟩)) hg hat)
               have n7_ := Gv.a0 (Kd.R_after (ok := (fun k_ => some k_ ≠ (.slice Ao101 x7_1.length co101 : Value).ownBlock ∧ some k_ ≠ (v311 : Value).ownBlock ∧ k_ ≠ gb276 ∧ k_ ≠ gb283 ∧ k_ ≠ gb302 ∧ k_ ≠ gb303)) (by (with_reducible repeat (first | apply Kd.R_alloc | apply Kd.R_drewN | apply Kd.R_drew)); exact Kd.R_mono HO306.out (fun _ hk => ⟨⟨hk.1.1.1.1.1.2, ⟨hk.1.1.1.1.2, ⟨hk.1.1.1.2, ⟨hk.1.1.2, ⟨hk.1.2, hk.2⟩⟩⟩⟩⟩, hk.1.1.1.1.1.1.2⟩)) hg hat)
               have n8_ := Gv.a0 (hb)
               have n9_ := Gv.a0 (ho)
               clear HO_7 BK276 BK283 BK285 BK302 BK303 HO312 HO306 HB HO_5
               have HO_7 := n0_
               have BK276 := n1_
               have BK283 := n2_
               have BK285 := n3_
               have BK302 := n4_
               have BK303 := n5_
               have HO312 := n6_
               have HO306 := n7_
               have HB := n8_
               have HO309 := n9_
               clear n0_ n1_ n2_ n3_ n4_ n5_ n6_ n7_ n8_ n9_
               clear ho hb hg hat
               refine hK.out _ _ ⟨(blk_cell BK302.out 0).trans rfl, (blk_cell BK302.out 1).trans rfl, (blk_cell BK302.out 2).trans rfl, (blk_cell BK285.out 0).trans rfl, (blk_cell BK285.out 1).trans rfl, (blk_cell BK285.out 2).trans rfl, (blk_cell BK285.out 3).trans rfl, (blk_cell BK303.out 0).trans rfl, (blk_cell BK303.out 1).trans rfl, (blk_cell BK303.out 2).trans rfl⟩ (fun hHeld => ?_)
               clear hK K
               refine norm_ (a' := ?_) ?_ ?_
               rotate_left
               ·show Act.put _ (some 57) _ = _
                simp only [Act.put, List.setIfInBounds_toArray, List.set_cons_zero, List.set_cons_succ, i64_w, i32_w]
                rfl
               exact norm_ (by simp only [putAll, Act.put, List.setIfInBounds_toArray, List.set_cons_zero, List.set_cons_succ]) (hCont (.slice Ao109 y304.length co109, v308, v311) _ ⟨hHeld, (by (with_reducible repeat (first | apply Kd.R_alloc | apply Kd.R_drewN | apply Kd.R_drew)); exact Kd.R_mono HO306.out (fun _ hk => ⟨hk.2, ⟨hk.1.2.1, ⟨hk.1.1, ⟨hk.1.2.2.1, ⟨hk.1.2.2.2.1, ⟨hk.1.2.2.2.2.1, hk.1.2.2.2.2.2⟩⟩⟩⟩⟩⟩)), (by (with_reducible repeat (first | apply Kd.R_alloc | apply Kd.R_drewN | apply Kd.R_drew)); exact Kd.R_mono HO309.out (fun _ hk => ⟨hk.2.2.1, ⟨hk.2.1, ⟨hk.1, ⟨hk.2.2.2.1, ⟨hk.2.2.2.2.1, ⟨hk.2.2.2.2.2.1, hk.2.2.2.2.2.2⟩⟩⟩⟩⟩⟩)), (by (with_reducible repeat (first | apply Kd.R_alloc | apply Kd.R_drewN | apply Kd.R_drew)); exact Kd.R_mono HO312.out (fun _ hk => ⟨hk.1.2.1, ⟨hk.2, ⟨hk.1.1, ⟨hk.1.2.2.1, ⟨hk.1.2.2.2.1, ⟨hk.1.2.2.2.2.1, hk.1.2.2.2.2.2⟩⟩⟩⟩⟩⟩)), (by (with_reducible repeat (first | apply Kd.Q_alloc | apply Kd.Q_drewN | apply Kd.Q_drew)); exact Kd.Q_mono HO_7.out (fun _ hk => ⟨hk.1.2.1, ⟨hk.2, ⟨hk.1.1, ⟨hk.1.2.2.1, ⟨hk.1.2.2.2.1, ⟨hk.1.2.2.2.2.1, hk.1.2.2.2.2.2⟩⟩⟩⟩⟩⟩)), BK276.out, BK283.out, BK285.out, BK302.out, BK303.out, HB.out⟩)
             rintro ⟨v305, v308, v311⟩ w110 ⟨hS_, h0_, h1_, h2_, h3_, h4_, h5_, h6_, h7_, h8_, h9_⟩
             have n0_ : Aside0 (Kd.R k26 26 w110 w.heap.size (fun k_ => some k_ ≠ (v308 : Value).ownBlock ∧ some k_ ≠ (v311 : Value).ownBlock ∧ some k_ ≠ (.slice Ao101 x7_1.length co101 : Value).ownBlock ∧ k_ ≠ gb276 ∧ k_ ≠ gb283 ∧ k_ ≠ gb302 ∧ k_ ≠ gb303) v305 y304) := ⟨h0_⟩
             have n1_ : Aside0 (Kd.R k26 26 w110 w.heap.size (fun k_ => some k_ ≠ (v305 : Value).ownBlock ∧ some k_ ≠ (v311 : Value).ownBlock ∧ some k_ ≠ (.slice Ao101 x7_1.length co101 : Value).ownBlock ∧ k_ ≠ gb276 ∧ k_ ≠ gb283 ∧ k_ ≠ gb302 ∧ k_ ≠ gb303) v308 y307) := ⟨h1_⟩
             have n2_ : Aside0 (Kd.R k26 26 w110 w.heap.size (fun k_ => some k_ ≠ (v305 : Value).ownBlock ∧ some k_ ≠ (v308 : Value).ownBlock ∧ some k_ ≠ (.slice Ao101 x7_1.length co101 : Value).ownBlock ∧ k_ ≠ gb276 ∧ k_ ≠ gb283 ∧ k_ ≠ gb302 ∧ k_ ≠ gb303) v311 y310) := ⟨h2_⟩
             have n3_ : Aside0 (Kd.Q k26 26 w110 w.heap.size (fun k_ => some k_ ≠ (v305 : Value).ownBlock ∧ some k_ ≠ (v308 : Value).ownBlock ∧ some k_ ≠ (v311 : Value).ownBlock ∧ k_ ≠ gb276 ∧ k_ ≠ gb283 ∧ k_ ≠ gb302 ∧ k_ ≠ gb303) (.slice Ao101 x7_1.length co101) x7_1) := ⟨h3_⟩
             have n4_ : Aside0 (w110.heap[gb276]? = some (.cells #[.int .i64 x277000_1, .int .i64 x277001_1, .int .i64 x277002_1] 26 (0, 0))) := ⟨h4_⟩
             have n5_ : Aside0 (w110.heap[gb283]? = some (.cells #[.int .i64 x284000_1, .int .i64 x284001_1, .int .i64 x284002_1] 26 (0, 0))) := ⟨h5_⟩
             have n6_ : Aside0 (w110.heap[gb285]? = some (.cells #[.bool ((rd_T80 l0 x23_1).f0), .int .i64 ((rd_T80 l0 x23_1).f1.f0), .int .i64 ((rd_T80 l0 x23_1).f1.f1), .int .i64 ((rd_T80 l0 x23_1).f1.f2)] 80 (0, 0))) := ⟨h6_⟩
             have n7_ : Aside0 (w110.heap[gb302]? = some (.cells #[.int .i64 t296, .int .i64 t297, .int .i64 t298] 26 (0, 0))) := ⟨h7_⟩
             have n8_ : Aside0 (w110.heap[gb303]? = some (.cells #[.int .i64 t299, .int .i64 t300, .int .i64 t301] 26 (0, 0))) := ⟨h8_⟩
             have n9_ : Aside0 (Below w.heap.size w w110) := ⟨h9_⟩
             clear HO_5 HO_7 BK276 BK283 BK285 BK302 BK303 HB
             clear h0_ h1_ h2_ h3_ h4_ h5_ h6_ h7_ h8_ h9_
             have HO306 := n0_
             have HO309 := n1_
             have HO312 := n2_
             have HO_7 := n3_
             have BK276 := n4_
             have BK283 := n5_
             have BK285 := n6_
             have BK302 := n7_
             have BK303 := n8_
             have HB := n9_
             clear n0_ n1_ n2_ n3_ n4_ n5_ n6_ n7_ n8_ n9_
             have hHeld : w110.cell? ⟨gb302, 0, none⟩ = some (.int .i64 t296) ∧ w110.cell? ⟨gb302, 1, none⟩ = some (.int .i64 t297) ∧ w110.cell? ⟨gb302, 2, none⟩ = some (.int .i64 t298) ∧ w110.cell? ⟨gb285, 0, none⟩ = some (.bool ((rd_T80 l0 x23_1).f0)) ∧ w110.cell? ⟨gb285, 1, none⟩ = some (.int .i64 ((rd_T80 l0 x23_1).f1.f0)) ∧ w110.cell? ⟨gb285, 2, none⟩ = some (.int .i64 ((rd_T80 l0 x23_1).f1.f1)) ∧ w110.cell? ⟨gb285, 3, none⟩ = some (.int .i64 ((rd_T80 l0 x23_1).f1.f2)) ∧ w110.cell? ⟨gb303, 0, none⟩ = some (.int .i64 t299) ∧ w110.cell? ⟨gb303, 1, none⟩ = some (.int .i64 t300) ∧ w110.cell? ⟨gb303, 2, none⟩ = some (.int .i64 t301) := hS_
             obtain ⟨Ao112, co112, eo112⟩ := Kd.R_slice HO312.out
             (first | subst eo112 | (injection eo112 with f1_ f2_ f3_; have f4_ := f1_.symm; have f5_ := f3_.symm; clear f1_ f2_ f3_; subst f4_; subst f5_))
             refine norm_ (a' := ?_) ?_ ?_
             rotate_left
             ·simp only [putAll, Act.put, List.setIfInBounds_toArray, List.set_cons_zero, List.set_cons_succ]
              rfl
             refine one_ (i := 8) (N := some 62) #[true, true, true, true, true, true, true, true, true, true, false, false, false] rfl rfl (one_of HT_.out (by kernel_rfl)) (by decide) (fun K hK => ?_)
             refine Gv.Q_append_rows_step k26 (w0 := w) w.heap.size (by rfl) (.tmp 58) (.tmp 61) 55 26 (.agg #[(.int .i64 0), (.int .i64 0), (.int .i64 0)]) 24 rfl Try.underlying55 info26 rfl (by decide) (by omega) (.slice Ao101 x7_1.length co101) x7_1 y310 _ _ _ (fun k_ => some k_ ≠ (v305 : Value).ownBlock ∧ some k_ ≠ (v308 : Value).ownBlock ∧ some k_ ≠ (.slice Ao112 y310.length co112 : Value).ownBlock ∧ k_ ≠ gb276 ∧ k_ ≠ gb283 ∧ k_ ≠ gb302 ∧ k_ ≠ gb303) (fun _ => False) rfl rfl ?aO ?aR (fun _ _ h => h) (fun _ h => h.elim) ?aF ?aB ?aS ?aL ?_
             (case aR => repeat (first | exact (Kd.R_reads' HO312.out).2.2 | (with_reducible refine Kd.C_alloc ?_ _) | (with_reducible refine Kd.C_drewN ?_ _) | (with_reducible refine Kd.C_drew ?_)))
             (case aB => exact HB.out)
             (case aF => exact (fun k_ hk => ⟨Kd.fresh' (Kd.R_lt HO306.out) k_ hk, Kd.fresh' (Kd.R_lt HO309.out) k_ hk, Kd.fresh' (Kd.R_lt HO312.out) k_ hk, Kd.freshB (g := gb276) (o := .cells #[.int .i64 x277000_1, .int .i64 x277001_1, .int .i64 x277002_1] 26 (0, 0)) BK276.out k_ hk, Kd.freshB (g := gb283) (o := .cells #[.int .i64 x284000_1, .int .i64 x284001_1, .int .i64 x284002_1] 26 (0, 0)) BK283.out k_ hk, Kd.freshB (g := gb302) (o := .cells #[.int .i64 t296, .int .i64 t297, .int .i64 t298] 26 (0, 0)) BK302.out k_ hk, Kd.freshB (g := gb303) (o := .cells #[.int .i64 t299, .int .i64 t300, .int .i64 t301] 26 (0, 0)) BK303.out k_ hk⟩))
             (case aO => exact (by (with_reducible repeat (first | apply Kd.Q_alloc | apply Kd.Q_drewN | apply Kd.Q_drew)); exact HO_7.out))
             (case aS => exact (below_size HB.out))
             (case aL => have := LMc82.out; omega)
             intro v314 w111 ho hb hg hat
             rw [← Ny313.out] at ho
             have n0_ := Gv.a0 (blk_grown (g := gb276) (o := .cells #[.int .i64 x277000_1, .int .i64 x277001_1, .int .i64 x277002_1] 26 (0, 0)) BK276.out hg (Kd.Q_away HO_7.out (fun _ hk => hk.2.2.2.1)))
             have n1_ := Gv.a0 (blk_grown (g := gb283) (o := .cells #[.int .i64 x284000_1, .int .i64 x284001_1, .int .i64 x284002_1] 26 (0, 0)) BK283.out hg (Kd.Q_away HO_7.out (fun _ hk => hk.2.2.2.2.1)))
             have n2_ := Gv.a0 (blk_grown (g := gb285) (o := .cells #[.bool ((rd_T80 l0 x23_1).f0), .int .i64 ((rd_T80 l0 x23_1).f1.f0), .int .i64 ((rd_T80 l0 x23_1).f1.f1), .int .i64 ((rd_T80 l0 x23_1).f1.f2)] 80 (0, 0)) BK285.out hg (Kd.Q_ne HO_7.out BK285.out (by decide)))
             have n3_ := Gv.a0 (blk_grown (g := gb302) (o := .cells #[.int .i64 t296, .int .i64 t297, .int .i64 t298] 26 (0, 0)) BK302.out hg (Kd.Q_away HO_7.out (fun _ hk => hk.2.2.2.2.2.1)))
             have n4_ := Gv.a0 (blk_grown (g := gb303) (o := .cells #[.int .i64 t299, .int .i64 t300, .int .i64 t301] 26 (0, 0)) BK303.out hg (Kd.Q_away HO_7.out (fun _ hk => hk.2.2.2.2.2.2)))
             have n5_ := Gv.a0 (Kd.R_after (ok := (fun k_ => some k_ ≠ (v308 : Value).ownBlock ∧ some k_ ≠ (.slice Ao112 y310.length co112 : Value).ownBlock ∧ k_ ≠ gb276 ∧ k_ ≠ gb283 ∧ k_ ≠ gb302 ∧ k_ ≠ gb303)) (by (with_reducible repeat (first | apply Kd.R_alloc | apply Kd.R_drewN | apply Kd.R_drew)); exact Kd.R_mono HO306.out (fun _ hk => ⟨⟨hk.1, ⟨hk.2.1, ⟨hk.2.2.2.1, ⟨hk.2.2.2.2.1, ⟨hk.2.2.2.2.2.1, hk.2.2.2.2.2.2⟩⟩⟩⟩⟩, hk.2.2.1⟩)) hg hat)
             have n6_ := Gv.a0 (Kd.R_after (ok := (fun k_ => some k_ ≠ (v305 : Value).ownBlock ∧ some k_ ≠ (.slice Ao112 y310.length co112 : Value).ownBlock ∧ k_ ≠ gb276 ∧ k_ ≠ gb283 ∧ k_ ≠ gb302 ∧ k_ ≠ gb303)) (by (with_reducible repeat (first | apply Kd.R_alloc | apply Kd.R_drewN | apply Kd.R_drew)); exact Kd.R_mono HO309.out (fun _ hk => ⟨⟨hk.1, ⟨hk.2.1, ⟨hk.2.2.2.1, ⟨hk.2.2.2.2.1, ⟨hk.2.2.2.2.2.1, hk.2.2.2.2.2.2⟩⟩⟩⟩⟩, hk.2.2.1⟩)) hg hat)
             have n7_ := Gv.a0 (Kd.R_after (ok := (fun k_ => some k_ ≠ (v305 : Value).ownBlock ∧ some k_ ≠ (v308 : Value).ownBlock ∧ k_ ≠ gb276 ∧ k_ ≠ gb283 ∧ k_ ≠ gb302 ∧ k_ ≠ gb303)) (by (with_reducible repeat (first | apply Kd.R_alloc | apply Kd.R_drewN | apply Kd.R_drew)); exact Kd.R_mono HO312.out (fun _ hk => ⟨⟨hk.1, ⟨hk.2.1, ⟨hk.2.2.2.1, ⟨hk.2.2.2.2.1, ⟨hk.2.2.2.2.2.1, hk.2.2.2.2.2.2⟩⟩⟩⟩⟩, hk.2.2.1⟩)) hg hat)
             have n8_ := Gv.a0 (hb)
             have n9_ := Gv.a0 (ho)
             clear BK276 BK283 BK285 BK302 BK303 HO306 HO309 HO312 HB HO_7
             have BK276 := n0_
             have BK283 := n1_
             have BK285 := n2_
             have BK302 := n3_
             have BK303 := n4_
             have HO306 := n5_
             have HO309 := n6_
             have HO312 := n7_
             have HB := n8_
             have HO315 := n9_
             clear n0_ n1_ n2_ n3_ n4_ n5_ n6_ n7_ n8_ n9_
             clear ho hb hg hat
             refine hK.out _ _ ⟨(blk_cell BK302.out 0).trans rfl, (blk_cell BK302.out 1).trans rfl, (blk_cell BK302.out 2).trans rfl, (blk_cell BK285.out 0).trans rfl, (blk_cell BK285.out 1).trans rfl, (blk_cell BK285.out 2).trans rfl, (blk_cell BK285.out 3).trans rfl, (blk_cell BK303.out 0).trans rfl, (blk_cell BK303.out 1).trans rfl, (blk_cell BK303.out 2).trans rfl⟩ (fun hHeld => ?_)
             clear hK K
             refine norm_ (a' := ?_) ?_ ?_
             rotate_left
             ·show Act.put _ (some 62) _ = _
              simp only [Act.put, List.setIfInBounds_toArray, List.set_cons_zero, List.set_cons_succ, i64_w, i32_w]
              rfl
             refine Gv.pu 10 (some 5) HT_ ?_
             refine Gv.pu 11 (some 7) HT_ ?_
             refine one_ (i := 12) (N := none) #[true, true, true, true, true, true, true, true, true, true, true, true, true] rfl rfl (one_of HT_.out (by kernel_rfl)) (by decide) (fun K hK => ?_)
             have hs113 : w111.cell? ⟨gb283, 0, none⟩ = some (.int .i64 x284000_1) := (blk_cell BK283.out 0).trans rfl
             have hfs113 := blk_frozen BK283.out 0
             have hns113_0 := NB276_283.out
             have hns113_2 := NB285_283.out
             have hns113_3 := NB302_283.out
             have hns113_4 := NB303_283.out
             have hms113_0 := NB283_276.out
             have hms113_2 := NB283_285.out
             have hms113_3 := NB283_302.out
             have hms113_4 := NB283_303.out
             have hs114 : w111.cell? ⟨gb283, 1, none⟩ = some (.int .i64 x284001_1) := (blk_cell BK283.out 1).trans rfl
             have hfs114 := blk_frozen BK283.out 1
             have hns114_0 := NB276_283.out
             have hns114_2 := NB285_283.out
             have hns114_3 := NB302_283.out
             have hns114_4 := NB303_283.out
             have hms114_0 := NB283_276.out
             have hms114_2 := NB283_285.out
             have hms114_3 := NB283_302.out
             have hms114_4 := NB283_303.out
             have hs115 : w111.cell? ⟨gb283, 2, none⟩ = some (.int .i64 x284002_1) := (blk_cell BK283.out 2).trans rfl
             have hfs115 := blk_frozen BK283.out 2
             have hns115_0 := NB276_283.out
             have hns115_2 := NB285_283.out
             have hns115_3 := NB302_283.out
             have hns115_4 := NB303_283.out
             have hms115_0 := NB283_276.out
             have hms115_2 := NB283_285.out
             have hms115_3 := NB283_302.out
             have hms115_4 := NB283_303.out
             refine skip_ (w1 := ?_) (by rfl) rfl ?_ ?_
             rotate_left
             ·go_simp
              rfl
             refine hK.out _ _ ⟨((cell_far (p := ⟨gb283, _, none⟩) NB302_283.out _).trans (((cell_far (p := ⟨gb283, _, none⟩) NB302_283.out _).trans (((cell_far (p := ⟨gb283, _, none⟩) NB302_283.out _).trans (hHeld.1)))))), ((cell_far (p := ⟨gb283, _, none⟩) NB302_283.out _).trans (((cell_far (p := ⟨gb283, _, none⟩) NB302_283.out _).trans (((cell_far (p := ⟨gb283, _, none⟩) NB302_283.out _).trans (hHeld.2.1)))))), ((cell_far (p := ⟨gb283, _, none⟩) NB302_283.out _).trans (((cell_far (p := ⟨gb283, _, none⟩) NB302_283.out _).trans (((cell_far (p := ⟨gb283, _, none⟩) NB302_283.out _).trans (hHeld.2.2.1)))))), ((cell_far (p := ⟨gb283, _, none⟩) NB285_283.out _).trans (((cell_far (p := ⟨gb283, _, none⟩) NB285_283.out _).trans (((cell_far (p := ⟨gb283, _, none⟩) NB285_283.out _).trans (hHeld.2.2.2.1)))))), ((cell_far (p := ⟨gb283, _, none⟩) NB285_283.out _).trans (((cell_far (p := ⟨gb283, _, none⟩) NB285_283.out _).trans (((cell_far (p := ⟨gb283, _, none⟩) NB285_283.out _).trans (hHeld.2.2.2.2.1)))))), ((cell_far (p := ⟨gb283, _, none⟩) NB285_283.out _).trans (((cell_far (p := ⟨gb283, _, none⟩) NB285_283.out _).trans (((cell_far (p := ⟨gb283, _, none⟩) NB285_283.out _).trans (hHeld.2.2.2.2.2.1)))))), ((cell_far (p := ⟨gb283, _, none⟩) NB285_283.out _).trans (((cell_far (p := ⟨gb283, _, none⟩) NB285_283.out _).trans (((cell_far (p := ⟨gb283, _, none⟩) NB285_283.out _).trans (hHeld.2.2.2.2.2.2.1)))))), ((cell_far (p := ⟨gb283, _, none⟩) NB303_283.out _).trans (((cell_far (p := ⟨gb283, _, none⟩) NB303_283.out _).trans (((cell_far (p := ⟨gb283, _, none⟩) NB303_283.out _).trans (hHeld.2.2.2.2.2.2.2.1)))))), ((cell_far (p := ⟨gb283, _, none⟩) NB303_283.out _).trans (((cell_far (p := ⟨gb283, _, none⟩) NB303_283.out _).trans (((cell_far (p := ⟨gb283, _, none⟩) NB303_283.out _).trans (hHeld.2.2.2.2.2.2.2.2.1)))))), ((cell_far (p := ⟨gb283, _, none⟩) NB303_283.out _).trans (((cell_far (p := ⟨gb283, _, none⟩) NB303_283.out _).trans (((cell_far (p := ⟨gb283, _, none⟩) NB303_283.out _).trans (hHeld.2.2.2.2.2.2.2.2.2))))))⟩ (fun hHeld => ?_)
             clear hK K
             refine done_ (done_of HT_.out (by kernel_rfl)) ?_
             try go_wp2
             go_roundg kj15
             case measure => have := HK1.out; have := HJ15.out; omega
             case rel => (try rw [← Nbq23.out]); exact ⟨(y307), (y313), (wrap64 (x23_1 + 1)), (x277000_1), (x277001_1), (x277002_1), (t299), (t300), (t301), Gv.rq, H', ⟨by have := HK1.out; have := HJ15.out; omega⟩, ⟨by (with_reducible repeat (first | apply Kd.R_alloc | apply Kd.R_drewN | apply Kd.R_drew)); exact Kd.R_mono (Kd.R_far (p := ⟨gb283, 2, none⟩) (Kd.R_far (p := ⟨gb283, 1, none⟩) (Kd.R_far (p := ⟨gb283, 0, none⟩) (Kd.R_mono HO309.out (fun k_ hk => (⟨hk, hk.1.2.2.2.1⟩ : _ ∧ k_ ≠ gb283))) (fun _ hk => hk.2) (.int .i64 t299)) (fun _ hk => hk.2) (.int .i64 t300)) (fun _ hk => hk.2) (.int .i64 t301)) (fun _ hk => ⟨hk.1.2, ⟨hk.1.1.2.2.1, hk.1.1.2.2.2.1⟩⟩)⟩, ⟨by (with_reducible repeat (first | apply Kd.Q_alloc | apply Kd.Q_drewN | apply Kd.Q_drew)); exact Kd.Q_mono (Kd.Q_far (p := ⟨gb283, 2, none⟩) (Kd.Q_far (p := ⟨gb283, 1, none⟩) (Kd.Q_far (p := ⟨gb283, 0, none⟩) (Kd.Q_mono HO315.out (fun k_ hk => (⟨hk, hk.2.2.2.2.1⟩ : _ ∧ k_ ≠ gb283))) (fun _ hk => hk.2) (.int .i64 t299)) (fun _ hk => hk.2) (.int .i64 t300)) (fun _ hk => hk.2) (.int .i64 t301)) (fun _ hk => ⟨hk.1.2.1, ⟨hk.1.2.2.2.1, hk.1.2.2.2.2.1⟩⟩)⟩, ⟨by (with_reducible repeat (first | refine blk_drewN ?_ _ | refine blk_drew ?_ | refine blk_alloc ?_ _)); refine blk_far ?_ NB276_283.out _; (with_reducible repeat (first | refine blk_drewN ?_ _ | refine blk_drew ?_ | refine blk_alloc ?_ _)); refine blk_far ?_ NB276_283.out _; (with_reducible repeat (first | refine blk_drewN ?_ _ | refine blk_drew ?_ | refine blk_alloc ?_ _)); refine blk_far ?_ NB276_283.out _; (with_reducible repeat (first | refine blk_drewN ?_ _ | refine blk_drew ?_ | refine blk_alloc ?_ _)); exact BK276.out⟩, ⟨by (with_reducible repeat (first | refine blk_drewN ?_ _ | refine blk_drew ?_ | refine blk_alloc ?_ _)); refine blk_put (cs := #[.int .i64 t299, .int .i64 t300, .int .i64 x284002_1]) ?_ 2 _ rfl; (with_reducible repeat (first | refine blk_drewN ?_ _ | refine blk_drew ?_ | refine blk_alloc ?_ _)); refine blk_put (cs := #[.int .i64 t299, .int .i64 x284001_1, .int .i64 x284002_1]) ?_ 1 _ rfl; (with_reducible repeat (first | refine blk_drewN ?_ _ | refine blk_drew ?_ | refine blk_alloc ?_ _)); refine blk_put (cs := #[.int .i64 x284000_1, .int .i64 x284001_1, .int .i64 x284002_1]) ?_ 0 _ rfl; (with_reducible repeat (first | refine blk_drewN ?_ _ | refine blk_drew ?_ | refine blk_alloc ?_ _)); exact BK283.out⟩, ⟨Gv.bw⟩⟩
            ·rw [if_neg c82] at H
             exact absurd H (by simp)
           ·rw [if_neg c81] at H
            exact absurd H (by simp)
      ·rw [if_neg c15] at H
       exact absurd H (by simp)
     ·rw [if_neg c14] at H
      exact absurd H (by simp)
    ·rw [if_neg c13] at H
     have c13b0 : decide (x23_1 < (l0.length : Int)) = false := decide_eq_false c13
     clear c13
     simp only [Option.some.injEq, Prod.mk.injEq] at H
     obtain ⟨rfl, rfl, rfl, rfl, rfl⟩ := H
     try go_wp2
     have n0_ := Gv.a0 (Kd.R_drew HO_5.out)
     have n1_ := Gv.a0 (Kd.Q_drew HO_7.out)
     have n2_ := Gv.a0 (blk_drew BK276.out)
     have n3_ := Gv.a0 (blk_drew BK283.out)
     have n4_ := Gv.a0 (below_drew1 HB.out)
     clear HO_5 HO_7 BK276 BK283 HB
     have HO_5 := n0_
     have HO_7 := n1_
     have BK276 := n2_
     have BK283 := n3_
     have HB := n4_
     clear n0_ n1_ n2_ n3_ n4_
     refine start_ (n := 5) (S := fun w' => w'.cell? ⟨gb283, 0, none⟩ = some (.int .i64 x284000_1) ∧ w'.cell? ⟨gb283, 1, none⟩ = some (.int .i64 x284001_1) ∧ w'.cell? ⟨gb283, 2, none⟩ = some (.int .i64 x284002_1)) (ds := []) #[false, false, false, false, false] (by kernel_rfl) rfl rfl ⟨(blk_cell BK283.out 0).trans rfl, (blk_cell BK283.out 1).trans rfl, (blk_cell BK283.out 2).trans rfl⟩ (fun hHeld => ?_)
     generalize wr.drew = w116 at HO_5 HO_7 BK276 BK283 HB hHeld ⊢
     refine pure_ (i := 0) (N := some 83) (v := ?_) (a' := ?_) #[true, false, false, false, false] rfl rfl (by kernel_rfl) (fun _ _ _ h => h) (Or.inl ⟨by rfl, ?_⟩) ?_ ?_
     rotate_left
     ·intro w'
      go_simp
      with_reducible rfl
     rotate_left
     ·simp only [Act.put, List.setIfInBounds_toArray, List.set_cons_zero, List.set_cons_succ, i64_w, i32_w]
      rfl
     refine pure_ (i := 2) (N := some 2) (v := ?_) (a' := ?_) #[true, false, true, false, false] rfl rfl (by kernel_rfl) (fun _ _ _ h => h) (Or.inl ⟨by rfl, ?_⟩) ?_ ?_
     rotate_left
     ·intro w'
      go_simp
      with_reducible rfl
     rotate_left
     ·simp only [Act.put, List.setIfInBounds_toArray, List.set_cons_zero, List.set_cons_succ, i64_w, i32_w]
      rfl
     refine take_ (i := 1) (N := some 84) (v := ?_) (a' := ?_) #[true, true, true, false, false] rfl rfl (by kernel_rfl) (fun _ _ _ h => h) (Or.inl ⟨by rfl, ?_⟩) hHeld ?_ ?_
     rotate_left
     ·rintro w' ⟨s0, s1, s2⟩
      go_simp
      with_reducible rfl
     rotate_left
     ·simp only [Act.put, List.setIfInBounds_toArray, List.set_cons_zero, List.set_cons_succ, i64_w, i32_w]
      rfl
     refine one_ (i := 3) (N := none) #[true, true, true, true, false] rfl rfl (by kernel_rfl) (by decide) (fun K hK => ?_)
     have hs117 : w116.cell? ⟨gb276, 0, none⟩ = some (.int .i64 x277000_1) := (blk_cell BK276.out 0).trans rfl
     have hfs117 := blk_frozen BK276.out 0
     have hns117_1 := NB283_276.out
     have hms117_1 := NB276_283.out
     have hs118 : w116.cell? ⟨gb276, 1, none⟩ = some (.int .i64 x277001_1) := (blk_cell BK276.out 1).trans rfl
     have hfs118 := blk_frozen BK276.out 1
     have hns118_1 := NB283_276.out
     have hms118_1 := NB276_283.out
     have hs119 : w116.cell? ⟨gb276, 2, none⟩ = some (.int .i64 x277002_1) := (blk_cell BK276.out 2).trans rfl
     have hfs119 := blk_frozen BK276.out 2
     have hns119_1 := NB283_276.out
     have hms119_1 := NB276_283.out
     refine skip_ (w1 := ?_) (by rfl) rfl ?_ ?_
     rotate_left
     ·go_simp
      rfl
     refine hK.out _ _ ⟨((cell_far (p := ⟨gb276, _, none⟩) NB283_276.out _).trans (((cell_far (p := ⟨gb276, _, none⟩) NB283_276.out _).trans (((cell_far (p := ⟨gb276, _, none⟩) NB283_276.out _).trans (hHeld.1)))))), ((cell_far (p := ⟨gb276, _, none⟩) NB283_276.out _).trans (((cell_far (p := ⟨gb276, _, none⟩) NB283_276.out _).trans (((cell_far (p := ⟨gb276, _, none⟩) NB283_276.out _).trans (hHeld.2.1)))))), ((cell_far (p := ⟨gb276, _, none⟩) NB283_276.out _).trans (((cell_far (p := ⟨gb276, _, none⟩) NB283_276.out _).trans (((cell_far (p := ⟨gb276, _, none⟩) NB283_276.out _).trans (hHeld.2.2))))))⟩ (fun hHeld => ?_)
     clear hK K
     refine pure_ (i := 4) (N := some 4) (v := ?_) (a' := ?_) #[true, true, true, true, true] rfl rfl (by kernel_rfl) (fun _ _ _ h => h) (Or.inl ⟨by rfl, ?_⟩) ?_ ?_
     rotate_left
     ·intro w'
      go_simp
      with_reducible rfl
     rotate_left
     ·simp only [Act.put, List.setIfInBounds_toArray, List.set_cons_zero, List.set_cons_succ, i64_w, i32_w]
      rfl
     refine done_ (by kernel_rfl) ?_
     try go_wp2
     refine bodyPost_ret (results_list (rs := [.tmp 2, .cell 3 26, .tmp 4]) rfl (by simp) (.tmp (.cell gb276 26 #[.int .i64 x284000_1, .int .i64 x284001_1, .int .i64 x284002_1] (0, 0) _ rfl (by (with_reducible repeat (first | refine blk_drewN ?_ _ | refine blk_drew ?_ | refine blk_alloc ?_ _)); refine blk_put (cs := #[.int .i64 x284000_1, .int .i64 x284001_1, .int .i64 x277002_1]) ?_ 2 _ rfl; (with_reducible repeat (first | refine blk_drewN ?_ _ | refine blk_drew ?_ | refine blk_alloc ?_ _)); refine blk_put (cs := #[.int .i64 x284000_1, .int .i64 x277001_1, .int .i64 x277002_1]) ?_ 1 _ rfl; (with_reducible repeat (first | refine blk_drewN ?_ _ | refine blk_drew ?_ | refine blk_alloc ?_ _)); refine blk_put (cs := #[.int .i64 x277000_1, .int .i64 x277001_1, .int .i64 x277002_1]) ?_ 0 _ rfl; (with_reducible repeat (first | refine blk_drewN ?_ _ | refine blk_drew ?_ | refine blk_alloc ?_ _)); exact BK276.out) Try.underlying26 rfl (by kernel_rfl) (.tmp .nil)))) rfl ?_
     exact ⟨_, Gv.rt, by (with_reducible repeat (first | apply Kd.R_alloc | apply Kd.R_drewN | apply Kd.R_drew)); exact Kd.R_mono (Kd.R_far (p := ⟨gb276, 2, none⟩) (Kd.R_far (p := ⟨gb276, 1, none⟩) (Kd.R_far (p := ⟨gb276, 0, none⟩) (Kd.R_mono HO_5.out (fun k_ hk => (⟨hk, hk.2.1⟩ : _ ∧ k_ ≠ gb276))) (fun _ hk => hk.2) (.int .i64 x284000_1)) (fun _ hk => hk.2) (.int .i64 x284001_1)) (fun _ hk => hk.2) (.int .i64 x284002_1)) (fun _ hk => trivial), Gv.bw⟩

/-! ### laws_eqVecS: function 34 -/
def laws_eqVecS.l0 : Nat → List (S26) → List (S26) → Int → Option (Bool)
 | 0, _, _, _ => none
 | k + 1, x0, x1, x5 => if x5 < (x0.length : Int) then (if 0 ≤ x5 then (if x5 < (x1.length : Int) then ((laws_eqVec.f ((rd_T26 x0 x5).f0) ((rd_T26 x0 x5).f1) ((rd_T26 x0 x5).f2) ((rd_T26 x1 x5).f0) ((rd_T26 x1 x5).f1) ((rd_T26 x1 x5).f2)).bind fun t318 => (if t318 = true then (laws_eqVecS.l0 k x0 x1 (wrap64 (x5 + 1))) else (none))) else (none)) else (none)) else (some true)
def laws_eqVecS.f (k : Nat) (l0 : List (S26)) (l1 : List (S26)) : Option (Bool) := if (l0.length : Int) = (l1.length : Int) then (laws_eqVecS.l0 k l0 l1 0) else (none)
theorem laws_eqVecS.mono_l : ∀ k, (∀ y0 y1 y2, LeO (laws_eqVecS.l0 k y0 y1 y2) (laws_eqVecS.l0 (k + 1) y0 y1 y2))
 | 0 => fun _ _ _ r h => by simp [laws_eqVecS.l0] at h
 | k + 1 => by
  have ih0 := laws_eqVecS.mono_l k
  ·intro y0 y1 y2
   unfold laws_eqVecS.l0
   repeat' first
   | (with_reducible exact ih0 _ _ _)
   | (with_reducible exact LeO.refl _)
   | (with_reducible exact LeO.none _)
   | (with_reducible refine LeO.ite ?_ ?_)
   | (with_reducible refine LeO.bind ?_ (fun _ => ?_))
   | exact ih0 _ _ _
   | exact LeO.none _
   | refine LeO.ite ?_ ?_
   | refine LeO.bind ?_ (fun _ => ?_)
theorem laws_eqVecS.mono : ∀ a0 a1 k, LeO (laws_eqVecS.f k a0 a1) (laws_eqVecS.f (k + 1) a0 a1) := by
 intro a0 a1 k
 have ih0 := laws_eqVecS.mono_l k
 unfold laws_eqVecS.f
 repeat' first
   | (with_reducible exact ih0 _ _ _)
   | (with_reducible exact LeO.refl _)
   | (with_reducible exact LeO.none _)
   | (with_reducible refine LeO.ite ?_ ?_)
   | (with_reducible refine LeO.bind ?_ (fun _ => ?_))
   | exact ih0 _ _ _
   | exact LeO.none _
   | refine LeO.ite ?_ ?_
   | refine LeO.bind ?_ (fun _ => ?_)
def laws_eqVecS.T6 : Bool × List (List Nat × List Nat) := (true, [([], []), ([], []), ([0, 1], [0, 1]), ([2], [2]), ([], []), ([], []), ([4, 5], [4, 5]), ([6], [6]), ([3, 7], [3, 7]), ([8], [8])])
def laws_eqVecS.B6 : List Nat := [0, 0, 3, 7, 0, 0, 48, 112, 255, 511]
theorem laws_eqVecS.tab6 : rtab .any (opsOf Try.f34 6) = laws_eqVecS.T6 := by kernel_rfl
theorem laws_eqVecS.bits6 : waitsOk laws_eqVecS.T6.2 laws_eqVecS.B6 = true := by kernel_rfl
set_option maxHeartbeats 8000000 in
set_option maxRecDepth 100000 in
theorem laws_eqVecS.calls (k : Nat) (A0 : Option Addr) (c0 : Nat) (l0 : List (S26)) (A1 : Option Addr) (c1 : Nat) (l1 : List (S26)) (r : Bool) (w : World) (hr0 : Kd.C k26 w A0 l0.length l0) (hc0 : l0.length ≤ c0) (hr1 : Kd.C k26 w A1 l1.length l1) (hc1 : l1.length ≤ c1) (h : laws_eqVecS.f k l0 l1 = some r) :
  Calls Try.prog 34 #[.slice A0 l0.length c0, .slice A1 l1.length c1] w fun e w' => e = .returned (.bool r) ∧ Below w.heap.size w w' := by
 have hu26 := Try.underlying26
 have HR0 := Gv.a0 hr0
 have HC0 := Gv.a0 hc0
 clear hr0 hc0
 have HR1 := Gv.a0 hr1
 have HC1 := Gv.a0 hc1
 clear hr1 hc1
 have HB := Gv.a0 (Below.refl w.heap.size w)
 have H : (if (l0.length : Int) = (l1.length : Int) then (laws_eqVecS.l0 k l0 l1 0) else (none)) = some r := h
 clear h
 by_cases c3 : (l0.length : Int) = (l1.length : Int)
 ·rw [if_pos c3] at H
  have c3b0 : ((l0.length : Int) == (l1.length : Int)) = true := beq_iff_eq.mpr c3
  have c3b1 : ((l0.length : Int) != (l1.length : Int)) = false := bne_eq_false_iff_eq.mpr c3
  have c3b2 : (l0.length == l1.length) = true := by first | simpa using c3 | (simp at c3 ⊢; omega)
  clear c3
  have H' := Gv.a0 H
  clear H
  go_enter Try.func34, Try.ntmps34
  go_wp2
  go_loopg [5] k (fun kq v5 w' => ∃ (x5_1 : Int), v5 = .int .i64 x5_1 ∧ Aside0 (laws_eqVecS.l0 kq l0 l1 x5_1 = some r) ∧ Aside0 (kq ≤ k) ∧ Aside0 (Below w.heap.size w w'))
  case atStart => exact ⟨(0), Gv.rq, H', ⟨Nat.le_refl _⟩, ⟨Gv.bw⟩⟩
  case round =>
   clear H'
   try clear c1
   try clear p2
   try clear c3
   try clear c3b0
   try clear c3b1
   try clear c3b2
   obtain ⟨x5_1, rfl, HA, HK1, HB⟩ := hrel
   cases gk with
   | zero => exact absurd HA.out (by simp [laws_eqVecS.l0])
   | succ k1 =>
    have H := HA.out
    clear HA
    simp only [laws_eqVecS.l0] at H
    by_cases c4 : x5_1 < (l0.length : Int)
    ·rw [if_pos c4] at H
     have c4b0 : decide (x5_1 < (l0.length : Int)) = true := decide_eq_true c4
     clear c4
     by_cases c5 : 0 ≤ x5_1
     ·rw [if_pos c5] at H
      have c5b0 : decide (0 ≤ x5_1) = true := decide_eq_true c5
      clear c5
      by_cases c6 : x5_1 < (l1.length : Int)
      ·rw [if_pos c6] at H
       have c6b0 : decide (x5_1 < (l1.length : Int)) = true := decide_eq_true c6
       clear c6
       replace H := Option.bind_eq_some_iff.mp H
       obtain ⟨t318, A70, H⟩ := H
       replace H : (if t318 = true then (laws_eqVecS.l0 k1 l0 l1 (wrap64 (x5_1 + 1))) else (none)) = some r := H
       have A7 := Gv.a0 A70
       clear A70
       by_cases c8 : t318 = true
       ·subst c8
        have H1 : (laws_eqVecS.l0 k1 l0 l1 (wrap64 (x5_1 + 1))) = some r := by rw [if_pos rfl] at H; exact H
        clear H
        have H := H1
        clear H1
        have H' := Gv.a0 H
        clear H
        try go_wp2
        have n0_ := Gv.a0 (below_drew1 HB.out)
        clear HB
        have HB := n0_
        clear n0_
        have p316 : 0 ≤ (x5_1 : Int) := of_decide_eq_true (by first | (with_reducible assumption) | assumption)
        have q316 : x5_1 < (l0.length : Int) := of_decide_eq_true (by first | (with_reducible assumption) | assumption)
        obtain ⟨ad316, e316, hx316_0, hx316_1, hx316_2⟩ := at_T26 HR0.out x5_1 p316 q316
        have hw316_2 := hx316_2
        have hw316_1 := hx316_1
        have hw316_0 := hx316_0
        cases e316
        replace hx316_0 := Gv.bx HB.out hx316_0
        replace hx316_1 := Gv.bx HB.out hx316_1
        replace hx316_2 := Gv.bx HB.out hx316_2
        replace p316 := eq_true p316
        replace q316 := eq_true q316
        have p317 : 0 ≤ (x5_1 : Int) := of_decide_eq_true (by first | (with_reducible assumption) | assumption)
        have q317 : x5_1 < (l1.length : Int) := of_decide_eq_true (by first | (with_reducible assumption) | assumption)
        obtain ⟨ad317, e317, hx317_0, hx317_1, hx317_2⟩ := at_T26 HR1.out x5_1 p317 q317
        have hw317_2 := hx317_2
        have hw317_1 := hx317_1
        have hw317_0 := hx317_0
        cases e317
        replace hx317_0 := Gv.bx HB.out hx317_0
        replace hx317_1 := Gv.bx HB.out hx317_1
        replace hx317_2 := Gv.bx HB.out hx317_2
        replace p317 := eq_true p317
        replace q317 := eq_true q317
        refine start_ (n := 10) (S := fun w' => w'.cell? (ad316.add ((x5_1).toNat * 3)) = some (.int .i64 ((rd_T26 l0 x5_1).f0)) ∧ w'.cell? ⟨(ad316.add ((x5_1).toNat * 3)).block, (ad316.add ((x5_1).toNat * 3)).off + 1, none⟩ = some (.int .i64 ((rd_T26 l0 x5_1).f1)) ∧ w'.cell? ⟨(ad316.add ((x5_1).toNat * 3)).block, (ad316.add ((x5_1).toNat * 3)).off + 2, none⟩ = some (.int .i64 ((rd_T26 l0 x5_1).f2)) ∧ w'.cell? (ad317.add ((x5_1).toNat * 3)) = some (.int .i64 ((rd_T26 l1 x5_1).f0)) ∧ w'.cell? ⟨(ad317.add ((x5_1).toNat * 3)).block, (ad317.add ((x5_1).toNat * 3)).off + 1, none⟩ = some (.int .i64 ((rd_T26 l1 x5_1).f1)) ∧ w'.cell? ⟨(ad317.add ((x5_1).toNat * 3)).block, (ad317.add ((x5_1).toNat * 3)).off + 2, none⟩ = some (.int .i64 ((rd_T26 l1 x5_1).f2))) (ds := []) #[false, false, false, false, false, false, false, false, false, false] (by kernel_rfl) rfl rfl ⟨(Gv.bx HB.out hw316_0), (Gv.bx HB.out hw316_1), (Gv.bx HB.out hw316_2), (Gv.bx HB.out hw317_0), (Gv.bx HB.out hw317_1), (Gv.bx HB.out hw317_2)⟩ (fun hHeld => ?_); refine with_tabW laws_eqVecS.tab6 laws_eqVecS.bits6 (fun HT_ HW_ => ?_)
        generalize wr.drew = w9 at HB hx316_0 hx316_1 hx316_2 hx317_0 hx317_1 hx317_2 hHeld ⊢
        refine Gv.pu 0 (some 17) HT_ ?_
        refine Gv.pu 1 (some 18) HT_ ?_
        refine Gv.pu 2 (some 19) HT_ ?_
        refine Gv.pu 4 (some 21) HT_ ?_
        refine Gv.pu 5 (some 22) HT_ ?_
        refine Gv.pu 6 (some 23) HT_ ?_
        refine take_ (i := 3) (N := some 20) (v := ?_) (a' := ?_) #[true, true, true, true, true, true, true, false, false, false] rfl rfl (take_ofW HT_.out HW_.out (by kernel_rfl)) (fun _ _ _ h => h) (Or.inl ⟨by rfl, ?_⟩) hHeld ?_ ?_
        rotate_left
        ·rintro w' ⟨s0, s1, s2, s3, s4, s5⟩
         go_simp
         with_reducible rfl
        rotate_left
        ·simp only [Act.put, List.setIfInBounds_toArray, List.set_cons_zero, List.set_cons_succ, i64_w, i32_w]
         rfl
        refine take_ (i := 7) (N := some 24) (v := ?_) (a' := ?_) #[true, true, true, true, true, true, true, true, false, false] rfl rfl (take_ofW HT_.out HW_.out (by kernel_rfl)) (fun _ _ _ h => h) (Or.inl ⟨by rfl, ?_⟩) hHeld ?_ ?_
        rotate_left
        ·rintro w' ⟨s0, s1, s2, s3, s4, s5⟩
         go_simp
         with_reducible rfl
        rotate_left
        ·simp only [Act.put, List.setIfInBounds_toArray, List.set_cons_zero, List.set_cons_succ, i64_w, i32_w]
         rfl
        refine one_ (i := 8) (N := some 25) #[true, true, true, true, true, true, true, true, true, false] rfl rfl (one_of HT_.out (by kernel_rfl)) (by decide) (fun K hK => ?_)
        refine goes_ Try.func14 (by kernel_rfl) rfl #[.agg #[.int .i64 ((rd_T26 l0 x5_1).f0), .int .i64 ((rd_T26 l0 x5_1).f1), .int .i64 ((rd_T26 l0 x5_1).f2)], .agg #[.int .i64 ((rd_T26 l1 x5_1).f0), .int .i64 ((rd_T26 l1 x5_1).f1), .int .i64 ((rd_T26 l1 x5_1).f2)]] (by rfl) rfl rfl Gv.lm ?_
        with_reducible refine (laws_eqVec.calls ((rd_T26 l0 x5_1).f0) ((rd_T26 l0 x5_1).f1) ((rd_T26 l0 x5_1).f2) ((rd_T26 l1 x5_1).f0) ((rd_T26 l1 x5_1).f1) ((rd_T26 l1 x5_1).f2) true _ A7.out).mono ?_
        rintro e w10 ⟨rfl, hb⟩
        refine ⟨_, rfl, ?_⟩
        have n0_ := Gv.a0 (below_step Gv.bw hb)
        clear HB
        have HB := n0_
        clear n0_
        (try clear hb)
        (try clear hb2)
        (try clear hk)
        (try clear hi)
        refine hK.out _ _ ⟨(Gv.bx HB.out hw316_0), (Gv.bx HB.out hw316_1), (Gv.bx HB.out hw316_2), (Gv.bx HB.out hw317_0), (Gv.bx HB.out hw317_1), (Gv.bx HB.out hw317_2)⟩ (fun hHeld => ?_)
        clear hK K
        refine norm_ (a' := ?_) ?_ ?_
        rotate_left
        ·show Act.put _ (some 25) _ = _
         simp only [Act.put, List.setIfInBounds_toArray, List.set_cons_zero, List.set_cons_succ, i64_w, i32_w]
         rfl
        refine Gv.pu 9 (some 26) HT_ ?_
        refine done_ (done_of HT_.out (by kernel_rfl)) ?_
        try go_wp2
        go_roundg k1
        case measure => have := HK1.out; omega
        case rel => exact ⟨(wrap64 (x5_1 + 1)), Gv.rq, H', ⟨by have := HK1.out; omega⟩, ⟨Gv.bw⟩⟩
       ·replace c8 := Bool.eq_false_iff.mpr c8
        subst c8
        have H1 : (none) = some r := by rw [if_neg (show ¬ (false = true) by decide)] at H; exact H
        clear H
        have H := H1
        clear H1
        exact absurd H (by simp)
      ·rw [if_neg c6] at H
       exact absurd H (by simp)
     ·rw [if_neg c5] at H
      exact absurd H (by simp)
    ·rw [if_neg c4] at H
     have c4b0 : decide (x5_1 < (l0.length : Int)) = false := decide_eq_false c4
     clear c4
     obtain rfl := Option.some.inj H
     go_wp2
     go_ret
     exact ⟨Gv.rt, Gv.bw⟩
 ·rw [if_neg c3] at H
  exact absurd H (by simp)

end Go.Proofs.Ytiokbmbdhejciaa.PCr
