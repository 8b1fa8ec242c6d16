/- Plain Lean functions of a law's Go functions, their contracts, by a program of this session (wip/pr.py over the kit's print). -/
import Derived.Test.YtbfbfaoolkbodaaPWsx0
import Derived.Test.YtbfbfaoolkbodaaPWsx1
namespace Go.Proofs.Ytbfbfaoolkbodaa.PWs
open Go.RowKit Go.Proofs.YtbfbfaoolkbodaaW.PrintWords Go.Proofs.YtbfbfaoolkbodaaW.PrintLast Go.Proofs.YtbfbfaoolkbodaaW.PrintMore
attribute [local go_sem] max2_int min2_int max_two min_two max_three min_three max_four min_four   -- for this text's walks alone
set_option linter.unusedVariables false
set_option linter.unusedSimpArgs false

/-! ### spec_WheelOk: function 14 -/
mutual
def spec_WheelOk.j0 : Nat → Bool → Int → List (S47) → Option (Bool)
 | 0, _, _, _ => none
 | k + 1, x23, x167000, x167001 => if x23 = true then (some false) else (spec_WheelOk.l0 k 0 0 x167000 x167001)
def spec_WheelOk.l0 : Nat → Int → Int → Int → List (S47) → Option (Bool)
 | 0, _, _, _, _ => none
 | k + 1, x3, x4, x167000, x167001 => if x4 < 8 then (if 0 ≤ x4 then (if x4 < (x167001.length : Int) then (if (((rd_T47 x167001 x4).f0).length : Int) > 64 then (some false) else (spec_WheelOk.l0 k (wrap64 (x3 + (((rd_T47 x167001 x4).f0).length : Int))) (wrap64 (x4 + 1)) x167000 x167001)) else (none)) else (none)) else (if x3 > 64 then (some false) else ((spec_l12All.f k x167000 x167001).bind fun t169 => (spec_WheelOk.l1 k t169 0 x167000 x167001)))
def spec_WheelOk.l1 : Nat → List (S50) → Int → Int → List (S47) → Option (Bool)
 | 0, _, _, _, _ => none
 | k + 1, x5, x6, x167000, x167001 => if x6 < (x5.length : Int) then (if 0 ≤ x6 then (if ((rd_T50 x5 x6).f0) < 0 then (spec_WheelOk.j3 k x5 x6 true x167000 x167001) else (if ((rd_T50 x5 x6).f0) > 9999 then (spec_WheelOk.j3 k x5 x6 true x167000 x167001) else (if ((rd_T50 x5 x6).f1) ≤ x167000 then (spec_WheelOk.j3 k x5 x6 true x167000 x167001) else (spec_WheelOk.j3 k x5 x6 (decide (((rd_T50 x5 x6).f1) > (wrap64 (x167000 + 1000)))) x167000 x167001)))) else (none)) else (spec_WheelOk.l3 k 0 x167000 x167001)
def spec_WheelOk.j3 : Nat → List (S50) → Int → Bool → Int → List (S47) → Option (Bool)
 | 0, _, _, _, _, _ => none
 | k + 1, x5, x6, x89, x167000, x167001 => if x89 = true then (some false) else (spec_WheelOk.l2 k x5 x6 0 x167000 x167001)
def spec_WheelOk.l2 : Nat → List (S50) → Int → Int → Int → List (S47) → Option (Bool)
 | 0, _, _, _, _, _ => none
 | k + 1, x5, x6, x7, x167000, x167001 => if x7 < x6 then (if 0 ≤ x7 then (if x7 < (x5.length : Int) then (if 0 ≤ x6 then (if x6 < (x5.length : Int) then (if ((rd_T50 x5 x7).f0) = ((rd_T50 x5 x6).f0) then (some false) else (spec_WheelOk.l2 k x5 x6 (wrap64 (x7 + 1)) x167000 x167001)) else (none)) else (none)) else (none)) else (none)) else (spec_WheelOk.l1 k x5 (wrap64 (x6 + 1)) x167000 x167001)
def spec_WheelOk.l3 : Nat → Int → Int → List (S47) → Option (Bool)
 | 0, _, _, _ => none
 | k + 1, x8, x167000, x167001 => if x8 < 8 then (spec_WheelOk.l4 k x8 0 x167000 x167001) else (some true)
def spec_WheelOk.l4 : Nat → Int → Int → Int → List (S47) → Option (Bool)
 | 0, _, _, _, _ => none
 | k + 1, x8, x9, x167000, x167001 => if 0 ≤ x8 then (if x8 < (x167001.length : Int) then (if x9 < (((rd_T47 x167001 x8).f0).length : Int) then (if 0 ≤ x9 then (if (Int.tmod ((rd_T50 ((rd_T47 x167001 x8).f0) x9).f1) 8) = x8 then (spec_WheelOk.l4 k x8 (wrap64 (x9 + 1)) x167000 x167001) else (some false)) else (none)) else (spec_WheelOk.l3 k (wrap64 (x8 + 1)) x167000 x167001)) else (none)) else (none)
end
def spec_WheelOk.f (k : Nat) (a0_0 : Int) (l0_1 : List (S47)) : Option (Bool) := if a0_0 < 0 then (spec_WheelOk.j0 k true a0_0 l0_1) else (if a0_0 > 1000000000000 then (spec_WheelOk.j0 k true a0_0 l0_1) else (spec_WheelOk.j0 k ((l0_1.length : Int) != 8) a0_0 l0_1))
theorem spec_WheelOk.mono_l : ∀ k, (∀ y0 y1 y2, LeO (spec_WheelOk.j0 k y0 y1 y2) (spec_WheelOk.j0 (k + 1) y0 y1 y2)) ∧ (∀ y0 y1 y2 y3, LeO (spec_WheelOk.l0 k y0 y1 y2 y3) (spec_WheelOk.l0 (k + 1) y0 y1 y2 y3)) ∧ (∀ y0 y1 y2 y3, LeO (spec_WheelOk.l1 k y0 y1 y2 y3) (spec_WheelOk.l1 (k + 1) y0 y1 y2 y3)) ∧ (∀ y0 y1 y2 y3 y4, LeO (spec_WheelOk.j3 k y0 y1 y2 y3 y4) (spec_WheelOk.j3 (k + 1) y0 y1 y2 y3 y4)) ∧ (∀ y0 y1 y2 y3 y4, LeO (spec_WheelOk.l2 k y0 y1 y2 y3 y4) (spec_WheelOk.l2 (k + 1) y0 y1 y2 y3 y4)) ∧ (∀ y0 y1 y2, LeO (spec_WheelOk.l3 k y0 y1 y2) (spec_WheelOk.l3 (k + 1) y0 y1 y2)) ∧ (∀ y0 y1 y2 y3, LeO (spec_WheelOk.l4 k y0 y1 y2 y3) (spec_WheelOk.l4 (k + 1) y0 y1 y2 y3))
 | 0 => ⟨fun _ _ _ r h => by simp [spec_WheelOk.j0] at h, fun _ _ _ _ r h => by simp [spec_WheelOk.l0] at h, fun _ _ _ _ r h => by simp [spec_WheelOk.l1] at h, fun _ _ _ _ _ r h => by simp [spec_WheelOk.j3] at h, fun _ _ _ _ _ r h => by simp [spec_WheelOk.l2] at h, fun _ _ _ r h => by simp [spec_WheelOk.l3] at h, fun _ _ _ _ r h => by simp [spec_WheelOk.l4] at h⟩
 | k + 1 => by
  obtain ⟨ih0, ih1, ih2, ih3, ih4, ih5, ih6⟩ := spec_WheelOk.mono_l k
  refine ⟨?_, ?_, ?_, ?_, ?_, ?_, ?_⟩
  ·intro y0 y1 y2
   unfold spec_WheelOk.j0
   repeat' first
   | (with_reducible exact ih0 _ _ _)
   | (with_reducible exact ih1 _ _ _ _)
   | (with_reducible exact ih2 _ _ _ _)
   | (with_reducible exact ih3 _ _ _ _ _)
   | (with_reducible exact ih4 _ _ _ _ _)
   | (with_reducible exact ih5 _ _ _)
   | (with_reducible exact ih6 _ _ _ _)
   | (with_reducible exact spec_l12All.mono _ _ _)
   | (with_reducible exact LeO.refl _)
   | (with_reducible exact LeO.none _)
   | (with_reducible refine LeO.ite ?_ ?_)
   | (with_reducible refine LeO.bind ?_ (fun _ => ?_))
   | exact ih0 _ _ _
   | exact ih1 _ _ _ _
   | exact ih2 _ _ _ _
   | exact ih3 _ _ _ _ _
   | exact ih4 _ _ _ _ _
   | exact ih5 _ _ _
   | exact ih6 _ _ _ _
   | exact spec_l12All.mono _ _ _
   | exact LeO.none _
   | refine LeO.ite ?_ ?_
   | refine LeO.bind ?_ (fun _ => ?_)
  ·intro y0 y1 y2 y3
   unfold spec_WheelOk.l0
   repeat' first
   | (with_reducible exact ih0 _ _ _)
   | (with_reducible exact ih1 _ _ _ _)
   | (with_reducible exact ih2 _ _ _ _)
   | (with_reducible exact ih3 _ _ _ _ _)
   | (with_reducible exact ih4 _ _ _ _ _)
   | (with_reducible exact ih5 _ _ _)
   | (with_reducible exact ih6 _ _ _ _)
   | (with_reducible exact spec_l12All.mono _ _ _)
   | (with_reducible exact LeO.refl _)
   | (with_reducible exact LeO.none _)
   | (with_reducible refine LeO.ite ?_ ?_)
   | (with_reducible refine LeO.bind ?_ (fun _ => ?_))
   | exact ih0 _ _ _
   | exact ih1 _ _ _ _
   | exact ih2 _ _ _ _
   | exact ih3 _ _ _ _ _
   | exact ih4 _ _ _ _ _
   | exact ih5 _ _ _
   | exact ih6 _ _ _ _
   | exact spec_l12All.mono _ _ _
   | exact LeO.none _
   | refine LeO.ite ?_ ?_
   | refine LeO.bind ?_ (fun _ => ?_)
  ·intro y0 y1 y2 y3
   unfold spec_WheelOk.l1
   repeat' first
   | (with_reducible exact ih0 _ _ _)
   | (with_reducible exact ih1 _ _ _ _)
   | (with_reducible exact ih2 _ _ _ _)
   | (with_reducible exact ih3 _ _ _ _ _)
   | (with_reducible exact ih4 _ _ _ _ _)
   | (with_reducible exact ih5 _ _ _)
   | (with_reducible exact ih6 _ _ _ _)
   | (with_reducible exact spec_l12All.mono _ _ _)
   | (with_reducible exact LeO.refl _)
   | (with_reducible exact LeO.none _)
   | (with_reducible refine LeO.ite ?_ ?_)
   | (with_reducible refine LeO.bind ?_ (fun _ => ?_))
   | exact ih0 _ _ _
   | exact ih1 _ _ _ _
   | exact ih2 _ _ _ _
   | exact ih3 _ _ _ _ _
   | exact ih4 _ _ _ _ _
   | exact ih5 _ _ _
   | exact ih6 _ _ _ _
   | exact spec_l12All.mono _ _ _
   | exact LeO.none _
   | refine LeO.ite ?_ ?_
   | refine LeO.bind ?_ (fun _ => ?_)
  ·intro y0 y1 y2 y3 y4
   unfold spec_WheelOk.j3
   repeat' first
   | (with_reducible exact ih0 _ _ _)
   | (with_reducible exact ih1 _ _ _ _)
   | (with_reducible exact ih2 _ _ _ _)
   | (with_reducible exact ih3 _ _ _ _ _)
   | (with_reducible exact ih4 _ _ _ _ _)
   | (with_reducible exact ih5 _ _ _)
   | (with_reducible exact ih6 _ _ _ _)
   | (with_reducible exact spec_l12All.mono _ _ _)
   | (with_reducible exact LeO.refl _)
   | (with_reducible exact LeO.none _)
   | (with_reducible refine LeO.ite ?_ ?_)
   | (with_reducible refine LeO.bind ?_ (fun _ => ?_))
   | exact ih0 _ _ _
   | exact ih1 _ _ _ _
   | exact ih2 _ _ _ _
   | exact ih3 _ _ _ _ _
   | exact ih4 _ _ _ _ _
   | exact ih5 _ _ _
   | exact ih6 _ _ _ _
   | exact spec_l12All.mono _ _ _
   | exact LeO.none _
   | refine LeO.ite ?_ ?_
   | refine LeO.bind ?_ (fun _ => ?_)
  ·intro y0 y1 y2 y3 y4
   unfold spec_WheelOk.l2
   repeat' first
   | (with_reducible exact ih0 _ _ _)
   | (with_reducible exact ih1 _ _ _ _)
   | (with_reducible exact ih2 _ _ _ _)
   | (with_reducible exact ih3 _ _ _ _ _)
   | (with_reducible exact ih4 _ _ _ _ _)
   | (with_reducible exact ih5 _ _ _)
   | (with_reducible exact ih6 _ _ _ _)
   | (with_reducible exact spec_l12All.mono _ _ _)
   | (with_reducible exact LeO.refl _)
   | (with_reducible exact LeO.none _)
   | (with_reducible refine LeO.ite ?_ ?_)
   | (with_reducible refine LeO.bind ?_ (fun _ => ?_))
   | exact ih0 _ _ _
   | exact ih1 _ _ _ _
   | exact ih2 _ _ _ _
   | exact ih3 _ _ _ _ _
   | exact ih4 _ _ _ _ _
   | exact ih5 _ _ _
   | exact ih6 _ _ _ _
   | exact spec_l12All.mono _ _ _
   | exact LeO.none _
   | refine LeO.ite ?_ ?_
   | refine LeO.bind ?_ (fun _ => ?_)
  ·intro y0 y1 y2
   unfold spec_WheelOk.l3
   repeat' first
   | (with_reducible exact ih0 _ _ _)
   | (with_reducible exact ih1 _ _ _ _)
   | (with_reducible exact ih2 _ _ _ _)
   | (with_reducible exact ih3 _ _ _ _ _)
   | (with_reducible exact ih4 _ _ _ _ _)
   | (with_reducible exact ih5 _ _ _)
   | (with_reducible exact ih6 _ _ _ _)
   | (with_reducible exact spec_l12All.mono _ _ _)
   | (with_reducible exact LeO.refl _)
   | (with_reducible exact LeO.none _)
   | (with_reducible refine LeO.ite ?_ ?_)
   | (with_reducible refine LeO.bind ?_ (fun _ => ?_))
   | exact ih0 _ _ _
   | exact ih1 _ _ _ _
   | exact ih2 _ _ _ _
   | exact ih3 _ _ _ _ _
   | exact ih4 _ _ _ _ _
   | exact ih5 _ _ _
   | exact ih6 _ _ _ _
   | exact spec_l12All.mono _ _ _
   | exact LeO.none _
   | refine LeO.ite ?_ ?_
   | refine LeO.bind ?_ (fun _ => ?_)
  ·intro y0 y1 y2 y3
   unfold spec_WheelOk.l4
   repeat' first
   | (with_reducible exact ih0 _ _ _)
   | (with_reducible exact ih1 _ _ _ _)
   | (with_reducible exact ih2 _ _ _ _)
   | (with_reducible exact ih3 _ _ _ _ _)
   | (with_reducible exact ih4 _ _ _ _ _)
   | (with_reducible exact ih5 _ _ _)
   | (with_reducible exact ih6 _ _ _ _)
   | (with_reducible exact spec_l12All.mono _ _ _)
   | (with_reducible exact LeO.refl _)
   | (with_reducible exact LeO.none _)
   | (with_reducible refine LeO.ite ?_ ?_)
   | (with_reducible refine LeO.bind ?_ (fun _ => ?_))
   | exact ih0 _ _ _
   | exact ih1 _ _ _ _
   | exact ih2 _ _ _ _
   | exact ih3 _ _ _ _ _
   | exact ih4 _ _ _ _ _
   | exact ih5 _ _ _
   | exact ih6 _ _ _ _
   | exact spec_l12All.mono _ _ _
   | exact LeO.none _
   | refine LeO.ite ?_ ?_
   | refine LeO.bind ?_ (fun _ => ?_)
theorem spec_WheelOk.mono : ∀ a0 a1 k, LeO (spec_WheelOk.f k a0 a1) (spec_WheelOk.f (k + 1) a0 a1) := by
 intro a0 a1 k
 obtain ⟨ih0, ih1, ih2, ih3, ih4, ih5, ih6⟩ := spec_WheelOk.mono_l k
 unfold spec_WheelOk.f
 repeat' first
   | (with_reducible exact ih0 _ _ _)
   | (with_reducible exact ih1 _ _ _ _)
   | (with_reducible exact ih2 _ _ _ _)
   | (with_reducible exact ih3 _ _ _ _ _)
   | (with_reducible exact ih4 _ _ _ _ _)
   | (with_reducible exact ih5 _ _ _)
   | (with_reducible exact ih6 _ _ _ _)
   | (with_reducible exact spec_l12All.mono _ _ _)
   | (with_reducible exact LeO.refl _)
   | (with_reducible exact LeO.none _)
   | (with_reducible refine LeO.ite ?_ ?_)
   | (with_reducible refine LeO.bind ?_ (fun _ => ?_))
   | exact ih0 _ _ _
   | exact ih1 _ _ _ _
   | exact ih2 _ _ _ _
   | exact ih3 _ _ _ _ _
   | exact ih4 _ _ _ _ _
   | exact ih5 _ _ _
   | exact ih6 _ _ _ _
   | exact spec_l12All.mono _ _ _
   | exact LeO.none _
   | refine LeO.ite ?_ ?_
   | refine LeO.bind ?_ (fun _ => ?_)
set_option maxHeartbeats 8000000 in
set_option maxRecDepth 100000 in
theorem spec_WheelOk.calls (k : Nat) (a0_0 : Int) (A0_1 : Option Addr) (c0_1 : Nat) (l0_1 : List (S47)) (r : Bool) (w : World) (hr0_1 : Kd.C k47 w A0_1 l0_1.length l0_1) (hc0_1 : l0_1.length ≤ c0_1) (h : spec_WheelOk.f k a0_0 l0_1 = some r) :
  Calls Try.prog 14 #[.agg #[.int .i64 a0_0, .slice A0_1 l0_1.length c0_1]] w fun e w' => e = .returned (.bool r) ∧ Below w.heap.size w w' := by
 have hu24 := Try.underlying24
 have HR0_1 := Gv.a0 hr0_1
 have HC0_1 := Gv.a0 hc0_1
 clear hr0_1 hc0_1
 have HB := Gv.a0 (Below.refl w.heap.size w)
 have H : (if a0_0 < 0 then (spec_WheelOk.j0 k true a0_0 l0_1) else (if a0_0 > 1000000000000 then (spec_WheelOk.j0 k true a0_0 l0_1) else (spec_WheelOk.j0 k ((l0_1.length : Int) != 8) a0_0 l0_1))) = some r := h
 clear h
 have HC2 := Gv.a0 H
 clear H
 go_enter Try.func14, Try.ntmps14
 go_upto_region 1 with (first | ((with_reducible refine gate_dst (N := 1) rfl ?_); (try (refine gate_guard (by rfl) ?_; dsimp only)); refine box_event ?hg (N := 1) ?hd (cs := #[.int .i64 a0_0, .slice A0_1 l0_1.length c0_1]) (t := 24) ?hr ?_; (case hd => rfl); (case hg => rfl); (case hr => first | (go_simp; done) | (go_simp; rfl)); intro gb166 hg w3 hbox hb; have n0_ := Gv.a0 (below_step Gv.bw hb); have n1_ := Gv.a0 (hbox); have n2_ := Gv.a0 ((Gv.ble hg Gv.bw : w.heap.size ≤ gb166)); have n3_ := Gv.a0 ((Gv.ble hg Gv.bw : w.heap.size ≤ gb166)); clear HB; have HB := n0_; have BK166 := n1_; have GW166 := n2_; have GE166 := n3_; clear n0_ n1_ n2_ n3_; clear hb hbox hg))
 repeat (go_quiet (first | ((with_reducible refine gate_dst (N := 1) rfl ?_); (try (refine gate_guard (by rfl) ?_; dsimp only)); refine box_event ?hg (N := 1) ?hd (cs := #[.int .i64 a0_0, .slice A0_1 l0_1.length c0_1]) (t := 24) ?hr ?_; (case hd => rfl); (case hg => rfl); (case hr => first | (go_simp; done) | (go_simp; rfl)); intro gb166 hg w3 hbox hb; have n0_ := Gv.a0 (below_step Gv.bw hb); have n1_ := Gv.a0 (hbox); have n2_ := Gv.a0 ((Gv.ble hg Gv.bw : w.heap.size ≤ gb166)); have n3_ := Gv.a0 ((Gv.ble hg Gv.bw : w.heap.size ≤ gb166)); clear HB; have HB := n0_; have BK166 := n1_; have GW166 := n2_; have GE166 := n3_; clear n0_ n1_ n2_ n3_; clear hb hbox hg)); go_upto_region 1 with (first | ((with_reducible refine gate_dst (N := 1) rfl ?_); (try (refine gate_guard (by rfl) ?_; dsimp only)); refine box_event ?hg (N := 1) ?hd (cs := #[.int .i64 a0_0, .slice A0_1 l0_1.length c0_1]) (t := 24) ?hr ?_; (case hd => rfl); (case hg => rfl); (case hr => first | (go_simp; done) | (go_simp; rfl)); intro gb166 hg w3 hbox hb; have n0_ := Gv.a0 (below_step Gv.bw hb); have n1_ := Gv.a0 (hbox); have n2_ := Gv.a0 ((Gv.ble hg Gv.bw : w.heap.size ≤ gb166)); have n3_ := Gv.a0 ((Gv.ble hg Gv.bw : w.heap.size ≤ gb166)); clear HB; have HB := n0_; have BK166 := n1_; have GW166 := n2_; have GE166 := n3_; clear n0_ n1_ n2_ n3_; clear hb hbox hg)))
 (try simp only [Act.put, List.setIfInBounds_toArray, List.set_cons_zero, List.set_cons_succ])
 go_cut [23] (fun v23 wc => ∃ (kq : Nat) (x23_1 : Bool), v23 = .bool x23_1 ∧ Aside0 (spec_WheelOk.j0 kq x23_1 a0_0 l0_1 = some r) ∧ Aside0 (kq ≤ k) ∧ Aside0 (wc.heap[gb166]? = some (.cells #[.int .i64 a0_0, (.slice A0_1 l0_1.length c0_1)] 24 (0, 0))) ∧ Aside0 (Below w.heap.size w wc))
 case first =>
  have H := HC2.out
  clear HC2
  by_cases c4 : a0_0 < 0
  ·rw [if_pos c4] at H
   have c4b0 : decide (a0_0 < 0) = true := decide_eq_true c4
   clear c4
   (first | rw [c4b0] | (simp only [i64_w, i32_w]; rw [c4b0]) | skip)
   have H' := Gv.a0 H
   clear H
   have hcz5_0 : w3.cell? ⟨gb166, 0, none⟩ = some (.int .i64 a0_0) := (blk_cell BK166.out 0).trans rfl
   have hcz5_1 : w3.cell? ⟨gb166, 1, none⟩ = some (.slice A0_1 l0_1.length c0_1) := (blk_cell BK166.out 1).trans rfl
   have hfz5_0 := blk_frozen BK166.out 0
   have hfz5_1 := blk_frozen BK166.out 1
   go_wp2
   repeat (go_quiet (fail); try go_wp2)
   go_meet
   case rel => exact ⟨_, (true), Gv.rq, H', ⟨by first | omega | exact Nat.le_refl _⟩, ⟨by (with_reducible repeat (first | refine blk_drewN ?_ _ | refine blk_drew ?_ | refine blk_alloc ?_ _)); exact BK166.out⟩, ⟨Gv.bw⟩⟩
  ·rw [if_neg c4] at H
   have c4b0 : decide (a0_0 < 0) = false := decide_eq_false c4
   clear c4
   (first | rw [c4b0] | (simp only [i64_w, i32_w]; rw [c4b0]) | skip)
   by_cases c6 : a0_0 > 1000000000000
   ·rw [if_pos c6] at H
    have c6b0 : decide (1000000000000 < a0_0) = true := decide_eq_true c6
    clear c6
    have H' := Gv.a0 H
    clear H
    have hcz7_0 : w3.cell? ⟨gb166, 0, none⟩ = some (.int .i64 a0_0) := (blk_cell BK166.out 0).trans rfl
    have hcz7_1 : w3.cell? ⟨gb166, 1, none⟩ = some (.slice A0_1 l0_1.length c0_1) := (blk_cell BK166.out 1).trans rfl
    have hfz7_0 := blk_frozen BK166.out 0
    have hfz7_1 := blk_frozen BK166.out 1
    go_wp2
    repeat (go_quiet (fail); try go_wp2)
    go_meet
    case rel => exact ⟨_, (true), Gv.rq, H', ⟨by first | omega | exact Nat.le_refl _⟩, ⟨by (with_reducible repeat (first | refine blk_drewN ?_ _ | refine blk_drew ?_ | refine blk_alloc ?_ _)); exact BK166.out⟩, ⟨Gv.bw⟩⟩
   ·rw [if_neg c6] at H
    have c6b0 : decide (1000000000000 < a0_0) = false := decide_eq_false c6
    clear c6
    have H' := Gv.a0 H
    clear H
    have hcz8_0 : w3.cell? ⟨gb166, 0, none⟩ = some (.int .i64 a0_0) := (blk_cell BK166.out 0).trans rfl
    have hcz8_1 : w3.cell? ⟨gb166, 1, none⟩ = some (.slice A0_1 l0_1.length c0_1) := (blk_cell BK166.out 1).trans rfl
    have hfz8_0 := blk_frozen BK166.out 0
    have hfz8_1 := blk_frozen BK166.out 1
    go_wp2
    repeat (go_quiet (fail); try go_wp2)
    go_meet
    case rel => exact ⟨_, (((l0_1.length : Int) != 8)), Gv.rq, H', ⟨by first | omega | exact Nat.le_refl _⟩, ⟨by (with_reducible repeat (first | refine blk_drewN ?_ _ | refine blk_drew ?_ | refine blk_alloc ?_ _)); exact BK166.out⟩, ⟨Gv.bw⟩⟩
 case rest =>
  clear HC2
  try clear c1
  try clear p2
  try clear c4
  try clear c4b0
  try clear c6
  try clear c6b0
  try clear hcz5_0 hcz5_1
  try clear hcz7_0 hcz7_1
  try clear hcz8_0 hcz8_1
  try clear hfz5_0 hfz5_1
  try clear hfz7_0 hfz7_1
  try clear hfz8_0 hfz8_1
  obtain ⟨kq, x23_1, rfl, HA, HJ1, BK166, HB⟩ := hcut
  cases kq with
  | zero => exact absurd HA.out (by simp [spec_WheelOk.j0])
  | succ kj1 =>
   have H := HA.out
   clear HA
   simp only [spec_WheelOk.j0] at H
   by_cases c9 : x23_1 = true
   ·subst c9
    have H1 : (some false) = some r := by rw [if_pos rfl] at H; exact H
    clear H
    have H := H1
    clear H1
    obtain rfl := Option.some.inj H
    go_wp2
    repeat (go_quiet (fail); try go_wp2)
    go_ret
    exact ⟨Gv.rt, Gv.bw⟩
   ·replace c9 := Bool.eq_false_iff.mpr c9
    subst c9
    have H1 : (spec_WheelOk.l0 kj1 0 0 a0_0 l0_1) = some r := by rw [if_neg (show ¬ (false = true) by decide)] at H; exact H
    clear H
    have H := H1
    clear H1
    have H' := Gv.a0 H
    clear H
    go_wp2
    repeat (go_quiet (fail); try go_wp2)
    go_loopg [3, 4] kj1 (fun kq v3 v4 w' => ∃ (x3_2 : Int) (x4_2 : Int), v3 = .int .i64 x3_2 ∧ v4 = .int .i64 x4_2 ∧ Aside0 (spec_WheelOk.l0 kq x3_2 x4_2 a0_0 l0_1 = some r) ∧ Aside0 (kq ≤ kj1) ∧ Aside0 (w'.heap[gb166]? = some (.cells #[.int .i64 a0_0, (.slice A0_1 l0_1.length c0_1)] 24 (0, 0))) ∧ Aside0 (Below w.heap.size w w'))
    case atStart => exact ⟨(0), (0), Gv.rq, Gv.rq, H', ⟨Nat.le_refl _⟩, ⟨by (with_reducible repeat (first | refine blk_drewN ?_ _ | refine blk_drew ?_ | refine blk_alloc ?_ _)); exact BK166.out⟩, ⟨Gv.bw⟩⟩
    case round =>
     clear H'
     try clear c1
     try clear p2
     try clear c4
     try clear c4b0
     try clear c6
     try clear c6b0
     try clear c9
     try clear hcz5_0 hcz5_1
     try clear hcz7_0 hcz7_1
     try clear hcz8_0 hcz8_1
     try clear hfz5_0 hfz5_1
     try clear hfz7_0 hfz7_1
     try clear hfz8_0 hfz8_1
     try clear p2
     obtain ⟨x3_2, x4_2, rfl, rfl, HA, HK2, BK166, HB⟩ := hrel
     cases gk with
     | zero => exact absurd HA.out (by simp [spec_WheelOk.l0])
     | succ k2 =>
      have H := HA.out
      clear HA
      simp only [spec_WheelOk.l0] at H
      by_cases c10 : x4_2 < 8
      ·rw [if_pos c10] at H
       have c10b0 : decide (x4_2 < 8) = true := decide_eq_true c10
       clear c10
       by_cases c11 : 0 ≤ x4_2
       ·rw [if_pos c11] at H
        have c11b0 : decide (0 ≤ x4_2) = true := decide_eq_true c11
        clear c11
        by_cases c12 : x4_2 < (l0_1.length : Int)
        ·rw [if_pos c12] at H
         have c12b0 : decide (x4_2 < (l0_1.length : Int)) = true := decide_eq_true c12
         clear c12
         by_cases c13 : (((rd_T47 l0_1 x4_2).f0).length : Int) > 64
         ·rw [if_pos c13] at H
          have c13b0 : decide (64 < (((rd_T47 l0_1 x4_2).f0).length : Int)) = true := decide_eq_true c13
          have c13b1 : decide (64 < ((rd_T47 l0_1 x4_2).f0).length) = true := decide_eq_true (by omega)
          clear c13
          obtain rfl := Option.some.inj H
          have hcz14_0 : wr.cell? ⟨gb166, 0, none⟩ = some (.int .i64 a0_0) := (blk_cell BK166.out 0).trans rfl
          have hcz14_1 : wr.cell? ⟨gb166, 1, none⟩ = some (.slice A0_1 l0_1.length c0_1) := (blk_cell BK166.out 1).trans rfl
          have hfz14_0 := blk_frozen BK166.out 0
          have hfz14_1 := blk_frozen BK166.out 1
          have p167 : 0 ≤ (x4_2 : Int) := of_decide_eq_true (by first | (with_reducible assumption) | assumption)
          have q167 : x4_2 < (l0_1.length : Int) := of_decide_eq_true (by first | (with_reducible assumption) | assumption)
          obtain ⟨ad167, A167_0, c167_0, e167, hx167_0, hl167_0, hi167_0⟩ := at_T47 HR0_1.out x4_2 p167 q167
          cases e167
          replace hx167_0 := Gv.bx HB.out hx167_0
          have HR167_0 := Gv.a0 hi167_0
          have HC167_0 := Gv.a0 hl167_0
          clear hi167_0 hl167_0
          replace p167 := eq_true p167
          replace q167 := eq_true q167
          go_wp2
          repeat (go_quiet (fail); try go_wp2)
          go_ret
          exact ⟨Gv.rt, Gv.bw⟩
         ·rw [if_neg c13] at H
          have c13b0 : decide (64 < (((rd_T47 l0_1 x4_2).f0).length : Int)) = false := decide_eq_false c13
          have c13b1 : decide (64 < ((rd_T47 l0_1 x4_2).f0).length) = false := decide_eq_false (by omega)
          clear c13
          have H' := Gv.a0 H
          clear H
          have hcz15_0 : wr.cell? ⟨gb166, 0, none⟩ = some (.int .i64 a0_0) := (blk_cell BK166.out 0).trans rfl
          have hcz15_1 : wr.cell? ⟨gb166, 1, none⟩ = some (.slice A0_1 l0_1.length c0_1) := (blk_cell BK166.out 1).trans rfl
          have hfz15_0 := blk_frozen BK166.out 0
          have hfz15_1 := blk_frozen BK166.out 1
          have p167 : 0 ≤ (x4_2 : Int) := of_decide_eq_true (by first | (with_reducible assumption) | assumption)
          have q167 : x4_2 < (l0_1.length : Int) := of_decide_eq_true (by first | (with_reducible assumption) | assumption)
          obtain ⟨ad167, A167_0, c167_0, e167, hx167_0, hl167_0, hi167_0⟩ := at_T47 HR0_1.out x4_2 p167 q167
          cases e167
          replace hx167_0 := Gv.bx HB.out hx167_0
          have HR167_0 := Gv.a0 hi167_0
          have HC167_0 := Gv.a0 hl167_0
          clear hi167_0 hl167_0
          replace p167 := eq_true p167
          replace q167 := eq_true q167
          have p168 : 0 ≤ (x4_2 : Int) := of_decide_eq_true (by first | (with_reducible assumption) | assumption)
          have q168 : x4_2 < (l0_1.length : Int) := of_decide_eq_true (by first | (with_reducible assumption) | assumption)
          obtain ⟨ad168, A168_0, c168_0, e168, hx168_0, hl168_0, hi168_0⟩ := at_T47 HR0_1.out x4_2 p168 q168
          obtain rfl : ad167 = ad168 := (by injection e168)
          replace hx168_0 := Gv.bx HB.out hx168_0
          have HR168_0 := Gv.a0 hi168_0
          have HC168_0 := Gv.a0 hl168_0
          clear hi168_0 hl168_0
          replace p168 := eq_true p168
          replace q168 := eq_true q168
          have ea_ := Option.some.inj (hx167_0.symm.trans hx168_0)
          injection ea_ with ea_ en_ ec_
          subst ea_
          subst ec_
          clear en_
          go_wp2
          repeat (go_quiet (fail); try go_wp2)
          go_roundg k2
          case measure => have := HJ1.out; have := HK2.out; omega
          case rel => exact ⟨(wrap64 (x3_2 + (((rd_T47 l0_1 x4_2).f0).length : Int))), (wrap64 (x4_2 + 1)), Gv.rq, Gv.rq, H', ⟨by have := HJ1.out; have := HK2.out; omega⟩, ⟨by (with_reducible repeat (first | refine blk_drewN ?_ _ | refine blk_drew ?_ | refine blk_alloc ?_ _)); exact BK166.out⟩, ⟨Gv.bw⟩⟩
        ·rw [if_neg c12] at H
         exact absurd H (by simp)
       ·rw [if_neg c11] at H
        exact absurd H (by simp)
      ·rw [if_neg c10] at H
       have c10b0 : decide (x4_2 < 8) = false := decide_eq_false c10
       clear c10
       by_cases c16 : x3_2 > 64
       ·rw [if_pos c16] at H
        have c16b0 : decide (64 < x3_2) = true := decide_eq_true c16
        clear c16
        obtain rfl := Option.some.inj H
        go_wp2
        repeat (go_quiet (fail); try go_wp2)
        go_ret
        exact ⟨Gv.rt, Gv.bw⟩
       ·rw [if_neg c16] at H
        have c16b0 : decide (64 < x3_2) = false := decide_eq_false c16
        clear c16
        replace H := Option.bind_eq_some_iff.mp H
        obtain ⟨t169, A170, H⟩ := H
        replace H : (spec_WheelOk.l1 k2 t169 0 a0_0 l0_1) = some r := H
        have A17 := Gv.a0 A170
        clear A170
        have H' := Gv.a0 H
        clear H
        have hcz18_0 : wr.cell? ⟨gb166, 0, none⟩ = some (.int .i64 a0_0) := (blk_cell BK166.out 0).trans rfl
        have hcz18_1 : wr.cell? ⟨gb166, 1, none⟩ = some (.slice A0_1 l0_1.length c0_1) := (blk_cell BK166.out 1).trans rfl
        have hfz18_0 := blk_frozen BK166.out 0
        have hfz18_1 := blk_frozen BK166.out 1
        go_wp2_with (first | (go_at_call 28; (with_reducible refine (spec_l12All.calls k2 a0_0 _ _ l0_1 t169 _ ?side1 ?side2 A17.out).mono ?_); (case side1 => repeat (first | exact (Kd.C_below HR0_1.out HB.out) | (with_reducible refine Kd.C_alloc ?_ _) | (with_reducible refine Kd.C_drewN ?_ _) | (with_reducible refine Kd.C_drew ?_))); (case side2 => exact HC0_1.out); rintro e w19 ⟨v170, rfl, ho0, hb⟩; have n0_ := Gv.a0 (Kd.R_lower ho0 (below_size Gv.bw)); have n1_ := Gv.a0 (Gv.bb BK166.out hb); have n2_ := Gv.a0 (below_step Gv.bw hb); clear BK166; clear HB; have HO171 := n0_; have BK166 := n1_; have HB := n2_; clear n0_ n1_ n2_; (try clear hb); (try clear hb2); (try clear hk); (try clear hi); (try clear ho0)))
        repeat (go_quiet (first | (go_at_call 28; (with_reducible refine (spec_l12All.calls k2 a0_0 _ _ l0_1 t169 _ ?side1 ?side2 A17.out).mono ?_); (case side1 => repeat (first | exact (Kd.C_below HR0_1.out HB.out) | (with_reducible refine Kd.C_alloc ?_ _) | (with_reducible refine Kd.C_drewN ?_ _) | (with_reducible refine Kd.C_drew ?_))); (case side2 => exact HC0_1.out); rintro e w19 ⟨v170, rfl, ho0, hb⟩; have n0_ := Gv.a0 (Kd.R_lower ho0 (below_size Gv.bw)); have n1_ := Gv.a0 (Gv.bb BK166.out hb); have n2_ := Gv.a0 (below_step Gv.bw hb); clear BK166; clear HB; have HO171 := n0_; have BK166 := n1_; have HB := n2_; clear n0_ n1_ n2_; (try clear hb); (try clear hb2); (try clear hk); (try clear hi); (try clear ho0))); try go_wp2_with (first | (go_at_call 28; (with_reducible refine (spec_l12All.calls k2 a0_0 _ _ l0_1 t169 _ ?side1 ?side2 A17.out).mono ?_); (case side1 => repeat (first | exact (Kd.C_below HR0_1.out HB.out) | (with_reducible refine Kd.C_alloc ?_ _) | (with_reducible refine Kd.C_drewN ?_ _) | (with_reducible refine Kd.C_drew ?_))); (case side2 => exact HC0_1.out); rintro e w19 ⟨v170, rfl, ho0, hb⟩; have n0_ := Gv.a0 (Kd.R_lower ho0 (below_size Gv.bw)); have n1_ := Gv.a0 (Gv.bb BK166.out hb); have n2_ := Gv.a0 (below_step Gv.bw hb); clear BK166; clear HB; have HO171 := n0_; have BK166 := n1_; have HB := n2_; clear n0_ n1_ n2_; (try clear hb); (try clear hb2); (try clear hk); (try clear hi); (try clear ho0))))
        go_loopg [6] k2 (fun kq v6 w' => ∃ (x6_3 : Int), v6 = .int .i64 x6_3 ∧ Aside0 (spec_WheelOk.l1 kq t169 x6_3 a0_0 l0_1 = some r) ∧ Aside0 (kq ≤ k2) ∧ Aside0 (Kd.R k50 50 w' w.heap.size (fun _ => True) v170 t169) ∧ Aside0 (w'.heap[gb166]? = some (.cells #[.int .i64 a0_0, (.slice A0_1 l0_1.length c0_1)] 24 (0, 0))) ∧ Aside0 (Below w.heap.size w w'))
        case atStart => exact ⟨(0), Gv.rq, H', ⟨Nat.le_refl _⟩, ⟨Gv.kr HO171.out⟩, ⟨by (with_reducible repeat (first | refine blk_drewN ?_ _ | refine blk_drew ?_ | refine blk_alloc ?_ _)); exact BK166.out⟩, ⟨Gv.bw⟩⟩
        case round =>
         clear H'
         try clear c1
         try clear p1
         try clear q1
         try clear hx1
         try clear p2
         try clear c4
         try clear c4b0
         try clear c6
         try clear c6b0
         try clear p6
         try clear c9
         try clear c10
         try clear c10b0
         try clear c11
         try clear c11b0
         try clear c12
         try clear c12b0
         try clear c13
         try clear c13b0
         try clear c13b1
         try clear c14
         try clear c16
         try clear c16b0
         try clear p16
         try clear q16
         try clear hx16
         try clear hcz14_0 hcz14_1
         try clear hcz15_0 hcz15_1
         try clear hcz18_0 hcz18_1
         try clear hcz5_0 hcz5_1
         try clear hcz7_0 hcz7_1
         try clear hcz8_0 hcz8_1
         try clear hfz14_0 hfz14_1
         try clear hfz15_0 hfz15_1
         try clear hfz18_0 hfz18_1
         try clear hfz5_0 hfz5_1
         try clear hfz7_0 hfz7_1
         try clear hfz8_0 hfz8_1
         try clear hx167_0
         try clear hx168_0
         try clear p167
         try clear p168
         try clear p2
         try clear q167
         try clear q168
         obtain ⟨x6_3, rfl, HA, HK3, HO_5, BK166, HB⟩ := hrel
         cases gk with
         | zero => exact absurd HA.out (by simp [spec_WheelOk.l1])
         | succ k3 =>
          have H := HA.out
          clear HA
          simp only [spec_WheelOk.l1] at H
          by_cases c20 : x6_3 < (t169.length : Int)
          ·rw [if_pos c20] at H
           have c20b0 : decide (x6_3 < (t169.length : Int)) = true := decide_eq_true c20
           clear c20
           have HC21 := Gv.a0 H
           clear H
           obtain ⟨Ao22, co22, eo22⟩ := Kd.R_slice HO_5.out
           subst eo22
           go_upto_region 16 with (fail)
           repeat (go_quiet (fail); go_upto_region 16 with (fail))
           go_cut [89] (fun v89 wc => ∃ (kq : Nat) (x89_20 : Bool), v89 = .bool x89_20 ∧ Aside0 (spec_WheelOk.j3 kq t169 x6_3 x89_20 a0_0 l0_1 = some r) ∧ Aside0 (kq ≤ k3) ∧ Aside0 (Kd.R k50 50 wc w.heap.size (fun _ => True) (.slice Ao22 t169.length co22) t169) ∧ Aside0 (wc.heap[gb166]? = some (.cells #[.int .i64 a0_0, (.slice A0_1 l0_1.length c0_1)] 24 (0, 0))) ∧ Aside0 (Below w.heap.size w wc))
           case first =>
            have H := HC21.out
            clear HC21
            by_cases c23 : 0 ≤ x6_3
            ·rw [if_pos c23] at H
             have c23b0 : decide (0 ≤ x6_3) = true := decide_eq_true c23
             clear c23
             (first | rw [c23b0] | (simp only [i64_w, i32_w]; rw [c23b0]) | skip)
             by_cases c24 : ((rd_T50 t169 x6_3).f0) < 0
             ·rw [if_pos c24] at H
              have c24b0 : decide (((rd_T50 t169 x6_3).f0) < 0) = true := decide_eq_true c24
              clear c24
              have H' := Gv.a0 H
              clear H
              have p172 : 0 ≤ (x6_3 : Int) := of_decide_eq_true (by first | (with_reducible assumption) | assumption)
              have q172 : x6_3 < (t169.length : Int) := of_decide_eq_true (by first | (with_reducible assumption) | assumption)
              obtain ⟨ad172, e172, hx172_0, hx172_1⟩ := at_T50 (Kd.R_reads' HO_5.out).2.2 x6_3 p172 q172
              cases e172
              replace p172 := eq_true p172
              replace q172 := eq_true q172
              go_wp2
              repeat (go_quiet (fail); try go_wp2)
              go_meet
              case rel => exact ⟨_, (true), Gv.rq, H', ⟨by have := HJ1.out; have := HK2.out; have := HK3.out; first | omega | exact Nat.le_refl _⟩, ⟨Gv.kr HO_5.out⟩, ⟨by (with_reducible repeat (first | refine blk_drewN ?_ _ | refine blk_drew ?_ | refine blk_alloc ?_ _)); exact BK166.out⟩, ⟨Gv.bw⟩⟩
             ·rw [if_neg c24] at H
              have c24b0 : decide (((rd_T50 t169 x6_3).f0) < 0) = false := decide_eq_false c24
              clear c24
              by_cases c25 : ((rd_T50 t169 x6_3).f0) > 9999
              ·rw [if_pos c25] at H
               have c25b0 : decide (9999 < ((rd_T50 t169 x6_3).f0)) = true := decide_eq_true c25
               clear c25
               have H' := Gv.a0 H
               clear H
               have p172 : 0 ≤ (x6_3 : Int) := of_decide_eq_true (by first | (with_reducible assumption) | assumption)
               have q172 : x6_3 < (t169.length : Int) := of_decide_eq_true (by first | (with_reducible assumption) | assumption)
               obtain ⟨ad172, e172, hx172_0, hx172_1⟩ := at_T50 (Kd.R_reads' HO_5.out).2.2 x6_3 p172 q172
               cases e172
               replace p172 := eq_true p172
               replace q172 := eq_true q172
               have p173 : 0 ≤ (x6_3 : Int) := of_decide_eq_true (by first | (with_reducible assumption) | assumption)
               have q173 : x6_3 < (t169.length : Int) := of_decide_eq_true (by first | (with_reducible assumption) | assumption)
               obtain ⟨ad173, e173, hx173_0, hx173_1⟩ := at_T50 (Kd.R_reads' HO_5.out).2.2 x6_3 p173 q173
               obtain rfl : ad172 = ad173 := (by injection e173)
               replace p173 := eq_true p173
               replace q173 := eq_true q173
               go_wp2
               repeat (go_quiet (fail); try go_wp2)
               go_meet
               case rel => exact ⟨_, (true), Gv.rq, H', ⟨by have := HJ1.out; have := HK2.out; have := HK3.out; first | omega | exact Nat.le_refl _⟩, ⟨Gv.kr HO_5.out⟩, ⟨by (with_reducible repeat (first | refine blk_drewN ?_ _ | refine blk_drew ?_ | refine blk_alloc ?_ _)); exact BK166.out⟩, ⟨Gv.bw⟩⟩
              ·rw [if_neg c25] at H
               have c25b0 : decide (9999 < ((rd_T50 t169 x6_3).f0)) = false := decide_eq_false c25
               clear c25
               by_cases c26 : ((rd_T50 t169 x6_3).f1) ≤ a0_0
               ·rw [if_pos c26] at H
                have c26b0 : decide (((rd_T50 t169 x6_3).f1) ≤ a0_0) = true := decide_eq_true c26
                clear c26
                have H' := Gv.a0 H
                clear H
                have p172 : 0 ≤ (x6_3 : Int) := of_decide_eq_true (by first | (with_reducible assumption) | assumption)
                have q172 : x6_3 < (t169.length : Int) := of_decide_eq_true (by first | (with_reducible assumption) | assumption)
                obtain ⟨ad172, e172, hx172_0, hx172_1⟩ := at_T50 (Kd.R_reads' HO_5.out).2.2 x6_3 p172 q172
                cases e172
                replace p172 := eq_true p172
                replace q172 := eq_true q172
                have p173 : 0 ≤ (x6_3 : Int) := of_decide_eq_true (by first | (with_reducible assumption) | assumption)
                have q173 : x6_3 < (t169.length : Int) := of_decide_eq_true (by first | (with_reducible assumption) | assumption)
                obtain ⟨ad173, e173, hx173_0, hx173_1⟩ := at_T50 (Kd.R_reads' HO_5.out).2.2 x6_3 p173 q173
                obtain rfl : ad172 = ad173 := (by injection e173)
                replace p173 := eq_true p173
                replace q173 := eq_true q173
                have p174 : 0 ≤ (x6_3 : Int) := of_decide_eq_true (by first | (with_reducible assumption) | assumption)
                have q174 : x6_3 < (t169.length : Int) := of_decide_eq_true (by first | (with_reducible assumption) | assumption)
                obtain ⟨ad174, e174, hx174_0, hx174_1⟩ := at_T50 (Kd.R_reads' HO_5.out).2.2 x6_3 p174 q174
                obtain rfl : ad172 = ad174 := (by injection e174)
                replace p174 := eq_true p174
                replace q174 := eq_true q174
                have hcz27_0 : wr.cell? ⟨gb166, 0, none⟩ = some (.int .i64 a0_0) := (blk_cell BK166.out 0).trans rfl
                have hcz27_1 : wr.cell? ⟨gb166, 1, none⟩ = some (.slice A0_1 l0_1.length c0_1) := (blk_cell BK166.out 1).trans rfl
                have hfz27_0 := blk_frozen BK166.out 0
                have hfz27_1 := blk_frozen BK166.out 1
                go_wp2
                repeat (go_quiet (fail); try go_wp2)
                go_meet
                case rel => exact ⟨_, (true), Gv.rq, H', ⟨by have := HJ1.out; have := HK2.out; have := HK3.out; first | omega | exact Nat.le_refl _⟩, ⟨Gv.kr HO_5.out⟩, ⟨by (with_reducible repeat (first | refine blk_drewN ?_ _ | refine blk_drew ?_ | refine blk_alloc ?_ _)); exact BK166.out⟩, ⟨Gv.bw⟩⟩
               ·rw [if_neg c26] at H
                have c26b0 : decide (((rd_T50 t169 x6_3).f1) ≤ a0_0) = false := decide_eq_false c26
                clear c26
                have H' := Gv.a0 H
                clear H
                have p172 : 0 ≤ (x6_3 : Int) := of_decide_eq_true (by first | (with_reducible assumption) | assumption)
                have q172 : x6_3 < (t169.length : Int) := of_decide_eq_true (by first | (with_reducible assumption) | assumption)
                obtain ⟨ad172, e172, hx172_0, hx172_1⟩ := at_T50 (Kd.R_reads' HO_5.out).2.2 x6_3 p172 q172
                cases e172
                replace p172 := eq_true p172
                replace q172 := eq_true q172
                have p173 : 0 ≤ (x6_3 : Int) := of_decide_eq_true (by first | (with_reducible assumption) | assumption)
                have q173 : x6_3 < (t169.length : Int) := of_decide_eq_true (by first | (with_reducible assumption) | assumption)
                obtain ⟨ad173, e173, hx173_0, hx173_1⟩ := at_T50 (Kd.R_reads' HO_5.out).2.2 x6_3 p173 q173
                obtain rfl : ad172 = ad173 := (by injection e173)
                replace p173 := eq_true p173
                replace q173 := eq_true q173
                have p174 : 0 ≤ (x6_3 : Int) := of_decide_eq_true (by first | (with_reducible assumption) | assumption)
                have q174 : x6_3 < (t169.length : Int) := of_decide_eq_true (by first | (with_reducible assumption) | assumption)
                obtain ⟨ad174, e174, hx174_0, hx174_1⟩ := at_T50 (Kd.R_reads' HO_5.out).2.2 x6_3 p174 q174
                obtain rfl : ad172 = ad174 := (by injection e174)
                replace p174 := eq_true p174
                replace q174 := eq_true q174
                have hcz28_0 : wr.cell? ⟨gb166, 0, none⟩ = some (.int .i64 a0_0) := (blk_cell BK166.out 0).trans rfl
                have hcz28_1 : wr.cell? ⟨gb166, 1, none⟩ = some (.slice A0_1 l0_1.length c0_1) := (blk_cell BK166.out 1).trans rfl
                have hfz28_0 := blk_frozen BK166.out 0
                have hfz28_1 := blk_frozen BK166.out 1
                have p175 : 0 ≤ (x6_3 : Int) := of_decide_eq_true (by first | (with_reducible assumption) | assumption)
                have q175 : x6_3 < (t169.length : Int) := of_decide_eq_true (by first | (with_reducible assumption) | assumption)
                obtain ⟨ad175, e175, hx175_0, hx175_1⟩ := at_T50 (Kd.R_reads' HO_5.out).2.2 x6_3 p175 q175
                obtain rfl : ad172 = ad175 := (by injection e175)
                replace p175 := eq_true p175
                replace q175 := eq_true q175
                go_wp2
                repeat (go_quiet (fail); try go_wp2)
                go_meet
                case rel => exact ⟨_, (decide (((rd_T50 t169 x6_3).f1) > (wrap64 (a0_0 + 1000)))), Gv.rq, H', ⟨by have := HJ1.out; have := HK2.out; have := HK3.out; first | omega | exact Nat.le_refl _⟩, ⟨Gv.kr HO_5.out⟩, ⟨by (with_reducible repeat (first | refine blk_drewN ?_ _ | refine blk_drew ?_ | refine blk_alloc ?_ _)); exact BK166.out⟩, ⟨Gv.bw⟩⟩
            ·rw [if_neg c23] at H
             exact absurd H (by simp)
           case rest =>
            clear HC21
            try clear c1
            try clear p1
            try clear q1
            try clear hx1
            try clear c2
            try clear p2
            try clear c4
            try clear c4b0
            try clear c6
            try clear c6b0
            try clear p6
            try clear c9
            try clear c10
            try clear c10b0
            try clear c11
            try clear c11b0
            try clear c12
            try clear c12b0
            try clear c13
            try clear c13b0
            try clear c13b1
            try clear c14
            try clear c16
            try clear c16b0
            try clear p16
            try clear q16
            try clear hx16
            try clear p17
            try clear q17
            try clear hx17
            try clear c20
            try clear c20b0
            try clear c23
            try clear c23b0
            try clear c24
            try clear c24b0
            try clear c25
            try clear c25b0
            try clear c26
            try clear c26b0
            try clear hcz14_0 hcz14_1
            try clear hcz15_0 hcz15_1
            try clear hcz18_0 hcz18_1
            try clear hcz27_0 hcz27_1
            try clear hcz28_0 hcz28_1
            try clear hcz5_0 hcz5_1
            try clear hcz7_0 hcz7_1
            try clear hcz8_0 hcz8_1
            try clear hfz14_0 hfz14_1
            try clear hfz15_0 hfz15_1
            try clear hfz18_0 hfz18_1
            try clear hfz27_0 hfz27_1
            try clear hfz28_0 hfz28_1
            try clear hfz5_0 hfz5_1
            try clear hfz7_0 hfz7_1
            try clear hfz8_0 hfz8_1
            try clear hx167_0
            try clear hx168_0
            try clear hx172_0
            try clear hx172_1
            try clear hx173_0
            try clear hx173_1
            try clear hx174_0
            try clear hx174_1
            try clear hx175_0
            try clear hx175_1
            try clear p1
            try clear p16
            try clear p167
            try clear p168
            try clear p172
            try clear p173
            try clear p174
            try clear p175
            try clear p2
            try clear p6
            try clear q1
            try clear q16
            try clear q167
            try clear q168
            try clear q172
            try clear q173
            try clear q174
            try clear q175
            obtain ⟨kq, x89_20, rfl, HA, HJ20, HO_5, BK166, HB⟩ := hcut
            cases kq with
            | zero => exact absurd HA.out (by simp [spec_WheelOk.j3])
            | succ kj20 =>
             have H := HA.out
             clear HA
             simp only [spec_WheelOk.j3] at H
             by_cases c29 : x89_20 = true
             ·subst c29
              have H1 : (some false) = some r := by rw [if_pos rfl] at H; exact H
              clear H
              have H := H1
              clear H1
              obtain rfl := Option.some.inj H
              go_wp2
              repeat (go_quiet (fail); try go_wp2)
              go_ret
              exact ⟨Gv.rt, Gv.bw⟩
             ·replace c29 := Bool.eq_false_iff.mpr c29
              subst c29
              have H1 : (spec_WheelOk.l2 kj20 t169 x6_3 0 a0_0 l0_1) = some r := by rw [if_neg (show ¬ (false = true) by decide)] at H; exact H
              clear H
              have H := H1
              clear H1
              have H' := Gv.a0 H
              clear H
              go_wp2
              repeat (go_quiet (fail); try go_wp2)
              go_loopg [7] kj20 (fun kq v7 w' => ∃ (x7_5 : Int), v7 = .int .i64 x7_5 ∧ Aside0 (spec_WheelOk.l2 kq t169 x6_3 x7_5 a0_0 l0_1 = some r) ∧ Aside0 (kq ≤ kj20) ∧ Aside0 (Kd.R k50 50 w' w.heap.size (fun _ => True) (.slice Ao22 t169.length co22) t169) ∧ Aside0 (w'.heap[gb166]? = some (.cells #[.int .i64 a0_0, (.slice A0_1 l0_1.length c0_1)] 24 (0, 0))) ∧ Aside0 (Below w.heap.size w w'))
              case atStart => exact ⟨(0), Gv.rq, H', ⟨Nat.le_refl _⟩, ⟨Gv.kr HO_5.out⟩, ⟨by (with_reducible repeat (first | refine blk_drewN ?_ _ | refine blk_drew ?_ | refine blk_alloc ?_ _)); exact BK166.out⟩, ⟨Gv.bw⟩⟩
              case round =>
               clear H'
               try clear c1
               try clear p1
               try clear q1
               try clear hx1
               try clear c2
               try clear p2
               try clear c4
               try clear c4b0
               try clear c6
               try clear c6b0
               try clear p6
               try clear c9
               try clear c10
               try clear c10b0
               try clear c11
               try clear c11b0
               try clear c12
               try clear c12b0
               try clear c13
               try clear c13b0
               try clear c13b1
               try clear c14
               try clear c16
               try clear c16b0
               try clear p16
               try clear q16
               try clear hx16
               try clear p17
               try clear q17
               try clear hx17
               try clear c20
               try clear c20b0
               try clear c23
               try clear c23b0
               try clear c24
               try clear c24b0
               try clear c25
               try clear c25b0
               try clear c26
               try clear c26b0
               try clear c29
               try clear hcz14_0 hcz14_1
               try clear hcz15_0 hcz15_1
               try clear hcz18_0 hcz18_1
               try clear hcz27_0 hcz27_1
               try clear hcz28_0 hcz28_1
               try clear hcz5_0 hcz5_1
               try clear hcz7_0 hcz7_1
               try clear hcz8_0 hcz8_1
               try clear hfz14_0 hfz14_1
               try clear hfz15_0 hfz15_1
               try clear hfz18_0 hfz18_1
               try clear hfz27_0 hfz27_1
               try clear hfz28_0 hfz28_1
               try clear hfz5_0 hfz5_1
               try clear hfz7_0 hfz7_1
               try clear hfz8_0 hfz8_1
               try clear hx167_0
               try clear hx168_0
               try clear hx172_0
               try clear hx172_1
               try clear hx173_0
               try clear hx173_1
               try clear hx174_0
               try clear hx174_1
               try clear hx175_0
               try clear hx175_1
               try clear p1
               try clear p16
               try clear p167
               try clear p168
               try clear p17
               try clear p172
               try clear p173
               try clear p174
               try clear p175
               try clear p2
               try clear p6
               try clear q1
               try clear q16
               try clear q167
               try clear q168
               try clear q17
               try clear q172
               try clear q173
               try clear q174
               try clear q175
               obtain ⟨x7_5, rfl, HA, HK5, HO_5, BK166, HB⟩ := hrel
               cases gk with
               | zero => exact absurd HA.out (by simp [spec_WheelOk.l2])
               | succ k5 =>
                have H := HA.out
                clear HA
                simp only [spec_WheelOk.l2] at H
                by_cases c30 : x7_5 < x6_3
                ·rw [if_pos c30] at H
                 have c30b0 : decide (x7_5 < x6_3) = true := decide_eq_true c30
                 clear c30
                 by_cases c31 : 0 ≤ x7_5
                 ·rw [if_pos c31] at H
                  have c31b0 : decide (0 ≤ x7_5) = true := decide_eq_true c31
                  clear c31
                  by_cases c32 : x7_5 < (t169.length : Int)
                  ·rw [if_pos c32] at H
                   have c32b0 : decide (x7_5 < (t169.length : Int)) = true := decide_eq_true c32
                   clear c32
                   by_cases c33 : 0 ≤ x6_3
                   ·rw [if_pos c33] at H
                    have c33b0 : decide (0 ≤ x6_3) = true := decide_eq_true c33
                    clear c33
                    by_cases c34 : x6_3 < (t169.length : Int)
                    ·rw [if_pos c34] at H
                     have c34b0 : decide (x6_3 < (t169.length : Int)) = true := decide_eq_true c34
                     clear c34
                     by_cases c35 : ((rd_T50 t169 x7_5).f0) = ((rd_T50 t169 x6_3).f0)
                     ·rw [if_pos c35] at H
                      have c35b0 : (((rd_T50 t169 x7_5).f0) == ((rd_T50 t169 x6_3).f0)) = true := beq_iff_eq.mpr c35
                      have c35b1 : (((rd_T50 t169 x7_5).f0) != ((rd_T50 t169 x6_3).f0)) = false := bne_eq_false_iff_eq.mpr c35
                      clear c35
                      obtain rfl := Option.some.inj H
                      have p176 : 0 ≤ (x7_5 : Int) := of_decide_eq_true (by first | (with_reducible assumption) | assumption)
                      have q176 : x7_5 < (t169.length : Int) := of_decide_eq_true (by first | (with_reducible assumption) | assumption)
                      obtain ⟨ad176, e176, hx176_0, hx176_1⟩ := at_T50 (Kd.R_reads' HO_5.out).2.2 x7_5 p176 q176
                      cases e176
                      replace p176 := eq_true p176
                      replace q176 := eq_true q176
                      have p177 : 0 ≤ (x6_3 : Int) := of_decide_eq_true (by first | (with_reducible assumption) | assumption)
                      have q177 : x6_3 < (t169.length : Int) := of_decide_eq_true (by first | (with_reducible assumption) | assumption)
                      obtain ⟨ad177, e177, hx177_0, hx177_1⟩ := at_T50 (Kd.R_reads' HO_5.out).2.2 x6_3 p177 q177
                      obtain rfl : ad176 = ad177 := (by injection e177)
                      replace p177 := eq_true p177
                      replace q177 := eq_true q177
                      go_wp2
                      repeat (go_quiet (fail); try go_wp2)
                      go_ret
                      exact ⟨Gv.rt, Gv.bw⟩
                     ·rw [if_neg c35] at H
                      have c35b0 : (((rd_T50 t169 x7_5).f0) == ((rd_T50 t169 x6_3).f0)) = false := beq_eq_false_iff_ne.mpr c35
                      have c35b1 : (((rd_T50 t169 x7_5).f0) != ((rd_T50 t169 x6_3).f0)) = true := bne_iff_ne.mpr c35
                      have H' := Gv.a0 H
                      clear H
                      have p176 : 0 ≤ (x7_5 : Int) := of_decide_eq_true (by first | (with_reducible assumption) | assumption)
                      have q176 : x7_5 < (t169.length : Int) := of_decide_eq_true (by first | (with_reducible assumption) | assumption)
                      obtain ⟨ad176, e176, hx176_0, hx176_1⟩ := at_T50 (Kd.R_reads' HO_5.out).2.2 x7_5 p176 q176
                      cases e176
                      replace p176 := eq_true p176
                      replace q176 := eq_true q176
                      have p177 : 0 ≤ (x6_3 : Int) := of_decide_eq_true (by first | (with_reducible assumption) | assumption)
                      have q177 : x6_3 < (t169.length : Int) := of_decide_eq_true (by first | (with_reducible assumption) | assumption)
                      obtain ⟨ad177, e177, hx177_0, hx177_1⟩ := at_T50 (Kd.R_reads' HO_5.out).2.2 x6_3 p177 q177
                      obtain rfl : ad176 = ad177 := (by injection e177)
                      replace p177 := eq_true p177
                      replace q177 := eq_true q177
                      go_wp2
                      repeat (go_quiet (fail); try go_wp2)
                      go_roundg k5
                      case measure => have := HJ1.out; have := HK2.out; have := HK3.out; have := HJ20.out; have := HK5.out; omega
                      case rel => exact ⟨(wrap64 (x7_5 + 1)), Gv.rq, H', ⟨by have := HJ1.out; have := HK2.out; have := HK3.out; have := HJ20.out; have := HK5.out; omega⟩, ⟨Gv.kr HO_5.out⟩, ⟨by (with_reducible repeat (first | refine blk_drewN ?_ _ | refine blk_drew ?_ | refine blk_alloc ?_ _)); exact BK166.out⟩, ⟨Gv.bw⟩⟩
                    ·rw [if_neg c34] at H
                     exact absurd H (by simp)
                   ·rw [if_neg c33] at H
                    exact absurd H (by simp)
                  ·rw [if_neg c32] at H
                   exact absurd H (by simp)
                 ·rw [if_neg c31] at H
                  exact absurd H (by simp)
                ·rw [if_neg c30] at H
                 have c30b0 : decide (x7_5 < x6_3) = false := decide_eq_false c30
                 clear c30
                 have H' := Gv.a0 H
                 clear H
                 go_wp2
                 repeat (go_quiet (fail); try go_wp2)
                 go_roundg k5
                 case measure => have := HJ1.out; have := HK2.out; have := HK3.out; have := HJ20.out; have := HK5.out; omega
                 case rel => exact ⟨(wrap64 (x6_3 + 1)), Gv.rq, H', ⟨by have := HJ1.out; have := HK2.out; have := HK3.out; have := HJ20.out; have := HK5.out; omega⟩, ⟨Gv.kr HO_5.out⟩, ⟨by (with_reducible repeat (first | refine blk_drewN ?_ _ | refine blk_drew ?_ | refine blk_alloc ?_ _)); exact BK166.out⟩, ⟨Gv.bw⟩⟩
          ·rw [if_neg c20] at H
           have c20b0 : decide (x6_3 < (t169.length : Int)) = false := decide_eq_false c20
           clear c20
           have H' := Gv.a0 H
           clear H
           obtain ⟨Ao36, co36, eo36⟩ := Kd.R_slice HO_5.out
           subst eo36
           go_wp2
           repeat (go_quiet (fail); try go_wp2)
           go_loopg [8] k3 (fun kq v8 w' => ∃ (x8_4 : Int), v8 = .int .i64 x8_4 ∧ Aside0 (spec_WheelOk.l3 kq x8_4 a0_0 l0_1 = some r) ∧ Aside0 (kq ≤ k3) ∧ Aside0 (w'.heap[gb166]? = some (.cells #[.int .i64 a0_0, (.slice A0_1 l0_1.length c0_1)] 24 (0, 0))) ∧ Aside0 (Below w.heap.size w w'))
           case atStart => exact ⟨(0), Gv.rq, H', ⟨Nat.le_refl _⟩, ⟨by (with_reducible repeat (first | refine blk_drewN ?_ _ | refine blk_drew ?_ | refine blk_alloc ?_ _)); exact BK166.out⟩, ⟨Gv.bw⟩⟩
           case round =>
            clear H'
            try clear c1
            try clear p1
            try clear q1
            try clear hx1
            try clear c2
            try clear p2
            try clear c3
            try clear c4
            try clear c4b0
            try clear c6
            try clear c6b0
            try clear p6
            try clear c9
            try clear c10
            try clear c10b0
            try clear c11
            try clear c11b0
            try clear c12
            try clear c12b0
            try clear c13
            try clear c13b0
            try clear c13b1
            try clear c14
            try clear c16
            try clear c16b0
            try clear p16
            try clear q16
            try clear hx16
            try clear p17
            try clear q17
            try clear hx17
            try clear c20
            try clear c20b0
            try clear c23
            try clear c23b0
            try clear c24
            try clear c24b0
            try clear c25
            try clear c25b0
            try clear c26
            try clear c26b0
            try clear c29
            try clear c30
            try clear c30b0
            try clear c31
            try clear c31b0
            try clear c32
            try clear c32b0
            try clear c33
            try clear c33b0
            try clear c34
            try clear c34b0
            try clear c35
            try clear c35b0
            try clear c35b1
            try clear hcz14_0 hcz14_1
            try clear hcz15_0 hcz15_1
            try clear hcz18_0 hcz18_1
            try clear hcz27_0 hcz27_1
            try clear hcz28_0 hcz28_1
            try clear hcz5_0 hcz5_1
            try clear hcz7_0 hcz7_1
            try clear hcz8_0 hcz8_1
            try clear hfz14_0 hfz14_1
            try clear hfz15_0 hfz15_1
            try clear hfz18_0 hfz18_1
            try clear hfz27_0 hfz27_1
            try clear hfz28_0 hfz28_1
            try clear hfz5_0 hfz5_1
            try clear hfz7_0 hfz7_1
            try clear hfz8_0 hfz8_1
            try clear hx167_0
            try clear hx168_0
            try clear hx172_0
            try clear hx172_1
            try clear hx173_0
            try clear hx173_1
            try clear hx174_0
            try clear hx174_1
            try clear hx175_0
            try clear hx175_1
            try clear hx176_0
            try clear hx176_1
            try clear hx177_0
            try clear hx177_1
            try clear p1
            try clear p16
            try clear p167
            try clear p168
            try clear p17
            try clear p172
            try clear p173
            try clear p174
            try clear p175
            try clear p176
            try clear p177
            try clear p2
            try clear p6
            try clear q1
            try clear q16
            try clear q167
            try clear q168
            try clear q17
            try clear q172
            try clear q173
            try clear q174
            try clear q175
            try clear q176
            try clear q177
            obtain ⟨x8_4, rfl, HA, HK4, BK166, HB⟩ := hrel
            cases gk with
            | zero => exact absurd HA.out (by simp [spec_WheelOk.l3])
            | succ k4 =>
             have H := HA.out
             clear HA
             simp only [spec_WheelOk.l3] at H
             by_cases c37 : x8_4 < 8
             ·rw [if_pos c37] at H
              have c37b0 : decide (x8_4 < 8) = true := decide_eq_true c37
              clear c37
              have H' := Gv.a0 H
              clear H
              go_wp2
              repeat (go_quiet (fail); try go_wp2)
              go_loopg [9] k4 (fun kq v9 w' => ∃ (x9_5 : Int), v9 = .int .i64 x9_5 ∧ Aside0 (spec_WheelOk.l4 kq x8_4 x9_5 a0_0 l0_1 = some r) ∧ Aside0 (kq ≤ k4) ∧ Aside0 (w'.heap[gb166]? = some (.cells #[.int .i64 a0_0, (.slice A0_1 l0_1.length c0_1)] 24 (0, 0))) ∧ Aside0 (Below w.heap.size w w'))
              case atStart => exact ⟨(0), Gv.rq, H', ⟨Nat.le_refl _⟩, ⟨by (with_reducible repeat (first | refine blk_drewN ?_ _ | refine blk_drew ?_ | refine blk_alloc ?_ _)); exact BK166.out⟩, ⟨Gv.bw⟩⟩
              case round =>
               clear H'
               try clear c1
               try clear p1
               try clear q1
               try clear hx1
               try clear c2
               try clear p2
               try clear c3
               try clear c4
               try clear c4b0
               try clear c6
               try clear c6b0
               try clear p6
               try clear c9
               try clear c10
               try clear c10b0
               try clear c11
               try clear c11b0
               try clear c12
               try clear c12b0
               try clear c13
               try clear c13b0
               try clear c13b1
               try clear c14
               try clear c16
               try clear c16b0
               try clear p16
               try clear q16
               try clear hx16
               try clear p17
               try clear q17
               try clear hx17
               try clear c20
               try clear c20b0
               try clear c23
               try clear c23b0
               try clear c24
               try clear c24b0
               try clear c25
               try clear c25b0
               try clear c26
               try clear c26b0
               try clear c29
               try clear c30
               try clear c30b0
               try clear c31
               try clear c31b0
               try clear c32
               try clear c32b0
               try clear c33
               try clear c33b0
               try clear c34
               try clear c34b0
               try clear c35
               try clear c35b0
               try clear c35b1
               try clear c37
               try clear c37b0
               try clear hcz14_0 hcz14_1
               try clear hcz15_0 hcz15_1
               try clear hcz18_0 hcz18_1
               try clear hcz27_0 hcz27_1
               try clear hcz28_0 hcz28_1
               try clear hcz5_0 hcz5_1
               try clear hcz7_0 hcz7_1
               try clear hcz8_0 hcz8_1
               try clear hfz14_0 hfz14_1
               try clear hfz15_0 hfz15_1
               try clear hfz18_0 hfz18_1
               try clear hfz27_0 hfz27_1
               try clear hfz28_0 hfz28_1
               try clear hfz5_0 hfz5_1
               try clear hfz7_0 hfz7_1
               try clear hfz8_0 hfz8_1
               try clear hx167_0
               try clear hx168_0
               try clear hx172_0
               try clear hx172_1
               try clear hx173_0
               try clear hx173_1
               try clear hx174_0
               try clear hx174_1
               try clear hx175_0
               try clear hx175_1
               try clear hx176_0
               try clear hx176_1
               try clear hx177_0
               try clear hx177_1
               try clear p1
               try clear p16
               try clear p167
               try clear p168
               try clear p17
               try clear p172
               try clear p173
               try clear p174
               try clear p175
               try clear p176
               try clear p177
               try clear p2
               try clear p6
               try clear q1
               try clear q16
               try clear q167
               try clear q168
               try clear q17
               try clear q172
               try clear q173
               try clear q174
               try clear q175
               try clear q176
               try clear q177
               obtain ⟨x9_5, rfl, HA, HK5, BK166, HB⟩ := hrel
               cases gk with
               | zero => exact absurd HA.out (by simp [spec_WheelOk.l4])
               | succ k5 =>
                have H := HA.out
                clear HA
                simp only [spec_WheelOk.l4] at H
                by_cases c38 : 0 ≤ x8_4
                ·rw [if_pos c38] at H
                 have c38b0 : decide (0 ≤ x8_4) = true := decide_eq_true c38
                 clear c38
                 by_cases c39 : x8_4 < (l0_1.length : Int)
                 ·rw [if_pos c39] at H
                  have c39b0 : decide (x8_4 < (l0_1.length : Int)) = true := decide_eq_true c39
                  clear c39
                  by_cases c40 : x9_5 < (((rd_T47 l0_1 x8_4).f0).length : Int)
                  ·rw [if_pos c40] at H
                   have c40b0 : decide (x9_5 < (((rd_T47 l0_1 x8_4).f0).length : Int)) = true := decide_eq_true c40
                   clear c40
                   by_cases c41 : 0 ≤ x9_5
                   ·rw [if_pos c41] at H
                    have c41b0 : decide (0 ≤ x9_5) = true := decide_eq_true c41
                    clear c41
                    by_cases c42 : (Int.tmod ((rd_T50 ((rd_T47 l0_1 x8_4).f0) x9_5).f1) 8) = x8_4
                    ·rw [if_pos c42] at H
                     have c42b0 : ((Int.tmod ((rd_T50 ((rd_T47 l0_1 x8_4).f0) x9_5).f1) 8) == x8_4) = true := beq_iff_eq.mpr c42
                     have c42b1 : ((Int.tmod ((rd_T50 ((rd_T47 l0_1 x8_4).f0) x9_5).f1) 8) != x8_4) = false := bne_eq_false_iff_eq.mpr c42
                     clear c42
                     have H' := Gv.a0 H
                     clear H
                     have hcz43_0 : wr.cell? ⟨gb166, 0, none⟩ = some (.int .i64 a0_0) := (blk_cell BK166.out 0).trans rfl
                     have hcz43_1 : wr.cell? ⟨gb166, 1, none⟩ = some (.slice A0_1 l0_1.length c0_1) := (blk_cell BK166.out 1).trans rfl
                     have hfz43_0 := blk_frozen BK166.out 0
                     have hfz43_1 := blk_frozen BK166.out 1
                     have p178 : 0 ≤ (x8_4 : Int) := of_decide_eq_true (by first | (with_reducible assumption) | assumption)
                     have q178 : x8_4 < (l0_1.length : Int) := of_decide_eq_true (by first | (with_reducible assumption) | assumption)
                     obtain ⟨ad178, A178_0, c178_0, e178, hx178_0, hl178_0, hi178_0⟩ := at_T47 HR0_1.out x8_4 p178 q178
                     cases e178
                     replace hx178_0 := Gv.bx HB.out hx178_0
                     have HR178_0 := Gv.a0 hi178_0
                     have HC178_0 := Gv.a0 hl178_0
                     clear hi178_0 hl178_0
                     replace p178 := eq_true p178
                     replace q178 := eq_true q178
                     have p179 : 0 ≤ (x8_4 : Int) := of_decide_eq_true (by first | (with_reducible assumption) | assumption)
                     have q179 : x8_4 < (l0_1.length : Int) := of_decide_eq_true (by first | (with_reducible assumption) | assumption)
                     obtain ⟨ad179, A179_0, c179_0, e179, hx179_0, hl179_0, hi179_0⟩ := at_T47 HR0_1.out x8_4 p179 q179
                     obtain rfl : ad178 = ad179 := (by injection e179)
                     replace hx179_0 := Gv.bx HB.out hx179_0
                     have HR179_0 := Gv.a0 hi179_0
                     have HC179_0 := Gv.a0 hl179_0
                     clear hi179_0 hl179_0
                     replace p179 := eq_true p179
                     replace q179 := eq_true q179
                     have ea_ := Option.some.inj (hx178_0.symm.trans hx179_0)
                     injection ea_ with ea_ en_ ec_
                     subst ea_
                     subst ec_
                     clear en_
                     have p180 : 0 ≤ (x9_5 : Int) := of_decide_eq_true (by first | (with_reducible assumption) | assumption)
                     have q180 : x9_5 < (((rd_T47 l0_1 x8_4).f0).length : Int) := of_decide_eq_true (by first | (with_reducible assumption) | assumption)
                     obtain ⟨ad180, e180, _, hx180_1⟩ := at_T50 HR179_0.out x9_5 p180 q180
                     cases e180
                     replace hx180_1 := Gv.bx HB.out hx180_1
                     replace p180 := eq_true p180
                     replace q180 := eq_true q180
                     go_wp2
                     repeat (go_quiet (fail); try go_wp2)
                     go_roundg k5
                     case measure => have := HJ1.out; have := HK2.out; have := HK3.out; have := HK4.out; have := HK5.out; omega
                     case rel => exact ⟨(wrap64 (x9_5 + 1)), Gv.rq, H', ⟨by have := HJ1.out; have := HK2.out; have := HK3.out; have := HK4.out; have := HK5.out; omega⟩, ⟨by (with_reducible repeat (first | refine blk_drewN ?_ _ | refine blk_drew ?_ | refine blk_alloc ?_ _)); exact BK166.out⟩, ⟨Gv.bw⟩⟩
                    ·rw [if_neg c42] at H
                     have c42b0 : ((Int.tmod ((rd_T50 ((rd_T47 l0_1 x8_4).f0) x9_5).f1) 8) == x8_4) = false := beq_eq_false_iff_ne.mpr c42
                     have c42b1 : ((Int.tmod ((rd_T50 ((rd_T47 l0_1 x8_4).f0) x9_5).f1) 8) != x8_4) = true := bne_iff_ne.mpr c42
                     obtain rfl := Option.some.inj H
                     have hcz44_0 : wr.cell? ⟨gb166, 0, none⟩ = some (.int .i64 a0_0) := (blk_cell BK166.out 0).trans rfl
                     have hcz44_1 : wr.cell? ⟨gb166, 1, none⟩ = some (.slice A0_1 l0_1.length c0_1) := (blk_cell BK166.out 1).trans rfl
                     have hfz44_0 := blk_frozen BK166.out 0
                     have hfz44_1 := blk_frozen BK166.out 1
                     have p178 : 0 ≤ (x8_4 : Int) := of_decide_eq_true (by first | (with_reducible assumption) | assumption)
                     have q178 : x8_4 < (l0_1.length : Int) := of_decide_eq_true (by first | (with_reducible assumption) | assumption)
                     obtain ⟨ad178, A178_0, c178_0, e178, hx178_0, hl178_0, hi178_0⟩ := at_T47 HR0_1.out x8_4 p178 q178
                     cases e178
                     replace hx178_0 := Gv.bx HB.out hx178_0
                     have HR178_0 := Gv.a0 hi178_0
                     have HC178_0 := Gv.a0 hl178_0
                     clear hi178_0 hl178_0
                     replace p178 := eq_true p178
                     replace q178 := eq_true q178
                     have p179 : 0 ≤ (x8_4 : Int) := of_decide_eq_true (by first | (with_reducible assumption) | assumption)
                     have q179 : x8_4 < (l0_1.length : Int) := of_decide_eq_true (by first | (with_reducible assumption) | assumption)
                     obtain ⟨ad179, A179_0, c179_0, e179, hx179_0, hl179_0, hi179_0⟩ := at_T47 HR0_1.out x8_4 p179 q179
                     obtain rfl : ad178 = ad179 := (by injection e179)
                     replace hx179_0 := Gv.bx HB.out hx179_0
                     have HR179_0 := Gv.a0 hi179_0
                     have HC179_0 := Gv.a0 hl179_0
                     clear hi179_0 hl179_0
                     replace p179 := eq_true p179
                     replace q179 := eq_true q179
                     have ea_ := Option.some.inj (hx178_0.symm.trans hx179_0)
                     injection ea_ with ea_ en_ ec_
                     subst ea_
                     subst ec_
                     clear en_
                     have p180 : 0 ≤ (x9_5 : Int) := of_decide_eq_true (by first | (with_reducible assumption) | assumption)
                     have q180 : x9_5 < (((rd_T47 l0_1 x8_4).f0).length : Int) := of_decide_eq_true (by first | (with_reducible assumption) | assumption)
                     obtain ⟨ad180, e180, _, hx180_1⟩ := at_T50 HR179_0.out x9_5 p180 q180
                     cases e180
                     replace hx180_1 := Gv.bx HB.out hx180_1
                     replace p180 := eq_true p180
                     replace q180 := eq_true q180
                     go_wp2
                     repeat (go_quiet (fail); try go_wp2)
                     go_ret
                     exact ⟨Gv.rt, Gv.bw⟩
                   ·rw [if_neg c41] at H
                    exact absurd H (by simp)
                  ·rw [if_neg c40] at H
                   have c40b0 : decide (x9_5 < (((rd_T47 l0_1 x8_4).f0).length : Int)) = false := decide_eq_false c40
                   clear c40
                   have H' := Gv.a0 H
                   clear H
                   have hcz45_0 : wr.cell? ⟨gb166, 0, none⟩ = some (.int .i64 a0_0) := (blk_cell BK166.out 0).trans rfl
                   have hcz45_1 : wr.cell? ⟨gb166, 1, none⟩ = some (.slice A0_1 l0_1.length c0_1) := (blk_cell BK166.out 1).trans rfl
                   have hfz45_0 := blk_frozen BK166.out 0
                   have hfz45_1 := blk_frozen BK166.out 1
                   have p178 : 0 ≤ (x8_4 : Int) := of_decide_eq_true (by first | (with_reducible assumption) | assumption)
                   have q178 : x8_4 < (l0_1.length : Int) := of_decide_eq_true (by first | (with_reducible assumption) | assumption)
                   obtain ⟨ad178, A178_0, c178_0, e178, hx178_0, hl178_0, hi178_0⟩ := at_T47 HR0_1.out x8_4 p178 q178
                   cases e178
                   replace hx178_0 := Gv.bx HB.out hx178_0
                   have HR178_0 := Gv.a0 hi178_0
                   have HC178_0 := Gv.a0 hl178_0
                   clear hi178_0 hl178_0
                   replace p178 := eq_true p178
                   replace q178 := eq_true q178
                   go_wp2
                   repeat (go_quiet (fail); try go_wp2)
                   go_roundg k5
                   case measure => have := HJ1.out; have := HK2.out; have := HK3.out; have := HK4.out; have := HK5.out; omega
                   case rel => exact ⟨(wrap64 (x8_4 + 1)), Gv.rq, H', ⟨by have := HJ1.out; have := HK2.out; have := HK3.out; have := HK4.out; have := HK5.out; omega⟩, ⟨by (with_reducible repeat (first | refine blk_drewN ?_ _ | refine blk_drew ?_ | refine blk_alloc ?_ _)); exact BK166.out⟩, ⟨Gv.bw⟩⟩
                 ·rw [if_neg c39] at H
                  exact absurd H (by simp)
                ·rw [if_neg c38] at H
                 exact absurd H (by simp)
             ·rw [if_neg c37] at H
              have c37b0 : decide (x8_4 < 8) = false := decide_eq_false c37
              clear c37
              obtain rfl := Option.some.inj H
              go_wp2
              repeat (go_quiet (fail); try go_wp2)
              go_ret
              exact ⟨Gv.rt, Gv.bw⟩

/-! ### spec_l12Has: function 33 -/
def spec_l12Has.l0 : Nat → Int → List (S50) → Int → Option (Bool)
 | 0, _, _, _ => none
 | k + 1, x1, x5, x6 => if x6 < (x5.length : Int) then (if 0 ≤ x6 then (if ((rd_T50 x5 x6).f0) = x1 then (some true) else (spec_l12Has.l0 k x1 x5 (wrap64 (x6 + 1)))) else (none)) else (some false)
def spec_l12Has.f (k : Nat) (a0_0 : Int) (l0_1 : List (S47)) (a1 : Int) : Option (Bool) := (spec_l12All.f k a0_0 l0_1).bind fun t182 => (spec_l12Has.l0 k a1 t182 0)
theorem spec_l12Has.mono_l : ∀ k, (∀ y0 y1 y2, LeO (spec_l12Has.l0 k y0 y1 y2) (spec_l12Has.l0 (k + 1) y0 y1 y2))
 | 0 => fun _ _ _ r h => by simp [spec_l12Has.l0] at h
 | k + 1 => by
  have ih0 := spec_l12Has.mono_l k
  ·intro y0 y1 y2
   unfold spec_l12Has.l0
   repeat' first
   | (with_reducible exact ih0 _ _ _)
   | (with_reducible exact spec_l12All.mono _ _ _)
   | (with_reducible exact LeO.refl _)
   | (with_reducible exact LeO.none _)
   | (with_reducible refine LeO.ite ?_ ?_)
   | (with_reducible refine LeO.bind ?_ (fun _ => ?_))
   | exact ih0 _ _ _
   | exact spec_l12All.mono _ _ _
   | exact LeO.none _
   | refine LeO.ite ?_ ?_
   | refine LeO.bind ?_ (fun _ => ?_)
theorem spec_l12Has.mono : ∀ a0 a1 a2 k, LeO (spec_l12Has.f k a0 a1 a2) (spec_l12Has.f (k + 1) a0 a1 a2) := by
 intro a0 a1 a2 k
 have ih0 := spec_l12Has.mono_l k
 unfold spec_l12Has.f
 repeat' first
   | (with_reducible exact ih0 _ _ _)
   | (with_reducible exact spec_l12All.mono _ _ _)
   | (with_reducible exact LeO.refl _)
   | (with_reducible exact LeO.none _)
   | (with_reducible refine LeO.ite ?_ ?_)
   | (with_reducible refine LeO.bind ?_ (fun _ => ?_))
   | exact ih0 _ _ _
   | exact spec_l12All.mono _ _ _
   | exact LeO.none _
   | refine LeO.ite ?_ ?_
   | refine LeO.bind ?_ (fun _ => ?_)
set_option maxHeartbeats 8000000 in
set_option maxRecDepth 100000 in
theorem spec_l12Has.calls (k : Nat) (a0_0 : Int) (A0_1 : Option Addr) (c0_1 : Nat) (l0_1 : List (S47)) (a1 : Int) (r : Bool) (w : World) (hr0_1 : Kd.C k47 w A0_1 l0_1.length l0_1) (hc0_1 : l0_1.length ≤ c0_1) (h : spec_l12Has.f k a0_0 l0_1 a1 = some r) :
  Calls Try.prog 33 #[.agg #[.int .i64 a0_0, .slice A0_1 l0_1.length c0_1], .int .i64 a1] w fun e w' => e = .returned (.bool r) ∧ Below w.heap.size w w' := by
 have hu24 := Try.underlying24
 have HR0_1 := Gv.a0 hr0_1
 have HC0_1 := Gv.a0 hc0_1
 clear hr0_1 hc0_1
 have HB := Gv.a0 (Below.refl w.heap.size w)
 have H : ((spec_l12All.f k a0_0 l0_1).bind fun t182 => (spec_l12Has.l0 k a1 t182 0)) = some r := h
 clear h
 replace H := Option.bind_eq_some_iff.mp H
 obtain ⟨t182, A30, H⟩ := H
 replace H : (spec_l12Has.l0 k a1 t182 0) = some r := H
 have A3 := Gv.a0 A30
 clear A30
 have H' := Gv.a0 H
 clear H
 go_enter Try.func33, Try.ntmps33
 go_wp2_with (first | ((with_reducible refine gate_dst (N := 2) rfl ?_); refine box_event ?hg (N := 2) ?hd (cs := #[.int .i64 a0_0, .slice A0_1 l0_1.length c0_1]) (t := 24) ?hr ?_; (case hd => rfl); (case hg => rfl); (case hr => first | (go_simp; done) | (go_simp; rfl)); intro gb181 hg w4 hbox hb; have n0_ := Gv.a0 (below_step Gv.bw hb); have n1_ := Gv.a0 (hbox); have n2_ := Gv.a0 ((Gv.ble hg Gv.bw : w.heap.size ≤ gb181)); have n3_ := Gv.a0 ((Gv.ble hg Gv.bw : w.heap.size ≤ gb181)); clear HB; have HB := n0_; have BK181 := n1_; have GW181 := n2_; have GE181 := n3_; clear n0_ n1_ n2_ n3_; clear hb hbox hg; have hcz5_0 : w4.cell? ⟨gb181, 0, none⟩ = some (.int .i64 a0_0) := (blk_cell BK181.out 0).trans rfl; have hcz5_1 : w4.cell? ⟨gb181, 1, none⟩ = some (.slice A0_1 l0_1.length c0_1) := (blk_cell BK181.out 1).trans rfl; have hfz5_0 := blk_frozen BK181.out 0; have hfz5_1 := blk_frozen BK181.out 1) | ((with_reducible refine gate_callee (f := 28) rfl ?_); refine goesL_ (some 8) rfl rfl Try.func28 (by kernel_rfl) rfl #[.agg #[.int .i64 a0_0, .slice A0_1 l0_1.length c0_1]] rfl Gv.lm ?_; (with_reducible refine (spec_l12All.calls k a0_0 _ _ l0_1 t182 _ ?side1 ?side2 A3.out).mono ?_); (case side1 => repeat (first | exact (Kd.C_below HR0_1.out HB.out) | (with_reducible refine Kd.C_alloc ?_ _) | (with_reducible refine Kd.C_drewN ?_ _) | (with_reducible refine Kd.C_drew ?_))); (case side2 => exact HC0_1.out); rintro e w6 ⟨v183, rfl, ho0, hb⟩; refine ⟨_, rfl, ?_⟩; have n0_ := Gv.a0 (Kd.R_lower ho0 (below_size Gv.bw)); have n1_ := Gv.a0 (Gv.bb BK181.out hb); have n2_ := Gv.a0 (below_step Gv.bw hb); clear BK181; clear HB; have HO184 := n0_; have BK181 := n1_; have HB := n2_; clear n0_ n1_ n2_; (try clear hb); (try clear hb2); (try clear hk); (try clear hi); (try clear ho0)))
 go_loopg [6] k (fun kq v6 w' => ∃ (x6_1 : Int), v6 = .int .i64 x6_1 ∧ Aside0 (spec_l12Has.l0 kq a1 t182 x6_1 = some r) ∧ Aside0 (kq ≤ k) ∧ Aside0 (Kd.R k50 50 w' w.heap.size (fun _ => True) v183 t182) ∧ Aside0 (w'.heap[gb181]? = some (.cells #[.int .i64 a0_0, (.slice A0_1 l0_1.length c0_1)] 24 (0, 0))) ∧ Aside0 (Below w.heap.size w w'))
 case atStart => exact ⟨(0), Gv.rq, H', ⟨Nat.le_refl _⟩, ⟨Gv.kr HO184.out⟩, ⟨by (with_reducible repeat (first | refine blk_drewN ?_ _ | refine blk_drew ?_ | refine blk_alloc ?_ _)); exact BK181.out⟩, ⟨Gv.bw⟩⟩
 case round =>
  clear H'
  try clear c2
  try clear p2
  try clear c3
  try clear hcz5_0 hcz5_1
  try clear hfz5_0 hfz5_1
  obtain ⟨x6_1, rfl, HA, HK1, HO_5, BK181, HB⟩ := hrel
  cases gk with
  | zero => exact absurd HA.out (by simp [spec_l12Has.l0])
  | succ k1 =>
   have H := HA.out
   clear HA
   simp only [spec_l12Has.l0] at H
   by_cases c7 : x6_1 < (t182.length : Int)
   ·rw [if_pos c7] at H
    have c7b0 : decide (x6_1 < (t182.length : Int)) = true := decide_eq_true c7
    clear c7
    by_cases c8 : 0 ≤ x6_1
    ·rw [if_pos c8] at H
     have c8b0 : decide (0 ≤ x6_1) = true := decide_eq_true c8
     clear c8
     by_cases c9 : ((rd_T50 t182 x6_1).f0) = a1
     ·rw [if_pos c9] at H
      have c9b0 : (((rd_T50 t182 x6_1).f0) == a1) = true := beq_iff_eq.mpr c9
      have c9b1 : (((rd_T50 t182 x6_1).f0) != a1) = false := bne_eq_false_iff_eq.mpr c9
      clear c9
      obtain rfl := Option.some.inj H
      obtain ⟨Ao10, co10, eo10⟩ := Kd.R_slice HO_5.out
      subst eo10
      have p185 : 0 ≤ (x6_1 : Int) := of_decide_eq_true (by first | (with_reducible assumption) | assumption)
      have q185 : x6_1 < (t182.length : Int) := of_decide_eq_true (by first | (with_reducible assumption) | assumption)
      obtain ⟨ad185, e185, hx185_0, _⟩ := at_T50 (Kd.R_reads' HO_5.out).2.2 x6_1 p185 q185
      cases e185
      replace p185 := eq_true p185
      replace q185 := eq_true q185
      go_wp2
      go_ret
      exact ⟨Gv.rt, Gv.bw⟩
     ·rw [if_neg c9] at H
      have c9b0 : (((rd_T50 t182 x6_1).f0) == a1) = false := beq_eq_false_iff_ne.mpr c9
      have c9b1 : (((rd_T50 t182 x6_1).f0) != a1) = true := bne_iff_ne.mpr c9
      have H' := Gv.a0 H
      clear H
      obtain ⟨Ao11, co11, eo11⟩ := Kd.R_slice HO_5.out
      subst eo11
      have p185 : 0 ≤ (x6_1 : Int) := of_decide_eq_true (by first | (with_reducible assumption) | assumption)
      have q185 : x6_1 < (t182.length : Int) := of_decide_eq_true (by first | (with_reducible assumption) | assumption)
      obtain ⟨ad185, e185, hx185_0, _⟩ := at_T50 (Kd.R_reads' HO_5.out).2.2 x6_1 p185 q185
      cases e185
      replace p185 := eq_true p185
      replace q185 := eq_true q185
      go_wp2
      go_roundg k1
      case measure => have := HK1.out; omega
      case rel => exact ⟨(wrap64 (x6_1 + 1)), Gv.rq, H', ⟨by have := HK1.out; omega⟩, ⟨Gv.kr HO_5.out⟩, ⟨by (with_reducible repeat (first | refine blk_drewN ?_ _ | refine blk_drew ?_ | refine blk_alloc ?_ _)); exact BK181.out⟩, ⟨Gv.bw⟩⟩
    ·rw [if_neg c8] at H
     exact absurd H (by simp)
   ·rw [if_neg c7] at H
    have c7b0 : decide (x6_1 < (t182.length : Int)) = false := decide_eq_false c7
    clear c7
    obtain rfl := Option.some.inj H
    obtain ⟨Ao12, co12, eo12⟩ := Kd.R_slice HO_5.out
    subst eo12
    go_wp2
    go_ret
    exact ⟨Gv.rt, Gv.bw⟩

/-! ### spec_l12Without: function 34 -/
mutual
def spec_l12Without.l0 : Nat → Int → Int → Int → Int → List (S47) → Int → List (S47) → Option (Int × (List (S47)))
 | 0, _, _, _, _, _, _, _ => none
 | k + 1, x2, x3, x10, x187000, x187001, x192000, x192001 => if x10 < 8 then (spec_l12Without.l1 k x2 x3 x10 (([] : List (S50))) 0 x187000 x187001 x192000 x192001) else (some (x192000, x192001))
def spec_l12Without.l1 : Nat → Int → Int → Int → List (S50) → Int → Int → List (S47) → Int → List (S47) → Option (Int × (List (S47)))
 | 0, _, _, _, _, _, _, _, _, _ => none
 | k + 1, x2, x3, x10, x11, x12, x187000, x187001, x192000, x192001 => if 0 ≤ x10 then (if x10 < (x187001.length : Int) then (if x12 < (((rd_T47 x187001 x10).f0).length : Int) then (if 0 ≤ x12 then (if ((rd_T50 ((rd_T47 x187001 x10).f0) x12).f0) = x2 then (spec_l12Without.l1 k x2 x3 x10 x11 (wrap64 (x12 + 1)) x187000 x187001 x192000 x192001) else (if ((rd_T50 ((rd_T47 x187001 x10).f0) x12).f1) = x3 then (spec_l12Without.l1 k x2 x3 x10 x11 (wrap64 (x12 + 1)) x187000 x187001 x192000 x192001) else (if x11.length < 8796093022208 then (spec_l12Without.l1 k x2 x3 x10 (x11 ++ [(⟨(rd_T50 ((rd_T47 x187001 x10).f0) x12).f0, (rd_T50 ((rd_T47 x187001 x10).f0) x12).f1⟩ : S50)]) (wrap64 (x12 + 1)) x187000 x187001 x192000 x192001) else (none)))) else (none)) else (if x10 < (x192001.length : Int) then (spec_l12Without.l0 k x2 x3 (wrap64 (x10 + 1)) x187000 x187001 x192000 (x192001.set (x10 : Int).toNat (⟨x11⟩ : S47))) else (none))) else (none)) else (none)
end
def spec_l12Without.f (k : Nat) (a0_0 : Int) (l0_1 : List (S47)) (a1 : Int) (a2 : Int) (a3 : Int) : Option (Int × (List (S47))) := if 8 ≤ 11728124029610 then (spec_l12Without.l0 k a2 a3 0 a0_0 l0_1 a1 (List.replicate 8 z47)) else (none)
theorem spec_l12Without.mono_l : ∀ k, (∀ y0 y1 y2 y3 y4 y5 y6, LeO (spec_l12Without.l0 k y0 y1 y2 y3 y4 y5 y6) (spec_l12Without.l0 (k + 1) y0 y1 y2 y3 y4 y5 y6)) ∧ (∀ y0 y1 y2 y3 y4 y5 y6 y7 y8, LeO (spec_l12Without.l1 k y0 y1 y2 y3 y4 y5 y6 y7 y8) (spec_l12Without.l1 (k + 1) y0 y1 y2 y3 y4 y5 y6 y7 y8))
 | 0 => ⟨fun _ _ _ _ _ _ _ r h => by simp [spec_l12Without.l0] at h, fun _ _ _ _ _ _ _ _ _ r h => by simp [spec_l12Without.l1] at h⟩
 | k + 1 => by
  obtain ⟨ih0, ih1⟩ := spec_l12Without.mono_l k
  refine ⟨?_, ?_⟩
  ·intro y0 y1 y2 y3 y4 y5 y6
   unfold spec_l12Without.l0
   repeat' first
   | (with_reducible exact ih0 _ _ _ _ _ _ _)
   | (with_reducible exact ih1 _ _ _ _ _ _ _ _ _)
   | (with_reducible exact LeO.refl _)
   | (with_reducible exact LeO.none _)
   | (with_reducible refine LeO.ite ?_ ?_)
   | (with_reducible refine LeO.bind ?_ (fun _ => ?_))
   | exact ih0 _ _ _ _ _ _ _
   | exact ih1 _ _ _ _ _ _ _ _ _
   | exact LeO.none _
   | refine LeO.ite ?_ ?_
   | refine LeO.bind ?_ (fun _ => ?_)
  ·intro y0 y1 y2 y3 y4 y5 y6 y7 y8
   unfold spec_l12Without.l1
   repeat' first
   | (with_reducible exact ih0 _ _ _ _ _ _ _)
   | (with_reducible exact ih1 _ _ _ _ _ _ _ _ _)
   | (with_reducible exact LeO.refl _)
   | (with_reducible exact LeO.none _)
   | (with_reducible refine LeO.ite ?_ ?_)
   | (with_reducible refine LeO.bind ?_ (fun _ => ?_))
   | exact ih0 _ _ _ _ _ _ _
   | exact ih1 _ _ _ _ _ _ _ _ _
   | exact LeO.none _
   | refine LeO.ite ?_ ?_
   | refine LeO.bind ?_ (fun _ => ?_)
theorem spec_l12Without.mono : ∀ a0 a1 a2 a3 a4 k, LeO (spec_l12Without.f k a0 a1 a2 a3 a4) (spec_l12Without.f (k + 1) a0 a1 a2 a3 a4) := by
 intro a0 a1 a2 a3 a4 k
 obtain ⟨ih0, ih1⟩ := spec_l12Without.mono_l k
 unfold spec_l12Without.f
 repeat' first
   | (with_reducible exact ih0 _ _ _ _ _ _ _)
   | (with_reducible exact ih1 _ _ _ _ _ _ _ _ _)
   | (with_reducible exact LeO.refl _)
   | (with_reducible exact LeO.none _)
   | (with_reducible refine LeO.ite ?_ ?_)
   | (with_reducible refine LeO.bind ?_ (fun _ => ?_))
   | exact ih0 _ _ _ _ _ _ _
   | exact ih1 _ _ _ _ _ _ _ _ _
   | exact LeO.none _
   | refine LeO.ite ?_ ?_
   | refine LeO.bind ?_ (fun _ => ?_)
set_option maxHeartbeats 8000000 in
set_option maxRecDepth 100000 in
theorem spec_l12Without.calls (k : Nat) (a0_0 : Int) (A0_1 : Option Addr) (c0_1 : Nat) (l0_1 : List (S47)) (a1 : Int) (a2 : Int) (a3 : Int) (r1 : Int) (r2 : List (S47)) (w : World) (hr0_1 : Kd.C k47 w A0_1 l0_1.length l0_1) (hc0_1 : l0_1.length ≤ c0_1) (h : spec_l12Without.f k a0_0 l0_1 a1 a2 a3 = some (r1, r2)) :
  Calls Try.prog 34 #[.agg #[.int .i64 a0_0, .slice A0_1 l0_1.length c0_1], .int .i64 a1, .int .i64 a2, .int .i64 a3] w fun e w' => ∃ v1_ : Value, e = .returned (.agg #[.int .i64 r1, v1_]) ∧ Kd.S k47 47 w' w.heap.size (fun _ => True) v1_ r2 ∧ Below w.heap.size w w' := by
 have hu24 := Try.underlying24
 have hu50 := Try.underlying50
 have HR0_1 := Gv.a0 hr0_1
 have HC0_1 := Gv.a0 hc0_1
 clear hr0_1 hc0_1
 have HB := Gv.a0 (Below.refl w.heap.size w)
 have H : (if 8 ≤ 11728124029610 then (spec_l12Without.l0 k a2 a3 0 a0_0 l0_1 a1 (List.replicate 8 z47)) else (none)) = some (r1, r2) := h
 clear h
 by_cases c5 : 8 ≤ 11728124029610
 ·rw [if_pos c5] at H
  have c5b0 := eq_true c5
  have c5b1 : decide (8 ≤ 11728124029610) = true := decide_eq_true c5
  clear c5
  obtain ⟨y188, hy188⟩ : ∃ y_ : List (S47), y_ = (List.replicate 8 z47) := ⟨_, rfl⟩
  replace H : (spec_l12Without.l0 k a2 a3 0 a0_0 l0_1 a1 y188) = some (r1, r2) := by first | (rw [hy188]; with_reducible exact H) | (have H2_ := (Option.bind_some _ _).symm.trans H; rw [hy188]; with_reducible exact H2_) | (have H2_ := (Option.bind_some _ _).symm.trans H; with_reducible exact H2_) | with_reducible exact H | (rw [hy188]; exact H) | exact H
  have Ny188 := Gv.a0 hy188
  clear hy188
  have H' := Gv.a0 H
  clear H
  go_enter Try.func34, Try.ntmps34
  go_wp2_with (first | ((with_reducible refine gate_dst (N := 4) rfl ?_); refine box_event ?hg (N := 4) ?hd (cs := #[.int .i64 a0_0, .slice A0_1 l0_1.length c0_1]) (t := 24) ?hr ?_; (case hd => rfl); (case hg => rfl); (case hr => first | (go_simp; done) | (go_simp; rfl)); intro gb186 hg w6 hbox hb; have n0_ := Gv.a0 (below_step Gv.bw hb); have n1_ := Gv.a0 (hbox); have n2_ := Gv.a0 ((Gv.ble hg Gv.bw : w.heap.size ≤ gb186)); have n3_ := Gv.a0 ((Gv.ble hg Gv.bw : w.heap.size ≤ gb186)); clear HB; have HB := n0_; have BK186 := n1_; have GW186 := n2_; have GE186 := n3_; clear n0_ n1_ n2_ n3_; clear hb hbox hg) | ((with_reducible refine gate_dst (N := 8) rfl ?_); refine box_event ?hg (N := 8) ?hd (cs := #[.int .i64 0, .slice none 0 0]) (t := 24) ?hr ?_; (case hd => rfl); (case hg => rfl); (case hr => first | (go_simp; done) | (go_simp; rfl)); intro gb187 hg w7 hbox hb; have n0_ := Gv.a0 (Gv.bb BK186.out hb); have n1_ := Gv.a0 (below_step Gv.bw hb); have n2_ := Gv.a0 (hbox); have n3_ := Gv.a0 ((Gv.ble hg Gv.bw : w.heap.size ≤ gb187)); have n4_ := Gv.a0 ((Gv.ble hg Gv.bw : w.heap.size ≤ gb187)); have n5_ := Gv.a0 ((Gv.nlt hg (Gv.kb BK186.out) : gb186 ≠ gb187)); have n6_ := Gv.a0 ((Gv.ngt hg (Gv.kb BK186.out) : gb187 ≠ gb186)); clear BK186; clear HB; have BK186 := n0_; have HB := n1_; have BK187 := n2_; have GW187 := n3_; have GE187 := n4_; have NB186_187 := n5_; have NB187_186 := n6_; clear n0_ n1_ n2_ n3_ n4_ n5_ n6_; clear hb hbox hg) | ((with_reducible refine gate_dst (N := 15) rfl ?_); refine Kd.S_make k47 _ 47 rfl (N := 15) rfl 22 _ _ rfl 8 rfl rfl Try.underlying22 (.agg #[(.slice none 0 0)]) 24 info47 rfl (by decide) (by omega) z47 (ok := fun _ => True) (okp := fun _ => True) (k47_mkM _ _ _ z47 (Kd.R_nil _ _ _ _ _)) (fun _ hk => hk) trivial (by omega) (by omega) (Below.refl _ _) (Nat.le_refl _) ?_; intro v189 w8 ho9 hb hg_ hnew_; clear hg_ hnew_; (first | rw [← Ny188.out] at ho9 | (simp only [Int.reduceToNat] at ho9; rw [← Ny188.out] at ho9)); have n0_ := Gv.a0 (Kd.S_lower ho9 (below_size Gv.bw)); have n1_ := Gv.a0 (Gv.bb BK186.out hb); have n2_ := Gv.a0 (Gv.bb BK187.out hb); have n3_ := Gv.a0 (below_step Gv.bw hb); clear BK186; clear BK187; clear HB; have HO190 := n0_; have BK186 := n1_; have BK187 := n2_; have HB := n3_; clear n0_ n1_ n2_ n3_; clear hb ho9; obtain ⟨Ao10, co10, eo10⟩ := Kd.S_slice HO190.out; subst eo10) | ((with_reducible refine gate_dst (N := 9) rfl ?_); refine box_event ?hg (N := 9) ?hd (cs := #[.int .i64 0, .slice none 0 0]) (t := 24) ?hr ?_; (case hd => rfl); (case hg => rfl); (case hr => first | (go_simp; done) | (go_simp; rfl)); intro gb191 hg w11 hbox hb; have n0_ := Gv.a0 (Kd.S_below (by (with_reducible repeat (first | apply Kd.S_alloc | apply Kd.S_drewN | apply Kd.S_drew)); exact HO190.out) hb); have n1_ := Gv.a0 (Gv.bb BK186.out hb); have n2_ := Gv.a0 (Gv.bb BK187.out hb); have n3_ := Gv.a0 (below_step Gv.bw hb); have n4_ := Gv.a0 (hbox); have n5_ := Gv.a0 ((Gv.ble hg Gv.bw : w.heap.size ≤ gb191)); have n6_ := Gv.a0 ((Gv.ble hg Gv.bw : w.heap.size ≤ gb191)); have n7_ := Gv.a0 ((Gv.nlt hg (Gv.kb BK186.out) : gb186 ≠ gb191)); have n8_ := Gv.a0 ((Gv.ngt hg (Gv.kb BK186.out) : gb191 ≠ gb186)); have n9_ := Gv.a0 ((Gv.nlt hg (Gv.kb BK187.out) : gb187 ≠ gb191)); have n10_ := Gv.a0 ((Gv.ngt hg (Gv.kb BK187.out) : gb191 ≠ gb187)); clear HO190; clear BK186; clear BK187; clear HB; have HO190 := n0_; have BK186 := n1_; have BK187 := n2_; have HB := n3_; have BK191 := n4_; have GW191 := n5_; have GE191 := n6_; have NB186_191 := n7_; have NB191_186 := n8_; have NB187_191 := n9_; have NB191_187 := n10_; clear n0_ n1_ n2_ n3_ n4_ n5_ n6_ n7_ n8_ n9_ n10_; clear hb hbox hg; have hnb12 := NB191_186.out; have hnc12 := NB186_191.out; have hnb13 := NB191_187.out; have hnc13 := NB187_191.out; have hcz14_0 : w11.cell? ⟨gb191, 0, none⟩ = some (.int .i64 0) := (blk_cell BK191.out 0).trans rfl; have hcz14_1 : w11.cell? ⟨gb191, 1, none⟩ = some (.slice none 0 0) := (blk_cell BK191.out 1).trans rfl; have hfz14_0 := blk_frozen BK191.out 0; have hfz14_1 := blk_frozen BK191.out 1))
  go_loopg [10] k (fun kq v10 w' => ∃ (x10_1 : Int) (x192001_1 : List (S47)) (u192001 : Value), v10 = .int .i64 x10_1 ∧ Aside0 (spec_l12Without.l0 kq a2 a3 x10_1 a0_0 l0_1 a1 x192001_1 = some (r1, r2)) ∧ Aside0 (kq ≤ k) ∧ Aside0 (Kd.S k47 47 w' w.heap.size (fun _ => True) u192001 x192001_1) ∧ Aside0 (w'.heap[gb186]? = some (.cells #[.int .i64 a0_0, (.slice A0_1 l0_1.length c0_1)] 24 (0, 0))) ∧ Aside0 (w'.heap[gb187]? = some (.cells #[.int .i64 0, (.slice none 0 0)] 24 (0, 0))) ∧ Aside0 (w'.heap[gb191]? = some (.cells #[.int .i64 a1, u192001] 24 (0, 0))) ∧ Aside0 (Below w.heap.size w w'))
  case atStart => exact ⟨(0), (y188), (.slice Ao10 y188.length co10), Gv.rq, H', ⟨Nat.le_refl _⟩, ⟨by (with_reducible repeat (first | apply Kd.S_alloc | apply Kd.S_drewN | apply Kd.S_drew)); exact Kd.S_mono (Kd.S_far (p := ⟨gb191, 1, none⟩) (Kd.S_far (p := ⟨gb191, 0, none⟩) (Kd.S_types HO190.out BK191.out (by decide)) (fun _ hk => hk.2) (.int .i64 a1)) (fun _ hk => hk.2) (.slice Ao10 y188.length co10)) (fun _ hk => trivial)⟩, ⟨by (with_reducible repeat (first | refine blk_drewN ?_ _ | refine blk_drew ?_ | refine blk_alloc ?_ _)); refine blk_far ?_ NB186_191.out _; (with_reducible repeat (first | refine blk_drewN ?_ _ | refine blk_drew ?_ | refine blk_alloc ?_ _)); refine blk_far ?_ NB186_191.out _; (with_reducible repeat (first | refine blk_drewN ?_ _ | refine blk_drew ?_ | refine blk_alloc ?_ _)); exact BK186.out⟩, ⟨by (with_reducible repeat (first | refine blk_drewN ?_ _ | refine blk_drew ?_ | refine blk_alloc ?_ _)); refine blk_far ?_ NB187_191.out _; (with_reducible repeat (first | refine blk_drewN ?_ _ | refine blk_drew ?_ | refine blk_alloc ?_ _)); refine blk_far ?_ NB187_191.out _; (with_reducible repeat (first | refine blk_drewN ?_ _ | refine blk_drew ?_ | refine blk_alloc ?_ _)); exact BK187.out⟩, ⟨by (with_reducible repeat (first | refine blk_drewN ?_ _ | refine blk_drew ?_ | refine blk_alloc ?_ _)); refine blk_put (cs := #[.int .i64 a1, .slice none 0 0]) ?_ 1 _ rfl; (with_reducible repeat (first | refine blk_drewN ?_ _ | refine blk_drew ?_ | refine blk_alloc ?_ _)); refine blk_put (cs := #[.int .i64 0, .slice none 0 0]) ?_ 0 _ rfl; (with_reducible repeat (first | refine blk_drewN ?_ _ | refine blk_drew ?_ | refine blk_alloc ?_ _)); exact BK191.out⟩, ⟨Gv.bw⟩⟩
  case round =>
   clear H'
   try clear c1
   try clear p2
   try clear c3
   try clear c5
   try clear c5b0
   try clear c5b1
   try clear c12
   try clear c13
   try clear hcz14_0 hcz14_1
   try clear hfz14_0 hfz14_1
   obtain ⟨x10_1, x192001_1, u192001, rfl, HA, HK1, HO_192001, BK186, BK187, BK191, HB⟩ := hrel
   cases gk with
   | zero => exact absurd HA.out (by simp [spec_l12Without.l0])
   | succ k1 =>
    have H := HA.out
    clear HA
    simp only [spec_l12Without.l0] at H
    by_cases c15 : x10_1 < 8
    ·rw [if_pos c15] at H
     have c15b0 : decide (x10_1 < 8) = true := decide_eq_true c15
     clear c15
     obtain ⟨y192, hy192⟩ : ∃ y_ : List (S50), y_ = (([] : List (S50))) := ⟨_, rfl⟩
     replace H : (spec_l12Without.l1 k1 a2 a3 x10_1 y192 0 a0_0 l0_1 a1 x192001_1) = some (r1, r2) := by first | (rw [hy192]; with_reducible exact H) | (have H2_ := (Option.bind_some _ _).symm.trans H; rw [hy192]; with_reducible exact H2_) | (have H2_ := (Option.bind_some _ _).symm.trans H; with_reducible exact H2_) | with_reducible exact H | (rw [hy192]; exact H) | exact H
     have Ny192 := Gv.a0 hy192
     clear hy192
     have H' := Gv.a0 H
     clear H
     go_wp2_with (first | ((with_reducible refine gate_dst (N := 21) rfl ?_); refine Kd.R_lit k50 _ 50 ?hg (N := 21) ?hd (xs := ([] : List (S50))) (inner := []) (ok := fun _ => True) (okp := fun _ => True) ?hr ?hp (fun _ hk => hk) trivial (Below.refl _ _) (Nat.le_refl _) (by simp) ?_; (case hd => rfl); (case hg => rfl); (case hr => first | (go_simp; done) | (go_simp; rfl)); (case hp => exact (Reps.none _ _)); intro v193 w16 ho17 hb hg_ hnew_; clear hg_ hnew_; (first | rw [← Ny192.out] at ho17 | (simp only [Int.reduceToNat] at ho17; rw [← Ny192.out] at ho17)); have n0_ := Gv.a0 (Kd.S_elder' (by (with_reducible repeat (first | apply Kd.S_alloc | apply Kd.S_drewN | apply Kd.S_drew)); exact HO_192001.out) (Kd.R_base ho17) hb); have n1_ := Gv.a0 (Kd.R_lower ho17 (below_size Gv.bw)); have n2_ := Gv.a0 (Gv.bb BK186.out hb); have n3_ := Gv.a0 (Gv.bb BK187.out hb); have n4_ := Gv.a0 (Gv.bb BK191.out hb); have n5_ := Gv.a0 (below_step Gv.bw hb); clear HO_192001; clear BK186; clear BK187; clear BK191; clear HB; have HO_192001 := n0_; have HO194 := n1_; have BK186 := n2_; have BK187 := n3_; have BK191 := n4_; have HB := n5_; clear n0_ n1_ n2_ n3_ n4_ n5_; clear hb ho17))
     go_loopg [11, 12] k1 (fun kq v11 v12 w' => ∃ (x11_2 : List (S50)) (x12_2 : Int), v12 = .int .i64 x12_2 ∧ Aside0 (spec_l12Without.l1 kq a2 a3 x10_1 x11_2 x12_2 a0_0 l0_1 a1 x192001_1 = some (r1, r2)) ∧ Aside0 (kq ≤ k1) ∧ Aside0 (Kd.R k50 50 w' w.heap.size (fun _ => True) v11 x11_2) ∧ Aside0 (Kd.S k47 47 w' w.heap.size (fun k_ => some k_ ≠ (v11 : Value).ownBlock) u192001 x192001_1) ∧ Aside0 (w'.heap[gb186]? = some (.cells #[.int .i64 a0_0, (.slice A0_1 l0_1.length c0_1)] 24 (0, 0))) ∧ Aside0 (w'.heap[gb187]? = some (.cells #[.int .i64 0, (.slice none 0 0)] 24 (0, 0))) ∧ Aside0 (w'.heap[gb191]? = some (.cells #[.int .i64 a1, u192001] 24 (0, 0))) ∧ Aside0 (Below w.heap.size w w'))
     case atStart => exact ⟨(y192), (0), Gv.rq, H', ⟨Nat.le_refl _⟩, ⟨Gv.kr HO194.out⟩, ⟨by (with_reducible repeat (first | apply Kd.S_alloc | apply Kd.S_drewN | apply Kd.S_drew)); exact Kd.S_mono HO_192001.out (fun _ hk => hk.2)⟩, ⟨by (with_reducible repeat (first | refine blk_drewN ?_ _ | refine blk_drew ?_ | refine blk_alloc ?_ _)); exact BK186.out⟩, ⟨by (with_reducible repeat (first | refine blk_drewN ?_ _ | refine blk_drew ?_ | refine blk_alloc ?_ _)); exact BK187.out⟩, ⟨by (with_reducible repeat (first | refine blk_drewN ?_ _ | refine blk_drew ?_ | refine blk_alloc ?_ _)); exact BK191.out⟩, ⟨Gv.bw⟩⟩
     case round =>
      clear H'
      try clear c1
      try clear p2
      try clear c3
      try clear c5
      try clear c5b0
      try clear c5b1
      try clear c12
      try clear c13
      try clear c15
      try clear c15b0
      try clear hcz14_0 hcz14_1
      try clear hfz14_0 hfz14_1
      try clear p2
      obtain ⟨x11_2, x12_2, rfl, HA, HK2, HO_11, HO_192001, BK186, BK187, BK191, HB⟩ := hrel
      cases gk with
      | zero => exact absurd HA.out (by simp [spec_l12Without.l1])
      | succ k2 =>
       have H := HA.out
       clear HA
       simp only [spec_l12Without.l1] at H
       by_cases c18 : 0 ≤ x10_1
       ·rw [if_pos c18] at H
        have c18b0 : decide (0 ≤ x10_1) = true := decide_eq_true c18
        clear c18
        by_cases c19 : x10_1 < (l0_1.length : Int)
        ·rw [if_pos c19] at H
         have c19b0 : decide (x10_1 < (l0_1.length : Int)) = true := decide_eq_true c19
         clear c19
         by_cases c20 : x12_2 < (((rd_T47 l0_1 x10_1).f0).length : Int)
         ·rw [if_pos c20] at H
          have c20b0 : decide (x12_2 < (((rd_T47 l0_1 x10_1).f0).length : Int)) = true := decide_eq_true c20
          clear c20
          by_cases c21 : 0 ≤ x12_2
          ·rw [if_pos c21] at H
           have c21b0 : decide (0 ≤ x12_2) = true := decide_eq_true c21
           clear c21
           by_cases c22 : ((rd_T50 ((rd_T47 l0_1 x10_1).f0) x12_2).f0) = a2
           ·rw [if_pos c22] at H
            have c22b0 : (((rd_T50 ((rd_T47 l0_1 x10_1).f0) x12_2).f0) == a2) = true := beq_iff_eq.mpr c22
            have c22b1 : (((rd_T50 ((rd_T47 l0_1 x10_1).f0) x12_2).f0) != a2) = false := bne_eq_false_iff_eq.mpr c22
            clear c22
            have H' := Gv.a0 H
            clear H
            have hnb23 := NB186_187.out
            have hnc23 := NB187_186.out
            have hnb24 := NB186_191.out
            have hnc24 := NB191_186.out
            have hcz25_0 : wr.cell? ⟨gb186, 0, none⟩ = some (.int .i64 a0_0) := (blk_cell BK186.out 0).trans rfl
            have hcz25_1 : wr.cell? ⟨gb186, 1, none⟩ = some (.slice A0_1 l0_1.length c0_1) := (blk_cell BK186.out 1).trans rfl
            have hfz25_0 := blk_frozen BK186.out 0
            have hfz25_1 := blk_frozen BK186.out 1
            have p195 : 0 ≤ (x10_1 : Int) := of_decide_eq_true (by first | (with_reducible assumption) | assumption)
            have q195 : x10_1 < (l0_1.length : Int) := of_decide_eq_true (by first | (with_reducible assumption) | assumption)
            obtain ⟨ad195, A195_0, c195_0, e195, hx195_0, hl195_0, hi195_0⟩ := at_T47 HR0_1.out x10_1 p195 q195
            cases e195
            replace hx195_0 := Gv.bx HB.out hx195_0
            have HR195_0 := Gv.a0 hi195_0
            have HC195_0 := Gv.a0 hl195_0
            clear hi195_0 hl195_0
            replace p195 := eq_true p195
            replace q195 := eq_true q195
            have p196 : 0 ≤ (x10_1 : Int) := of_decide_eq_true (by first | (with_reducible assumption) | assumption)
            have q196 : x10_1 < (l0_1.length : Int) := of_decide_eq_true (by first | (with_reducible assumption) | assumption)
            obtain ⟨ad196, A196_0, c196_0, e196, hx196_0, hl196_0, hi196_0⟩ := at_T47 HR0_1.out x10_1 p196 q196
            obtain rfl : ad195 = ad196 := (by injection e196)
            replace hx196_0 := Gv.bx HB.out hx196_0
            have HR196_0 := Gv.a0 hi196_0
            have HC196_0 := Gv.a0 hl196_0
            clear hi196_0 hl196_0
            replace p196 := eq_true p196
            replace q196 := eq_true q196
            have ea_ := Option.some.inj (hx195_0.symm.trans hx196_0)
            injection ea_ with ea_ en_ ec_
            subst ea_
            subst ec_
            clear en_
            have p197 : 0 ≤ (x12_2 : Int) := of_decide_eq_true (by first | (with_reducible assumption) | assumption)
            have q197 : x12_2 < (((rd_T47 l0_1 x10_1).f0).length : Int) := of_decide_eq_true (by first | (with_reducible assumption) | assumption)
            obtain ⟨ad197, e197, hx197_0, hx197_1⟩ := at_T50 HR196_0.out x12_2 p197 q197
            cases e197
            replace hx197_0 := Gv.bx HB.out hx197_0
            replace hx197_1 := Gv.bx HB.out hx197_1
            replace p197 := eq_true p197
            replace q197 := eq_true q197
            go_wp2_with (first | ((with_reducible refine gate_dst (N := 13) rfl ?_); refine box_event ?hg (N := 13) ?hd (cs := #[.int .i64 0, .int .i64 0]) (t := 50) ?hr ?_; (case hd => rfl); (case hg => rfl); (case hr => first | (go_simp; done) | (go_simp; rfl)); intro gb198 hg w26 hbox hb; have n0_ := Gv.a0 (Kd.R_below (Kd.R_elderB (Gv.kr HO_11.out) gb198 (Nat.le_of_eq hg.symm)) hb); have n1_ := Gv.a0 (Kd.S_below (Kd.S_elderB (by (with_reducible repeat (first | apply Kd.S_alloc | apply Kd.S_drewN | apply Kd.S_drew)); exact HO_192001.out) gb198 (Nat.le_of_eq hg.symm)) hb); have n2_ := Gv.a0 (Gv.bb BK186.out hb); have n3_ := Gv.a0 (Gv.bb BK187.out hb); have n4_ := Gv.a0 (Gv.bb BK191.out hb); have n5_ := Gv.a0 (below_step Gv.bw hb); have n6_ := Gv.a0 (hbox); have n7_ := Gv.a0 ((Gv.ble hg Gv.bw : w.heap.size ≤ gb198)); have n8_ := Gv.a0 ((Gv.ble hg Gv.bw : w.heap.size ≤ gb198)); have n9_ := Gv.a0 ((Gv.nlt hg (Gv.kb BK186.out) : gb186 ≠ gb198)); have n10_ := Gv.a0 ((Gv.ngt hg (Gv.kb BK186.out) : gb198 ≠ gb186)); have n11_ := Gv.a0 ((Gv.nlt hg (Gv.kb BK187.out) : gb187 ≠ gb198)); have n12_ := Gv.a0 ((Gv.ngt hg (Gv.kb BK187.out) : gb198 ≠ gb187)); have n13_ := Gv.a0 ((Gv.nlt hg (Gv.kb BK191.out) : gb191 ≠ gb198)); have n14_ := Gv.a0 ((Gv.ngt hg (Gv.kb BK191.out) : gb198 ≠ gb191)); clear HO_11; clear HO_192001; clear BK186; clear BK187; clear BK191; clear HB; have HO_11 := n0_; have HO_192001 := n1_; have BK186 := n2_; have BK187 := n3_; have BK191 := n4_; have HB := n5_; have BK198 := n6_; have GW198 := n7_; have GE198 := n8_; have NB186_198 := n9_; have NB198_186 := n10_; have NB187_198 := n11_; have NB198_187 := n12_; have NB191_198 := n13_; have NB198_191 := n14_; clear n0_ n1_ n2_ n3_ n4_ n5_ n6_ n7_ n8_ n9_ n10_ n11_ n12_ n13_ n14_; clear hb hbox hg; have hnb27 := NB198_186.out; have hnc27 := NB186_198.out; have hnb28 := NB198_187.out; have hnc28 := NB187_198.out; have hnb29 := NB198_191.out; have hnc29 := NB191_198.out; have hcz30_0 : w26.cell? ⟨gb198, 0, none⟩ = some (.int .i64 0) := (blk_cell BK198.out 0).trans rfl; have hcz30_1 : w26.cell? ⟨gb198, 1, none⟩ = some (.int .i64 0) := (blk_cell BK198.out 1).trans rfl; have hfz30_0 := blk_frozen BK198.out 0; have hfz30_1 := blk_frozen BK198.out 1))
            go_roundg k2
            case measure => have := HK1.out; have := HK2.out; omega
            case rel => exact ⟨(x11_2), (wrap64 (x12_2 + 1)), Gv.rq, H', ⟨by have := HK1.out; have := HK2.out; omega⟩, ⟨by (with_reducible repeat (first | apply Kd.R_alloc | apply Kd.R_drewN | apply Kd.R_drew)); exact Kd.R_mono (Kd.R_far (p := ⟨gb198, 1, none⟩) (Kd.R_far (p := ⟨gb198, 0, none⟩) (Kd.R_mono HO_11.out (fun k_ hk => (⟨hk, hk.2⟩ : _ ∧ k_ ≠ gb198))) (fun _ hk => hk.2) (.int .i64 ((rd_T50 ((rd_T47 l0_1 x10_1).f0) x12_2).f0))) (fun _ hk => hk.2) (.int .i64 ((rd_T50 ((rd_T47 l0_1 x10_1).f0) x12_2).f1))) (fun _ hk => trivial)⟩, ⟨by (with_reducible repeat (first | apply Kd.S_alloc | apply Kd.S_drewN | apply Kd.S_drew)); exact Kd.S_mono (Kd.S_far (p := ⟨gb198, 1, none⟩) (Kd.S_far (p := ⟨gb198, 0, none⟩) (Kd.S_mono HO_192001.out (fun k_ hk => (⟨hk, hk.2⟩ : _ ∧ k_ ≠ gb198))) (fun _ hk => hk.2) (.int .i64 ((rd_T50 ((rd_T47 l0_1 x10_1).f0) x12_2).f0))) (fun _ hk => hk.2) (.int .i64 ((rd_T50 ((rd_T47 l0_1 x10_1).f0) x12_2).f1))) (fun _ hk => hk.1.1)⟩, ⟨by (with_reducible repeat (first | refine blk_drewN ?_ _ | refine blk_drew ?_ | refine blk_alloc ?_ _)); refine blk_far ?_ NB186_198.out _; (with_reducible repeat (first | refine blk_drewN ?_ _ | refine blk_drew ?_ | refine blk_alloc ?_ _)); refine blk_far ?_ NB186_198.out _; (with_reducible repeat (first | refine blk_drewN ?_ _ | refine blk_drew ?_ | refine blk_alloc ?_ _)); exact BK186.out⟩, ⟨by (with_reducible repeat (first | refine blk_drewN ?_ _ | refine blk_drew ?_ | refine blk_alloc ?_ _)); refine blk_far ?_ NB187_198.out _; (with_reducible repeat (first | refine blk_drewN ?_ _ | refine blk_drew ?_ | refine blk_alloc ?_ _)); refine blk_far ?_ NB187_198.out _; (with_reducible repeat (first | refine blk_drewN ?_ _ | refine blk_drew ?_ | refine blk_alloc ?_ _)); exact BK187.out⟩, ⟨by (with_reducible repeat (first | refine blk_drewN ?_ _ | refine blk_drew ?_ | refine blk_alloc ?_ _)); refine blk_far ?_ NB191_198.out _; (with_reducible repeat (first | refine blk_drewN ?_ _ | refine blk_drew ?_ | refine blk_alloc ?_ _)); refine blk_far ?_ NB191_198.out _; (with_reducible repeat (first | refine blk_drewN ?_ _ | refine blk_drew ?_ | refine blk_alloc ?_ _)); exact BK191.out⟩, ⟨Gv.bw⟩⟩
           ·rw [if_neg c22] at H
            have c22b0 : (((rd_T50 ((rd_T47 l0_1 x10_1).f0) x12_2).f0) == a2) = false := beq_eq_false_iff_ne.mpr c22
            have c22b1 : (((rd_T50 ((rd_T47 l0_1 x10_1).f0) x12_2).f0) != a2) = true := bne_iff_ne.mpr c22
            by_cases c31 : ((rd_T50 ((rd_T47 l0_1 x10_1).f0) x12_2).f1) = a3
            ·rw [if_pos c31] at H
             have c31b0 : (((rd_T50 ((rd_T47 l0_1 x10_1).f0) x12_2).f1) == a3) = true := beq_iff_eq.mpr c31
             have c31b1 : (((rd_T50 ((rd_T47 l0_1 x10_1).f0) x12_2).f1) != a3) = false := bne_eq_false_iff_eq.mpr c31
             clear c31
             have H' := Gv.a0 H
             clear H
             have hnb32 := NB186_187.out
             have hnc32 := NB187_186.out
             have hnb33 := NB186_191.out
             have hnc33 := NB191_186.out
             have hcz34_0 : wr.cell? ⟨gb186, 0, none⟩ = some (.int .i64 a0_0) := (blk_cell BK186.out 0).trans rfl
             have hcz34_1 : wr.cell? ⟨gb186, 1, none⟩ = some (.slice A0_1 l0_1.length c0_1) := (blk_cell BK186.out 1).trans rfl
             have hfz34_0 := blk_frozen BK186.out 0
             have hfz34_1 := blk_frozen BK186.out 1
             have p195 : 0 ≤ (x10_1 : Int) := of_decide_eq_true (by first | (with_reducible assumption) | assumption)
             have q195 : x10_1 < (l0_1.length : Int) := of_decide_eq_true (by first | (with_reducible assumption) | assumption)
             obtain ⟨ad195, A195_0, c195_0, e195, hx195_0, hl195_0, hi195_0⟩ := at_T47 HR0_1.out x10_1 p195 q195
             cases e195
             replace hx195_0 := Gv.bx HB.out hx195_0
             have HR195_0 := Gv.a0 hi195_0
             have HC195_0 := Gv.a0 hl195_0
             clear hi195_0 hl195_0
             replace p195 := eq_true p195
             replace q195 := eq_true q195
             have p196 : 0 ≤ (x10_1 : Int) := of_decide_eq_true (by first | (with_reducible assumption) | assumption)
             have q196 : x10_1 < (l0_1.length : Int) := of_decide_eq_true (by first | (with_reducible assumption) | assumption)
             obtain ⟨ad196, A196_0, c196_0, e196, hx196_0, hl196_0, hi196_0⟩ := at_T47 HR0_1.out x10_1 p196 q196
             obtain rfl : ad195 = ad196 := (by injection e196)
             replace hx196_0 := Gv.bx HB.out hx196_0
             have HR196_0 := Gv.a0 hi196_0
             have HC196_0 := Gv.a0 hl196_0
             clear hi196_0 hl196_0
             replace p196 := eq_true p196
             replace q196 := eq_true q196
             have ea_ := Option.some.inj (hx195_0.symm.trans hx196_0)
             injection ea_ with ea_ en_ ec_
             subst ea_
             subst ec_
             clear en_
             have p197 : 0 ≤ (x12_2 : Int) := of_decide_eq_true (by first | (with_reducible assumption) | assumption)
             have q197 : x12_2 < (((rd_T47 l0_1 x10_1).f0).length : Int) := of_decide_eq_true (by first | (with_reducible assumption) | assumption)
             obtain ⟨ad197, e197, hx197_0, hx197_1⟩ := at_T50 HR196_0.out x12_2 p197 q197
             cases e197
             replace hx197_0 := Gv.bx HB.out hx197_0
             replace hx197_1 := Gv.bx HB.out hx197_1
             replace p197 := eq_true p197
             replace q197 := eq_true q197
             go_wp2_with (first | ((with_reducible refine gate_dst (N := 13) rfl ?_); refine box_event ?hg (N := 13) ?hd (cs := #[.int .i64 0, .int .i64 0]) (t := 50) ?hr ?_; (case hd => rfl); (case hg => rfl); (case hr => first | (go_simp; done) | (go_simp; rfl)); intro gb198 hg w35 hbox hb; have n0_ := Gv.a0 (Kd.R_below (Kd.R_elderB (Gv.kr HO_11.out) gb198 (Nat.le_of_eq hg.symm)) hb); have n1_ := Gv.a0 (Kd.S_below (Kd.S_elderB (by (with_reducible repeat (first | apply Kd.S_alloc | apply Kd.S_drewN | apply Kd.S_drew)); exact HO_192001.out) gb198 (Nat.le_of_eq hg.symm)) hb); have n2_ := Gv.a0 (Gv.bb BK186.out hb); have n3_ := Gv.a0 (Gv.bb BK187.out hb); have n4_ := Gv.a0 (Gv.bb BK191.out hb); have n5_ := Gv.a0 (below_step Gv.bw hb); have n6_ := Gv.a0 (hbox); have n7_ := Gv.a0 ((Gv.ble hg Gv.bw : w.heap.size ≤ gb198)); have n8_ := Gv.a0 ((Gv.ble hg Gv.bw : w.heap.size ≤ gb198)); have n9_ := Gv.a0 ((Gv.nlt hg (Gv.kb BK186.out) : gb186 ≠ gb198)); have n10_ := Gv.a0 ((Gv.ngt hg (Gv.kb BK186.out) : gb198 ≠ gb186)); have n11_ := Gv.a0 ((Gv.nlt hg (Gv.kb BK187.out) : gb187 ≠ gb198)); have n12_ := Gv.a0 ((Gv.ngt hg (Gv.kb BK187.out) : gb198 ≠ gb187)); have n13_ := Gv.a0 ((Gv.nlt hg (Gv.kb BK191.out) : gb191 ≠ gb198)); have n14_ := Gv.a0 ((Gv.ngt hg (Gv.kb BK191.out) : gb198 ≠ gb191)); clear HO_11; clear HO_192001; clear BK186; clear BK187; clear BK191; clear HB; have HO_11 := n0_; have HO_192001 := n1_; have BK186 := n2_; have BK187 := n3_; have BK191 := n4_; have HB := n5_; have BK198 := n6_; have GW198 := n7_; have GE198 := n8_; have NB186_198 := n9_; have NB198_186 := n10_; have NB187_198 := n11_; have NB198_187 := n12_; have NB191_198 := n13_; have NB198_191 := n14_; clear n0_ n1_ n2_ n3_ n4_ n5_ n6_ n7_ n8_ n9_ n10_ n11_ n12_ n13_ n14_; clear hb hbox hg; have hnb36 := NB198_186.out; have hnc36 := NB186_198.out; have hnb37 := NB198_187.out; have hnc37 := NB187_198.out; have hnb38 := NB198_191.out; have hnc38 := NB191_198.out; have hcz39_0 : w35.cell? ⟨gb198, 0, none⟩ = some (.int .i64 0) := (blk_cell BK198.out 0).trans rfl; have hcz39_1 : w35.cell? ⟨gb198, 1, none⟩ = some (.int .i64 0) := (blk_cell BK198.out 1).trans rfl; have hfz39_0 := blk_frozen BK198.out 0; have hfz39_1 := blk_frozen BK198.out 1))
             go_roundg k2
             case measure => have := HK1.out; have := HK2.out; omega
             case rel => exact ⟨(x11_2), (wrap64 (x12_2 + 1)), Gv.rq, H', ⟨by have := HK1.out; have := HK2.out; omega⟩, ⟨by (with_reducible repeat (first | apply Kd.R_alloc | apply Kd.R_drewN | apply Kd.R_drew)); exact Kd.R_mono (Kd.R_far (p := ⟨gb198, 1, none⟩) (Kd.R_far (p := ⟨gb198, 0, none⟩) (Kd.R_mono HO_11.out (fun k_ hk => (⟨hk, hk.2⟩ : _ ∧ k_ ≠ gb198))) (fun _ hk => hk.2) (.int .i64 ((rd_T50 ((rd_T47 l0_1 x10_1).f0) x12_2).f0))) (fun _ hk => hk.2) (.int .i64 ((rd_T50 ((rd_T47 l0_1 x10_1).f0) x12_2).f1))) (fun _ hk => trivial)⟩, ⟨by (with_reducible repeat (first | apply Kd.S_alloc | apply Kd.S_drewN | apply Kd.S_drew)); exact Kd.S_mono (Kd.S_far (p := ⟨gb198, 1, none⟩) (Kd.S_far (p := ⟨gb198, 0, none⟩) (Kd.S_mono HO_192001.out (fun k_ hk => (⟨hk, hk.2⟩ : _ ∧ k_ ≠ gb198))) (fun _ hk => hk.2) (.int .i64 ((rd_T50 ((rd_T47 l0_1 x10_1).f0) x12_2).f0))) (fun _ hk => hk.2) (.int .i64 ((rd_T50 ((rd_T47 l0_1 x10_1).f0) x12_2).f1))) (fun _ hk => hk.1.1)⟩, ⟨by (with_reducible repeat (first | refine blk_drewN ?_ _ | refine blk_drew ?_ | refine blk_alloc ?_ _)); refine blk_far ?_ NB186_198.out _; (with_reducible repeat (first | refine blk_drewN ?_ _ | refine blk_drew ?_ | refine blk_alloc ?_ _)); refine blk_far ?_ NB186_198.out _; (with_reducible repeat (first | refine blk_drewN ?_ _ | refine blk_drew ?_ | refine blk_alloc ?_ _)); exact BK186.out⟩, ⟨by (with_reducible repeat (first | refine blk_drewN ?_ _ | refine blk_drew ?_ | refine blk_alloc ?_ _)); refine blk_far ?_ NB187_198.out _; (with_reducible repeat (first | refine blk_drewN ?_ _ | refine blk_drew ?_ | refine blk_alloc ?_ _)); refine blk_far ?_ NB187_198.out _; (with_reducible repeat (first | refine blk_drewN ?_ _ | refine blk_drew ?_ | refine blk_alloc ?_ _)); exact BK187.out⟩, ⟨by (with_reducible repeat (first | refine blk_drewN ?_ _ | refine blk_drew ?_ | refine blk_alloc ?_ _)); refine blk_far ?_ NB191_198.out _; (with_reducible repeat (first | refine blk_drewN ?_ _ | refine blk_drew ?_ | refine blk_alloc ?_ _)); refine blk_far ?_ NB191_198.out _; (with_reducible repeat (first | refine blk_drewN ?_ _ | refine blk_drew ?_ | refine blk_alloc ?_ _)); exact BK191.out⟩, ⟨Gv.bw⟩⟩
            ·rw [if_neg c31] at H
             have c31b0 : (((rd_T50 ((rd_T47 l0_1 x10_1).f0) x12_2).f1) == a3) = false := beq_eq_false_iff_ne.mpr c31
             have c31b1 : (((rd_T50 ((rd_T47 l0_1 x10_1).f0) x12_2).f1) != a3) = true := bne_iff_ne.mpr c31
             by_cases c40 : x11_2.length < 8796093022208
             ·rw [if_pos c40] at H
              have LMc40 := Gv.a0 c40
              clear c40
              obtain ⟨y199, hy199⟩ : ∃ y_ : List (S50), y_ = (x11_2 ++ [(⟨(rd_T50 ((rd_T47 l0_1 x10_1).f0) x12_2).f0, (rd_T50 ((rd_T47 l0_1 x10_1).f0) x12_2).f1⟩ : S50)]) := ⟨_, rfl⟩
              replace H : (spec_l12Without.l1 k2 a2 a3 x10_1 y199 (wrap64 (x12_2 + 1)) a0_0 l0_1 a1 x192001_1) = some (r1, r2) := by first | (rw [hy199]; with_reducible exact H) | (have H2_ := (Option.bind_some _ _).symm.trans H; rw [hy199]; with_reducible exact H2_) | (have H2_ := (Option.bind_some _ _).symm.trans H; with_reducible exact H2_) | with_reducible exact H | (rw [hy199]; exact H) | exact H
              have Ny199 := Gv.a0 hy199
              clear hy199
              have H' := Gv.a0 H
              clear H
              have hnb41 := NB186_187.out
              have hnc41 := NB187_186.out
              have hnb42 := NB186_191.out
              have hnc42 := NB191_186.out
              have hcz43_0 : wr.cell? ⟨gb186, 0, none⟩ = some (.int .i64 a0_0) := (blk_cell BK186.out 0).trans rfl
              have hcz43_1 : wr.cell? ⟨gb186, 1, none⟩ = some (.slice A0_1 l0_1.length c0_1) := (blk_cell BK186.out 1).trans rfl
              have hfz43_0 := blk_frozen BK186.out 0
              have hfz43_1 := blk_frozen BK186.out 1
              have p195 : 0 ≤ (x10_1 : Int) := of_decide_eq_true (by first | (with_reducible assumption) | assumption)
              have q195 : x10_1 < (l0_1.length : Int) := of_decide_eq_true (by first | (with_reducible assumption) | assumption)
              obtain ⟨ad195, A195_0, c195_0, e195, hx195_0, hl195_0, hi195_0⟩ := at_T47 HR0_1.out x10_1 p195 q195
              cases e195
              replace hx195_0 := Gv.bx HB.out hx195_0
              have HR195_0 := Gv.a0 hi195_0
              have HC195_0 := Gv.a0 hl195_0
              clear hi195_0 hl195_0
              replace p195 := eq_true p195
              replace q195 := eq_true q195
              have p196 : 0 ≤ (x10_1 : Int) := of_decide_eq_true (by first | (with_reducible assumption) | assumption)
              have q196 : x10_1 < (l0_1.length : Int) := of_decide_eq_true (by first | (with_reducible assumption) | assumption)
              obtain ⟨ad196, A196_0, c196_0, e196, hx196_0, hl196_0, hi196_0⟩ := at_T47 HR0_1.out x10_1 p196 q196
              obtain rfl : ad195 = ad196 := (by injection e196)
              replace hx196_0 := Gv.bx HB.out hx196_0
              have HR196_0 := Gv.a0 hi196_0
              have HC196_0 := Gv.a0 hl196_0
              clear hi196_0 hl196_0
              replace p196 := eq_true p196
              replace q196 := eq_true q196
              have ea_ := Option.some.inj (hx195_0.symm.trans hx196_0)
              injection ea_ with ea_ en_ ec_
              subst ea_
              subst ec_
              clear en_
              have p197 : 0 ≤ (x12_2 : Int) := of_decide_eq_true (by first | (with_reducible assumption) | assumption)
              have q197 : x12_2 < (((rd_T47 l0_1 x10_1).f0).length : Int) := of_decide_eq_true (by first | (with_reducible assumption) | assumption)
              obtain ⟨ad197, e197, hx197_0, hx197_1⟩ := at_T50 HR196_0.out x12_2 p197 q197
              cases e197
              replace hx197_0 := Gv.bx HB.out hx197_0
              replace hx197_1 := Gv.bx HB.out hx197_1
              replace p197 := eq_true p197
              replace q197 := eq_true q197
              go_wp2_with (first | ((with_reducible refine gate_dst (N := 13) rfl ?_); refine box_event ?hg (N := 13) ?hd (cs := #[.int .i64 0, .int .i64 0]) (t := 50) ?hr ?_; (case hd => rfl); (case hg => rfl); (case hr => first | (go_simp; done) | (go_simp; rfl)); intro gb198 hg w44 hbox hb; have n0_ := Gv.a0 (Kd.R_below (Kd.R_elderB (Gv.kr HO_11.out) gb198 (Nat.le_of_eq hg.symm)) hb); have n1_ := Gv.a0 (Kd.S_below (Kd.S_elderB (by (with_reducible repeat (first | apply Kd.S_alloc | apply Kd.S_drewN | apply Kd.S_drew)); exact HO_192001.out) gb198 (Nat.le_of_eq hg.symm)) hb); have n2_ := Gv.a0 (Gv.bb BK186.out hb); have n3_ := Gv.a0 (Gv.bb BK187.out hb); have n4_ := Gv.a0 (Gv.bb BK191.out hb); have n5_ := Gv.a0 (below_step Gv.bw hb); have n6_ := Gv.a0 (hbox); have n7_ := Gv.a0 ((Gv.ble hg Gv.bw : w.heap.size ≤ gb198)); have n8_ := Gv.a0 ((Gv.ble hg Gv.bw : w.heap.size ≤ gb198)); have n9_ := Gv.a0 ((Gv.nlt hg (Gv.kb BK186.out) : gb186 ≠ gb198)); have n10_ := Gv.a0 ((Gv.ngt hg (Gv.kb BK186.out) : gb198 ≠ gb186)); have n11_ := Gv.a0 ((Gv.nlt hg (Gv.kb BK187.out) : gb187 ≠ gb198)); have n12_ := Gv.a0 ((Gv.ngt hg (Gv.kb BK187.out) : gb198 ≠ gb187)); have n13_ := Gv.a0 ((Gv.nlt hg (Gv.kb BK191.out) : gb191 ≠ gb198)); have n14_ := Gv.a0 ((Gv.ngt hg (Gv.kb BK191.out) : gb198 ≠ gb191)); clear HO_11; clear HO_192001; clear BK186; clear BK187; clear BK191; clear HB; have HO_11 := n0_; have HO_192001 := n1_; have BK186 := n2_; have BK187 := n3_; have BK191 := n4_; have HB := n5_; have BK198 := n6_; have GW198 := n7_; have GE198 := n8_; have NB186_198 := n9_; have NB198_186 := n10_; have NB187_198 := n11_; have NB198_187 := n12_; have NB191_198 := n13_; have NB198_191 := n14_; clear n0_ n1_ n2_ n3_ n4_ n5_ n6_ n7_ n8_ n9_ n10_ n11_ n12_ n13_ n14_; clear hb hbox hg; have hnb45 := NB198_186.out; have hnc45 := NB186_198.out; have hnb46 := NB198_187.out; have hnc46 := NB187_198.out; have hnb47 := NB198_191.out; have hnc47 := NB191_198.out; have hcz48_0 : w44.cell? ⟨gb198, 0, none⟩ = some (.int .i64 0) := (blk_cell BK198.out 0).trans rfl; have hcz48_1 : w44.cell? ⟨gb198, 1, none⟩ = some (.int .i64 0) := (blk_cell BK198.out 1).trans rfl; have hfz48_0 := blk_frozen BK198.out 0; have hfz48_1 := blk_frozen BK198.out 1) | ((with_reducible refine gate_builtin (b := .append) (xs := #[.tmp 52, .tmp 54]) rfl ?_); at_builtin; refine Kd.R_append k50 (w0 := w) w.heap.size rfl (.tmp 52) (.tmp 54) 45 50 (.agg #[(.int .i64 0), (.int .i64 0)]) 16 rfl Try.underlying45 info50 rfl (by decide) (by omega) u11 x11_2 (⟨(rd_T50 ((rd_T47 l0_1 x10_1).f0) x12_2).f0, (rd_T50 ((rd_T47 l0_1 x10_1).f0) x12_2).f1⟩ : S50) [.int .i64 ((rd_T50 ((rd_T47 l0_1 x10_1).f0) x12_2).f0), .int .i64 ((rd_T50 ((rd_T47 l0_1 x10_1).f0) x12_2).f1)] (fun k_ => k_ ≠ gb198) (fun _ => False) rfl (by first | (go_simp; done) | (go_simp; rfl)) ?aP (fun _ hk => hk.elim) ?aF ?aO ?aB ?aS ?aL ?_; (case aP => exact k50_mkM _ _ _ (⟨(rd_T50 ((rd_T47 l0_1 x10_1).f0) x12_2).f0, (rd_T50 ((rd_T47 l0_1 x10_1).f0) x12_2).f1⟩ : S50)); (case aB => exact Gv.bw); (case aF => exact (fun k_ hk => Kd.freshB (g := gb198) (o := .cells #[.int .i64 ((rd_T50 ((rd_T47 l0_1 x10_1).f0) x12_2).f0), .int .i64 ((rd_T50 ((rd_T47 l0_1 x10_1).f0) x12_2).f1)] 50 (0, 0)) (by (with_reducible repeat (first | refine blk_drewN ?_ _ | refine blk_drew ?_ | refine blk_alloc ?_ _)); refine blk_put (cs := #[.int .i64 ((rd_T50 ((rd_T47 l0_1 x10_1).f0) x12_2).f0), .int .i64 0]) ?_ 1 _ rfl; (with_reducible repeat (first | refine blk_drewN ?_ _ | refine blk_drew ?_ | refine blk_alloc ?_ _)); refine blk_put (cs := #[.int .i64 0, .int .i64 0]) ?_ 0 _ rfl; (with_reducible repeat (first | refine blk_drewN ?_ _ | refine blk_drew ?_ | refine blk_alloc ?_ _)); exact BK198.out) k_ hk)); (case aO => exact (by (with_reducible repeat (first | apply Kd.R_alloc | apply Kd.R_drewN | apply Kd.R_drew)); exact Kd.R_mono (Kd.R_far (p := ⟨gb198, 1, none⟩) (Kd.R_far (p := ⟨gb198, 0, none⟩) (Kd.R_mono HO_11.out (fun k_ hk => (⟨hk, hk.2⟩ : _ ∧ k_ ≠ gb198))) (fun _ hk => hk.2) (.int .i64 ((rd_T50 ((rd_T47 l0_1 x10_1).f0) x12_2).f0))) (fun _ hk => hk.2) (.int .i64 ((rd_T50 ((rd_T47 l0_1 x10_1).f0) x12_2).f1))) (fun _ hk => hk.1.2))); (case aS => exact (below_size Gv.bw)); (case aL => have := LMc40.out; omega); intro v200 w49 ho hb hg hat; rw [← Ny199.out] at ho; have n0_ := Gv.a0 (Kd.S_after (ok := (fun k_ => k_ ≠ gb198)) (by (with_reducible repeat (first | apply Kd.S_alloc | apply Kd.S_drewN | apply Kd.S_drew)); exact Kd.S_mono (Kd.S_far (p := ⟨gb198, 1, none⟩) (Kd.S_far (p := ⟨gb198, 0, none⟩) (Kd.S_mono HO_192001.out (fun k_ hk => (⟨hk, hk.2⟩ : _ ∧ k_ ≠ gb198))) (fun _ hk => hk.2) (.int .i64 ((rd_T50 ((rd_T47 l0_1 x10_1).f0) x12_2).f0))) (fun _ hk => hk.2) (.int .i64 ((rd_T50 ((rd_T47 l0_1 x10_1).f0) x12_2).f1))) (fun _ hk => ⟨hk.1.2, hk.1.1⟩)) hg hat); have n1_ := Gv.a0 (blk_grown (g := gb186) (o := .cells #[.int .i64 a0_0, .slice (some ad195) l0_1.length c0_1] 24 (0, 0)) Gv.bkf hg (Kd.R_ne HO_11.out BK186.out (by decide))); have n2_ := Gv.a0 (blk_grown (g := gb187) (o := .cells #[.int .i64 0, .slice none 0 0] 24 (0, 0)) Gv.bkf hg (Kd.R_ne HO_11.out BK187.out (by decide))); have n3_ := Gv.a0 (blk_grown (g := gb191) (o := .cells #[.int .i64 a1, u192001] 24 (0, 0)) Gv.bkf hg (Kd.R_ne HO_11.out BK191.out (by decide))); have n4_ := Gv.a0 (blk_grown (g := gb198) (o := .cells #[.int .i64 ((rd_T50 ((rd_T47 l0_1 x10_1).f0) x12_2).f0), .int .i64 ((rd_T50 ((rd_T47 l0_1 x10_1).f0) x12_2).f1)] 50 (0, 0)) (by (with_reducible repeat (first | refine blk_drewN ?_ _ | refine blk_drew ?_ | refine blk_alloc ?_ _)); refine blk_put (cs := #[.int .i64 ((rd_T50 ((rd_T47 l0_1 x10_1).f0) x12_2).f0), .int .i64 0]) ?_ 1 _ rfl; (with_reducible repeat (first | refine blk_drewN ?_ _ | refine blk_drew ?_ | refine blk_alloc ?_ _)); refine blk_put (cs := #[.int .i64 0, .int .i64 0]) ?_ 0 _ rfl; (with_reducible repeat (first | refine blk_drewN ?_ _ | refine blk_drew ?_ | refine blk_alloc ?_ _)); exact BK198.out) hg (Kd.R_away HO_11.out (fun _ hk => hk.2))); have n5_ := Gv.a0 (hb); have n6_ := Gv.a0 (ho); clear HO_192001; clear BK186; clear BK187; clear BK191; clear BK198; clear HB; clear HO_11; have HO_192001 := n0_; have BK186 := n1_; have BK187 := n2_; have BK191 := n3_; have BK198 := n4_; have HB := n5_; have HO201 := n6_; clear n0_ n1_ n2_ n3_ n4_ n5_ n6_; clear ho hb hg hat))
              go_roundg k2
              case measure => have := HK1.out; have := HK2.out; omega
              case rel => exact ⟨(y199), (wrap64 (x12_2 + 1)), Gv.rq, H', ⟨by have := HK1.out; have := HK2.out; omega⟩, ⟨by (with_reducible repeat (first | apply Kd.R_alloc | apply Kd.R_drewN | apply Kd.R_drew)); exact Kd.R_mono HO201.out (fun _ hk => trivial)⟩, ⟨by (with_reducible repeat (first | apply Kd.S_alloc | apply Kd.S_drewN | apply Kd.S_drew)); exact Kd.S_mono HO_192001.out (fun _ hk => hk.2)⟩, ⟨by (with_reducible repeat (first | refine blk_drewN ?_ _ | refine blk_drew ?_ | refine blk_alloc ?_ _)); exact BK186.out⟩, ⟨by (with_reducible repeat (first | refine blk_drewN ?_ _ | refine blk_drew ?_ | refine blk_alloc ?_ _)); exact BK187.out⟩, ⟨by (with_reducible repeat (first | refine blk_drewN ?_ _ | refine blk_drew ?_ | refine blk_alloc ?_ _)); exact BK191.out⟩, ⟨Gv.bw⟩⟩
             ·rw [if_neg c40] at H
              exact absurd H (by simp)
          ·rw [if_neg c21] at H
           exact absurd H (by simp)
         ·rw [if_neg c20] at H
          have c20b0 : decide (x12_2 < (((rd_T47 l0_1 x10_1).f0).length : Int)) = false := decide_eq_false c20
          clear c20
          by_cases c50 : x10_1 < (x192001_1.length : Int)
          ·rw [if_pos c50] at H
           have c50b0 : decide (x10_1 < (x192001_1.length : Int)) = true := decide_eq_true c50
           clear c50
           obtain ⟨y202, hy202⟩ : ∃ y_ : List (S47), y_ = (x192001_1.set (x10_1 : Int).toNat (⟨x11_2⟩ : S47)) := ⟨_, rfl⟩
           replace H : (spec_l12Without.l0 k2 a2 a3 (wrap64 (x10_1 + 1)) a0_0 l0_1 a1 y202) = some (r1, r2) := by first | (rw [hy202]; with_reducible exact H) | (have H2_ := (Option.bind_some _ _).symm.trans H; rw [hy202]; with_reducible exact H2_) | (have H2_ := (Option.bind_some _ _).symm.trans H; with_reducible exact H2_) | with_reducible exact H | (rw [hy202]; exact H) | exact H
           have Ny202 := Gv.a0 hy202
           clear hy202
           have H' := Gv.a0 H
           clear H
           have hnb52 := NB186_187.out
           have hnc52 := NB187_186.out
           have hnb53 := NB186_191.out
           have hnc53 := NB191_186.out
           have hcz54_0 : wr.cell? ⟨gb186, 0, none⟩ = some (.int .i64 a0_0) := (blk_cell BK186.out 0).trans rfl
           have hcz54_1 : wr.cell? ⟨gb186, 1, none⟩ = some (.slice A0_1 l0_1.length c0_1) := (blk_cell BK186.out 1).trans rfl
           have hfz54_0 := blk_frozen BK186.out 0
           have hfz54_1 := blk_frozen BK186.out 1
           have p195 : 0 ≤ (x10_1 : Int) := of_decide_eq_true (by first | (with_reducible assumption) | assumption)
           have q195 : x10_1 < (l0_1.length : Int) := of_decide_eq_true (by first | (with_reducible assumption) | assumption)
           obtain ⟨ad195, A195_0, c195_0, e195, hx195_0, hl195_0, hi195_0⟩ := at_T47 HR0_1.out x10_1 p195 q195
           cases e195
           replace hx195_0 := Gv.bx HB.out hx195_0
           have HR195_0 := Gv.a0 hi195_0
           have HC195_0 := Gv.a0 hl195_0
           clear hi195_0 hl195_0
           replace p195 := eq_true p195
           replace q195 := eq_true q195
           have hnb55 := NB191_187.out
           have hnc55 := NB187_191.out
           have hcz56_0 : wr.cell? ⟨gb191, 0, none⟩ = some (.int .i64 a1) := (blk_cell BK191.out 0).trans rfl
           have hcz56_1 : wr.cell? ⟨gb191, 1, none⟩ = some (u192001) := (blk_cell BK191.out 1).trans rfl
           have hfz56_0 := blk_frozen BK191.out 0
           have hfz56_1 := blk_frozen BK191.out 1
           have p51 : 0 ≤ (x10_1 : Int) := of_decide_eq_true (by first | (with_reducible assumption) | assumption)
           have q51 : (x10_1 : Int) < ((x192001_1.length : Int) : Int) := of_decide_eq_true (by first | (with_reducible assumption) | assumption)
           obtain ⟨go51, co51, eo51, gb51, gl51, cl51, HG51⟩ := Kd.S_form HO_192001.out (by omega)
           (first | cases eo51 | (injection eo51 with ea_ en_ ec_; (first | subst ea_ | (injection ea_ with ea_; subst ea_)); subst ec_; clear en_))
           have GB51 := Gv.a0 gb51
           have GG51 := Gv.a0 HG51
           clear gb51 gl51 HG51
           obtain ⟨_, ce51, hcl51, hM51, hcc51, hfr51, _, _⟩ := Kd.S_elem HO_192001.out z47 (x10_1 : Int) p51 q51
           obtain ⟨ve51_0, rfl, ge51_0⟩ := k47_openM hM51
           have hx51_0 := hcc51 0 _ rfl
           have hf51_0 := hfr51 0
           (try simp only [show (k47).sz = 1 from rfl, Nat.mul_one, Nat.add_zero] at hx51_0)
           (try simp only [show (k47).sz = 1 from rfl, Nat.mul_one, Nat.add_zero] at hf51_0)
           clear hcl51 hcc51 hfr51 hM51
           replace p51 := eq_true p51
           replace q51 := eq_true q51
           obtain ⟨Aou11, cou11, eou11⟩ := Kd.R_slice HO_11.out; subst eou11
           have HX57 := Gv.a0 (show Kd.S k47 47 wr w.heap.size (fun k_ => ((fun _ => True)) k_ ∧ ¬ ((fun k_ => some k_ = ((.slice Aou11 x11_2.length cou11) : Value).ownBlock)) k_) (.slice (some ⟨go51, 0, none⟩) x192001_1.length co51) x192001_1 from (by (with_reducible repeat (first | apply Kd.S_alloc | apply Kd.S_drewN | apply Kd.S_drew)); exact Kd.S_mono HO_192001.out (fun k_ hk => ⟨trivial, fun e_ => hk e_⟩)))
           obtain ⟨oki57, ce57, hcl57, hM57, hcc57, hfr57, hoki57, hH57⟩ := Kd.S_elem HX57.out z47 (x10_1 : Int) (of_decide_eq_true (by first | (with_reducible assumption) | assumption)) (by have h_ : (x10_1 : Int) < ((x192001_1.length : Int) : Int) := of_decide_eq_true (by first | (with_reducible assumption) | assumption); first | exact h_ | (have e_ := (Kd.S_reads' HO_192001.out).1; omega) | simpa using h_)
           obtain ⟨ve57_0, rfl, ge57_0⟩ := k47_openM hM57
           have HP57 := Kd.S_seg hH57 (of_decide_eq_true (by first | (with_reducible assumption) | assumption)) (by have h_ : (x10_1 : Int) < ((x192001_1.length : Int) : Int) := of_decide_eq_true (by first | (with_reducible assumption) | assumption); first | exact h_ | (have e_ := (Kd.S_reads' HO_192001.out).1; omega) | simpa using h_) (seg := [(.slice Aou11 x11_2.length cou11)]) (j := 0) (show 1 ≤ 1 from by decide) (x' := (⟨x11_2⟩ : S47)) (k47_mkM _ _ _ (⟨x11_2⟩ : S47) (Kd.R_mono (Kd.R_tight rfl (Kd.R_mono (ok' := fun k_ => ((fun _ => True)) k_ ∧ k_ ≠ go51) (Kd.R_apart' (HO_11.out) (Kd.S_typed HO_192001.out) (by decide)) (fun k_ hk => ⟨trivial, fun e_ => (hk.2) (by rw [e_]; rfl)⟩))) (fun _ h_ => Or.inr (h_)))) (fun _ hk => hk) (fun k_ hk_ => ((Kd.R_mono (ok' := fun k_ => ((fun _ => True)) k_ ∧ k_ ≠ go51) (Kd.R_apart' (HO_11.out) (Kd.S_typed HO_192001.out) (by decide)) (fun k_ hk => ⟨trivial, fun e_ => (hk.2) (by rw [e_]; rfl)⟩))).1 k_ hk_.symm)
           have hx57_0 := hcc57 0 _ rfl
           (try simp only [show (k47).sz = 1 from rfl, Nat.mul_one, Nat.add_zero] at hx57_0)
           have hf57_0 := hfr57 0
           (try simp only [show (k47).sz = 1 from rfl, Nat.mul_one, Nat.add_zero] at hf57_0)
           clear hcl57 hcc57 hfr57 hM57 hoki57 hH57
           (try simp only [show (k47).sz = 1 from rfl, Nat.mul_one, Nat.add_zero] at HP57)
           go_wp2_with (first | ((with_reducible refine gate_store (t := 45) (p := 61) rfl ?_); refine store_event (t := 45) (p := 61) (v := ?vo_w58) (w1 := (wr.setCell ⟨go51, (x10_1 : Int).toNat, none⟩ ((.slice Aou11 x11_2.length cou11)))) ?hg ?ho ?hn ?hr ?_; (case ho => rfl); (case hg => rfl); (case hn => rfl); (case hr => first | (go_simp; done) | (go_simp; rfl)); intro w58 hw; have hg : wr.grownBy w58 (some go51) := (by rw [hw]; exact HP57.2); have hp_ : Kd.S k47 47 w58 w.heap.size (fun _ => True) (.slice (some ⟨go51, 0, none⟩) x192001_1.length co51) y202 := (by rw [hw, Ny202.out]; exact HP57.1); clear HP57; have n0_ := Gv.a0 (hp_); have n1_ := Gv.a0 (blk_grown (g := gb186) (o := .cells #[.int .i64 a0_0, .slice (some ad195) l0_1.length c0_1] 24 (0, 0)) Gv.bk hg (Kd.S_ne HO_192001.out BK186.out (by decide))); have n2_ := Gv.a0 (blk_grown (g := gb187) (o := .cells #[.int .i64 0, .slice none 0 0] 24 (0, 0)) Gv.bk hg (Kd.S_ne HO_192001.out BK187.out (by decide))); have n3_ := Gv.a0 (blk_grown (g := gb191) (o := .cells #[.int .i64 a1, .slice (some ⟨go51, 0, none⟩) x192001_1.length co51] 24 (0, 0)) Gv.bk hg (Kd.S_ne HO_192001.out BK191.out (by decide))); have n4_ := Gv.a0 ((by rw [hw]; exact below_set (HB.out) GB51.out : Below w.heap.size w w58)); clear HO_192001; clear BK186; clear BK187; clear BK191; clear HB; clear HO_11; have HO_192001 := n0_; have BK186 := n1_; have BK187 := n2_; have BK191 := n3_; have HB := n4_; clear n0_ n1_ n2_ n3_ n4_; clear hg hw hp_))
           go_roundg k2
           case measure => have := HK1.out; have := HK2.out; omega
           case rel => exact ⟨(wrap64 (x10_1 + 1)), (y202), (.slice (some ⟨go51, 0, none⟩) x192001_1.length co51), Gv.rq, H', ⟨by have := HK1.out; have := HK2.out; omega⟩, ⟨by (with_reducible repeat (first | apply Kd.S_alloc | apply Kd.S_drewN | apply Kd.S_drew)); exact HO_192001.out⟩, ⟨by (with_reducible repeat (first | refine blk_drewN ?_ _ | refine blk_drew ?_ | refine blk_alloc ?_ _)); exact BK186.out⟩, ⟨by (with_reducible repeat (first | refine blk_drewN ?_ _ | refine blk_drew ?_ | refine blk_alloc ?_ _)); exact BK187.out⟩, ⟨by (with_reducible repeat (first | refine blk_drewN ?_ _ | refine blk_drew ?_ | refine blk_alloc ?_ _)); exact BK191.out⟩, ⟨Gv.bw⟩⟩
          ·rw [if_neg c50] at H
           exact absurd H (by simp)
        ·rw [if_neg c19] at H
         exact absurd H (by simp)
       ·rw [if_neg c18] at H
        exact absurd H (by simp)
    ·rw [if_neg c15] at H
     have c15b0 : decide (x10_1 < 8) = false := decide_eq_false c15
     clear c15
     simp only [Option.some.injEq, Prod.mk.injEq] at H
     obtain ⟨rfl, rfl⟩ := H
     have hnb59 := NB191_186.out
     have hnc59 := NB186_191.out
     have hnb60 := NB191_187.out
     have hnc60 := NB187_191.out
     have hcz61_0 : wr.cell? ⟨gb191, 0, none⟩ = some (.int .i64 a1) := (blk_cell BK191.out 0).trans rfl
     have hcz61_1 : wr.cell? ⟨gb191, 1, none⟩ = some (u192001) := (blk_cell BK191.out 1).trans rfl
     have hfz61_0 := blk_frozen BK191.out 0
     have hfz61_1 := blk_frozen BK191.out 1
     have hnb62 := NB187_186.out
     have hnc62 := NB186_187.out
     have hcz63_0 : wr.cell? ⟨gb187, 0, none⟩ = some (.int .i64 0) := (blk_cell BK187.out 0).trans rfl
     have hcz63_1 : wr.cell? ⟨gb187, 1, none⟩ = some (.slice none 0 0) := (blk_cell BK187.out 1).trans rfl
     have hfz63_0 := blk_frozen BK187.out 0
     have hfz63_1 := blk_frozen BK187.out 1
     obtain ⟨Ao64, co64, eo64⟩ := Kd.S_slice HO_192001.out
     subst eo64
     go_wp2
     refine bodyPost_ret (results_cell_row rfl _ _ gb187 24 #[.int .i64 a1, .slice Ao64 x192001_1.length co64] (0, 0) _ rfl (by (with_reducible repeat (first | refine blk_drewN ?_ _ | refine blk_drew ?_ | refine blk_alloc ?_ _)); refine blk_put (cs := #[.int .i64 a1, .slice none 0 0]) ?_ 1 _ rfl; (with_reducible repeat (first | refine blk_drewN ?_ _ | refine blk_drew ?_ | refine blk_alloc ?_ _)); refine blk_put (cs := #[.int .i64 0, .slice none 0 0]) ?_ 0 _ rfl; (with_reducible repeat (first | refine blk_drewN ?_ _ | refine blk_drew ?_ | refine blk_alloc ?_ _)); exact BK187.out) Try.underlying24 rfl (by kernel_rfl)) rfl ?_
     exact ⟨_, Gv.rt, by (with_reducible repeat (first | apply Kd.S_alloc | apply Kd.S_drewN | apply Kd.S_drew)); exact Kd.S_mono (Kd.S_far (p := ⟨gb187, 1, none⟩) (Kd.S_far (p := ⟨gb187, 0, none⟩) (Kd.S_types HO_192001.out BK187.out (by decide)) (fun _ hk => hk.2) (.int .i64 a1)) (fun _ hk => hk.2) (.slice Ao64 x192001_1.length co64)) (fun _ hk => trivial), Gv.bw⟩
 ·rw [if_neg c5] at H
  exact absurd H (by simp)

end Go.Proofs.Ytbfbfaoolkbodaa.PWs
