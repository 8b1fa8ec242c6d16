/- Plain Lean functions of a law's Go functions, their contracts, by a program of this session (wip/pr.py over the kit's print). -/
import Derived.Test.YtbfbfaoolkbodaaPWxx0
import Derived.Test.YtbfbfaoolkbodaaPWxx1
namespace Go.Proofs.Ytbfbfaoolkbodaa.PWx
open Go.RowKit Go.Proofs.YtbfbfaoolkbodaaW.PrintWords Go.Proofs.YtbfbfaoolkbodaaW.PrintLast Go.Proofs.YtbfbfaoolkbodaaW.PrintMore
attribute [local go_sem] max2_int min2_int max_two min_two max_three min_three max_four min_four   -- for this text's walks alone
set_option linter.unusedVariables false
set_option linter.unusedSimpArgs false

/-! ### spec_WheelOk: function 14 -/
mutual
def spec_WheelOk.j0 : Nat → Bool → Int → List (S47) → Option (Bool)
 | 0, _, _, _ => none
 | k + 1, x23, x160000, x160001 => if x23 = true then (some false) else (spec_WheelOk.l0 k 0 0 x160000 x160001)
def spec_WheelOk.l0 : Nat → Int → Int → Int → List (S47) → Option (Bool)
 | 0, _, _, _, _ => none
 | k + 1, x3, x4, x160000, x160001 => if x4 < 8 then (if 0 ≤ x4 then (if x4 < (x160001.length : Int) then (if (((rd_T47 x160001 x4).f0).length : Int) > 64 then (some false) else (spec_WheelOk.l0 k (wrap64 (x3 + (((rd_T47 x160001 x4).f0).length : Int))) (wrap64 (x4 + 1)) x160000 x160001)) else (none)) else (none)) else (if x3 > 64 then (some false) else ((spec_l12All.f k x160000 x160001).bind fun t162 => (spec_WheelOk.l1 k t162 0 x160000 x160001)))
def spec_WheelOk.l1 : Nat → List (S50) → Int → Int → List (S47) → Option (Bool)
 | 0, _, _, _, _ => none
 | k + 1, x5, x6, x160000, x160001 => if x6 < (x5.length : Int) then (if 0 ≤ x6 then (if ((rd_T50 x5 x6).f0) < 0 then (spec_WheelOk.j3 k x5 x6 true x160000 x160001) else (if ((rd_T50 x5 x6).f0) > 9999 then (spec_WheelOk.j3 k x5 x6 true x160000 x160001) else (if ((rd_T50 x5 x6).f1) ≤ x160000 then (spec_WheelOk.j3 k x5 x6 true x160000 x160001) else (spec_WheelOk.j3 k x5 x6 (decide (((rd_T50 x5 x6).f1) > (wrap64 (x160000 + 1000)))) x160000 x160001)))) else (none)) else (spec_WheelOk.l3 k 0 x160000 x160001)
def spec_WheelOk.j3 : Nat → List (S50) → Int → Bool → Int → List (S47) → Option (Bool)
 | 0, _, _, _, _, _ => none
 | k + 1, x5, x6, x89, x160000, x160001 => if x89 = true then (some false) else (spec_WheelOk.l2 k x5 x6 0 x160000 x160001)
def spec_WheelOk.l2 : Nat → List (S50) → Int → Int → Int → List (S47) → Option (Bool)
 | 0, _, _, _, _, _ => none
 | k + 1, x5, x6, x7, x160000, x160001 => if x7 < x6 then (if 0 ≤ x7 then (if x7 < (x5.length : Int) then (if 0 ≤ x6 then (if x6 < (x5.length : Int) then (if ((rd_T50 x5 x7).f0) = ((rd_T50 x5 x6).f0) then (some false) else (spec_WheelOk.l2 k x5 x6 (wrap64 (x7 + 1)) x160000 x160001)) else (none)) else (none)) else (none)) else (none)) else (spec_WheelOk.l1 k x5 (wrap64 (x6 + 1)) x160000 x160001)
def spec_WheelOk.l3 : Nat → Int → Int → List (S47) → Option (Bool)
 | 0, _, _, _ => none
 | k + 1, x8, x160000, x160001 => if x8 < 8 then (spec_WheelOk.l4 k x8 0 x160000 x160001) else (some true)
def spec_WheelOk.l4 : Nat → Int → Int → Int → List (S47) → Option (Bool)
 | 0, _, _, _, _ => none
 | k + 1, x8, x9, x160000, x160001 => if 0 ≤ x8 then (if x8 < (x160001.length : Int) then (if x9 < (((rd_T47 x160001 x8).f0).length : Int) then (if 0 ≤ x9 then (if (Int.tmod ((rd_T50 ((rd_T47 x160001 x8).f0) x9).f1) 8) = x8 then (spec_WheelOk.l4 k x8 (wrap64 (x9 + 1)) x160000 x160001) else (some false)) else (none)) else (spec_WheelOk.l3 k (wrap64 (x8 + 1)) x160000 x160001)) else (none)) else (none)
end
def spec_WheelOk.f (k : Nat) (a0_0 : Int) (l0_1 : List (S47)) : Option (Bool) := if a0_0 < 0 then (spec_WheelOk.j0 k true a0_0 l0_1) else (if a0_0 > 1000000000000 then (spec_WheelOk.j0 k true a0_0 l0_1) else (spec_WheelOk.j0 k ((l0_1.length : Int) != 8) a0_0 l0_1))
theorem spec_WheelOk.mono_l : ∀ k, (∀ y0 y1 y2, LeO (spec_WheelOk.j0 k y0 y1 y2) (spec_WheelOk.j0 (k + 1) y0 y1 y2)) ∧ (∀ y0 y1 y2 y3, LeO (spec_WheelOk.l0 k y0 y1 y2 y3) (spec_WheelOk.l0 (k + 1) y0 y1 y2 y3)) ∧ (∀ y0 y1 y2 y3, LeO (spec_WheelOk.l1 k y0 y1 y2 y3) (spec_WheelOk.l1 (k + 1) y0 y1 y2 y3)) ∧ (∀ y0 y1 y2 y3 y4, LeO (spec_WheelOk.j3 k y0 y1 y2 y3 y4) (spec_WheelOk.j3 (k + 1) y0 y1 y2 y3 y4)) ∧ (∀ y0 y1 y2 y3 y4, LeO (spec_WheelOk.l2 k y0 y1 y2 y3 y4) (spec_WheelOk.l2 (k + 1) y0 y1 y2 y3 y4)) ∧ (∀ y0 y1 y2, LeO (spec_WheelOk.l3 k y0 y1 y2) (spec_WheelOk.l3 (k + 1) y0 y1 y2)) ∧ (∀ y0 y1 y2 y3, LeO (spec_WheelOk.l4 k y0 y1 y2 y3) (spec_WheelOk.l4 (k + 1) y0 y1 y2 y3))
 | 0 => ⟨fun _ _ _ r h => by simp [spec_WheelOk.j0] at h, fun _ _ _ _ r h => by simp [spec_WheelOk.l0] at h, fun _ _ _ _ r h => by simp [spec_WheelOk.l1] at h, fun _ _ _ _ _ r h => by simp [spec_WheelOk.j3] at h, fun _ _ _ _ _ r h => by simp [spec_WheelOk.l2] at h, fun _ _ _ r h => by simp [spec_WheelOk.l3] at h, fun _ _ _ _ r h => by simp [spec_WheelOk.l4] at h⟩
 | k + 1 => by
  obtain ⟨ih0, ih1, ih2, ih3, ih4, ih5, ih6⟩ := spec_WheelOk.mono_l k
  refine ⟨?_, ?_, ?_, ?_, ?_, ?_, ?_⟩
  ·intro y0 y1 y2
   unfold spec_WheelOk.j0
   repeat' first
   | (with_reducible exact ih0 _ _ _)
   | (with_reducible exact ih1 _ _ _ _)
   | (with_reducible exact ih2 _ _ _ _)
   | (with_reducible exact ih3 _ _ _ _ _)
   | (with_reducible exact ih4 _ _ _ _ _)
   | (with_reducible exact ih5 _ _ _)
   | (with_reducible exact ih6 _ _ _ _)
   | (with_reducible exact spec_l12All.mono _ _ _)
   | (with_reducible exact LeO.refl _)
   | (with_reducible exact LeO.none _)
   | (with_reducible refine LeO.ite ?_ ?_)
   | (with_reducible refine LeO.bind ?_ (fun _ => ?_))
   | exact ih0 _ _ _
   | exact ih1 _ _ _ _
   | exact ih2 _ _ _ _
   | exact ih3 _ _ _ _ _
   | exact ih4 _ _ _ _ _
   | exact ih5 _ _ _
   | exact ih6 _ _ _ _
   | exact spec_l12All.mono _ _ _
   | exact LeO.none _
   | refine LeO.ite ?_ ?_
   | refine LeO.bind ?_ (fun _ => ?_)
  ·intro y0 y1 y2 y3
   unfold spec_WheelOk.l0
   repeat' first
   | (with_reducible exact ih0 _ _ _)
   | (with_reducible exact ih1 _ _ _ _)
   | (with_reducible exact ih2 _ _ _ _)
   | (with_reducible exact ih3 _ _ _ _ _)
   | (with_reducible exact ih4 _ _ _ _ _)
   | (with_reducible exact ih5 _ _ _)
   | (with_reducible exact ih6 _ _ _ _)
   | (with_reducible exact spec_l12All.mono _ _ _)
   | (with_reducible exact LeO.refl _)
   | (with_reducible exact LeO.none _)
   | (with_reducible refine LeO.ite ?_ ?_)
   | (with_reducible refine LeO.bind ?_ (fun _ => ?_))
   | exact ih0 _ _ _
   | exact ih1 _ _ _ _
   | exact ih2 _ _ _ _
   | exact ih3 _ _ _ _ _
   | exact ih4 _ _ _ _ _
   | exact ih5 _ _ _
   | exact ih6 _ _ _ _
   | exact spec_l12All.mono _ _ _
   | exact LeO.none _
   | refine LeO.ite ?_ ?_
   | refine LeO.bind ?_ (fun _ => ?_)
  ·intro y0 y1 y2 y3
   unfold spec_WheelOk.l1
   repeat' first
   | (with_reducible exact ih0 _ _ _)
   | (with_reducible exact ih1 _ _ _ _)
   | (with_reducible exact ih2 _ _ _ _)
   | (with_reducible exact ih3 _ _ _ _ _)
   | (with_reducible exact ih4 _ _ _ _ _)
   | (with_reducible exact ih5 _ _ _)
   | (with_reducible exact ih6 _ _ _ _)
   | (with_reducible exact spec_l12All.mono _ _ _)
   | (with_reducible exact LeO.refl _)
   | (with_reducible exact LeO.none _)
   | (with_reducible refine LeO.ite ?_ ?_)
   | (with_reducible refine LeO.bind ?_ (fun _ => ?_))
   | exact ih0 _ _ _
   | exact ih1 _ _ _ _
   | exact ih2 _ _ _ _
   | exact ih3 _ _ _ _ _
   | exact ih4 _ _ _ _ _
   | exact ih5 _ _ _
   | exact ih6 _ _ _ _
   | exact spec_l12All.mono _ _ _
   | exact LeO.none _
   | refine LeO.ite ?_ ?_
   | refine LeO.bind ?_ (fun _ => ?_)
  ·intro y0 y1 y2 y3 y4
   unfold spec_WheelOk.j3
   repeat' first
   | (with_reducible exact ih0 _ _ _)
   | (with_reducible exact ih1 _ _ _ _)
   | (with_reducible exact ih2 _ _ _ _)
   | (with_reducible exact ih3 _ _ _ _ _)
   | (with_reducible exact ih4 _ _ _ _ _)
   | (with_reducible exact ih5 _ _ _)
   | (with_reducible exact ih6 _ _ _ _)
   | (with_reducible exact spec_l12All.mono _ _ _)
   | (with_reducible exact LeO.refl _)
   | (with_reducible exact LeO.none _)
   | (with_reducible refine LeO.ite ?_ ?_)
   | (with_reducible refine LeO.bind ?_ (fun _ => ?_))
   | exact ih0 _ _ _
   | exact ih1 _ _ _ _
   | exact ih2 _ _ _ _
   | exact ih3 _ _ _ _ _
   | exact ih4 _ _ _ _ _
   | exact ih5 _ _ _
   | exact ih6 _ _ _ _
   | exact spec_l12All.mono _ _ _
   | exact LeO.none _
   | refine LeO.ite ?_ ?_
   | refine LeO.bind ?_ (fun _ => ?_)
  ·intro y0 y1 y2 y3 y4
   unfold spec_WheelOk.l2
   repeat' first
   | (with_reducible exact ih0 _ _ _)
   | (with_reducible exact ih1 _ _ _ _)
   | (with_reducible exact ih2 _ _ _ _)
   | (with_reducible exact ih3 _ _ _ _ _)
   | (with_reducible exact ih4 _ _ _ _ _)
   | (with_reducible exact ih5 _ _ _)
   | (with_reducible exact ih6 _ _ _ _)
   | (with_reducible exact spec_l12All.mono _ _ _)
   | (with_reducible exact LeO.refl _)
   | (with_reducible exact LeO.none _)
   | (with_reducible refine LeO.ite ?_ ?_)
   | (with_reducible refine LeO.bind ?_ (fun _ => ?_))
   | exact ih0 _ _ _
   | exact ih1 _ _ _ _
   | exact ih2 _ _ _ _
   | exact ih3 _ _ _ _ _
   | exact ih4 _ _ _ _ _
   | exact ih5 _ _ _
   | exact ih6 _ _ _ _
   | exact spec_l12All.mono _ _ _
   | exact LeO.none _
   | refine LeO.ite ?_ ?_
   | refine LeO.bind ?_ (fun _ => ?_)
  ·intro y0 y1 y2
   unfold spec_WheelOk.l3
   repeat' first
   | (with_reducible exact ih0 _ _ _)
   | (with_reducible exact ih1 _ _ _ _)
   | (with_reducible exact ih2 _ _ _ _)
   | (with_reducible exact ih3 _ _ _ _ _)
   | (with_reducible exact ih4 _ _ _ _ _)
   | (with_reducible exact ih5 _ _ _)
   | (with_reducible exact ih6 _ _ _ _)
   | (with_reducible exact spec_l12All.mono _ _ _)
   | (with_reducible exact LeO.refl _)
   | (with_reducible exact LeO.none _)
   | (with_reducible refine LeO.ite ?_ ?_)
   | (with_reducible refine LeO.bind ?_ (fun _ => ?_))
   | exact ih0 _ _ _
   | exact ih1 _ _ _ _
   | exact ih2 _ _ _ _
   | exact ih3 _ _ _ _ _
   | exact ih4 _ _ _ _ _
   | exact ih5 _ _ _
   | exact ih6 _ _ _ _
   | exact spec_l12All.mono _ _ _
   | exact LeO.none _
   | refine LeO.ite ?_ ?_
   | refine LeO.bind ?_ (fun _ => ?_)
  ·intro y0 y1 y2 y3
   unfold spec_WheelOk.l4
   repeat' first
   | (with_reducible exact ih0 _ _ _)
   | (with_reducible exact ih1 _ _ _ _)
   | (with_reducible exact ih2 _ _ _ _)
   | (with_reducible exact ih3 _ _ _ _ _)
   | (with_reducible exact ih4 _ _ _ _ _)
   | (with_reducible exact ih5 _ _ _)
   | (with_reducible exact ih6 _ _ _ _)
   | (with_reducible exact spec_l12All.mono _ _ _)
   | (with_reducible exact LeO.refl _)
   | (with_reducible exact LeO.none _)
   | (with_reducible refine LeO.ite ?_ ?_)
   | (with_reducible refine LeO.bind ?_ (fun _ => ?_))
   | exact ih0 _ _ _
   | exact ih1 _ _ _ _
   | exact ih2 _ _ _ _
   | exact ih3 _ _ _ _ _
   | exact ih4 _ _ _ _ _
   | exact ih5 _ _ _
   | exact ih6 _ _ _ _
   | exact spec_l12All.mono _ _ _
   | exact LeO.none _
   | refine LeO.ite ?_ ?_
   | refine LeO.bind ?_ (fun _ => ?_)
theorem spec_WheelOk.mono : ∀ a0 a1 k, LeO (spec_WheelOk.f k a0 a1) (spec_WheelOk.f (k + 1) a0 a1) := by
 intro a0 a1 k
 obtain ⟨ih0, ih1, ih2, ih3, ih4, ih5, ih6⟩ := spec_WheelOk.mono_l k
 unfold spec_WheelOk.f
 repeat' first
   | (with_reducible exact ih0 _ _ _)
   | (with_reducible exact ih1 _ _ _ _)
   | (with_reducible exact ih2 _ _ _ _)
   | (with_reducible exact ih3 _ _ _ _ _)
   | (with_reducible exact ih4 _ _ _ _ _)
   | (with_reducible exact ih5 _ _ _)
   | (with_reducible exact ih6 _ _ _ _)
   | (with_reducible exact spec_l12All.mono _ _ _)
   | (with_reducible exact LeO.refl _)
   | (with_reducible exact LeO.none _)
   | (with_reducible refine LeO.ite ?_ ?_)
   | (with_reducible refine LeO.bind ?_ (fun _ => ?_))
   | exact ih0 _ _ _
   | exact ih1 _ _ _ _
   | exact ih2 _ _ _ _
   | exact ih3 _ _ _ _ _
   | exact ih4 _ _ _ _ _
   | exact ih5 _ _ _
   | exact ih6 _ _ _ _
   | exact spec_l12All.mono _ _ _
   | exact LeO.none _
   | refine LeO.ite ?_ ?_
   | refine LeO.bind ?_ (fun _ => ?_)
set_option maxHeartbeats 8000000 in
set_option maxRecDepth 100000 in
theorem spec_WheelOk.calls (k : Nat) (a0_0 : Int) (A0_1 : Option Addr) (c0_1 : Nat) (l0_1 : List (S47)) (r : Bool) (w : World) (hr0_1 : Kd.C k47 w A0_1 l0_1.length l0_1) (hc0_1 : l0_1.length ≤ c0_1) (h : spec_WheelOk.f k a0_0 l0_1 = some r) :
  Calls Try.prog 14 #[.agg #[.int .i64 a0_0, .slice A0_1 l0_1.length c0_1]] w fun e w' => e = .returned (.bool r) ∧ Below w.heap.size w w' := by
 have hu24 := Try.underlying24
 have HR0_1 := Gv.a0 hr0_1
 have HC0_1 := Gv.a0 hc0_1
 clear hr0_1 hc0_1
 have HB := Gv.a0 (Below.refl w.heap.size w)
 have H : (if a0_0 < 0 then (spec_WheelOk.j0 k true a0_0 l0_1) else (if a0_0 > 1000000000000 then (spec_WheelOk.j0 k true a0_0 l0_1) else (spec_WheelOk.j0 k ((l0_1.length : Int) != 8) a0_0 l0_1))) = some r := h
 clear h
 have HC2 := Gv.a0 H
 clear H
 go_enter Try.func14, Try.ntmps14
 go_upto_region 1 with (first | ((with_reducible refine gate_dst (N := 1) rfl ?_); (try (refine gate_guard (by rfl) ?_; dsimp only)); refine box_event ?hg (N := 1) ?hd (cs := #[.int .i64 a0_0, .slice A0_1 l0_1.length c0_1]) (t := 24) ?hr ?_; (case hd => rfl); (case hg => rfl); (case hr => first | (go_simp; done) | (go_simp; rfl)); intro gb159 hg w3 hbox hb; have n0_ := Gv.a0 (below_step Gv.bw hb); have n1_ := Gv.a0 (hbox); have n2_ := Gv.a0 ((Gv.ble hg Gv.bw : w.heap.size ≤ gb159)); have n3_ := Gv.a0 ((Gv.ble hg Gv.bw : w.heap.size ≤ gb159)); clear HB; have HB := n0_; have BK159 := n1_; have GW159 := n2_; have GE159 := n3_; clear n0_ n1_ n2_ n3_; clear hb hbox hg))
 repeat (go_quiet (first | ((with_reducible refine gate_dst (N := 1) rfl ?_); (try (refine gate_guard (by rfl) ?_; dsimp only)); refine box_event ?hg (N := 1) ?hd (cs := #[.int .i64 a0_0, .slice A0_1 l0_1.length c0_1]) (t := 24) ?hr ?_; (case hd => rfl); (case hg => rfl); (case hr => first | (go_simp; done) | (go_simp; rfl)); intro gb159 hg w3 hbox hb; have n0_ := Gv.a0 (below_step Gv.bw hb); have n1_ := Gv.a0 (hbox); have n2_ := Gv.a0 ((Gv.ble hg Gv.bw : w.heap.size ≤ gb159)); have n3_ := Gv.a0 ((Gv.ble hg Gv.bw : w.heap.size ≤ gb159)); clear HB; have HB := n0_; have BK159 := n1_; have GW159 := n2_; have GE159 := n3_; clear n0_ n1_ n2_ n3_; clear hb hbox hg)); go_upto_region 1 with (first | ((with_reducible refine gate_dst (N := 1) rfl ?_); (try (refine gate_guard (by rfl) ?_; dsimp only)); refine box_event ?hg (N := 1) ?hd (cs := #[.int .i64 a0_0, .slice A0_1 l0_1.length c0_1]) (t := 24) ?hr ?_; (case hd => rfl); (case hg => rfl); (case hr => first | (go_simp; done) | (go_simp; rfl)); intro gb159 hg w3 hbox hb; have n0_ := Gv.a0 (below_step Gv.bw hb); have n1_ := Gv.a0 (hbox); have n2_ := Gv.a0 ((Gv.ble hg Gv.bw : w.heap.size ≤ gb159)); have n3_ := Gv.a0 ((Gv.ble hg Gv.bw : w.heap.size ≤ gb159)); clear HB; have HB := n0_; have BK159 := n1_; have GW159 := n2_; have GE159 := n3_; clear n0_ n1_ n2_ n3_; clear hb hbox hg)))
 (try simp only [Act.put, List.setIfInBounds_toArray, List.set_cons_zero, List.set_cons_succ])
 go_cut [23] (fun v23 wc => ∃ (kq : Nat) (x23_1 : Bool), v23 = .bool x23_1 ∧ Aside0 (spec_WheelOk.j0 kq x23_1 a0_0 l0_1 = some r) ∧ Aside0 (kq ≤ k) ∧ Aside0 (wc.heap[gb159]? = some (.cells #[.int .i64 a0_0, (.slice A0_1 l0_1.length c0_1)] 24 (0, 0))) ∧ Aside0 (Below w.heap.size w wc))
 case first =>
  have H := HC2.out
  clear HC2
  by_cases c4 : a0_0 < 0
  ·rw [if_pos c4] at H
   have c4b0 : decide (a0_0 < 0) = true := decide_eq_true c4
   clear c4
   (first | rw [c4b0] | (simp only [i64_w, i32_w]; rw [c4b0]) | skip)
   have H' := Gv.a0 H
   clear H
   have hcz5_0 : w3.cell? ⟨gb159, 0, none⟩ = some (.int .i64 a0_0) := (blk_cell BK159.out 0).trans rfl
   have hcz5_1 : w3.cell? ⟨gb159, 1, none⟩ = some (.slice A0_1 l0_1.length c0_1) := (blk_cell BK159.out 1).trans rfl
   have hfz5_0 := blk_frozen BK159.out 0
   have hfz5_1 := blk_frozen BK159.out 1
   go_wp2
   repeat (go_quiet (fail); try go_wp2)
   go_meet
   case rel => exact ⟨_, (true), Gv.rq, H', ⟨by first | omega | exact Nat.le_refl _⟩, ⟨by (with_reducible repeat (first | refine blk_drewN ?_ _ | refine blk_drew ?_ | refine blk_alloc ?_ _)); exact BK159.out⟩, ⟨Gv.bw⟩⟩
  ·rw [if_neg c4] at H
   have c4b0 : decide (a0_0 < 0) = false := decide_eq_false c4
   clear c4
   (first | rw [c4b0] | (simp only [i64_w, i32_w]; rw [c4b0]) | skip)
   by_cases c6 : a0_0 > 1000000000000
   ·rw [if_pos c6] at H
    have c6b0 : decide (1000000000000 < a0_0) = true := decide_eq_true c6
    clear c6
    have H' := Gv.a0 H
    clear H
    have hcz7_0 : w3.cell? ⟨gb159, 0, none⟩ = some (.int .i64 a0_0) := (blk_cell BK159.out 0).trans rfl
    have hcz7_1 : w3.cell? ⟨gb159, 1, none⟩ = some (.slice A0_1 l0_1.length c0_1) := (blk_cell BK159.out 1).trans rfl
    have hfz7_0 := blk_frozen BK159.out 0
    have hfz7_1 := blk_frozen BK159.out 1
    go_wp2
    repeat (go_quiet (fail); try go_wp2)
    go_meet
    case rel => exact ⟨_, (true), Gv.rq, H', ⟨by first | omega | exact Nat.le_refl _⟩, ⟨by (with_reducible repeat (first | refine blk_drewN ?_ _ | refine blk_drew ?_ | refine blk_alloc ?_ _)); exact BK159.out⟩, ⟨Gv.bw⟩⟩
   ·rw [if_neg c6] at H
    have c6b0 : decide (1000000000000 < a0_0) = false := decide_eq_false c6
    clear c6
    have H' := Gv.a0 H
    clear H
    have hcz8_0 : w3.cell? ⟨gb159, 0, none⟩ = some (.int .i64 a0_0) := (blk_cell BK159.out 0).trans rfl
    have hcz8_1 : w3.cell? ⟨gb159, 1, none⟩ = some (.slice A0_1 l0_1.length c0_1) := (blk_cell BK159.out 1).trans rfl
    have hfz8_0 := blk_frozen BK159.out 0
    have hfz8_1 := blk_frozen BK159.out 1
    go_wp2
    repeat (go_quiet (fail); try go_wp2)
    go_meet
    case rel => exact ⟨_, (((l0_1.length : Int) != 8)), Gv.rq, H', ⟨by first | omega | exact Nat.le_refl _⟩, ⟨by (with_reducible repeat (first | refine blk_drewN ?_ _ | refine blk_drew ?_ | refine blk_alloc ?_ _)); exact BK159.out⟩, ⟨Gv.bw⟩⟩
 case rest =>
  clear HC2
  try clear c1
  try clear p2
  try clear c4
  try clear c4b0
  try clear c6
  try clear c6b0
  try clear hcz5_0 hcz5_1
  try clear hcz7_0 hcz7_1
  try clear hcz8_0 hcz8_1
  try clear hfz5_0 hfz5_1
  try clear hfz7_0 hfz7_1
  try clear hfz8_0 hfz8_1
  obtain ⟨kq, x23_1, rfl, HA, HJ1, BK159, HB⟩ := hcut
  cases kq with
  | zero => exact absurd HA.out (by simp [spec_WheelOk.j0])
  | succ kj1 =>
   have H := HA.out
   clear HA
   simp only [spec_WheelOk.j0] at H
   by_cases c9 : x23_1 = true
   ·subst c9
    have H1 : (some false) = some r := by rw [if_pos rfl] at H; exact H
    clear H
    have H := H1
    clear H1
    obtain rfl := Option.some.inj H
    go_wp2
    repeat (go_quiet (fail); try go_wp2)
    go_ret
    exact ⟨Gv.rt, Gv.bw⟩
   ·replace c9 := Bool.eq_false_iff.mpr c9
    subst c9
    have H1 : (spec_WheelOk.l0 kj1 0 0 a0_0 l0_1) = some r := by rw [if_neg (show ¬ (false = true) by decide)] at H; exact H
    clear H
    have H := H1
    clear H1
    have H' := Gv.a0 H
    clear H
    go_wp2
    repeat (go_quiet (fail); try go_wp2)
    go_loopg [3, 4] kj1 (fun kq v3 v4 w' => ∃ (x3_2 : Int) (x4_2 : Int), v3 = .int .i64 x3_2 ∧ v4 = .int .i64 x4_2 ∧ Aside0 (spec_WheelOk.l0 kq x3_2 x4_2 a0_0 l0_1 = some r) ∧ Aside0 (kq ≤ kj1) ∧ Aside0 (w'.heap[gb159]? = some (.cells #[.int .i64 a0_0, (.slice A0_1 l0_1.length c0_1)] 24 (0, 0))) ∧ Aside0 (Below w.heap.size w w'))
    case atStart => exact ⟨(0), (0), Gv.rq, Gv.rq, H', ⟨Nat.le_refl _⟩, ⟨by (with_reducible repeat (first | refine blk_drewN ?_ _ | refine blk_drew ?_ | refine blk_alloc ?_ _)); exact BK159.out⟩, ⟨Gv.bw⟩⟩
    case round =>
     clear H'
     try clear c1
     try clear p2
     try clear c4
     try clear c4b0
     try clear c6
     try clear c6b0
     try clear c9
     try clear hcz5_0 hcz5_1
     try clear hcz7_0 hcz7_1
     try clear hcz8_0 hcz8_1
     try clear hfz5_0 hfz5_1
     try clear hfz7_0 hfz7_1
     try clear hfz8_0 hfz8_1
     try clear p2
     obtain ⟨x3_2, x4_2, rfl, rfl, HA, HK2, BK159, HB⟩ := hrel
     cases gk with
     | zero => exact absurd HA.out (by simp [spec_WheelOk.l0])
     | succ k2 =>
      have H := HA.out
      clear HA
      simp only [spec_WheelOk.l0] at H
      by_cases c10 : x4_2 < 8
      ·rw [if_pos c10] at H
       have c10b0 : decide (x4_2 < 8) = true := decide_eq_true c10
       clear c10
       by_cases c11 : 0 ≤ x4_2
       ·rw [if_pos c11] at H
        have c11b0 : decide (0 ≤ x4_2) = true := decide_eq_true c11
        clear c11
        by_cases c12 : x4_2 < (l0_1.length : Int)
        ·rw [if_pos c12] at H
         have c12b0 : decide (x4_2 < (l0_1.length : Int)) = true := decide_eq_true c12
         clear c12
         by_cases c13 : (((rd_T47 l0_1 x4_2).f0).length : Int) > 64
         ·rw [if_pos c13] at H
          have c13b0 : decide (64 < (((rd_T47 l0_1 x4_2).f0).length : Int)) = true := decide_eq_true c13
          have c13b1 : decide (64 < ((rd_T47 l0_1 x4_2).f0).length) = true := decide_eq_true (by omega)
          clear c13
          obtain rfl := Option.some.inj H
          have hcz14_0 : wr.cell? ⟨gb159, 0, none⟩ = some (.int .i64 a0_0) := (blk_cell BK159.out 0).trans rfl
          have hcz14_1 : wr.cell? ⟨gb159, 1, none⟩ = some (.slice A0_1 l0_1.length c0_1) := (blk_cell BK159.out 1).trans rfl
          have hfz14_0 := blk_frozen BK159.out 0
          have hfz14_1 := blk_frozen BK159.out 1
          have p160 : 0 ≤ (x4_2 : Int) := of_decide_eq_true (by first | (with_reducible assumption) | assumption)
          have q160 : x4_2 < (l0_1.length : Int) := of_decide_eq_true (by first | (with_reducible assumption) | assumption)
          obtain ⟨ad160, A160_0, c160_0, e160, hx160_0, hl160_0, hi160_0⟩ := at_T47 HR0_1.out x4_2 p160 q160
          cases e160
          replace hx160_0 := Gv.bx HB.out hx160_0
          have HR160_0 := Gv.a0 hi160_0
          have HC160_0 := Gv.a0 hl160_0
          clear hi160_0 hl160_0
          replace p160 := eq_true p160
          replace q160 := eq_true q160
          go_wp2
          repeat (go_quiet (fail); try go_wp2)
          go_ret
          exact ⟨Gv.rt, Gv.bw⟩
         ·rw [if_neg c13] at H
          have c13b0 : decide (64 < (((rd_T47 l0_1 x4_2).f0).length : Int)) = false := decide_eq_false c13
          have c13b1 : decide (64 < ((rd_T47 l0_1 x4_2).f0).length) = false := decide_eq_false (by omega)
          clear c13
          have H' := Gv.a0 H
          clear H
          have hcz15_0 : wr.cell? ⟨gb159, 0, none⟩ = some (.int .i64 a0_0) := (blk_cell BK159.out 0).trans rfl
          have hcz15_1 : wr.cell? ⟨gb159, 1, none⟩ = some (.slice A0_1 l0_1.length c0_1) := (blk_cell BK159.out 1).trans rfl
          have hfz15_0 := blk_frozen BK159.out 0
          have hfz15_1 := blk_frozen BK159.out 1
          have p160 : 0 ≤ (x4_2 : Int) := of_decide_eq_true (by first | (with_reducible assumption) | assumption)
          have q160 : x4_2 < (l0_1.length : Int) := of_decide_eq_true (by first | (with_reducible assumption) | assumption)
          obtain ⟨ad160, A160_0, c160_0, e160, hx160_0, hl160_0, hi160_0⟩ := at_T47 HR0_1.out x4_2 p160 q160
          cases e160
          replace hx160_0 := Gv.bx HB.out hx160_0
          have HR160_0 := Gv.a0 hi160_0
          have HC160_0 := Gv.a0 hl160_0
          clear hi160_0 hl160_0
          replace p160 := eq_true p160
          replace q160 := eq_true q160
          have p161 : 0 ≤ (x4_2 : Int) := of_decide_eq_true (by first | (with_reducible assumption) | assumption)
          have q161 : x4_2 < (l0_1.length : Int) := of_decide_eq_true (by first | (with_reducible assumption) | assumption)
          obtain ⟨ad161, A161_0, c161_0, e161, hx161_0, hl161_0, hi161_0⟩ := at_T47 HR0_1.out x4_2 p161 q161
          obtain rfl : ad160 = ad161 := (by injection e161)
          replace hx161_0 := Gv.bx HB.out hx161_0
          have HR161_0 := Gv.a0 hi161_0
          have HC161_0 := Gv.a0 hl161_0
          clear hi161_0 hl161_0
          replace p161 := eq_true p161
          replace q161 := eq_true q161
          have ea_ := Option.some.inj (hx160_0.symm.trans hx161_0)
          injection ea_ with ea_ en_ ec_
          subst ea_
          subst ec_
          clear en_
          go_wp2
          repeat (go_quiet (fail); try go_wp2)
          go_roundg k2
          case measure => have := HJ1.out; have := HK2.out; omega
          case rel => exact ⟨(wrap64 (x3_2 + (((rd_T47 l0_1 x4_2).f0).length : Int))), (wrap64 (x4_2 + 1)), Gv.rq, Gv.rq, H', ⟨by have := HJ1.out; have := HK2.out; omega⟩, ⟨by (with_reducible repeat (first | refine blk_drewN ?_ _ | refine blk_drew ?_ | refine blk_alloc ?_ _)); exact BK159.out⟩, ⟨Gv.bw⟩⟩
        ·rw [if_neg c12] at H
         exact absurd H (by simp)
       ·rw [if_neg c11] at H
        exact absurd H (by simp)
      ·rw [if_neg c10] at H
       have c10b0 : decide (x4_2 < 8) = false := decide_eq_false c10
       clear c10
       by_cases c16 : x3_2 > 64
       ·rw [if_pos c16] at H
        have c16b0 : decide (64 < x3_2) = true := decide_eq_true c16
        clear c16
        obtain rfl := Option.some.inj H
        go_wp2
        repeat (go_quiet (fail); try go_wp2)
        go_ret
        exact ⟨Gv.rt, Gv.bw⟩
       ·rw [if_neg c16] at H
        have c16b0 : decide (64 < x3_2) = false := decide_eq_false c16
        clear c16
        replace H := Option.bind_eq_some_iff.mp H
        obtain ⟨t162, A170, H⟩ := H
        replace H : (spec_WheelOk.l1 k2 t162 0 a0_0 l0_1) = some r := H
        have A17 := Gv.a0 A170
        clear A170
        have H' := Gv.a0 H
        clear H
        have hcz18_0 : wr.cell? ⟨gb159, 0, none⟩ = some (.int .i64 a0_0) := (blk_cell BK159.out 0).trans rfl
        have hcz18_1 : wr.cell? ⟨gb159, 1, none⟩ = some (.slice A0_1 l0_1.length c0_1) := (blk_cell BK159.out 1).trans rfl
        have hfz18_0 := blk_frozen BK159.out 0
        have hfz18_1 := blk_frozen BK159.out 1
        go_wp2_with (first | (go_at_call 28; (with_reducible refine (spec_l12All.calls k2 a0_0 _ _ l0_1 t162 _ ?side1 ?side2 A17.out).mono ?_); (case side1 => repeat (first | exact (Kd.C_below HR0_1.out HB.out) | (with_reducible refine Kd.C_alloc ?_ _) | (with_reducible refine Kd.C_drewN ?_ _) | (with_reducible refine Kd.C_drew ?_))); (case side2 => exact HC0_1.out); rintro e w19 ⟨v163, rfl, ho0, hb⟩; have n0_ := Gv.a0 (Kd.R_lower ho0 (below_size Gv.bw)); have n1_ := Gv.a0 (Gv.bb BK159.out hb); have n2_ := Gv.a0 (below_step Gv.bw hb); clear BK159; clear HB; have HO164 := n0_; have BK159 := n1_; have HB := n2_; clear n0_ n1_ n2_; (try clear hb); (try clear hb2); (try clear hk); (try clear hi); (try clear ho0)))
        repeat (go_quiet (first | (go_at_call 28; (with_reducible refine (spec_l12All.calls k2 a0_0 _ _ l0_1 t162 _ ?side1 ?side2 A17.out).mono ?_); (case side1 => repeat (first | exact (Kd.C_below HR0_1.out HB.out) | (with_reducible refine Kd.C_alloc ?_ _) | (with_reducible refine Kd.C_drewN ?_ _) | (with_reducible refine Kd.C_drew ?_))); (case side2 => exact HC0_1.out); rintro e w19 ⟨v163, rfl, ho0, hb⟩; have n0_ := Gv.a0 (Kd.R_lower ho0 (below_size Gv.bw)); have n1_ := Gv.a0 (Gv.bb BK159.out hb); have n2_ := Gv.a0 (below_step Gv.bw hb); clear BK159; clear HB; have HO164 := n0_; have BK159 := n1_; have HB := n2_; clear n0_ n1_ n2_; (try clear hb); (try clear hb2); (try clear hk); (try clear hi); (try clear ho0))); try go_wp2_with (first | (go_at_call 28; (with_reducible refine (spec_l12All.calls k2 a0_0 _ _ l0_1 t162 _ ?side1 ?side2 A17.out).mono ?_); (case side1 => repeat (first | exact (Kd.C_below HR0_1.out HB.out) | (with_reducible refine Kd.C_alloc ?_ _) | (with_reducible refine Kd.C_drewN ?_ _) | (with_reducible refine Kd.C_drew ?_))); (case side2 => exact HC0_1.out); rintro e w19 ⟨v163, rfl, ho0, hb⟩; have n0_ := Gv.a0 (Kd.R_lower ho0 (below_size Gv.bw)); have n1_ := Gv.a0 (Gv.bb BK159.out hb); have n2_ := Gv.a0 (below_step Gv.bw hb); clear BK159; clear HB; have HO164 := n0_; have BK159 := n1_; have HB := n2_; clear n0_ n1_ n2_; (try clear hb); (try clear hb2); (try clear hk); (try clear hi); (try clear ho0))))
        go_loopg [6] k2 (fun kq v6 w' => ∃ (x6_3 : Int), v6 = .int .i64 x6_3 ∧ Aside0 (spec_WheelOk.l1 kq t162 x6_3 a0_0 l0_1 = some r) ∧ Aside0 (kq ≤ k2) ∧ Aside0 (Kd.R k50 50 w' w.heap.size (fun _ => True) v163 t162) ∧ Aside0 (w'.heap[gb159]? = some (.cells #[.int .i64 a0_0, (.slice A0_1 l0_1.length c0_1)] 24 (0, 0))) ∧ Aside0 (Below w.heap.size w w'))
        case atStart => exact ⟨(0), Gv.rq, H', ⟨Nat.le_refl _⟩, ⟨Gv.kr HO164.out⟩, ⟨by (with_reducible repeat (first | refine blk_drewN ?_ _ | refine blk_drew ?_ | refine blk_alloc ?_ _)); exact BK159.out⟩, ⟨Gv.bw⟩⟩
        case round =>
         clear H'
         try clear c1
         try clear p1
         try clear q1
         try clear hx1
         try clear p2
         try clear c4
         try clear c4b0
         try clear c6
         try clear c6b0
         try clear p6
         try clear c9
         try clear c10
         try clear c10b0
         try clear c11
         try clear c11b0
         try clear c12
         try clear c12b0
         try clear c13
         try clear c13b0
         try clear c13b1
         try clear c14
         try clear c16
         try clear c16b0
         try clear p16
         try clear q16
         try clear hx16
         try clear hcz14_0 hcz14_1
         try clear hcz15_0 hcz15_1
         try clear hcz18_0 hcz18_1
         try clear hcz5_0 hcz5_1
         try clear hcz7_0 hcz7_1
         try clear hcz8_0 hcz8_1
         try clear hfz14_0 hfz14_1
         try clear hfz15_0 hfz15_1
         try clear hfz18_0 hfz18_1
         try clear hfz5_0 hfz5_1
         try clear hfz7_0 hfz7_1
         try clear hfz8_0 hfz8_1
         try clear hx160_0
         try clear hx161_0
         try clear p160
         try clear p161
         try clear p2
         try clear q160
         try clear q161
         obtain ⟨x6_3, rfl, HA, HK3, HO_5, BK159, HB⟩ := hrel
         cases gk with
         | zero => exact absurd HA.out (by simp [spec_WheelOk.l1])
         | succ k3 =>
          have H := HA.out
          clear HA
          simp only [spec_WheelOk.l1] at H
          by_cases c20 : x6_3 < (t162.length : Int)
          ·rw [if_pos c20] at H
           have c20b0 : decide (x6_3 < (t162.length : Int)) = true := decide_eq_true c20
           clear c20
           have HC21 := Gv.a0 H
           clear H
           obtain ⟨Ao22, co22, eo22⟩ := Kd.R_slice HO_5.out
           subst eo22
           go_upto_region 16 with (fail)
           repeat (go_quiet (fail); go_upto_region 16 with (fail))
           go_cut [89] (fun v89 wc => ∃ (kq : Nat) (x89_20 : Bool), v89 = .bool x89_20 ∧ Aside0 (spec_WheelOk.j3 kq t162 x6_3 x89_20 a0_0 l0_1 = some r) ∧ Aside0 (kq ≤ k3) ∧ Aside0 (Kd.R k50 50 wc w.heap.size (fun _ => True) (.slice Ao22 t162.length co22) t162) ∧ Aside0 (wc.heap[gb159]? = some (.cells #[.int .i64 a0_0, (.slice A0_1 l0_1.length c0_1)] 24 (0, 0))) ∧ Aside0 (Below w.heap.size w wc))
           case first =>
            have H := HC21.out
            clear HC21
            by_cases c23 : 0 ≤ x6_3
            ·rw [if_pos c23] at H
             have c23b0 : decide (0 ≤ x6_3) = true := decide_eq_true c23
             clear c23
             (first | rw [c23b0] | (simp only [i64_w, i32_w]; rw [c23b0]) | skip)
             by_cases c24 : ((rd_T50 t162 x6_3).f0) < 0
             ·rw [if_pos c24] at H
              have c24b0 : decide (((rd_T50 t162 x6_3).f0) < 0) = true := decide_eq_true c24
              clear c24
              have H' := Gv.a0 H
              clear H
              have p165 : 0 ≤ (x6_3 : Int) := of_decide_eq_true (by first | (with_reducible assumption) | assumption)
              have q165 : x6_3 < (t162.length : Int) := of_decide_eq_true (by first | (with_reducible assumption) | assumption)
              obtain ⟨ad165, e165, hx165_0, hx165_1⟩ := at_T50 (Kd.R_reads' HO_5.out).2.2 x6_3 p165 q165
              cases e165
              replace p165 := eq_true p165
              replace q165 := eq_true q165
              go_wp2
              repeat (go_quiet (fail); try go_wp2)
              go_meet
              case rel => exact ⟨_, (true), Gv.rq, H', ⟨by have := HJ1.out; have := HK2.out; have := HK3.out; first | omega | exact Nat.le_refl _⟩, ⟨Gv.kr HO_5.out⟩, ⟨by (with_reducible repeat (first | refine blk_drewN ?_ _ | refine blk_drew ?_ | refine blk_alloc ?_ _)); exact BK159.out⟩, ⟨Gv.bw⟩⟩
             ·rw [if_neg c24] at H
              have c24b0 : decide (((rd_T50 t162 x6_3).f0) < 0) = false := decide_eq_false c24
              clear c24
              by_cases c25 : ((rd_T50 t162 x6_3).f0) > 9999
              ·rw [if_pos c25] at H
               have c25b0 : decide (9999 < ((rd_T50 t162 x6_3).f0)) = true := decide_eq_true c25
               clear c25
               have H' := Gv.a0 H
               clear H
               have p165 : 0 ≤ (x6_3 : Int) := of_decide_eq_true (by first | (with_reducible assumption) | assumption)
               have q165 : x6_3 < (t162.length : Int) := of_decide_eq_true (by first | (with_reducible assumption) | assumption)
               obtain ⟨ad165, e165, hx165_0, hx165_1⟩ := at_T50 (Kd.R_reads' HO_5.out).2.2 x6_3 p165 q165
               cases e165
               replace p165 := eq_true p165
               replace q165 := eq_true q165
               have p166 : 0 ≤ (x6_3 : Int) := of_decide_eq_true (by first | (with_reducible assumption) | assumption)
               have q166 : x6_3 < (t162.length : Int) := of_decide_eq_true (by first | (with_reducible assumption) | assumption)
               obtain ⟨ad166, e166, hx166_0, hx166_1⟩ := at_T50 (Kd.R_reads' HO_5.out).2.2 x6_3 p166 q166
               obtain rfl : ad165 = ad166 := (by injection e166)
               replace p166 := eq_true p166
               replace q166 := eq_true q166
               go_wp2
               repeat (go_quiet (fail); try go_wp2)
               go_meet
               case rel => exact ⟨_, (true), Gv.rq, H', ⟨by have := HJ1.out; have := HK2.out; have := HK3.out; first | omega | exact Nat.le_refl _⟩, ⟨Gv.kr HO_5.out⟩, ⟨by (with_reducible repeat (first | refine blk_drewN ?_ _ | refine blk_drew ?_ | refine blk_alloc ?_ _)); exact BK159.out⟩, ⟨Gv.bw⟩⟩
              ·rw [if_neg c25] at H
               have c25b0 : decide (9999 < ((rd_T50 t162 x6_3).f0)) = false := decide_eq_false c25
               clear c25
               by_cases c26 : ((rd_T50 t162 x6_3).f1) ≤ a0_0
               ·rw [if_pos c26] at H
                have c26b0 : decide (((rd_T50 t162 x6_3).f1) ≤ a0_0) = true := decide_eq_true c26
                clear c26
                have H' := Gv.a0 H
                clear H
                have p165 : 0 ≤ (x6_3 : Int) := of_decide_eq_true (by first | (with_reducible assumption) | assumption)
                have q165 : x6_3 < (t162.length : Int) := of_decide_eq_true (by first | (with_reducible assumption) | assumption)
                obtain ⟨ad165, e165, hx165_0, hx165_1⟩ := at_T50 (Kd.R_reads' HO_5.out).2.2 x6_3 p165 q165
                cases e165
                replace p165 := eq_true p165
                replace q165 := eq_true q165
                have p166 : 0 ≤ (x6_3 : Int) := of_decide_eq_true (by first | (with_reducible assumption) | assumption)
                have q166 : x6_3 < (t162.length : Int) := of_decide_eq_true (by first | (with_reducible assumption) | assumption)
                obtain ⟨ad166, e166, hx166_0, hx166_1⟩ := at_T50 (Kd.R_reads' HO_5.out).2.2 x6_3 p166 q166
                obtain rfl : ad165 = ad166 := (by injection e166)
                replace p166 := eq_true p166
                replace q166 := eq_true q166
                have p167 : 0 ≤ (x6_3 : Int) := of_decide_eq_true (by first | (with_reducible assumption) | assumption)
                have q167 : x6_3 < (t162.length : Int) := of_decide_eq_true (by first | (with_reducible assumption) | assumption)
                obtain ⟨ad167, e167, hx167_0, hx167_1⟩ := at_T50 (Kd.R_reads' HO_5.out).2.2 x6_3 p167 q167
                obtain rfl : ad165 = ad167 := (by injection e167)
                replace p167 := eq_true p167
                replace q167 := eq_true q167
                have hcz27_0 : wr.cell? ⟨gb159, 0, none⟩ = some (.int .i64 a0_0) := (blk_cell BK159.out 0).trans rfl
                have hcz27_1 : wr.cell? ⟨gb159, 1, none⟩ = some (.slice A0_1 l0_1.length c0_1) := (blk_cell BK159.out 1).trans rfl
                have hfz27_0 := blk_frozen BK159.out 0
                have hfz27_1 := blk_frozen BK159.out 1
                go_wp2
                repeat (go_quiet (fail); try go_wp2)
                go_meet
                case rel => exact ⟨_, (true), Gv.rq, H', ⟨by have := HJ1.out; have := HK2.out; have := HK3.out; first | omega | exact Nat.le_refl _⟩, ⟨Gv.kr HO_5.out⟩, ⟨by (with_reducible repeat (first | refine blk_drewN ?_ _ | refine blk_drew ?_ | refine blk_alloc ?_ _)); exact BK159.out⟩, ⟨Gv.bw⟩⟩
               ·rw [if_neg c26] at H
                have c26b0 : decide (((rd_T50 t162 x6_3).f1) ≤ a0_0) = false := decide_eq_false c26
                clear c26
                have H' := Gv.a0 H
                clear H
                have p165 : 0 ≤ (x6_3 : Int) := of_decide_eq_true (by first | (with_reducible assumption) | assumption)
                have q165 : x6_3 < (t162.length : Int) := of_decide_eq_true (by first | (with_reducible assumption) | assumption)
                obtain ⟨ad165, e165, hx165_0, hx165_1⟩ := at_T50 (Kd.R_reads' HO_5.out).2.2 x6_3 p165 q165
                cases e165
                replace p165 := eq_true p165
                replace q165 := eq_true q165
                have p166 : 0 ≤ (x6_3 : Int) := of_decide_eq_true (by first | (with_reducible assumption) | assumption)
                have q166 : x6_3 < (t162.length : Int) := of_decide_eq_true (by first | (with_reducible assumption) | assumption)
                obtain ⟨ad166, e166, hx166_0, hx166_1⟩ := at_T50 (Kd.R_reads' HO_5.out).2.2 x6_3 p166 q166
                obtain rfl : ad165 = ad166 := (by injection e166)
                replace p166 := eq_true p166
                replace q166 := eq_true q166
                have p167 : 0 ≤ (x6_3 : Int) := of_decide_eq_true (by first | (with_reducible assumption) | assumption)
                have q167 : x6_3 < (t162.length : Int) := of_decide_eq_true (by first | (with_reducible assumption) | assumption)
                obtain ⟨ad167, e167, hx167_0, hx167_1⟩ := at_T50 (Kd.R_reads' HO_5.out).2.2 x6_3 p167 q167
                obtain rfl : ad165 = ad167 := (by injection e167)
                replace p167 := eq_true p167
                replace q167 := eq_true q167
                have hcz28_0 : wr.cell? ⟨gb159, 0, none⟩ = some (.int .i64 a0_0) := (blk_cell BK159.out 0).trans rfl
                have hcz28_1 : wr.cell? ⟨gb159, 1, none⟩ = some (.slice A0_1 l0_1.length c0_1) := (blk_cell BK159.out 1).trans rfl
                have hfz28_0 := blk_frozen BK159.out 0
                have hfz28_1 := blk_frozen BK159.out 1
                have p168 : 0 ≤ (x6_3 : Int) := of_decide_eq_true (by first | (with_reducible assumption) | assumption)
                have q168 : x6_3 < (t162.length : Int) := of_decide_eq_true (by first | (with_reducible assumption) | assumption)
                obtain ⟨ad168, e168, hx168_0, hx168_1⟩ := at_T50 (Kd.R_reads' HO_5.out).2.2 x6_3 p168 q168
                obtain rfl : ad165 = ad168 := (by injection e168)
                replace p168 := eq_true p168
                replace q168 := eq_true q168
                go_wp2
                repeat (go_quiet (fail); try go_wp2)
                go_meet
                case rel => exact ⟨_, (decide (((rd_T50 t162 x6_3).f1) > (wrap64 (a0_0 + 1000)))), Gv.rq, H', ⟨by have := HJ1.out; have := HK2.out; have := HK3.out; first | omega | exact Nat.le_refl _⟩, ⟨Gv.kr HO_5.out⟩, ⟨by (with_reducible repeat (first | refine blk_drewN ?_ _ | refine blk_drew ?_ | refine blk_alloc ?_ _)); exact BK159.out⟩, ⟨Gv.bw⟩⟩
            ·rw [if_neg c23] at H
             exact absurd H (by simp)
           case rest =>
            clear HC21
            try clear c1
            try clear p1
            try clear q1
            try clear hx1
            try clear c2
            try clear p2
            try clear c4
            try clear c4b0
            try clear c6
            try clear c6b0
            try clear p6
            try clear c9
            try clear c10
            try clear c10b0
            try clear c11
            try clear c11b0
            try clear c12
            try clear c12b0
            try clear c13
            try clear c13b0
            try clear c13b1
            try clear c14
            try clear c16
            try clear c16b0
            try clear p16
            try clear q16
            try clear hx16
            try clear c20
            try clear c20b0
            try clear c23
            try clear c23b0
            try clear c24
            try clear c24b0
            try clear c25
            try clear c25b0
            try clear c26
            try clear c26b0
            try clear hcz14_0 hcz14_1
            try clear hcz15_0 hcz15_1
            try clear hcz18_0 hcz18_1
            try clear hcz27_0 hcz27_1
            try clear hcz28_0 hcz28_1
            try clear hcz5_0 hcz5_1
            try clear hcz7_0 hcz7_1
            try clear hcz8_0 hcz8_1
            try clear hfz14_0 hfz14_1
            try clear hfz15_0 hfz15_1
            try clear hfz18_0 hfz18_1
            try clear hfz27_0 hfz27_1
            try clear hfz28_0 hfz28_1
            try clear hfz5_0 hfz5_1
            try clear hfz7_0 hfz7_1
            try clear hfz8_0 hfz8_1
            try clear hx160_0
            try clear hx161_0
            try clear hx165_0
            try clear hx165_1
            try clear hx166_0
            try clear hx166_1
            try clear hx167_0
            try clear hx167_1
            try clear hx168_0
            try clear hx168_1
            try clear p1
            try clear p16
            try clear p160
            try clear p161
            try clear p165
            try clear p166
            try clear p167
            try clear p168
            try clear p2
            try clear p6
            try clear q1
            try clear q16
            try clear q160
            try clear q161
            try clear q165
            try clear q166
            try clear q167
            try clear q168
            obtain ⟨kq, x89_20, rfl, HA, HJ20, HO_5, BK159, HB⟩ := hcut
            cases kq with
            | zero => exact absurd HA.out (by simp [spec_WheelOk.j3])
            | succ kj20 =>
             have H := HA.out
             clear HA
             simp only [spec_WheelOk.j3] at H
             by_cases c29 : x89_20 = true
             ·subst c29
              have H1 : (some false) = some r := by rw [if_pos rfl] at H; exact H
              clear H
              have H := H1
              clear H1
              obtain rfl := Option.some.inj H
              go_wp2
              repeat (go_quiet (fail); try go_wp2)
              go_ret
              exact ⟨Gv.rt, Gv.bw⟩
             ·replace c29 := Bool.eq_false_iff.mpr c29
              subst c29
              have H1 : (spec_WheelOk.l2 kj20 t162 x6_3 0 a0_0 l0_1) = some r := by rw [if_neg (show ¬ (false = true) by decide)] at H; exact H
              clear H
              have H := H1
              clear H1
              have H' := Gv.a0 H
              clear H
              go_wp2
              repeat (go_quiet (fail); try go_wp2)
              go_loopg [7] kj20 (fun kq v7 w' => ∃ (x7_5 : Int), v7 = .int .i64 x7_5 ∧ Aside0 (spec_WheelOk.l2 kq t162 x6_3 x7_5 a0_0 l0_1 = some r) ∧ Aside0 (kq ≤ kj20) ∧ Aside0 (Kd.R k50 50 w' w.heap.size (fun _ => True) (.slice Ao22 t162.length co22) t162) ∧ Aside0 (w'.heap[gb159]? = some (.cells #[.int .i64 a0_0, (.slice A0_1 l0_1.length c0_1)] 24 (0, 0))) ∧ Aside0 (Below w.heap.size w w'))
              case atStart => exact ⟨(0), Gv.rq, H', ⟨Nat.le_refl _⟩, ⟨Gv.kr HO_5.out⟩, ⟨by (with_reducible repeat (first | refine blk_drewN ?_ _ | refine blk_drew ?_ | refine blk_alloc ?_ _)); exact BK159.out⟩, ⟨Gv.bw⟩⟩
              case round =>
               clear H'
               try clear c1
               try clear p1
               try clear q1
               try clear hx1
               try clear c2
               try clear p2
               try clear c4
               try clear c4b0
               try clear c6
               try clear c6b0
               try clear p6
               try clear c9
               try clear c10
               try clear c10b0
               try clear c11
               try clear c11b0
               try clear c12
               try clear c12b0
               try clear c13
               try clear c13b0
               try clear c13b1
               try clear c14
               try clear c16
               try clear c16b0
               try clear p16
               try clear q16
               try clear hx16
               try clear c20
               try clear c20b0
               try clear c23
               try clear c23b0
               try clear c24
               try clear c24b0
               try clear c25
               try clear c25b0
               try clear c26
               try clear c26b0
               try clear c29
               try clear hcz14_0 hcz14_1
               try clear hcz15_0 hcz15_1
               try clear hcz18_0 hcz18_1
               try clear hcz27_0 hcz27_1
               try clear hcz28_0 hcz28_1
               try clear hcz5_0 hcz5_1
               try clear hcz7_0 hcz7_1
               try clear hcz8_0 hcz8_1
               try clear hfz14_0 hfz14_1
               try clear hfz15_0 hfz15_1
               try clear hfz18_0 hfz18_1
               try clear hfz27_0 hfz27_1
               try clear hfz28_0 hfz28_1
               try clear hfz5_0 hfz5_1
               try clear hfz7_0 hfz7_1
               try clear hfz8_0 hfz8_1
               try clear hx160_0
               try clear hx161_0
               try clear hx165_0
               try clear hx165_1
               try clear hx166_0
               try clear hx166_1
               try clear hx167_0
               try clear hx167_1
               try clear hx168_0
               try clear hx168_1
               try clear p1
               try clear p16
               try clear p160
               try clear p161
               try clear p165
               try clear p166
               try clear p167
               try clear p168
               try clear p2
               try clear p6
               try clear q1
               try clear q16
               try clear q160
               try clear q161
               try clear q165
               try clear q166
               try clear q167
               try clear q168
               obtain ⟨x7_5, rfl, HA, HK5, HO_5, BK159, HB⟩ := hrel
               cases gk with
               | zero => exact absurd HA.out (by simp [spec_WheelOk.l2])
               | succ k5 =>
                have H := HA.out
                clear HA
                simp only [spec_WheelOk.l2] at H
                by_cases c30 : x7_5 < x6_3
                ·rw [if_pos c30] at H
                 have c30b0 : decide (x7_5 < x6_3) = true := decide_eq_true c30
                 clear c30
                 by_cases c31 : 0 ≤ x7_5
                 ·rw [if_pos c31] at H
                  have c31b0 : decide (0 ≤ x7_5) = true := decide_eq_true c31
                  clear c31
                  by_cases c32 : x7_5 < (t162.length : Int)
                  ·rw [if_pos c32] at H
                   have c32b0 : decide (x7_5 < (t162.length : Int)) = true := decide_eq_true c32
                   clear c32
                   by_cases c33 : 0 ≤ x6_3
                   ·rw [if_pos c33] at H
                    have c33b0 : decide (0 ≤ x6_3) = true := decide_eq_true c33
                    clear c33
                    by_cases c34 : x6_3 < (t162.length : Int)
                    ·rw [if_pos c34] at H
                     have c34b0 : decide (x6_3 < (t162.length : Int)) = true := decide_eq_true c34
                     clear c34
                     by_cases c35 : ((rd_T50 t162 x7_5).f0) = ((rd_T50 t162 x6_3).f0)
                     ·rw [if_pos c35] at H
                      have c35b0 : (((rd_T50 t162 x7_5).f0) == ((rd_T50 t162 x6_3).f0)) = true := beq_iff_eq.mpr c35
                      have c35b1 : (((rd_T50 t162 x7_5).f0) != ((rd_T50 t162 x6_3).f0)) = false := bne_eq_false_iff_eq.mpr c35
                      clear c35
                      obtain rfl := Option.some.inj H
                      have p169 : 0 ≤ (x7_5 : Int) := of_decide_eq_true (by first | (with_reducible assumption) | assumption)
                      have q169 : x7_5 < (t162.length : Int) := of_decide_eq_true (by first | (with_reducible assumption) | assumption)
                      obtain ⟨ad169, e169, hx169_0, hx169_1⟩ := at_T50 (Kd.R_reads' HO_5.out).2.2 x7_5 p169 q169
                      cases e169
                      replace p169 := eq_true p169
                      replace q169 := eq_true q169
                      have p170 : 0 ≤ (x6_3 : Int) := of_decide_eq_true (by first | (with_reducible assumption) | assumption)
                      have q170 : x6_3 < (t162.length : Int) := of_decide_eq_true (by first | (with_reducible assumption) | assumption)
                      obtain ⟨ad170, e170, hx170_0, hx170_1⟩ := at_T50 (Kd.R_reads' HO_5.out).2.2 x6_3 p170 q170
                      obtain rfl : ad169 = ad170 := (by injection e170)
                      replace p170 := eq_true p170
                      replace q170 := eq_true q170
                      go_wp2
                      repeat (go_quiet (fail); try go_wp2)
                      go_ret
                      exact ⟨Gv.rt, Gv.bw⟩
                     ·rw [if_neg c35] at H
                      have c35b0 : (((rd_T50 t162 x7_5).f0) == ((rd_T50 t162 x6_3).f0)) = false := beq_eq_false_iff_ne.mpr c35
                      have c35b1 : (((rd_T50 t162 x7_5).f0) != ((rd_T50 t162 x6_3).f0)) = true := bne_iff_ne.mpr c35
                      have H' := Gv.a0 H
                      clear H
                      have p169 : 0 ≤ (x7_5 : Int) := of_decide_eq_true (by first | (with_reducible assumption) | assumption)
                      have q169 : x7_5 < (t162.length : Int) := of_decide_eq_true (by first | (with_reducible assumption) | assumption)
                      obtain ⟨ad169, e169, hx169_0, hx169_1⟩ := at_T50 (Kd.R_reads' HO_5.out).2.2 x7_5 p169 q169
                      cases e169
                      replace p169 := eq_true p169
                      replace q169 := eq_true q169
                      have p170 : 0 ≤ (x6_3 : Int) := of_decide_eq_true (by first | (with_reducible assumption) | assumption)
                      have q170 : x6_3 < (t162.length : Int) := of_decide_eq_true (by first | (with_reducible assumption) | assumption)
                      obtain ⟨ad170, e170, hx170_0, hx170_1⟩ := at_T50 (Kd.R_reads' HO_5.out).2.2 x6_3 p170 q170
                      obtain rfl : ad169 = ad170 := (by injection e170)
                      replace p170 := eq_true p170
                      replace q170 := eq_true q170
                      go_wp2
                      repeat (go_quiet (fail); try go_wp2)
                      go_roundg k5
                      case measure => have := HJ1.out; have := HK2.out; have := HK3.out; have := HJ20.out; have := HK5.out; omega
                      case rel => exact ⟨(wrap64 (x7_5 + 1)), Gv.rq, H', ⟨by have := HJ1.out; have := HK2.out; have := HK3.out; have := HJ20.out; have := HK5.out; omega⟩, ⟨Gv.kr HO_5.out⟩, ⟨by (with_reducible repeat (first | refine blk_drewN ?_ _ | refine blk_drew ?_ | refine blk_alloc ?_ _)); exact BK159.out⟩, ⟨Gv.bw⟩⟩
                    ·rw [if_neg c34] at H
                     exact absurd H (by simp)
                   ·rw [if_neg c33] at H
                    exact absurd H (by simp)
                  ·rw [if_neg c32] at H
                   exact absurd H (by simp)
                 ·rw [if_neg c31] at H
                  exact absurd H (by simp)
                ·rw [if_neg c30] at H
                 have c30b0 : decide (x7_5 < x6_3) = false := decide_eq_false c30
                 clear c30
                 have H' := Gv.a0 H
                 clear H
                 go_wp2
                 repeat (go_quiet (fail); try go_wp2)
                 go_roundg k5
                 case measure => have := HJ1.out; have := HK2.out; have := HK3.out; have := HJ20.out; have := HK5.out; omega
                 case rel => exact ⟨(wrap64 (x6_3 + 1)), Gv.rq, H', ⟨by have := HJ1.out; have := HK2.out; have := HK3.out; have := HJ20.out; have := HK5.out; omega⟩, ⟨Gv.kr HO_5.out⟩, ⟨by (with_reducible repeat (first | refine blk_drewN ?_ _ | refine blk_drew ?_ | refine blk_alloc ?_ _)); exact BK159.out⟩, ⟨Gv.bw⟩⟩
          ·rw [if_neg c20] at H
           have c20b0 : decide (x6_3 < (t162.length : Int)) = false := decide_eq_false c20
           clear c20
           have H' := Gv.a0 H
           clear H
           obtain ⟨Ao36, co36, eo36⟩ := Kd.R_slice HO_5.out
           subst eo36
           go_wp2
           repeat (go_quiet (fail); try go_wp2)
           go_loopg [8] k3 (fun kq v8 w' => ∃ (x8_4 : Int), v8 = .int .i64 x8_4 ∧ Aside0 (spec_WheelOk.l3 kq x8_4 a0_0 l0_1 = some r) ∧ Aside0 (kq ≤ k3) ∧ Aside0 (w'.heap[gb159]? = some (.cells #[.int .i64 a0_0, (.slice A0_1 l0_1.length c0_1)] 24 (0, 0))) ∧ Aside0 (Below w.heap.size w w'))
           case atStart => exact ⟨(0), Gv.rq, H', ⟨Nat.le_refl _⟩, ⟨by (with_reducible repeat (first | refine blk_drewN ?_ _ | refine blk_drew ?_ | refine blk_alloc ?_ _)); exact BK159.out⟩, ⟨Gv.bw⟩⟩
           case round =>
            clear H'
            try clear c1
            try clear p1
            try clear q1
            try clear hx1
            try clear c2
            try clear p2
            try clear c3
            try clear c4
            try clear c4b0
            try clear c6
            try clear c6b0
            try clear p6
            try clear c9
            try clear c10
            try clear c10b0
            try clear c11
            try clear c11b0
            try clear c12
            try clear c12b0
            try clear c13
            try clear c13b0
            try clear c13b1
            try clear c14
            try clear c16
            try clear c16b0
            try clear p16
            try clear q16
            try clear hx16
            try clear p17
            try clear q17
            try clear hx17
            try clear c20
            try clear c20b0
            try clear c23
            try clear c23b0
            try clear c24
            try clear c24b0
            try clear c25
            try clear c25b0
            try clear c26
            try clear c26b0
            try clear c29
            try clear c30
            try clear c30b0
            try clear c31
            try clear c31b0
            try clear c32
            try clear c32b0
            try clear c33
            try clear c33b0
            try clear c34
            try clear c34b0
            try clear c35
            try clear c35b0
            try clear c35b1
            try clear hcz14_0 hcz14_1
            try clear hcz15_0 hcz15_1
            try clear hcz18_0 hcz18_1
            try clear hcz27_0 hcz27_1
            try clear hcz28_0 hcz28_1
            try clear hcz5_0 hcz5_1
            try clear hcz7_0 hcz7_1
            try clear hcz8_0 hcz8_1
            try clear hfz14_0 hfz14_1
            try clear hfz15_0 hfz15_1
            try clear hfz18_0 hfz18_1
            try clear hfz27_0 hfz27_1
            try clear hfz28_0 hfz28_1
            try clear hfz5_0 hfz5_1
            try clear hfz7_0 hfz7_1
            try clear hfz8_0 hfz8_1
            try clear hx160_0
            try clear hx161_0
            try clear hx165_0
            try clear hx165_1
            try clear hx166_0
            try clear hx166_1
            try clear hx167_0
            try clear hx167_1
            try clear hx168_0
            try clear hx168_1
            try clear hx169_0
            try clear hx169_1
            try clear hx170_0
            try clear hx170_1
            try clear p1
            try clear p16
            try clear p160
            try clear p161
            try clear p165
            try clear p166
            try clear p167
            try clear p168
            try clear p169
            try clear p170
            try clear p2
            try clear p6
            try clear q1
            try clear q16
            try clear q160
            try clear q161
            try clear q165
            try clear q166
            try clear q167
            try clear q168
            try clear q169
            try clear q170
            obtain ⟨x8_4, rfl, HA, HK4, BK159, HB⟩ := hrel
            cases gk with
            | zero => exact absurd HA.out (by simp [spec_WheelOk.l3])
            | succ k4 =>
             have H := HA.out
             clear HA
             simp only [spec_WheelOk.l3] at H
             by_cases c37 : x8_4 < 8
             ·rw [if_pos c37] at H
              have c37b0 : decide (x8_4 < 8) = true := decide_eq_true c37
              clear c37
              have H' := Gv.a0 H
              clear H
              go_wp2
              repeat (go_quiet (fail); try go_wp2)
              go_loopg [9] k4 (fun kq v9 w' => ∃ (x9_5 : Int), v9 = .int .i64 x9_5 ∧ Aside0 (spec_WheelOk.l4 kq x8_4 x9_5 a0_0 l0_1 = some r) ∧ Aside0 (kq ≤ k4) ∧ Aside0 (w'.heap[gb159]? = some (.cells #[.int .i64 a0_0, (.slice A0_1 l0_1.length c0_1)] 24 (0, 0))) ∧ Aside0 (Below w.heap.size w w'))
              case atStart => exact ⟨(0), Gv.rq, H', ⟨Nat.le_refl _⟩, ⟨by (with_reducible repeat (first | refine blk_drewN ?_ _ | refine blk_drew ?_ | refine blk_alloc ?_ _)); exact BK159.out⟩, ⟨Gv.bw⟩⟩
              case round =>
               clear H'
               try clear c1
               try clear p1
               try clear q1
               try clear hx1
               try clear c2
               try clear p2
               try clear c3
               try clear c4
               try clear c4b0
               try clear c6
               try clear c6b0
               try clear p6
               try clear c9
               try clear c10
               try clear c10b0
               try clear c11
               try clear c11b0
               try clear c12
               try clear c12b0
               try clear c13
               try clear c13b0
               try clear c13b1
               try clear c14
               try clear c16
               try clear c16b0
               try clear p16
               try clear q16
               try clear hx16
               try clear p17
               try clear q17
               try clear hx17
               try clear c20
               try clear c20b0
               try clear c23
               try clear c23b0
               try clear c24
               try clear c24b0
               try clear c25
               try clear c25b0
               try clear c26
               try clear c26b0
               try clear c29
               try clear c30
               try clear c30b0
               try clear c31
               try clear c31b0
               try clear c32
               try clear c32b0
               try clear c33
               try clear c33b0
               try clear c34
               try clear c34b0
               try clear c35
               try clear c35b0
               try clear c35b1
               try clear c37
               try clear c37b0
               try clear hcz14_0 hcz14_1
               try clear hcz15_0 hcz15_1
               try clear hcz18_0 hcz18_1
               try clear hcz27_0 hcz27_1
               try clear hcz28_0 hcz28_1
               try clear hcz5_0 hcz5_1
               try clear hcz7_0 hcz7_1
               try clear hcz8_0 hcz8_1
               try clear hfz14_0 hfz14_1
               try clear hfz15_0 hfz15_1
               try clear hfz18_0 hfz18_1
               try clear hfz27_0 hfz27_1
               try clear hfz28_0 hfz28_1
               try clear hfz5_0 hfz5_1
               try clear hfz7_0 hfz7_1
               try clear hfz8_0 hfz8_1
               try clear hx160_0
               try clear hx161_0
               try clear hx165_0
               try clear hx165_1
               try clear hx166_0
               try clear hx166_1
               try clear hx167_0
               try clear hx167_1
               try clear hx168_0
               try clear hx168_1
               try clear hx169_0
               try clear hx169_1
               try clear hx170_0
               try clear hx170_1
               try clear p1
               try clear p16
               try clear p160
               try clear p161
               try clear p165
               try clear p166
               try clear p167
               try clear p168
               try clear p169
               try clear p17
               try clear p170
               try clear p2
               try clear p6
               try clear q1
               try clear q16
               try clear q160
               try clear q161
               try clear q165
               try clear q166
               try clear q167
               try clear q168
               try clear q169
               try clear q17
               try clear q170
               obtain ⟨x9_5, rfl, HA, HK5, BK159, HB⟩ := hrel
               cases gk with
               | zero => exact absurd HA.out (by simp [spec_WheelOk.l4])
               | succ k5 =>
                have H := HA.out
                clear HA
                simp only [spec_WheelOk.l4] at H
                by_cases c38 : 0 ≤ x8_4
                ·rw [if_pos c38] at H
                 have c38b0 : decide (0 ≤ x8_4) = true := decide_eq_true c38
                 clear c38
                 by_cases c39 : x8_4 < (l0_1.length : Int)
                 ·rw [if_pos c39] at H
                  have c39b0 : decide (x8_4 < (l0_1.length : Int)) = true := decide_eq_true c39
                  clear c39
                  by_cases c40 : x9_5 < (((rd_T47 l0_1 x8_4).f0).length : Int)
                  ·rw [if_pos c40] at H
                   have c40b0 : decide (x9_5 < (((rd_T47 l0_1 x8_4).f0).length : Int)) = true := decide_eq_true c40
                   clear c40
                   by_cases c41 : 0 ≤ x9_5
                   ·rw [if_pos c41] at H
                    have c41b0 : decide (0 ≤ x9_5) = true := decide_eq_true c41
                    clear c41
                    by_cases c42 : (Int.tmod ((rd_T50 ((rd_T47 l0_1 x8_4).f0) x9_5).f1) 8) = x8_4
                    ·rw [if_pos c42] at H
                     have c42b0 : ((Int.tmod ((rd_T50 ((rd_T47 l0_1 x8_4).f0) x9_5).f1) 8) == x8_4) = true := beq_iff_eq.mpr c42
                     have c42b1 : ((Int.tmod ((rd_T50 ((rd_T47 l0_1 x8_4).f0) x9_5).f1) 8) != x8_4) = false := bne_eq_false_iff_eq.mpr c42
                     clear c42
                     have H' := Gv.a0 H
                     clear H
                     have hcz43_0 : wr.cell? ⟨gb159, 0, none⟩ = some (.int .i64 a0_0) := (blk_cell BK159.out 0).trans rfl
                     have hcz43_1 : wr.cell? ⟨gb159, 1, none⟩ = some (.slice A0_1 l0_1.length c0_1) := (blk_cell BK159.out 1).trans rfl
                     have hfz43_0 := blk_frozen BK159.out 0
                     have hfz43_1 := blk_frozen BK159.out 1
                     have p171 : 0 ≤ (x8_4 : Int) := of_decide_eq_true (by first | (with_reducible assumption) | assumption)
                     have q171 : x8_4 < (l0_1.length : Int) := of_decide_eq_true (by first | (with_reducible assumption) | assumption)
                     obtain ⟨ad171, A171_0, c171_0, e171, hx171_0, hl171_0, hi171_0⟩ := at_T47 HR0_1.out x8_4 p171 q171
                     cases e171
                     replace hx171_0 := Gv.bx HB.out hx171_0
                     have HR171_0 := Gv.a0 hi171_0
                     have HC171_0 := Gv.a0 hl171_0
                     clear hi171_0 hl171_0
                     replace p171 := eq_true p171
                     replace q171 := eq_true q171
                     have p172 : 0 ≤ (x8_4 : Int) := of_decide_eq_true (by first | (with_reducible assumption) | assumption)
                     have q172 : x8_4 < (l0_1.length : Int) := of_decide_eq_true (by first | (with_reducible assumption) | assumption)
                     obtain ⟨ad172, A172_0, c172_0, e172, hx172_0, hl172_0, hi172_0⟩ := at_T47 HR0_1.out x8_4 p172 q172
                     obtain rfl : ad171 = ad172 := (by injection e172)
                     replace hx172_0 := Gv.bx HB.out hx172_0
                     have HR172_0 := Gv.a0 hi172_0
                     have HC172_0 := Gv.a0 hl172_0
                     clear hi172_0 hl172_0
                     replace p172 := eq_true p172
                     replace q172 := eq_true q172
                     have ea_ := Option.some.inj (hx171_0.symm.trans hx172_0)
                     injection ea_ with ea_ en_ ec_
                     subst ea_
                     subst ec_
                     clear en_
                     have p173 : 0 ≤ (x9_5 : Int) := of_decide_eq_true (by first | (with_reducible assumption) | assumption)
                     have q173 : x9_5 < (((rd_T47 l0_1 x8_4).f0).length : Int) := of_decide_eq_true (by first | (with_reducible assumption) | assumption)
                     obtain ⟨ad173, e173, _, hx173_1⟩ := at_T50 HR172_0.out x9_5 p173 q173
                     cases e173
                     replace hx173_1 := Gv.bx HB.out hx173_1
                     replace p173 := eq_true p173
                     replace q173 := eq_true q173
                     go_wp2
                     repeat (go_quiet (fail); try go_wp2)
                     go_roundg k5
                     case measure => have := HJ1.out; have := HK2.out; have := HK3.out; have := HK4.out; have := HK5.out; omega
                     case rel => exact ⟨(wrap64 (x9_5 + 1)), Gv.rq, H', ⟨by have := HJ1.out; have := HK2.out; have := HK3.out; have := HK4.out; have := HK5.out; omega⟩, ⟨by (with_reducible repeat (first | refine blk_drewN ?_ _ | refine blk_drew ?_ | refine blk_alloc ?_ _)); exact BK159.out⟩, ⟨Gv.bw⟩⟩
                    ·rw [if_neg c42] at H
                     have c42b0 : ((Int.tmod ((rd_T50 ((rd_T47 l0_1 x8_4).f0) x9_5).f1) 8) == x8_4) = false := beq_eq_false_iff_ne.mpr c42
                     have c42b1 : ((Int.tmod ((rd_T50 ((rd_T47 l0_1 x8_4).f0) x9_5).f1) 8) != x8_4) = true := bne_iff_ne.mpr c42
                     obtain rfl := Option.some.inj H
                     have hcz44_0 : wr.cell? ⟨gb159, 0, none⟩ = some (.int .i64 a0_0) := (blk_cell BK159.out 0).trans rfl
                     have hcz44_1 : wr.cell? ⟨gb159, 1, none⟩ = some (.slice A0_1 l0_1.length c0_1) := (blk_cell BK159.out 1).trans rfl
                     have hfz44_0 := blk_frozen BK159.out 0
                     have hfz44_1 := blk_frozen BK159.out 1
                     have p171 : 0 ≤ (x8_4 : Int) := of_decide_eq_true (by first | (with_reducible assumption) | assumption)
                     have q171 : x8_4 < (l0_1.length : Int) := of_decide_eq_true (by first | (with_reducible assumption) | assumption)
                     obtain ⟨ad171, A171_0, c171_0, e171, hx171_0, hl171_0, hi171_0⟩ := at_T47 HR0_1.out x8_4 p171 q171
                     cases e171
                     replace hx171_0 := Gv.bx HB.out hx171_0
                     have HR171_0 := Gv.a0 hi171_0
                     have HC171_0 := Gv.a0 hl171_0
                     clear hi171_0 hl171_0
                     replace p171 := eq_true p171
                     replace q171 := eq_true q171
                     have p172 : 0 ≤ (x8_4 : Int) := of_decide_eq_true (by first | (with_reducible assumption) | assumption)
                     have q172 : x8_4 < (l0_1.length : Int) := of_decide_eq_true (by first | (with_reducible assumption) | assumption)
                     obtain ⟨ad172, A172_0, c172_0, e172, hx172_0, hl172_0, hi172_0⟩ := at_T47 HR0_1.out x8_4 p172 q172
                     obtain rfl : ad171 = ad172 := (by injection e172)
                     replace hx172_0 := Gv.bx HB.out hx172_0
                     have HR172_0 := Gv.a0 hi172_0
                     have HC172_0 := Gv.a0 hl172_0
                     clear hi172_0 hl172_0
                     replace p172 := eq_true p172
                     replace q172 := eq_true q172
                     have ea_ := Option.some.inj (hx171_0.symm.trans hx172_0)
                     injection ea_ with ea_ en_ ec_
                     subst ea_
                     subst ec_
                     clear en_
                     have p173 : 0 ≤ (x9_5 : Int) := of_decide_eq_true (by first | (with_reducible assumption) | assumption)
                     have q173 : x9_5 < (((rd_T47 l0_1 x8_4).f0).length : Int) := of_decide_eq_true (by first | (with_reducible assumption) | assumption)
                     obtain ⟨ad173, e173, _, hx173_1⟩ := at_T50 HR172_0.out x9_5 p173 q173
                     cases e173
                     replace hx173_1 := Gv.bx HB.out hx173_1
                     replace p173 := eq_true p173
                     replace q173 := eq_true q173
                     go_wp2
                     repeat (go_quiet (fail); try go_wp2)
                     go_ret
                     exact ⟨Gv.rt, Gv.bw⟩
                   ·rw [if_neg c41] at H
                    exact absurd H (by simp)
                  ·rw [if_neg c40] at H
                   have c40b0 : decide (x9_5 < (((rd_T47 l0_1 x8_4).f0).length : Int)) = false := decide_eq_false c40
                   clear c40
                   have H' := Gv.a0 H
                   clear H
                   have hcz45_0 : wr.cell? ⟨gb159, 0, none⟩ = some (.int .i64 a0_0) := (blk_cell BK159.out 0).trans rfl
                   have hcz45_1 : wr.cell? ⟨gb159, 1, none⟩ = some (.slice A0_1 l0_1.length c0_1) := (blk_cell BK159.out 1).trans rfl
                   have hfz45_0 := blk_frozen BK159.out 0
                   have hfz45_1 := blk_frozen BK159.out 1
                   have p171 : 0 ≤ (x8_4 : Int) := of_decide_eq_true (by first | (with_reducible assumption) | assumption)
                   have q171 : x8_4 < (l0_1.length : Int) := of_decide_eq_true (by first | (with_reducible assumption) | assumption)
                   obtain ⟨ad171, A171_0, c171_0, e171, hx171_0, hl171_0, hi171_0⟩ := at_T47 HR0_1.out x8_4 p171 q171
                   cases e171
                   replace hx171_0 := Gv.bx HB.out hx171_0
                   have HR171_0 := Gv.a0 hi171_0
                   have HC171_0 := Gv.a0 hl171_0
                   clear hi171_0 hl171_0
                   replace p171 := eq_true p171
                   replace q171 := eq_true q171
                   go_wp2
                   repeat (go_quiet (fail); try go_wp2)
                   go_roundg k5
                   case measure => have := HJ1.out; have := HK2.out; have := HK3.out; have := HK4.out; have := HK5.out; omega
                   case rel => exact ⟨(wrap64 (x8_4 + 1)), Gv.rq, H', ⟨by have := HJ1.out; have := HK2.out; have := HK3.out; have := HK4.out; have := HK5.out; omega⟩, ⟨by (with_reducible repeat (first | refine blk_drewN ?_ _ | refine blk_drew ?_ | refine blk_alloc ?_ _)); exact BK159.out⟩, ⟨Gv.bw⟩⟩
                 ·rw [if_neg c39] at H
                  exact absurd H (by simp)
                ·rw [if_neg c38] at H
                 exact absurd H (by simp)
             ·rw [if_neg c37] at H
              have c37b0 : decide (x8_4 < 8) = false := decide_eq_false c37
              clear c37
              obtain rfl := Option.some.inj H
              go_wp2
              repeat (go_quiet (fail); try go_wp2)
              go_ret
              exact ⟨Gv.rt, Gv.bw⟩

/-! ### spec_WheelNext: function 17 -/
def spec_WheelNext.l0 : Nat → List (S50) → Int → Int → Option (Int)
 | 0, _, _, _ => none
 | k + 1, x3, x4, x5 => if x5 < (x3.length : Int) then (if x4 < 0 then (if 0 ≤ x5 then (spec_WheelNext.l0 k x3 ((rd_T50 x3 x5).f1) (wrap64 (x5 + 1))) else (none)) else (if 0 ≤ x5 then (if ((rd_T50 x3 x5).f1) < x4 then (spec_WheelNext.l0 k x3 ((rd_T50 x3 x5).f1) (wrap64 (x5 + 1))) else (spec_WheelNext.l0 k x3 x4 (wrap64 (x5 + 1)))) else (none))) else (some x4)
def spec_WheelNext.f (k : Nat) (a0_0 : Int) (l0_1 : List (S47)) : Option (Int) := (spec_WheelOk.f k a0_0 l0_1).bind fun t175 => (if t175 = true then ((spec_l12All.f k a0_0 l0_1).bind fun t176 => (spec_WheelNext.l0 k t176 (-1) 0)) else (some (-1)))
theorem spec_WheelNext.mono_l : ∀ k, (∀ y0 y1 y2, LeO (spec_WheelNext.l0 k y0 y1 y2) (spec_WheelNext.l0 (k + 1) y0 y1 y2))
 | 0 => fun _ _ _ r h => by simp [spec_WheelNext.l0] at h
 | k + 1 => by
  have ih0 := spec_WheelNext.mono_l k
  ·intro y0 y1 y2
   unfold spec_WheelNext.l0
   repeat' first
   | (with_reducible exact ih0 _ _ _)
   | (with_reducible exact spec_WheelOk.mono _ _ _)
   | (with_reducible exact spec_l12All.mono _ _ _)
   | (with_reducible exact LeO.refl _)
   | (with_reducible exact LeO.none _)
   | (with_reducible refine LeO.ite ?_ ?_)
   | (with_reducible refine LeO.bind ?_ (fun _ => ?_))
   | exact ih0 _ _ _
   | exact spec_WheelOk.mono _ _ _
   | exact spec_l12All.mono _ _ _
   | exact LeO.none _
   | refine LeO.ite ?_ ?_
   | refine LeO.bind ?_ (fun _ => ?_)
theorem spec_WheelNext.mono : ∀ a0 a1 k, LeO (spec_WheelNext.f k a0 a1) (spec_WheelNext.f (k + 1) a0 a1) := by
 intro a0 a1 k
 have ih0 := spec_WheelNext.mono_l k
 unfold spec_WheelNext.f
 repeat' first
   | (with_reducible exact ih0 _ _ _)
   | (with_reducible exact spec_WheelOk.mono _ _ _)
   | (with_reducible exact spec_l12All.mono _ _ _)
   | (with_reducible exact LeO.refl _)
   | (with_reducible exact LeO.none _)
   | (with_reducible refine LeO.ite ?_ ?_)
   | (with_reducible refine LeO.bind ?_ (fun _ => ?_))
   | exact ih0 _ _ _
   | exact spec_WheelOk.mono _ _ _
   | exact spec_l12All.mono _ _ _
   | exact LeO.none _
   | refine LeO.ite ?_ ?_
   | refine LeO.bind ?_ (fun _ => ?_)
set_option maxHeartbeats 8000000 in
set_option maxRecDepth 100000 in
theorem spec_WheelNext.calls (k : Nat) (a0_0 : Int) (A0_1 : Option Addr) (c0_1 : Nat) (l0_1 : List (S47)) (r : Int) (w : World) (hr0_1 : Kd.C k47 w A0_1 l0_1.length l0_1) (hc0_1 : l0_1.length ≤ c0_1) (h : spec_WheelNext.f k a0_0 l0_1 = some r) :
  Calls Try.prog 17 #[.agg #[.int .i64 a0_0, .slice A0_1 l0_1.length c0_1]] w fun e w' => e = .returned (.int .i64 r) ∧ Below w.heap.size w w' := by
 have hu24 := Try.underlying24
 have HR0_1 := Gv.a0 hr0_1
 have HC0_1 := Gv.a0 hc0_1
 clear hr0_1 hc0_1
 have HB := Gv.a0 (Below.refl w.heap.size w)
 have H : ((spec_WheelOk.f k a0_0 l0_1).bind fun t175 => (if t175 = true then ((spec_l12All.f k a0_0 l0_1).bind fun t176 => (spec_WheelNext.l0 k t176 (-1) 0)) else (some (-1)))) = some r := h
 clear h
 replace H := Option.bind_eq_some_iff.mp H
 obtain ⟨t175, A20, H⟩ := H
 replace H : (if t175 = true then ((spec_l12All.f k a0_0 l0_1).bind fun t176 => (spec_WheelNext.l0 k t176 (-1) 0)) else (some (-1))) = some r := H
 have A2 := Gv.a0 A20
 clear A20
 by_cases c3 : t175 = true
 ·subst c3
  have H1 : ((spec_l12All.f k a0_0 l0_1).bind fun t176 => (spec_WheelNext.l0 k t176 (-1) 0)) = some r := by rw [if_pos rfl] at H; exact H
  clear H
  have H := H1
  clear H1
  replace H := Option.bind_eq_some_iff.mp H
  obtain ⟨t176, A40, H⟩ := H
  replace H : (spec_WheelNext.l0 k t176 (-1) 0) = some r := H
  have A4 := Gv.a0 A40
  clear A40
  have H' := Gv.a0 H
  clear H
  go_enter Try.func17, Try.ntmps17
  go_wp2_with (first | ((with_reducible refine gate_dst (N := 1) rfl ?_); refine box_event ?hg (N := 1) ?hd (cs := #[.int .i64 a0_0, .slice A0_1 l0_1.length c0_1]) (t := 24) ?hr ?_; (case hd => rfl); (case hg => rfl); (case hr => first | (go_simp; done) | (go_simp; rfl)); intro gb174 hg w5 hbox hb; have n0_ := Gv.a0 (below_step Gv.bw hb); have n1_ := Gv.a0 (hbox); have n2_ := Gv.a0 ((Gv.ble hg Gv.bw : w.heap.size ≤ gb174)); have n3_ := Gv.a0 ((Gv.ble hg Gv.bw : w.heap.size ≤ gb174)); clear HB; have HB := n0_; have BK174 := n1_; have GW174 := n2_; have GE174 := n3_; clear n0_ n1_ n2_ n3_; clear hb hbox hg; have hcz6_0 : w5.cell? ⟨gb174, 0, none⟩ = some (.int .i64 a0_0) := (blk_cell BK174.out 0).trans rfl; have hcz6_1 : w5.cell? ⟨gb174, 1, none⟩ = some (.slice A0_1 l0_1.length c0_1) := (blk_cell BK174.out 1).trans rfl; have hfz6_0 := blk_frozen BK174.out 0; have hfz6_1 := blk_frozen BK174.out 1) | ((with_reducible refine gate_callee (f := 14) rfl ?_); refine goesL_ (some 7) rfl rfl Try.func14 (by kernel_rfl) rfl #[.agg #[.int .i64 a0_0, .slice A0_1 l0_1.length c0_1]] rfl Gv.lm ?_; (with_reducible refine (spec_WheelOk.calls k a0_0 _ _ l0_1 true _ ?side1 ?side2 A2.out).mono ?_); (case side1 => repeat (first | exact (Kd.C_below HR0_1.out HB.out) | (with_reducible refine Kd.C_alloc ?_ _) | (with_reducible refine Kd.C_drewN ?_ _) | (with_reducible refine Kd.C_drew ?_))); (case side2 => exact HC0_1.out); rintro e w7 ⟨rfl, hb⟩; refine ⟨_, rfl, ?_⟩; have n0_ := Gv.a0 (Gv.bb BK174.out hb); have n1_ := Gv.a0 (below_step Gv.bw hb); clear BK174; clear HB; have BK174 := n0_; have HB := n1_; clear n0_ n1_; (try clear hb); (try clear hb2); (try clear hk); (try clear hi); have hcz8_0 : w7.cell? ⟨gb174, 0, none⟩ = some (.int .i64 a0_0) := (blk_cell BK174.out 0).trans rfl; have hcz8_1 : w7.cell? ⟨gb174, 1, none⟩ = some (.slice A0_1 l0_1.length c0_1) := (blk_cell BK174.out 1).trans rfl; have hfz8_0 := blk_frozen BK174.out 0; have hfz8_1 := blk_frozen BK174.out 1) | ((with_reducible refine gate_callee (f := 28) rfl ?_); refine goesL_ (some 10) rfl rfl Try.func28 (by kernel_rfl) rfl #[.agg #[.int .i64 a0_0, .slice A0_1 l0_1.length c0_1]] rfl Gv.lm ?_; (with_reducible refine (spec_l12All.calls k a0_0 _ _ l0_1 t176 _ ?side1 ?side2 A4.out).mono ?_); (case side1 => repeat (first | exact (Kd.C_below HR0_1.out HB.out) | (with_reducible refine Kd.C_alloc ?_ _) | (with_reducible refine Kd.C_drewN ?_ _) | (with_reducible refine Kd.C_drew ?_))); (case side2 => exact HC0_1.out); rintro e w9 ⟨v177, rfl, ho0, hb⟩; refine ⟨_, rfl, ?_⟩; have n0_ := Gv.a0 (Kd.R_lower ho0 (below_size Gv.bw)); have n1_ := Gv.a0 (Gv.bb BK174.out hb); have n2_ := Gv.a0 (below_step Gv.bw hb); clear BK174; clear HB; have HO178 := n0_; have BK174 := n1_; have HB := n2_; clear n0_ n1_ n2_; (try clear hb); (try clear hb2); (try clear hk); (try clear hi); (try clear ho0)))
  go_loopg [4, 5] k (fun kq v4 v5 w' => ∃ (x4_1 : Int) (x5_1 : Int), v4 = .int .i64 x4_1 ∧ v5 = .int .i64 x5_1 ∧ Aside0 (spec_WheelNext.l0 kq t176 x4_1 x5_1 = some r) ∧ Aside0 (kq ≤ k) ∧ Aside0 (Kd.R k50 50 w' w.heap.size (fun _ => True) v177 t176) ∧ Aside0 (w'.heap[gb174]? = some (.cells #[.int .i64 a0_0, (.slice A0_1 l0_1.length c0_1)] 24 (0, 0))) ∧ Aside0 (Below w.heap.size w w'))
  case atStart => exact ⟨((-1)), (0), Gv.rq, Gv.rq, H', ⟨Nat.le_refl _⟩, ⟨Gv.kr HO178.out⟩, ⟨by (with_reducible repeat (first | refine blk_drewN ?_ _ | refine blk_drew ?_ | refine blk_alloc ?_ _)); exact BK174.out⟩, ⟨Gv.bw⟩⟩
  case round =>
   clear H'
   try clear c1
   try clear c2
   try clear p2
   try clear c3
   try clear hcz6_0 hcz6_1
   try clear hcz8_0 hcz8_1
   try clear hfz6_0 hfz6_1
   try clear hfz8_0 hfz8_1
   obtain ⟨x4_1, x5_1, rfl, rfl, HA, HK1, HO_3, BK174, HB⟩ := hrel
   cases gk with
   | zero => exact absurd HA.out (by simp [spec_WheelNext.l0])
   | succ k1 =>
    have H := HA.out
    clear HA
    simp only [spec_WheelNext.l0] at H
    by_cases c10 : x5_1 < (t176.length : Int)
    ·rw [if_pos c10] at H
     have c10b0 : decide (x5_1 < (t176.length : Int)) = true := decide_eq_true c10
     clear c10
     by_cases c11 : x4_1 < 0
     ·rw [if_pos c11] at H
      have c11b0 : decide (x4_1 < 0) = true := decide_eq_true c11
      clear c11
      by_cases c12 : 0 ≤ x5_1
      ·rw [if_pos c12] at H
       have c12b0 : decide (0 ≤ x5_1) = true := decide_eq_true c12
       clear c12
       have H' := Gv.a0 H
       clear H
       obtain ⟨Ao13, co13, eo13⟩ := Kd.R_slice HO_3.out
       subst eo13
       have p179 : 0 ≤ (x5_1 : Int) := of_decide_eq_true (by first | (with_reducible assumption) | assumption)
       have q179 : x5_1 < (t176.length : Int) := of_decide_eq_true (by first | (with_reducible assumption) | assumption)
       obtain ⟨ad179, e179, _, hx179_1⟩ := at_T50 (Kd.R_reads' HO_3.out).2.2 x5_1 p179 q179
       cases e179
       replace p179 := eq_true p179
       replace q179 := eq_true q179
       go_wp2
       go_roundg k1
       case measure => have := HK1.out; omega
       case rel => exact ⟨((rd_T50 t176 x5_1).f1), (wrap64 (x5_1 + 1)), Gv.rq, Gv.rq, H', ⟨by have := HK1.out; omega⟩, ⟨Gv.kr HO_3.out⟩, ⟨by (with_reducible repeat (first | refine blk_drewN ?_ _ | refine blk_drew ?_ | refine blk_alloc ?_ _)); exact BK174.out⟩, ⟨Gv.bw⟩⟩
      ·rw [if_neg c12] at H
       exact absurd H (by simp)
     ·rw [if_neg c11] at H
      have c11b0 : decide (x4_1 < 0) = false := decide_eq_false c11
      clear c11
      by_cases c14 : 0 ≤ x5_1
      ·rw [if_pos c14] at H
       have c14b0 : decide (0 ≤ x5_1) = true := decide_eq_true c14
       clear c14
       by_cases c15 : ((rd_T50 t176 x5_1).f1) < x4_1
       ·rw [if_pos c15] at H
        have c15b0 : decide (((rd_T50 t176 x5_1).f1) < x4_1) = true := decide_eq_true c15
        clear c15
        have H' := Gv.a0 H
        clear H
        obtain ⟨Ao16, co16, eo16⟩ := Kd.R_slice HO_3.out
        subst eo16
        have p180 : 0 ≤ (x5_1 : Int) := of_decide_eq_true (by first | (with_reducible assumption) | assumption)
        have q180 : x5_1 < (t176.length : Int) := of_decide_eq_true (by first | (with_reducible assumption) | assumption)
        obtain ⟨ad180, e180, _, hx180_1⟩ := at_T50 (Kd.R_reads' HO_3.out).2.2 x5_1 p180 q180
        cases e180
        replace p180 := eq_true p180
        replace q180 := eq_true q180
        have p181 : 0 ≤ (x5_1 : Int) := of_decide_eq_true (by first | (with_reducible assumption) | assumption)
        have q181 : x5_1 < (t176.length : Int) := of_decide_eq_true (by first | (with_reducible assumption) | assumption)
        obtain ⟨ad181, e181, _, hx181_1⟩ := at_T50 (Kd.R_reads' HO_3.out).2.2 x5_1 p181 q181
        obtain rfl : ad180 = ad181 := (by injection e181)
        replace p181 := eq_true p181
        replace q181 := eq_true q181
        go_wp2
        go_roundg k1
        case measure => have := HK1.out; omega
        case rel => exact ⟨((rd_T50 t176 x5_1).f1), (wrap64 (x5_1 + 1)), Gv.rq, Gv.rq, H', ⟨by have := HK1.out; omega⟩, ⟨Gv.kr HO_3.out⟩, ⟨by (with_reducible repeat (first | refine blk_drewN ?_ _ | refine blk_drew ?_ | refine blk_alloc ?_ _)); exact BK174.out⟩, ⟨Gv.bw⟩⟩
       ·rw [if_neg c15] at H
        have c15b0 : decide (((rd_T50 t176 x5_1).f1) < x4_1) = false := decide_eq_false c15
        clear c15
        have H' := Gv.a0 H
        clear H
        obtain ⟨Ao17, co17, eo17⟩ := Kd.R_slice HO_3.out
        subst eo17
        have p180 : 0 ≤ (x5_1 : Int) := of_decide_eq_true (by first | (with_reducible assumption) | assumption)
        have q180 : x5_1 < (t176.length : Int) := of_decide_eq_true (by first | (with_reducible assumption) | assumption)
        obtain ⟨ad180, e180, _, hx180_1⟩ := at_T50 (Kd.R_reads' HO_3.out).2.2 x5_1 p180 q180
        cases e180
        replace p180 := eq_true p180
        replace q180 := eq_true q180
        go_wp2
        go_roundg k1
        case measure => have := HK1.out; omega
        case rel => exact ⟨(x4_1), (wrap64 (x5_1 + 1)), Gv.rq, Gv.rq, H', ⟨by have := HK1.out; omega⟩, ⟨Gv.kr HO_3.out⟩, ⟨by (with_reducible repeat (first | refine blk_drewN ?_ _ | refine blk_drew ?_ | refine blk_alloc ?_ _)); exact BK174.out⟩, ⟨Gv.bw⟩⟩
      ·rw [if_neg c14] at H
       exact absurd H (by simp)
    ·rw [if_neg c10] at H
     have c10b0 : decide (x5_1 < (t176.length : Int)) = false := decide_eq_false c10
     clear c10
     obtain rfl := Option.some.inj H
     obtain ⟨Ao18, co18, eo18⟩ := Kd.R_slice HO_3.out
     subst eo18
     go_wp2
     go_ret
     exact ⟨Gv.rt, Gv.bw⟩
 ·replace c3 := Bool.eq_false_iff.mpr c3
  subst c3
  have H1 : (some (-1)) = some r := by rw [if_neg (show ¬ (false = true) by decide)] at H; exact H
  clear H
  have H := H1
  clear H1
  obtain rfl := Option.some.inj H
  go_enter Try.func17, Try.ntmps17
  go_wp2_with (first | ((with_reducible refine gate_dst (N := 1) rfl ?_); refine box_event ?hg (N := 1) ?hd (cs := #[.int .i64 a0_0, .slice A0_1 l0_1.length c0_1]) (t := 24) ?hr ?_; (case hd => rfl); (case hg => rfl); (case hr => first | (go_simp; done) | (go_simp; rfl)); intro gb174 hg w19 hbox hb; have n0_ := Gv.a0 (below_step Gv.bw hb); have n1_ := Gv.a0 (hbox); have n2_ := Gv.a0 ((Gv.ble hg Gv.bw : w.heap.size ≤ gb174)); have n3_ := Gv.a0 ((Gv.ble hg Gv.bw : w.heap.size ≤ gb174)); clear HB; have HB := n0_; have BK174 := n1_; have GW174 := n2_; have GE174 := n3_; clear n0_ n1_ n2_ n3_; clear hb hbox hg; have hcz20_0 : w19.cell? ⟨gb174, 0, none⟩ = some (.int .i64 a0_0) := (blk_cell BK174.out 0).trans rfl; have hcz20_1 : w19.cell? ⟨gb174, 1, none⟩ = some (.slice A0_1 l0_1.length c0_1) := (blk_cell BK174.out 1).trans rfl; have hfz20_0 := blk_frozen BK174.out 0; have hfz20_1 := blk_frozen BK174.out 1) | ((with_reducible refine gate_callee (f := 14) rfl ?_); refine goesL_ (some 7) rfl rfl Try.func14 (by kernel_rfl) rfl #[.agg #[.int .i64 a0_0, .slice A0_1 l0_1.length c0_1]] rfl Gv.lm ?_; (with_reducible refine (spec_WheelOk.calls k a0_0 _ _ l0_1 false _ ?side1 ?side2 A2.out).mono ?_); (case side1 => repeat (first | exact (Kd.C_below HR0_1.out HB.out) | (with_reducible refine Kd.C_alloc ?_ _) | (with_reducible refine Kd.C_drewN ?_ _) | (with_reducible refine Kd.C_drew ?_))); (case side2 => exact HC0_1.out); rintro e w21 ⟨rfl, hb⟩; refine ⟨_, rfl, ?_⟩; have n0_ := Gv.a0 (Gv.bb BK174.out hb); have n1_ := Gv.a0 (below_step Gv.bw hb); clear BK174; clear HB; have BK174 := n0_; have HB := n1_; clear n0_ n1_; (try clear hb); (try clear hb2); (try clear hk); (try clear hi)))
  go_ret
  exact ⟨Gv.rt, Gv.bw⟩

/-! ### impl_within: function 30 -/
def impl_within.f (a0 : Int) (a1 : Int) (a2 : Int) : Option (Bool) := if a0 ≥ a1 then (some (decide (a0 ≤ a2))) else (some false)
set_option maxHeartbeats 8000000 in
set_option maxRecDepth 100000 in
theorem impl_within.calls (a0 : Int) (a1 : Int) (a2 : Int) (r : Bool) (w : World) (h : impl_within.f a0 a1 a2 = some r) :
  Calls Try.prog 30 #[.int .i64 a0, .int .i64 a1, .int .i64 a2] w fun e w' => e = .returned (.bool r) ∧ Drawn0 w w' := by
 have H : (if a0 ≥ a1 then (some (decide (a0 ≤ a2))) else (some false)) = some r := h
 clear h
 by_cases c4 : a0 ≥ a1
 ·rw [if_pos c4] at H
  have c4b0 : decide (a1 ≤ a0) = true := decide_eq_true c4
  clear c4
  obtain rfl := Option.some.inj H
  go_enter Try.func30, Try.ntmps30
  go_wp2
  go_ret
  exact ⟨by first | rfl | (simp; done) | (simp [Int.tdiv_eq_ediv_of_nonneg]; done) | (simp [*]; done), by repeat (first | exact Drawn0.refl _ | apply Drawn0.step)⟩
 ·rw [if_neg c4] at H
  have c4b0 : decide (a1 ≤ a0) = false := decide_eq_false c4
  clear c4
  obtain rfl := Option.some.inj H
  go_enter Try.func30, Try.ntmps30
  go_wp2
  go_ret
  exact ⟨by first | rfl | (simp; done) | (simp [Int.tdiv_eq_ediv_of_nonneg]; done) | (simp [*]; done), by repeat (first | exact Drawn0.refl _ | apply Drawn0.step)⟩

/-! ### impl_isNow: function 23 -/
def impl_isNow.f (a0 : Int) : Option (Bool) := (impl_within.f a0 0 1000000000000).bind fun t182 => (some t182)
set_option maxHeartbeats 8000000 in
set_option maxRecDepth 100000 in
theorem impl_isNow.calls (a0 : Int) (r : Bool) (w : World) (h : impl_isNow.f a0 = some r) :
  Calls Try.prog 23 #[.int .i64 a0] w fun e w' => e = .returned (.bool r) ∧ Drawn0 w w' := by
 have H : ((impl_within.f a0 0 1000000000000).bind fun t182 => (some t182)) = some r := h
 clear h
 replace H := Option.bind_eq_some_iff.mp H
 obtain ⟨t182, A20, H⟩ := H
 replace H : (some t182) = some r := H
 have A2 := Gv.a0 A20
 clear A20
 obtain rfl := Option.some.inj H
 go_enter Try.func23, Try.ntmps23
 go_wp2_with (first | ((with_reducible refine gate_callee (f := 30) rfl ?_); refine goesL_ (some 4) rfl rfl Try.func30 (by kernel_rfl) rfl #[.int .i64 a0, .int .i64 0, .int .i64 1000000000000] rfl Gv.lm ?_; (with_reducible refine (impl_within.calls a0 0 1000000000000 t182 _ A2.out).mono ?_); rintro e w' ⟨rfl, ⟨nd, rfl⟩⟩; refine ⟨_, rfl, ?_⟩))
 go_ret
 exact ⟨by first | rfl | (simp; done) | (simp [Int.tdiv_eq_ediv_of_nonneg]; done) | (simp [*]; done), by repeat (first | exact Drawn0.refl _ | apply Drawn0.step)⟩

/-! ### impl_Wheel_isAhead: function 31 -/
def impl_Wheel_isAhead.f (a0_0 : Int) (l0_1 : List (S47)) (a1 : Int) : Option (Bool) := (impl_within.f a1 (wrap64 (a0_0 + 1)) (wrap64 (a0_0 + 1000))).bind fun t184 => (some t184)
set_option maxHeartbeats 8000000 in
set_option maxRecDepth 100000 in
theorem impl_Wheel_isAhead.calls (a0_0 : Int) (A0_1 : Option Addr) (c0_1 : Nat) (l0_1 : List (S47)) (a1 : Int) (r : Bool) (w : World) (hr0_1 : Kd.C k47 w A0_1 l0_1.length l0_1) (hc0_1 : l0_1.length ≤ c0_1) (h : impl_Wheel_isAhead.f a0_0 l0_1 a1 = some r) :
  Calls Try.prog 31 #[.agg #[.int .i64 a0_0, .slice A0_1 l0_1.length c0_1], .int .i64 a1] w fun e w' => e = .returned (.bool r) ∧ Below w.heap.size w w' := by
 have hu24 := Try.underlying24
 have HR0_1 := Gv.a0 hr0_1
 have HC0_1 := Gv.a0 hc0_1
 clear hr0_1 hc0_1
 have HB := Gv.a0 (Below.refl w.heap.size w)
 have H : ((impl_within.f a1 (wrap64 (a0_0 + 1)) (wrap64 (a0_0 + 1000))).bind fun t184 => (some t184)) = some r := h
 clear h
 replace H := Option.bind_eq_some_iff.mp H
 obtain ⟨t184, A30, H⟩ := H
 replace H : (some t184) = some r := H
 have A3 := Gv.a0 A30
 clear A30
 obtain rfl := Option.some.inj H
 go_enter Try.func31, Try.ntmps31
 go_wp2_with (first | ((with_reducible refine gate_dst (N := 2) rfl ?_); refine box_event ?hg (N := 2) ?hd (cs := #[.int .i64 a0_0, .slice A0_1 l0_1.length c0_1]) (t := 24) ?hr ?_; (case hd => rfl); (case hg => rfl); (case hr => first | (go_simp; done) | (go_simp; rfl)); intro gb183 hg w4 hbox hb; have n0_ := Gv.a0 (below_step Gv.bw hb); have n1_ := Gv.a0 (hbox); have n2_ := Gv.a0 ((Gv.ble hg Gv.bw : w.heap.size ≤ gb183)); have n3_ := Gv.a0 ((Gv.ble hg Gv.bw : w.heap.size ≤ gb183)); clear HB; have HB := n0_; have BK183 := n1_; have GW183 := n2_; have GE183 := n3_; clear n0_ n1_ n2_ n3_; clear hb hbox hg; have hcz5_0 : w4.cell? ⟨gb183, 0, none⟩ = some (.int .i64 a0_0) := (blk_cell BK183.out 0).trans rfl; have hcz5_1 : w4.cell? ⟨gb183, 1, none⟩ = some (.slice A0_1 l0_1.length c0_1) := (blk_cell BK183.out 1).trans rfl; have hfz5_0 := blk_frozen BK183.out 0; have hfz5_1 := blk_frozen BK183.out 1) | ((with_reducible refine gate_callee (f := 30) rfl ?_); refine goesL_ (some 12) rfl rfl Try.func30 (by kernel_rfl) rfl #[.int .i64 a1, .int .i64 (wrap64 (a0_0 + 1)), .int .i64 (wrap64 (a0_0 + 1000))] rfl Gv.lm ?_; (with_reducible refine (impl_within.calls a1 (wrap64 (a0_0 + 1)) (wrap64 (a0_0 + 1000)) t184 _ A3.out).mono ?_); rintro e w' ⟨rfl, ⟨nd, rfl⟩⟩; refine ⟨_, rfl, ?_⟩))
 go_ret
 exact ⟨Gv.rt, Gv.bw⟩

/-! ### impl_WheelOk: function 16 -/
def impl_WheelOk.f (a0_0 : Int) (l0_1 : List (S47)) : Option (Bool) := some (Gv.wheelOk (fun s : S47 => s.f0) (fun x : S50 => x.f0) (fun x : S50 => x.f1) a0_0 l0_1)
theorem impl_WheelOk.within (n a b : Int) : impl_within.f n a b = some (Gv.wi n a b) := by
 unfold impl_within.f Gv.wi
 by_cases h : n ≥ a
 ·rw [if_pos h, decide_eq_true h]; rfl
 ·rw [if_neg h, decide_eq_false h]; rfl
theorem impl_WheelOk.now (n : Int) : impl_isNow.f n = some (Gv.wi n 0 1000000000000) := by
 unfold impl_isNow.f
 rw [impl_WheelOk.within]
 rfl
theorem impl_WheelOk.ahead (n : Int) (l : List S47) (a : Int) : impl_Wheel_isAhead.f n l a = some (Gv.wi a (wrap64 (n + 1)) (wrap64 (n + 1000))) := by
 unfold impl_Wheel_isAhead.f
 rw [impl_WheelOk.within]
 rfl
theorem impl_WheelOk.nodup_le : ∀ (n : Nat) (l : List Int), l.Nodup → (∀ x, x ∈ l → 0 ≤ x ∧ x < (n : Int)) → l.length ≤ n
 | 0, [], _, _ => Nat.le_refl _
 | 0, x :: l, _, h => by have := h x List.mem_cons_self; omega
 | n + 1, l, hn, h => by
  have h1 := impl_WheelOk.nodup_le n (l.erase (n : Int)) (hn.erase _) (fun x hx => by
   obtain ⟨g1, g2⟩ := (hn.mem_erase_iff).1 hx
   have := h x g2
   omega)
  have h2 := List.length_erase (a := (n : Int)) (l := l)
  split at h2 <;> omega
theorem impl_WheelOk.size_put {H : Type} {D : DataW H} {k : Lit} (hD : Maps.IsMap D) (hh : Maps.has D k = false) (d : DataW H) : Maps.size (D.put k d) = Maps.size D + 1 := by
 obtain ⟨es, rfl⟩ := hD
 rw [DataW.put_eq]
 unfold ChangeMaps.putKey
 rw [Maps.size_eq, Maps.size_eq, length_insert, List.filter_eq_self.2]
 intro p hp
 rw [Maps.has_eq, List.any_eq_false] at hh
 have := hh p hp
 unfold ChangeMaps.notKey
 simpa using this
/-- A set of small numbers in a map of the call's own. -/
def impl_WheelOk.OM (W : World) (b : Nat) (seen : List Int) : Prop := ∃ D : DataW Unit, W.ownsMap Try.prog 3 (plainElem Try.prog 4) b seen.length D ∧ Maps.size D = seen.length ∧ ∀ id : Int, 0 ≤ id → id ≤ 9999 → D.atKey (.int .i64 id) (.lit (.bool false)) = .lit (.bool (seen.contains id)) ∧ Maps.has D (.int .i64 id) = seen.contains id
theorem impl_WheelOk.OM_made (W : World) : impl_WheelOk.OM (W.alloc (.map #[] 0)) W.heap.size [] := ⟨.map [], World.ownsMap_made W _ _ _, rfl, fun _ _ _ => ⟨rfl, rfl⟩⟩
theorem impl_WheelOk.OM_move {W W' : World} {b : Nat} {seen : List Int} (h : impl_WheelOk.OM W b seen) (e : W'.heap[b]? = W.heap[b]?) : impl_WheelOk.OM W' b seen := by
 obtain ⟨D, ⟨es, clock, hb, F, hs, hD⟩, h2, h3⟩ := h
 exact ⟨D, ⟨es, clock, e.trans hb, F, hs, hD⟩, h2, h3⟩
theorem impl_WheelOk.OM_lt {W : World} {b : Nat} {seen : List Int} (h : impl_WheelOk.OM W b seen) : b < W.heap.size := h.choose_spec.1.lt
theorem impl_WheelOk.OM_below {W W' : World} {b : Nat} {seen : List Int} (h : impl_WheelOk.OM W b seen) (hb : Below W.heap.size W W') : impl_WheelOk.OM W' b seen := by
 refine impl_WheelOk.OM_move h ?_
 have hlt := impl_WheelOk.OM_lt h
 have e := Array.getElem?_eq_getElem hlt
 rw [e]
 exact blk_below e hb
theorem impl_WheelOk.wf {id : Int} (h0 : 0 ≤ id) (h1 : id ≤ 9999) : (Lit.int .i64 id).wf = true := by
 have e1 : IntKind.i64.min = -9223372036854775808 := rfl
 have e2 : IntKind.i64.max = 9223372036854775807 := rfl
 simp only [Lit.wf, e1, e2, Bool.and_eq_true, decide_eq_true_eq]
 omega
theorem impl_WheelOk.look {ops : Array Oper} {rest : List Oper} {o : Oper} {a : Act} {W : World} {Q : Exit → Act → World → Prop} {m x : Operand} {b : Nat} {id : Int} {seen : List Int} (hg : o.guard = none) (hop : o.op = .lookup 52 m x false) (hm : a.eval m = .map (some b)) (hx : a.eval x = .int .i64 id) (h : impl_WheelOk.OM W b seen) (h0 : 0 ≤ id) (h1 : id ≤ 9999)
  (hK : wpList Try.prog ops Q rest (a.put o.dst (.bool (seen.contains id))) W) : wpList Try.prog ops Q (o :: rest) a W := by
 obtain ⟨D, hown, _, hat⟩ := h
 obtain ⟨v, ps, hrun, hv⟩ := hown.lookup (Maps.int_keyed Try.underlying3) Try.underlying52 (Try.zeroValue4 W) (plainElem_bool Try.underlying4 false) (Maps.keyOf_int_mk Try.underlying3 (impl_WheelOk.wf h0 h1))
 rw [(hat id h0 h1).1] at hv
 have e : v = .bool (seen.contains id) := by
  unfold plainElem at hv
  rw [Try.underlying4] at hv
  cases v <;> simp at hv
  exact congrArg Value.bool (hv.1.trans (by simp))
 subst e
 refine wpList_plain hg fun K' hK' => ?_
 unfold Oper.wp
 simp [execOp, hop, hm, hx, hrun, Result.andThen]
 rw [show seen.contains id = decide (id ∈ seen) by simp] at hK
 exact hK' _ _ hK
theorem impl_WheelOk.mkmap {ops : Array Oper} {rest : List Oper} {o : Oper} {a : Act} {W : World} {Q : Exit → Act → World → Prop} (hg : o.guard = none) (hop : o.op = .makeMap 52 none)
  (hK : ∀ (W' : World) (b : Nat), impl_WheelOk.OM W' b [] → W.heap.size ≤ b → b = W.heap.size → Below W.heap.size W W' → wpList Try.prog ops Q rest (a.put o.dst (.map (some b))) W') : wpList Try.prog ops Q (o :: rest) a W := by
 refine wpList_plain hg fun K' hK' => ?_
 unfold Oper.wp
 simp [execOp, hop, run_makeMap, Result.andThen]
 exact hK' _ _ (hK _ _ (impl_WheelOk.OM_made W) (Nat.le_refl _) rfl ((Below.refl _ W).alloc (Nat.le_refl _) _))
theorem impl_WheelOk.upd {ops : Array Oper} {rest : List Oper} {o : Oper} {a : Act} {W : World} {Q : Exit → Act → World → Prop} {m x v : Operand} {b : Nat} {id : Int} {seen : List Int} (hg : o.guard = none) (hop : o.op = .mapUpdate 52 m x v) (hd : o.dst = none) (hm : a.eval m = .map (some b)) (hx : a.eval x = .int .i64 id) (hy : a.eval v = .bool true) (h : impl_WheelOk.OM W b seen) (h0 : 0 ≤ id) (h1 : id ≤ 9999) (hn : seen.contains id = false) (hlen : seen.length < maxLen)
  (hK : ∀ W' : World, impl_WheelOk.OM W' b (seen ++ [id]) → (∀ j, j < W.heap.size → j ≠ b → W'.heap[j]? = W.heap[j]?) → (∀ w0 : World, Below w0.heap.size w0 W → w0.heap.size ≤ b → Below w0.heap.size w0 W') → wpList Try.prog ops Q rest a W') : wpList Try.prog ops Q (o :: rest) a W := by
 obtain ⟨D, hown, hs, hat⟩ := h
 have hwf := impl_WheelOk.wf h0 h1
 have K := Maps.int_keyed (P := Try.prog) Try.underlying3
 have hkey := Maps.keyOf_int_mk (P := Try.prog) Try.underlying3 hwf
 obtain ⟨W', hrun, r1, r2⟩ := hown.update K Try.underlying52 hlen hkey (plainElem_bool Try.underlying4 true)
 have hM : Maps.IsMap D := hown.isMap
 refine wpList_plain hg fun K' hK' => ?_
 unfold Oper.wp
 simp [execOp, hop, hm, hx, hy, hrun, Result.andThen]
 refine hK' _ _ ?_
 rw [hd]
 refine hK W' ⟨D.put (.int .i64 id) (.lit (.bool true)), by rw [List.length_append]; exact r1, ?_, fun id' g0 g1 => ?_⟩ ?_ ?_
 ·rw [impl_WheelOk.size_put hM ((hat id h0 h1).2.trans hn), hs]
  first | done | simp
 ·by_cases e : id' = id
  ·subst e
   rw [Maps.atKey_put_same hM (K.key hkey), Maps.has_put_same hM (K.key hkey)]
   have hc : (seen ++ [id']).contains id' = true := by simp
   rw [hc]
   exact ⟨rfl, rfl⟩
  ·have ne : (Lit.int .i64 id') ≠ (Lit.int .i64 id) := fun q => e (by injection q)
   rw [Maps.atKey_put_other ne, Maps.has_put_other ne, (hat id' g0 g1).1, (hat id' g0 g1).2]
   simp [e]
 ·intro j hl hj
  exact r2.block j hl (fun e => hj (Option.some.inj e))
 ·intro w0 hb hle
  exact hb.grown r2 hb.size (fun k e => by cases e; exact hle)
set_option maxHeartbeats 8000000 in
set_option maxRecDepth 100000 in
theorem impl_WheelOk.calls (a0_0 : Int) (A0_1 : Option Addr) (c0_1 : Nat) (l0_1 : List (S47)) (r : Bool) (w : World) (hr0_1 : Kd.C k47 w A0_1 l0_1.length l0_1) (hc0_1 : l0_1.length ≤ c0_1) (h : impl_WheelOk.f a0_0 l0_1 = some r) :
  Calls Try.prog 16 #[.agg #[.int .i64 a0_0, .slice A0_1 l0_1.length c0_1]] w fun e w' => e = .returned (.bool r) ∧ Below w.heap.size w w' := by
 have hu24 := Try.underlying24
 have hu47 := Try.underlying47
 have hu50 := Try.underlying50
 have HR0 := Gv.a0 hr0_1
 have HC0 := Gv.a0 hc0_1
 have HRr := Gv.a0 (show Gv.wheelOk (fun s : S47 => s.f0) (fun x : S50 => x.f0) (fun x : S50 => x.f1) a0_0 l0_1 = r from Option.some.inj h)
 clear hr0_1 hc0_1 h
 have HB := Gv.a0 (Below.refl w.heap.size w)
 cases hn : Gv.wi a0_0 0 1000000000000 with
 | false =>
  have A1 := Gv.a0 ((impl_WheelOk.now a0_0).trans (congrArg some hn))
  have Hr : r = false := by rw [← HRr.out]; unfold Gv.wheelOk; rw [hn]; rfl
  subst Hr
  clear HRr hn
  go_enter Try.func16, Try.ntmps16
  go_wp2_with (first | ((with_reducible refine gate_dst (N := 1) rfl ?_); refine box_event ?hg (N := 1) ?hd (cs := #[.int .i64 a0_0, .slice A0_1 l0_1.length c0_1]) (t := 24) ?hr ?_; (case hd => rfl); (case hg => rfl); (case hr => first | (go_simp; done) | (go_simp; rfl)); intro gb1 hg w1 hbox hb; have n0_ := Gv.a0 (below_step Gv.bw hb); have n1_ := Gv.a0 hbox; have n2_ := Gv.a0 ((Gv.ble hg Gv.bw : w.heap.size ≤ gb1)); (try clear HB); clear hb hbox hg; have HB := n0_; have BK1 := n1_; have GE1 := n2_; clear n0_ n1_ n2_; (try clear hz1_0); have hz1_0 := (blk_cell BK1.out 0).trans (rfl : _ = (some (.int .i64 a0_0) : Option Value)); (try clear hz1_1); have hz1_1 := (blk_cell BK1.out 1).trans (rfl : _ = (some (.slice A0_1 l0_1.length c0_1) : Option Value)); (try clear hf1_0); have hf1_0 := blk_frozen BK1.out 0; (try clear hf1_1); have hf1_1 := blk_frozen BK1.out 1) | ((with_reducible refine gate_callee (f := 23) rfl ?_); (try (refine gate_guard (by rfl) ?_; dsimp only)); refine goesL_ (some 10) rfl rfl Try.func23 (by kernel_rfl) rfl #[.int .i64 a0_0] rfl Gv.lm ?_; (with_reducible refine (impl_isNow.calls a0_0 false _ A1.out).mono ?_); rintro e wc ⟨rfl, hd⟩; refine ⟨_, rfl, ?_⟩; have hb := hd.below; clear hd; have n0_ := Gv.a0 (below_step Gv.bw hb); have n1_ := Gv.a0 (Gv.bb BK1.out hb); clear HB BK1 hb; have HB := n0_; have BK1 := n1_; clear n0_ n1_; (try clear hz1_0); have hz1_0 := (blk_cell BK1.out 0).trans (rfl : _ = (some (.int .i64 a0_0) : Option Value)); (try clear hz1_1); have hz1_1 := (blk_cell BK1.out 1).trans (rfl : _ = (some (.slice A0_1 l0_1.length c0_1) : Option Value)); (try clear hf1_0); have hf1_0 := blk_frozen BK1.out 0; (try clear hf1_1); have hf1_1 := blk_frozen BK1.out 1))
  go_ret
  exact ⟨rfl, HB.out⟩
 | true =>
  have A1 := Gv.a0 ((impl_WheelOk.now a0_0).trans (congrArg some hn))
  by_cases hl : l0_1.length = 8
  rotate_left
  ·have e8 : ((l0_1.length : Int) == 8) = false := beq_eq_false_iff_ne.2 (by omega)
   have e9 : ((l0_1.length : Int) != 8) = true := bne_iff_ne.2 (by omega)
   have Hr : r = false := by rw [← HRr.out]; unfold Gv.wheelOk; rw [hn, decide_eq_false hl]; rfl
   subst Hr
   clear HRr hn hl
   go_enter Try.func16, Try.ntmps16
   go_wp2_with (first | ((with_reducible refine gate_dst (N := 1) rfl ?_); refine box_event ?hg (N := 1) ?hd (cs := #[.int .i64 a0_0, .slice A0_1 l0_1.length c0_1]) (t := 24) ?hr ?_; (case hd => rfl); (case hg => rfl); (case hr => first | (go_simp; done) | (go_simp; rfl)); intro gb1 hg w1 hbox hb; have n0_ := Gv.a0 (below_step Gv.bw hb); have n1_ := Gv.a0 hbox; have n2_ := Gv.a0 ((Gv.ble hg Gv.bw : w.heap.size ≤ gb1)); (try clear HB); clear hb hbox hg; have HB := n0_; have BK1 := n1_; have GE1 := n2_; clear n0_ n1_ n2_; (try clear hz1_0); have hz1_0 := (blk_cell BK1.out 0).trans (rfl : _ = (some (.int .i64 a0_0) : Option Value)); (try clear hz1_1); have hz1_1 := (blk_cell BK1.out 1).trans (rfl : _ = (some (.slice A0_1 l0_1.length c0_1) : Option Value)); (try clear hf1_0); have hf1_0 := blk_frozen BK1.out 0; (try clear hf1_1); have hf1_1 := blk_frozen BK1.out 1) | ((with_reducible refine gate_callee (f := 23) rfl ?_); (try (refine gate_guard (by rfl) ?_; dsimp only)); refine goesL_ (some 10) rfl rfl Try.func23 (by kernel_rfl) rfl #[.int .i64 a0_0] rfl Gv.lm ?_; (with_reducible refine (impl_isNow.calls a0_0 true _ A1.out).mono ?_); rintro e wc ⟨rfl, hd⟩; refine ⟨_, rfl, ?_⟩; have hb := hd.below; clear hd; have n0_ := Gv.a0 (below_step Gv.bw hb); have n1_ := Gv.a0 (Gv.bb BK1.out hb); clear HB BK1 hb; have HB := n0_; have BK1 := n1_; clear n0_ n1_; (try clear hz1_0); have hz1_0 := (blk_cell BK1.out 0).trans (rfl : _ = (some (.int .i64 a0_0) : Option Value)); (try clear hz1_1); have hz1_1 := (blk_cell BK1.out 1).trans (rfl : _ = (some (.slice A0_1 l0_1.length c0_1) : Option Value)); (try clear hf1_0); have hf1_0 := blk_frozen BK1.out 0; (try clear hf1_1); have hf1_1 := blk_frozen BK1.out 1))
   go_ret
   exact ⟨rfl, HB.out⟩
  ·have e8 : ((l0_1.length : Int) == 8) = true := beq_iff_eq.2 (by omega)
   have e9 : ((l0_1.length : Int) != 8) = false := bne_eq_false_iff_eq.2 (by omega)
   have HN := Gv.a0 (show Gv.wkEnd (Gv.wkOut (fun s : S47 => s.f0) (fun x : S50 => x.f0) (fun x : S50 => x.f1) a0_0 l0_1 0 []) = r from by rw [← HRr.out]; unfold Gv.wheelOk; rw [hn, decide_eq_true hl]; rfl)
   have HL := Gv.a0 hl
   clear HRr hn hl
   go_enter Try.func16, Try.ntmps16
   go_wp2_with (first | ((with_reducible refine gate_dst (N := 1) rfl ?_); refine box_event ?hg (N := 1) ?hd (cs := #[.int .i64 a0_0, .slice A0_1 l0_1.length c0_1]) (t := 24) ?hr ?_; (case hd => rfl); (case hg => rfl); (case hr => first | (go_simp; done) | (go_simp; rfl)); intro gb1 hg w1 hbox hb; have n0_ := Gv.a0 (below_step Gv.bw hb); have n1_ := Gv.a0 hbox; have n2_ := Gv.a0 ((Gv.ble hg Gv.bw : w.heap.size ≤ gb1)); (try clear HB); clear hb hbox hg; have HB := n0_; have BK1 := n1_; have GE1 := n2_; clear n0_ n1_ n2_; (try clear hz1_0); have hz1_0 := (blk_cell BK1.out 0).trans (rfl : _ = (some (.int .i64 a0_0) : Option Value)); (try clear hz1_1); have hz1_1 := (blk_cell BK1.out 1).trans (rfl : _ = (some (.slice A0_1 l0_1.length c0_1) : Option Value)); (try clear hf1_0); have hf1_0 := blk_frozen BK1.out 0; (try clear hf1_1); have hf1_1 := blk_frozen BK1.out 1) | ((with_reducible refine gate_callee (f := 23) rfl ?_); (try (refine gate_guard (by rfl) ?_; dsimp only)); refine goesL_ (some 10) rfl rfl Try.func23 (by kernel_rfl) rfl #[.int .i64 a0_0] rfl Gv.lm ?_; (with_reducible refine (impl_isNow.calls a0_0 true _ A1.out).mono ?_); rintro e wc ⟨rfl, hd⟩; refine ⟨_, rfl, ?_⟩; have hb := hd.below; clear hd; have n0_ := Gv.a0 (below_step Gv.bw hb); have n1_ := Gv.a0 (Gv.bb BK1.out hb); clear HB BK1 hb; have HB := n0_; have BK1 := n1_; clear n0_ n1_; (try clear hz1_0); have hz1_0 := (blk_cell BK1.out 0).trans (rfl : _ = (some (.int .i64 a0_0) : Option Value)); (try clear hz1_1); have hz1_1 := (blk_cell BK1.out 1).trans (rfl : _ = (some (.slice A0_1 l0_1.length c0_1) : Option Value)); (try clear hf1_0); have hf1_0 := blk_frozen BK1.out 0; (try clear hf1_1); have hf1_1 := blk_frozen BK1.out 1) | ((with_reducible refine gate_dst (N := 18) rfl ?_); refine impl_WheelOk.mkmap rfl rfl ?_; intro wm bm hM hge hbm hb; have n0_ := Gv.a0 (below_step Gv.bw hb); have n1_ := Gv.a0 (Gv.bb BK1.out hb); have n2_ := Gv.a0 hM; have n3_ := Gv.a0 (show w.heap.size ≤ bm from Nat.le_trans (below_size Gv.bw) hge); have n4_ := Gv.a0 (show gb1 ≠ bm from by rw [hbm]; exact Nat.ne_of_lt (blk_lt BK1.out)); clear HB BK1 hM hge hbm hb; have HB := n0_; have BK1 := n1_; have HM := n2_; have GEM := n3_; have NM1 := n4_; clear n0_ n1_ n2_ n3_ n4_; (try clear hz1_0); have hz1_0 := (blk_cell BK1.out 0).trans (rfl : _ = (some (.int .i64 a0_0) : Option Value)); (try clear hz1_1); have hz1_1 := (blk_cell BK1.out 1).trans (rfl : _ = (some (.slice A0_1 l0_1.length c0_1) : Option Value)); (try clear hf1_0); have hf1_0 := blk_frozen BK1.out 0; (try clear hf1_1); have hf1_1 := blk_frozen BK1.out 1))
   go_loopg [22] l0_1.length (fun gg s22 wr => ∃ (kk : Nat) (seen : List Int), kk ≤ l0_1.length ∧ l0_1.length - kk ≤ gg ∧ s22 = .int .i64 (kk : Int) ∧ Aside0 (Gv.wkEnd (Gv.wkOut (fun s : S47 => s.f0) (fun x : S50 => x.f0) (fun x : S50 => x.f1) a0_0 (l0_1.drop kk) kk seen) = r) ∧ Aside0 (seen.Nodup ∧ ∀ x, x ∈ seen → 0 ≤ x ∧ x < (10000 : Nat)) ∧ Aside0 (impl_WheelOk.OM wr bm seen) ∧ Aside0 (wr.heap[gb1]? = some (.cells #[.int .i64 a0_0, .slice A0_1 l0_1.length c0_1] 24 (0, 0))) ∧ Aside0 (Below w.heap.size w wr))
   case atStart => exact ⟨0, [], Nat.zero_le _, by omega, rfl, ⟨by rw [List.drop_zero]; exact HN.out⟩, ⟨List.nodup_nil, fun x hx => by cases hx⟩, ⟨HM.out⟩, ⟨BK1.out⟩, ⟨HB.out⟩⟩
   case round =>
    clear HN HM BK1 HB
    (try clear hz1_0); (try clear hz1_1); (try clear hf1_0); (try clear hf1_1)
    obtain ⟨kk, seen, hkk, hg, rfl, HN, HI, HM, BK1, HB⟩ := hrel
    have HKK := Gv.a0 hkk
    have HG := Gv.a0 hg
    clear hkk hg
    by_cases hlt : kk < l0_1.length
    ·have hltz : (kk : Int) < (l0_1.length : Int) := by omega
     have hk0 : 0 ≤ (kk : Int) := by omega
     obtain ⟨ad, A1, c1, e1, hx, hl1, hi1⟩ := at_T47 HR0.out (kk : Int) hk0 hltz
     cases e1
     rw [Int.toNat_natCast] at hx
     replace hx := Gv.bx HB.out hx
     have hget : l0_1.drop kk = rd_T47 l0_1 (kk : Int) :: l0_1.drop (kk + 1) := by
      rw [List.drop_eq_getElem_cons hlt]
      congr 1
      unfold rd_T47
      rw [Int.toNat_natCast, List.getD_eq_getElem?_getD, List.getElem?_eq_getElem hlt]
      rfl
     have hN := HN.out
     rw [hget, Gv.wkOut] at hN
     clear HN hget
     have HN := Gv.a0 hN
     have HR1 := Gv.a0 hi1
     have HC1 := Gv.a0 hl1
     have HLT := Gv.a0 hlt
     clear hN hi1 hl1 hlt
     (try clear hz1_0); have hz1_0 := (blk_cell BK1.out 0).trans (rfl : _ = (some (.int .i64 a0_0) : Option Value)); (try clear hz1_1); have hz1_1 := (blk_cell BK1.out 1).trans (rfl : _ = (some (.slice (some ad) l0_1.length c0_1) : Option Value)); (try clear hf1_0); have hf1_0 := blk_frozen BK1.out 0; (try clear hf1_1); have hf1_1 := blk_frozen BK1.out 1
     go_wp2_with (first | ((with_reducible refine gate_dst (N := 5) rfl ?_); refine box_event ?hg (N := 5) ?hd (cs := #[.slice none 0 0]) (t := 47) ?hr ?_; (case hd => rfl); (case hg => rfl); (case hr => first | (go_simp; done) | (go_simp; rfl)); intro gb5 hg w5 hbox hb; have n0_ := Gv.a0 (below_step Gv.bw hb); have n1_ := Gv.a0 hbox; have n2_ := Gv.a0 ((Gv.ble hg Gv.bw : w.heap.size ≤ gb5)); have n3_ := Gv.a0 (Gv.bb BK1.out hb); have n4_ := Gv.a0 ((Gv.ngt hg (Gv.kb BK1.out) : gb5 ≠ gb1)); have n5_ := Gv.a0 (impl_WheelOk.OM_below HM.out hb); have n6_ := Gv.a0 (show gb5 ≠ bm from by rw [hg]; exact Nat.ne_of_gt (impl_WheelOk.OM_lt HM.out)); (try clear HB BK1 HM); clear hb hbox hg; have HB := n0_; have BK5 := n1_; have GE5 := n2_; have BK1 := n3_; have NB5_1 := n4_; have HM := n5_; have NM5 := n6_; clear n0_ n1_ n2_ n3_ n4_ n5_ n6_) | ((with_reducible refine gate_store (t := 47) (p := 5) rfl ?_); refine Gv.store_event rfl rfl rfl rfl rfl (Gv.kb BK5.out) (by kernel_rfl) rfl (by first | rfl | (simp; done) | (simp; and_intros <;> rfl)) ?_; intro w5s hbox hoth hbel; have n0_ := Gv.a0 hbox; have n1_ := Gv.a0 (hbel w Gv.bw GE5.out); have n2_ := Gv.a0 ((hoth gb1 NB5_1.out.symm).trans (Gv.kb BK1.out)); have n3_ := Gv.a0 (impl_WheelOk.OM_move HM.out (hoth bm NM5.out.symm)); clear BK5 HB BK1 HM hbox hoth hbel; have BK5 := n0_; have HB := n1_; have BK1 := n2_; have HM := n3_; clear n0_ n1_ n2_ n3_; (try clear hz1_0); have hz1_0 := (blk_cell BK1.out 0).trans (rfl : _ = (some (.int .i64 a0_0) : Option Value)); (try clear hz1_1); have hz1_1 := (blk_cell BK1.out 1).trans (rfl : _ = (some (.slice (some ad) l0_1.length c0_1) : Option Value)); (try clear hf1_0); have hf1_0 := blk_frozen BK1.out 0; (try clear hf1_1); have hf1_1 := blk_frozen BK1.out 1; (try clear hz5_0); have hz5_0 := (blk_cell BK5.out 0).trans (rfl : _ = (some (.slice A1 (rd_T47 l0_1 (kk : Int)).f0.length c1) : Option Value)); (try clear hf5_0); have hf5_0 := blk_frozen BK5.out 0))
     go_loopg [30] (rd_T47 l0_1 (kk : Int)).f0.length (fun gg s30 wr => ∃ (jj : Nat) (seen : List Int), jj ≤ (rd_T47 l0_1 (kk : Int)).f0.length ∧ (rd_T47 l0_1 (kk : Int)).f0.length - jj ≤ gg ∧ s30 = .int .i64 (jj : Int) ∧ Aside0 (Gv.wkEnd ((Gv.wkIn (fun x : S50 => x.f0) (fun x : S50 => x.f1) a0_0 (kk : Int) ((rd_T47 l0_1 (kk : Int)).f0.drop jj) seen).bind fun seen' => Gv.wkOut (fun s : S47 => s.f0) (fun x : S50 => x.f0) (fun x : S50 => x.f1) a0_0 (l0_1.drop (kk + 1)) (kk + 1) seen') = r) ∧ Aside0 (seen.Nodup ∧ ∀ x, x ∈ seen → 0 ≤ x ∧ x < (10000 : Nat)) ∧ Aside0 (impl_WheelOk.OM wr bm seen) ∧ Aside0 (wr.heap[gb1]? = some (.cells #[.int .i64 a0_0, .slice (some ad) l0_1.length c0_1] 24 (0, 0))) ∧ Aside0 (Below w.heap.size w wr))
     case atStart => exact ⟨0, seen, Nat.zero_le _, by omega, rfl, ⟨by rw [List.drop_zero]; exact HN.out⟩, ⟨HI.out⟩, ⟨HM.out⟩, ⟨BK1.out⟩, ⟨HB.out⟩⟩
     case round =>
      clear HN HM BK1 HB HI BK5 hx
      (try clear hz1_0); (try clear hz1_1); (try clear hf1_0); (try clear hf1_1); (try clear hz5_0); (try clear hf5_0)
      obtain ⟨jj, seen, hjj, hg, rfl, HN, HI, HM, BK1, HB⟩ := hrel
      have HJJ := Gv.a0 hjj
      have HG2 := Gv.a0 hg
      clear hjj hg
      by_cases hlt : jj < (rd_T47 l0_1 (kk : Int)).f0.length
      ·have hltz2 : (jj : Int) < ((rd_T47 l0_1 (kk : Int)).f0.length : Int) := by omega
       have hj0 : 0 ≤ (jj : Int) := by omega
       obtain ⟨ad2, e2, hy0, hy1⟩ := at_T50 (Kd.C_below HR1.out HB.out) (jj : Int) hj0 hltz2
       cases e2
       obtain ⟨x_, hx_⟩ : ∃ x_, x_ = rd_T50 (rd_T47 l0_1 (kk : Int)).f0 (jj : Int) := ⟨_, rfl⟩
       rw [← hx_, Int.toNat_natCast] at hy0 hy1
       have hget : (rd_T47 l0_1 (kk : Int)).f0.drop jj = x_ :: (rd_T47 l0_1 (kk : Int)).f0.drop (jj + 1) := by
        rw [List.drop_eq_getElem_cons hlt, hx_]
        congr 1
        unfold rd_T50
        rw [Int.toNat_natCast, List.getD_eq_getElem?_getD, List.getElem?_eq_getElem hlt]
        rfl
       have hN := HN.out
       rw [hget, Gv.wkIn] at hN
       clear HN hget hx_
       have HN := Gv.a0 hN
       have HLT2 := Gv.a0 hlt
       clear hN hlt
       (try clear hz1_0); have hz1_0 := (blk_cell BK1.out 0).trans (rfl : _ = (some (.int .i64 a0_0) : Option Value)); (try clear hz1_1); have hz1_1 := (blk_cell BK1.out 1).trans (rfl : _ = (some (.slice (some ad) l0_1.length c0_1) : Option Value)); (try clear hf1_0); have hf1_0 := blk_frozen BK1.out 0; (try clear hf1_1); have hf1_1 := blk_frozen BK1.out 1
       cases h1 : Gv.wi x_.f0 0 9999 with
       | false =>
        have A2 := Gv.a0 ((impl_WheelOk.within x_.f0 0 9999).trans (congrArg some h1))
        have Hr := Gv.a0 (show false = r from by
         have hN := HN.out
         unfold Gv.wkBad at hN
         rw [h1, Bool.not_false, Bool.true_or, if_pos rfl] at hN
         exact hN)
        clear HN h1
        go_wp2_with (first | ((with_reducible refine gate_dst (N := 7) rfl ?_); refine box_event ?hg (N := 7) ?hd (cs := #[.int .i64 0, .int .i64 0]) (t := 50) ?hr ?_; (case hd => rfl); (case hg => rfl); (case hr => first | (go_simp; done) | (go_simp; rfl)); intro gb7 hg w7 hbox hb; have n0_ := Gv.a0 (below_step Gv.bw hb); have n1_ := Gv.a0 hbox; have n2_ := Gv.a0 ((Gv.ble hg Gv.bw : w.heap.size ≤ gb7)); have n3_ := Gv.a0 (Gv.bb BK1.out hb); have n4_ := Gv.a0 ((Gv.ngt hg (Gv.kb BK1.out) : gb7 ≠ gb1)); have n5_ := Gv.a0 (impl_WheelOk.OM_below HM.out hb); have n6_ := Gv.a0 (show gb7 ≠ bm from by rw [hg]; exact Nat.ne_of_gt (impl_WheelOk.OM_lt HM.out)); (try clear HB BK1 HM); clear hb hbox hg; have HB := n0_; have BK7 := n1_; have GE7 := n2_; have BK1 := n3_; have NB7_1 := n4_; have HM := n5_; have NM7 := n6_; clear n0_ n1_ n2_ n3_ n4_ n5_ n6_) | ((with_reducible refine gate_store (t := 50) (p := 7) rfl ?_); refine Gv.store_event rfl rfl rfl rfl rfl (Gv.kb BK7.out) (by kernel_rfl) rfl (by first | rfl | (simp; done) | (simp; and_intros <;> rfl)) ?_; intro w7s hbox hoth hbel; have n0_ := Gv.a0 hbox; have n1_ := Gv.a0 (hbel w Gv.bw GE7.out); have n2_ := Gv.a0 ((hoth gb1 NB7_1.out.symm).trans (Gv.kb BK1.out)); have n3_ := Gv.a0 (impl_WheelOk.OM_move HM.out (hoth bm NM7.out.symm)); clear BK7 HB BK1 HM hbox hoth hbel; have BK7 := n0_; have HB := n1_; have BK1 := n2_; have HM := n3_; clear n0_ n1_ n2_ n3_; (try clear hz1_0); have hz1_0 := (blk_cell BK1.out 0).trans (rfl : _ = (some (.int .i64 a0_0) : Option Value)); (try clear hz1_1); have hz1_1 := (blk_cell BK1.out 1).trans (rfl : _ = (some (.slice (some ad) l0_1.length c0_1) : Option Value)); (try clear hf1_0); have hf1_0 := blk_frozen BK1.out 0; (try clear hf1_1); have hf1_1 := blk_frozen BK1.out 1; (try clear hz7_0); have hz7_0 := (blk_cell BK7.out 0).trans (rfl : _ = (some (.int .i64 x_.f0) : Option Value)); (try clear hz7_1); have hz7_1 := (blk_cell BK7.out 1).trans (rfl : _ = (some (.int .i64 x_.f1) : Option Value)); (try clear hf7_0); have hf7_0 := blk_frozen BK7.out 0; (try clear hf7_1); have hf7_1 := blk_frozen BK7.out 1) | ((with_reducible refine gate_callee (f := 30) rfl ?_); (try (refine gate_guard (by rfl) ?_; dsimp only)); refine goesL_ (some 36) rfl rfl Try.func30 (by kernel_rfl) rfl #[.int .i64 x_.f0, .int .i64 0, .int .i64 9999] rfl Gv.lm ?_; (with_reducible refine (impl_within.calls x_.f0 0 9999 false _ A2.out).mono ?_); rintro e wc ⟨rfl, hd⟩; refine ⟨_, rfl, ?_⟩; have hb := hd.below; clear hd; have n0_ := Gv.a0 (below_step Gv.bw hb); have n1_ := Gv.a0 (Gv.bb BK1.out hb); have n2_ := Gv.a0 (Gv.bb BK7.out hb); have n3_ := Gv.a0 (impl_WheelOk.OM_below HM.out hb); clear HB BK1 BK7 HM hb; have HB := n0_; have BK1 := n1_; have BK7 := n2_; have HM := n3_; clear n0_ n1_ n2_ n3_; (try clear hz1_0); have hz1_0 := (blk_cell BK1.out 0).trans (rfl : _ = (some (.int .i64 a0_0) : Option Value)); (try clear hz1_1); have hz1_1 := (blk_cell BK1.out 1).trans (rfl : _ = (some (.slice (some ad) l0_1.length c0_1) : Option Value)); (try clear hf1_0); have hf1_0 := blk_frozen BK1.out 0; (try clear hf1_1); have hf1_1 := blk_frozen BK1.out 1; (try clear hz7_0); have hz7_0 := (blk_cell BK7.out 0).trans (rfl : _ = (some (.int .i64 x_.f0) : Option Value)); (try clear hz7_1); have hz7_1 := (blk_cell BK7.out 1).trans (rfl : _ = (some (.int .i64 x_.f1) : Option Value)); (try clear hf7_0); have hf7_0 := blk_frozen BK7.out 0; (try clear hf7_1); have hf7_1 := blk_frozen BK7.out 1))
        go_ret
        exact ⟨by rw [← Hr.out]; rfl, HB.out⟩
       | true =>
        have A2 := Gv.a0 ((impl_WheelOk.within x_.f0 0 9999).trans (congrArg some h1))
        have hr1 : 0 ≤ x_.f0 ∧ x_.f0 ≤ 9999 := by
         unfold Gv.wi at h1
         rw [Bool.and_eq_true, decide_eq_true_eq, decide_eq_true_eq] at h1
         exact h1
        have HW := Gv.a0 hr1
        clear hr1
        cases h2 : seen.contains x_.f0 with
        | true =>
         have Hr := Gv.a0 (show false = r from by
          have hN := HN.out
          unfold Gv.wkBad at hN
          rw [h1, h2, Bool.not_true, Bool.false_or, Bool.true_or, if_pos rfl] at hN
          exact hN)
         have H2 := Gv.a0 h2
         clear HN h1 h2
         go_wp2_with (first | ((with_reducible refine gate_dst (N := 7) rfl ?_); refine box_event ?hg (N := 7) ?hd (cs := #[.int .i64 0, .int .i64 0]) (t := 50) ?hr ?_; (case hd => rfl); (case hg => rfl); (case hr => first | (go_simp; done) | (go_simp; rfl)); intro gb7 hg w7 hbox hb; have n0_ := Gv.a0 (below_step Gv.bw hb); have n1_ := Gv.a0 hbox; have n2_ := Gv.a0 ((Gv.ble hg Gv.bw : w.heap.size ≤ gb7)); have n3_ := Gv.a0 (Gv.bb BK1.out hb); have n4_ := Gv.a0 ((Gv.ngt hg (Gv.kb BK1.out) : gb7 ≠ gb1)); have n5_ := Gv.a0 (impl_WheelOk.OM_below HM.out hb); have n6_ := Gv.a0 (show gb7 ≠ bm from by rw [hg]; exact Nat.ne_of_gt (impl_WheelOk.OM_lt HM.out)); (try clear HB BK1 HM); clear hb hbox hg; have HB := n0_; have BK7 := n1_; have GE7 := n2_; have BK1 := n3_; have NB7_1 := n4_; have HM := n5_; have NM7 := n6_; clear n0_ n1_ n2_ n3_ n4_ n5_ n6_) | ((with_reducible refine gate_store (t := 50) (p := 7) rfl ?_); refine Gv.store_event rfl rfl rfl rfl rfl (Gv.kb BK7.out) (by kernel_rfl) rfl (by first | rfl | (simp; done) | (simp; and_intros <;> rfl)) ?_; intro w7s hbox hoth hbel; have n0_ := Gv.a0 hbox; have n1_ := Gv.a0 (hbel w Gv.bw GE7.out); have n2_ := Gv.a0 ((hoth gb1 NB7_1.out.symm).trans (Gv.kb BK1.out)); have n3_ := Gv.a0 (impl_WheelOk.OM_move HM.out (hoth bm NM7.out.symm)); clear BK7 HB BK1 HM hbox hoth hbel; have BK7 := n0_; have HB := n1_; have BK1 := n2_; have HM := n3_; clear n0_ n1_ n2_ n3_; (try clear hz1_0); have hz1_0 := (blk_cell BK1.out 0).trans (rfl : _ = (some (.int .i64 a0_0) : Option Value)); (try clear hz1_1); have hz1_1 := (blk_cell BK1.out 1).trans (rfl : _ = (some (.slice (some ad) l0_1.length c0_1) : Option Value)); (try clear hf1_0); have hf1_0 := blk_frozen BK1.out 0; (try clear hf1_1); have hf1_1 := blk_frozen BK1.out 1; (try clear hz7_0); have hz7_0 := (blk_cell BK7.out 0).trans (rfl : _ = (some (.int .i64 x_.f0) : Option Value)); (try clear hz7_1); have hz7_1 := (blk_cell BK7.out 1).trans (rfl : _ = (some (.int .i64 x_.f1) : Option Value)); (try clear hf7_0); have hf7_0 := blk_frozen BK7.out 0; (try clear hf7_1); have hf7_1 := blk_frozen BK7.out 1) | ((with_reducible refine gate_callee (f := 30) rfl ?_); (try (refine gate_guard (by rfl) ?_; dsimp only)); refine goesL_ (some 36) rfl rfl Try.func30 (by kernel_rfl) rfl #[.int .i64 x_.f0, .int .i64 0, .int .i64 9999] rfl Gv.lm ?_; (with_reducible refine (impl_within.calls x_.f0 0 9999 true _ A2.out).mono ?_); rintro e wc ⟨rfl, hd⟩; refine ⟨_, rfl, ?_⟩; have hb := hd.below; clear hd; have n0_ := Gv.a0 (below_step Gv.bw hb); have n1_ := Gv.a0 (Gv.bb BK1.out hb); have n2_ := Gv.a0 (Gv.bb BK7.out hb); have n3_ := Gv.a0 (impl_WheelOk.OM_below HM.out hb); clear HB BK1 BK7 HM hb; have HB := n0_; have BK1 := n1_; have BK7 := n2_; have HM := n3_; clear n0_ n1_ n2_ n3_; (try clear hz1_0); have hz1_0 := (blk_cell BK1.out 0).trans (rfl : _ = (some (.int .i64 a0_0) : Option Value)); (try clear hz1_1); have hz1_1 := (blk_cell BK1.out 1).trans (rfl : _ = (some (.slice (some ad) l0_1.length c0_1) : Option Value)); (try clear hf1_0); have hf1_0 := blk_frozen BK1.out 0; (try clear hf1_1); have hf1_1 := blk_frozen BK1.out 1; (try clear hz7_0); have hz7_0 := (blk_cell BK7.out 0).trans (rfl : _ = (some (.int .i64 x_.f0) : Option Value)); (try clear hz7_1); have hz7_1 := (blk_cell BK7.out 1).trans (rfl : _ = (some (.int .i64 x_.f1) : Option Value)); (try clear hf7_0); have hf7_0 := blk_frozen BK7.out 0; (try clear hf7_1); have hf7_1 := blk_frozen BK7.out 1) | ((with_reducible refine gate_dst (N := 42) rfl ?_); (try (refine gate_guard (by rfl) ?_; dsimp only)); refine impl_WheelOk.look rfl rfl rfl rfl HM.out HW.out.1 HW.out.2 ?_; rw [H2.out]))
         go_ret
         exact ⟨by rw [← Hr.out]; rfl, HB.out⟩
        | false =>
         have H2 := Gv.a0 h2
         cases h3 : Gv.wi x_.f1 (wrap64 (a0_0 + 1)) (wrap64 (a0_0 + 1000)) with
         | false =>
          have A3 := Gv.a0 ((impl_WheelOk.ahead a0_0 l0_1 x_.f1).trans (congrArg some h3))
          have Hr := Gv.a0 (show false = r from by
           have hN := HN.out
           unfold Gv.wkBad at hN
           rw [h1, h2, h3, Bool.not_true, Bool.false_or, Bool.false_or, Bool.not_false, Bool.true_or, if_pos rfl] at hN
           exact hN)
          clear HN h1 h2 h3
          go_wp2_with (first | ((with_reducible refine gate_dst (N := 7) rfl ?_); refine box_event ?hg (N := 7) ?hd (cs := #[.int .i64 0, .int .i64 0]) (t := 50) ?hr ?_; (case hd => rfl); (case hg => rfl); (case hr => first | (go_simp; done) | (go_simp; rfl)); intro gb7 hg w7 hbox hb; have n0_ := Gv.a0 (below_step Gv.bw hb); have n1_ := Gv.a0 hbox; have n2_ := Gv.a0 ((Gv.ble hg Gv.bw : w.heap.size ≤ gb7)); have n3_ := Gv.a0 (Gv.bb BK1.out hb); have n4_ := Gv.a0 ((Gv.ngt hg (Gv.kb BK1.out) : gb7 ≠ gb1)); have n5_ := Gv.a0 (impl_WheelOk.OM_below HM.out hb); have n6_ := Gv.a0 (show gb7 ≠ bm from by rw [hg]; exact Nat.ne_of_gt (impl_WheelOk.OM_lt HM.out)); (try clear HB BK1 HM); clear hb hbox hg; have HB := n0_; have BK7 := n1_; have GE7 := n2_; have BK1 := n3_; have NB7_1 := n4_; have HM := n5_; have NM7 := n6_; clear n0_ n1_ n2_ n3_ n4_ n5_ n6_) | ((with_reducible refine gate_store (t := 50) (p := 7) rfl ?_); refine Gv.store_event rfl rfl rfl rfl rfl (Gv.kb BK7.out) (by kernel_rfl) rfl (by first | rfl | (simp; done) | (simp; and_intros <;> rfl)) ?_; intro w7s hbox hoth hbel; have n0_ := Gv.a0 hbox; have n1_ := Gv.a0 (hbel w Gv.bw GE7.out); have n2_ := Gv.a0 ((hoth gb1 NB7_1.out.symm).trans (Gv.kb BK1.out)); have n3_ := Gv.a0 (impl_WheelOk.OM_move HM.out (hoth bm NM7.out.symm)); clear BK7 HB BK1 HM hbox hoth hbel; have BK7 := n0_; have HB := n1_; have BK1 := n2_; have HM := n3_; clear n0_ n1_ n2_ n3_; (try clear hz1_0); have hz1_0 := (blk_cell BK1.out 0).trans (rfl : _ = (some (.int .i64 a0_0) : Option Value)); (try clear hz1_1); have hz1_1 := (blk_cell BK1.out 1).trans (rfl : _ = (some (.slice (some ad) l0_1.length c0_1) : Option Value)); (try clear hf1_0); have hf1_0 := blk_frozen BK1.out 0; (try clear hf1_1); have hf1_1 := blk_frozen BK1.out 1; (try clear hz7_0); have hz7_0 := (blk_cell BK7.out 0).trans (rfl : _ = (some (.int .i64 x_.f0) : Option Value)); (try clear hz7_1); have hz7_1 := (blk_cell BK7.out 1).trans (rfl : _ = (some (.int .i64 x_.f1) : Option Value)); (try clear hf7_0); have hf7_0 := blk_frozen BK7.out 0; (try clear hf7_1); have hf7_1 := blk_frozen BK7.out 1) | ((with_reducible refine gate_callee (f := 30) rfl ?_); (try (refine gate_guard (by rfl) ?_; dsimp only)); refine goesL_ (some 36) rfl rfl Try.func30 (by kernel_rfl) rfl #[.int .i64 x_.f0, .int .i64 0, .int .i64 9999] rfl Gv.lm ?_; (with_reducible refine (impl_within.calls x_.f0 0 9999 true _ A2.out).mono ?_); rintro e wc ⟨rfl, hd⟩; refine ⟨_, rfl, ?_⟩; have hb := hd.below; clear hd; have n0_ := Gv.a0 (below_step Gv.bw hb); have n1_ := Gv.a0 (Gv.bb BK1.out hb); have n2_ := Gv.a0 (Gv.bb BK7.out hb); have n3_ := Gv.a0 (impl_WheelOk.OM_below HM.out hb); clear HB BK1 BK7 HM hb; have HB := n0_; have BK1 := n1_; have BK7 := n2_; have HM := n3_; clear n0_ n1_ n2_ n3_; (try clear hz1_0); have hz1_0 := (blk_cell BK1.out 0).trans (rfl : _ = (some (.int .i64 a0_0) : Option Value)); (try clear hz1_1); have hz1_1 := (blk_cell BK1.out 1).trans (rfl : _ = (some (.slice (some ad) l0_1.length c0_1) : Option Value)); (try clear hf1_0); have hf1_0 := blk_frozen BK1.out 0; (try clear hf1_1); have hf1_1 := blk_frozen BK1.out 1; (try clear hz7_0); have hz7_0 := (blk_cell BK7.out 0).trans (rfl : _ = (some (.int .i64 x_.f0) : Option Value)); (try clear hz7_1); have hz7_1 := (blk_cell BK7.out 1).trans (rfl : _ = (some (.int .i64 x_.f1) : Option Value)); (try clear hf7_0); have hf7_0 := blk_frozen BK7.out 0; (try clear hf7_1); have hf7_1 := blk_frozen BK7.out 1) | ((with_reducible refine gate_dst (N := 42) rfl ?_); (try (refine gate_guard (by rfl) ?_; dsimp only)); refine impl_WheelOk.look rfl rfl rfl rfl HM.out HW.out.1 HW.out.2 ?_; rw [H2.out]) | ((with_reducible refine gate_callee (f := 31) rfl ?_); (try (refine gate_guard (by rfl) ?_; dsimp only)); refine goesL_ (some 48) rfl rfl Try.func31 (by kernel_rfl) rfl #[.agg #[.int .i64 a0_0, .slice (some ad) l0_1.length c0_1], .int .i64 x_.f1] rfl Gv.lm ?_; (with_reducible refine (impl_Wheel_isAhead.calls a0_0 _ _ l0_1 x_.f1 false _ (Kd.C_below HR0.out HB.out) HC0.out A3.out).mono ?_); rintro e wc ⟨rfl, hd⟩; refine ⟨_, rfl, ?_⟩; have hb := hd; clear hd; have n0_ := Gv.a0 (below_step Gv.bw hb); have n1_ := Gv.a0 (Gv.bb BK1.out hb); have n2_ := Gv.a0 (Gv.bb BK7.out hb); have n3_ := Gv.a0 (impl_WheelOk.OM_below HM.out hb); clear HB BK1 BK7 HM hb; have HB := n0_; have BK1 := n1_; have BK7 := n2_; have HM := n3_; clear n0_ n1_ n2_ n3_; (try clear hz1_0); have hz1_0 := (blk_cell BK1.out 0).trans (rfl : _ = (some (.int .i64 a0_0) : Option Value)); (try clear hz1_1); have hz1_1 := (blk_cell BK1.out 1).trans (rfl : _ = (some (.slice (some ad) l0_1.length c0_1) : Option Value)); (try clear hf1_0); have hf1_0 := blk_frozen BK1.out 0; (try clear hf1_1); have hf1_1 := blk_frozen BK1.out 1; (try clear hz7_0); have hz7_0 := (blk_cell BK7.out 0).trans (rfl : _ = (some (.int .i64 x_.f0) : Option Value)); (try clear hz7_1); have hz7_1 := (blk_cell BK7.out 1).trans (rfl : _ = (some (.int .i64 x_.f1) : Option Value)); (try clear hf7_0); have hf7_0 := blk_frozen BK7.out 0; (try clear hf7_1); have hf7_1 := blk_frozen BK7.out 1))
          go_ret
          exact ⟨by rw [← Hr.out]; rfl, HB.out⟩
         | true =>
          have A3 := Gv.a0 ((impl_WheelOk.ahead a0_0 l0_1 x_.f1).trans (congrArg some h3))
          by_cases h4 : Int.tmod x_.f1 8 = (kk : Int)
          rotate_left
          ·have h4a : (Int.tmod x_.f1 8 == (kk : Int)) = false := beq_eq_false_iff_ne.2 h4
           have h4b : (Int.tmod x_.f1 8 != (kk : Int)) = true := bne_iff_ne.2 h4
           have Hr := Gv.a0 (show false = r from by
            have hN := HN.out
            unfold Gv.wkBad at hN
            rw [h1, h2, h3, h4a, Bool.not_true, Bool.false_or, Bool.false_or, Bool.false_or, Bool.not_false, if_pos rfl] at hN
            exact hN)
           clear HN h1 h2 h3 h4
           go_wp2_with (first | ((with_reducible refine gate_dst (N := 7) rfl ?_); refine box_event ?hg (N := 7) ?hd (cs := #[.int .i64 0, .int .i64 0]) (t := 50) ?hr ?_; (case hd => rfl); (case hg => rfl); (case hr => first | (go_simp; done) | (go_simp; rfl)); intro gb7 hg w7 hbox hb; have n0_ := Gv.a0 (below_step Gv.bw hb); have n1_ := Gv.a0 hbox; have n2_ := Gv.a0 ((Gv.ble hg Gv.bw : w.heap.size ≤ gb7)); have n3_ := Gv.a0 (Gv.bb BK1.out hb); have n4_ := Gv.a0 ((Gv.ngt hg (Gv.kb BK1.out) : gb7 ≠ gb1)); have n5_ := Gv.a0 (impl_WheelOk.OM_below HM.out hb); have n6_ := Gv.a0 (show gb7 ≠ bm from by rw [hg]; exact Nat.ne_of_gt (impl_WheelOk.OM_lt HM.out)); (try clear HB BK1 HM); clear hb hbox hg; have HB := n0_; have BK7 := n1_; have GE7 := n2_; have BK1 := n3_; have NB7_1 := n4_; have HM := n5_; have NM7 := n6_; clear n0_ n1_ n2_ n3_ n4_ n5_ n6_) | ((with_reducible refine gate_store (t := 50) (p := 7) rfl ?_); refine Gv.store_event rfl rfl rfl rfl rfl (Gv.kb BK7.out) (by kernel_rfl) rfl (by first | rfl | (simp; done) | (simp; and_intros <;> rfl)) ?_; intro w7s hbox hoth hbel; have n0_ := Gv.a0 hbox; have n1_ := Gv.a0 (hbel w Gv.bw GE7.out); have n2_ := Gv.a0 ((hoth gb1 NB7_1.out.symm).trans (Gv.kb BK1.out)); have n3_ := Gv.a0 (impl_WheelOk.OM_move HM.out (hoth bm NM7.out.symm)); clear BK7 HB BK1 HM hbox hoth hbel; have BK7 := n0_; have HB := n1_; have BK1 := n2_; have HM := n3_; clear n0_ n1_ n2_ n3_; (try clear hz1_0); have hz1_0 := (blk_cell BK1.out 0).trans (rfl : _ = (some (.int .i64 a0_0) : Option Value)); (try clear hz1_1); have hz1_1 := (blk_cell BK1.out 1).trans (rfl : _ = (some (.slice (some ad) l0_1.length c0_1) : Option Value)); (try clear hf1_0); have hf1_0 := blk_frozen BK1.out 0; (try clear hf1_1); have hf1_1 := blk_frozen BK1.out 1; (try clear hz7_0); have hz7_0 := (blk_cell BK7.out 0).trans (rfl : _ = (some (.int .i64 x_.f0) : Option Value)); (try clear hz7_1); have hz7_1 := (blk_cell BK7.out 1).trans (rfl : _ = (some (.int .i64 x_.f1) : Option Value)); (try clear hf7_0); have hf7_0 := blk_frozen BK7.out 0; (try clear hf7_1); have hf7_1 := blk_frozen BK7.out 1) | ((with_reducible refine gate_callee (f := 30) rfl ?_); (try (refine gate_guard (by rfl) ?_; dsimp only)); refine goesL_ (some 36) rfl rfl Try.func30 (by kernel_rfl) rfl #[.int .i64 x_.f0, .int .i64 0, .int .i64 9999] rfl Gv.lm ?_; (with_reducible refine (impl_within.calls x_.f0 0 9999 true _ A2.out).mono ?_); rintro e wc ⟨rfl, hd⟩; refine ⟨_, rfl, ?_⟩; have hb := hd.below; clear hd; have n0_ := Gv.a0 (below_step Gv.bw hb); have n1_ := Gv.a0 (Gv.bb BK1.out hb); have n2_ := Gv.a0 (Gv.bb BK7.out hb); have n3_ := Gv.a0 (impl_WheelOk.OM_below HM.out hb); clear HB BK1 BK7 HM hb; have HB := n0_; have BK1 := n1_; have BK7 := n2_; have HM := n3_; clear n0_ n1_ n2_ n3_; (try clear hz1_0); have hz1_0 := (blk_cell BK1.out 0).trans (rfl : _ = (some (.int .i64 a0_0) : Option Value)); (try clear hz1_1); have hz1_1 := (blk_cell BK1.out 1).trans (rfl : _ = (some (.slice (some ad) l0_1.length c0_1) : Option Value)); (try clear hf1_0); have hf1_0 := blk_frozen BK1.out 0; (try clear hf1_1); have hf1_1 := blk_frozen BK1.out 1; (try clear hz7_0); have hz7_0 := (blk_cell BK7.out 0).trans (rfl : _ = (some (.int .i64 x_.f0) : Option Value)); (try clear hz7_1); have hz7_1 := (blk_cell BK7.out 1).trans (rfl : _ = (some (.int .i64 x_.f1) : Option Value)); (try clear hf7_0); have hf7_0 := blk_frozen BK7.out 0; (try clear hf7_1); have hf7_1 := blk_frozen BK7.out 1) | ((with_reducible refine gate_dst (N := 42) rfl ?_); (try (refine gate_guard (by rfl) ?_; dsimp only)); refine impl_WheelOk.look rfl rfl rfl rfl HM.out HW.out.1 HW.out.2 ?_; rw [H2.out]) | ((with_reducible refine gate_callee (f := 31) rfl ?_); (try (refine gate_guard (by rfl) ?_; dsimp only)); refine goesL_ (some 48) rfl rfl Try.func31 (by kernel_rfl) rfl #[.agg #[.int .i64 a0_0, .slice (some ad) l0_1.length c0_1], .int .i64 x_.f1] rfl Gv.lm ?_; (with_reducible refine (impl_Wheel_isAhead.calls a0_0 _ _ l0_1 x_.f1 true _ (Kd.C_below HR0.out HB.out) HC0.out A3.out).mono ?_); rintro e wc ⟨rfl, hd⟩; refine ⟨_, rfl, ?_⟩; have hb := hd; clear hd; have n0_ := Gv.a0 (below_step Gv.bw hb); have n1_ := Gv.a0 (Gv.bb BK1.out hb); have n2_ := Gv.a0 (Gv.bb BK7.out hb); have n3_ := Gv.a0 (impl_WheelOk.OM_below HM.out hb); clear HB BK1 BK7 HM hb; have HB := n0_; have BK1 := n1_; have BK7 := n2_; have HM := n3_; clear n0_ n1_ n2_ n3_; (try clear hz1_0); have hz1_0 := (blk_cell BK1.out 0).trans (rfl : _ = (some (.int .i64 a0_0) : Option Value)); (try clear hz1_1); have hz1_1 := (blk_cell BK1.out 1).trans (rfl : _ = (some (.slice (some ad) l0_1.length c0_1) : Option Value)); (try clear hf1_0); have hf1_0 := blk_frozen BK1.out 0; (try clear hf1_1); have hf1_1 := blk_frozen BK1.out 1; (try clear hz7_0); have hz7_0 := (blk_cell BK7.out 0).trans (rfl : _ = (some (.int .i64 x_.f0) : Option Value)); (try clear hz7_1); have hz7_1 := (blk_cell BK7.out 1).trans (rfl : _ = (some (.int .i64 x_.f1) : Option Value)); (try clear hf7_0); have hf7_0 := blk_frozen BK7.out 0; (try clear hf7_1); have hf7_1 := blk_frozen BK7.out 1))
           go_ret
           exact ⟨by rw [← Hr.out]; rfl, HB.out⟩
          ·have h4a : (Int.tmod x_.f1 8 == (kk : Int)) = true := beq_iff_eq.2 h4
           have h4b : (Int.tmod x_.f1 8 != (kk : Int)) = false := bne_eq_false_iff_eq.2 h4
           have hN := HN.out
           unfold Gv.wkBad at hN
           rw [h1, h2, h3, h4a, Bool.not_true, Bool.false_or, Bool.false_or, Bool.false_or, if_neg (by decide)] at hN
           clear HN
           have HN := Gv.a0 hN
           have HI2 := Gv.a0 (show (seen ++ [x_.f0]).Nodup ∧ ∀ x, x ∈ seen ++ [x_.f0] → 0 ≤ x ∧ x < (10000 : Nat) from by
            obtain ⟨i1, i2⟩ := HI.out
            have hw := HW.out
            have hc : x_.f0 ∉ seen := by simpa using h2
            refine ⟨List.nodup_append.2 ⟨i1, by simp, fun a ha b hb e => hc (by simp at hb; rw [← hb, ← e]; exact ha)⟩, fun x hx => ?_⟩
            rw [List.mem_append, List.mem_singleton] at hx
            rcases hx with hx | rfl
            ·exact i2 x hx
            ·omega)
           have HLM := Gv.a0 (show seen.length < maxLen from by
            have := impl_WheelOk.nodup_le 10000 seen HI.out.1 HI.out.2
            unfold maxLen
            omega)
           clear hN HI h1 h2 h3 h4
           go_wp2_with (first | ((with_reducible refine gate_dst (N := 7) rfl ?_); refine box_event ?hg (N := 7) ?hd (cs := #[.int .i64 0, .int .i64 0]) (t := 50) ?hr ?_; (case hd => rfl); (case hg => rfl); (case hr => first | (go_simp; done) | (go_simp; rfl)); intro gb7 hg w7 hbox hb; have n0_ := Gv.a0 (below_step Gv.bw hb); have n1_ := Gv.a0 hbox; have n2_ := Gv.a0 ((Gv.ble hg Gv.bw : w.heap.size ≤ gb7)); have n3_ := Gv.a0 (Gv.bb BK1.out hb); have n4_ := Gv.a0 ((Gv.ngt hg (Gv.kb BK1.out) : gb7 ≠ gb1)); have n5_ := Gv.a0 (impl_WheelOk.OM_below HM.out hb); have n6_ := Gv.a0 (show gb7 ≠ bm from by rw [hg]; exact Nat.ne_of_gt (impl_WheelOk.OM_lt HM.out)); (try clear HB BK1 HM); clear hb hbox hg; have HB := n0_; have BK7 := n1_; have GE7 := n2_; have BK1 := n3_; have NB7_1 := n4_; have HM := n5_; have NM7 := n6_; clear n0_ n1_ n2_ n3_ n4_ n5_ n6_) | ((with_reducible refine gate_store (t := 50) (p := 7) rfl ?_); refine Gv.store_event rfl rfl rfl rfl rfl (Gv.kb BK7.out) (by kernel_rfl) rfl (by first | rfl | (simp; done) | (simp; and_intros <;> rfl)) ?_; intro w7s hbox hoth hbel; have n0_ := Gv.a0 hbox; have n1_ := Gv.a0 (hbel w Gv.bw GE7.out); have n2_ := Gv.a0 ((hoth gb1 NB7_1.out.symm).trans (Gv.kb BK1.out)); have n3_ := Gv.a0 (impl_WheelOk.OM_move HM.out (hoth bm NM7.out.symm)); clear BK7 HB BK1 HM hbox hoth hbel; have BK7 := n0_; have HB := n1_; have BK1 := n2_; have HM := n3_; clear n0_ n1_ n2_ n3_; (try clear hz1_0); have hz1_0 := (blk_cell BK1.out 0).trans (rfl : _ = (some (.int .i64 a0_0) : Option Value)); (try clear hz1_1); have hz1_1 := (blk_cell BK1.out 1).trans (rfl : _ = (some (.slice (some ad) l0_1.length c0_1) : Option Value)); (try clear hf1_0); have hf1_0 := blk_frozen BK1.out 0; (try clear hf1_1); have hf1_1 := blk_frozen BK1.out 1; (try clear hz7_0); have hz7_0 := (blk_cell BK7.out 0).trans (rfl : _ = (some (.int .i64 x_.f0) : Option Value)); (try clear hz7_1); have hz7_1 := (blk_cell BK7.out 1).trans (rfl : _ = (some (.int .i64 x_.f1) : Option Value)); (try clear hf7_0); have hf7_0 := blk_frozen BK7.out 0; (try clear hf7_1); have hf7_1 := blk_frozen BK7.out 1) | ((with_reducible refine gate_callee (f := 30) rfl ?_); (try (refine gate_guard (by rfl) ?_; dsimp only)); refine goesL_ (some 36) rfl rfl Try.func30 (by kernel_rfl) rfl #[.int .i64 x_.f0, .int .i64 0, .int .i64 9999] rfl Gv.lm ?_; (with_reducible refine (impl_within.calls x_.f0 0 9999 true _ A2.out).mono ?_); rintro e wc ⟨rfl, hd⟩; refine ⟨_, rfl, ?_⟩; have hb := hd.below; clear hd; have n0_ := Gv.a0 (below_step Gv.bw hb); have n1_ := Gv.a0 (Gv.bb BK1.out hb); have n2_ := Gv.a0 (Gv.bb BK7.out hb); have n3_ := Gv.a0 (impl_WheelOk.OM_below HM.out hb); clear HB BK1 BK7 HM hb; have HB := n0_; have BK1 := n1_; have BK7 := n2_; have HM := n3_; clear n0_ n1_ n2_ n3_; (try clear hz1_0); have hz1_0 := (blk_cell BK1.out 0).trans (rfl : _ = (some (.int .i64 a0_0) : Option Value)); (try clear hz1_1); have hz1_1 := (blk_cell BK1.out 1).trans (rfl : _ = (some (.slice (some ad) l0_1.length c0_1) : Option Value)); (try clear hf1_0); have hf1_0 := blk_frozen BK1.out 0; (try clear hf1_1); have hf1_1 := blk_frozen BK1.out 1; (try clear hz7_0); have hz7_0 := (blk_cell BK7.out 0).trans (rfl : _ = (some (.int .i64 x_.f0) : Option Value)); (try clear hz7_1); have hz7_1 := (blk_cell BK7.out 1).trans (rfl : _ = (some (.int .i64 x_.f1) : Option Value)); (try clear hf7_0); have hf7_0 := blk_frozen BK7.out 0; (try clear hf7_1); have hf7_1 := blk_frozen BK7.out 1) | ((with_reducible refine gate_dst (N := 42) rfl ?_); (try (refine gate_guard (by rfl) ?_; dsimp only)); refine impl_WheelOk.look rfl rfl rfl rfl HM.out HW.out.1 HW.out.2 ?_; rw [H2.out]) | ((with_reducible refine gate_callee (f := 31) rfl ?_); (try (refine gate_guard (by rfl) ?_; dsimp only)); refine goesL_ (some 48) rfl rfl Try.func31 (by kernel_rfl) rfl #[.agg #[.int .i64 a0_0, .slice (some ad) l0_1.length c0_1], .int .i64 x_.f1] rfl Gv.lm ?_; (with_reducible refine (impl_Wheel_isAhead.calls a0_0 _ _ l0_1 x_.f1 true _ (Kd.C_below HR0.out HB.out) HC0.out A3.out).mono ?_); rintro e wc ⟨rfl, hd⟩; refine ⟨_, rfl, ?_⟩; have hb := hd; clear hd; have n0_ := Gv.a0 (below_step Gv.bw hb); have n1_ := Gv.a0 (Gv.bb BK1.out hb); have n2_ := Gv.a0 (Gv.bb BK7.out hb); have n3_ := Gv.a0 (impl_WheelOk.OM_below HM.out hb); clear HB BK1 BK7 HM hb; have HB := n0_; have BK1 := n1_; have BK7 := n2_; have HM := n3_; clear n0_ n1_ n2_ n3_; (try clear hz1_0); have hz1_0 := (blk_cell BK1.out 0).trans (rfl : _ = (some (.int .i64 a0_0) : Option Value)); (try clear hz1_1); have hz1_1 := (blk_cell BK1.out 1).trans (rfl : _ = (some (.slice (some ad) l0_1.length c0_1) : Option Value)); (try clear hf1_0); have hf1_0 := blk_frozen BK1.out 0; (try clear hf1_1); have hf1_1 := blk_frozen BK1.out 1; (try clear hz7_0); have hz7_0 := (blk_cell BK7.out 0).trans (rfl : _ = (some (.int .i64 x_.f0) : Option Value)); (try clear hz7_1); have hz7_1 := (blk_cell BK7.out 1).trans (rfl : _ = (some (.int .i64 x_.f1) : Option Value)); (try clear hf7_0); have hf7_0 := blk_frozen BK7.out 0; (try clear hf7_1); have hf7_1 := blk_frozen BK7.out 1) | (at_mapUpdate; refine impl_WheelOk.upd rfl rfl rfl rfl rfl rfl HM.out HW.out.1 HW.out.2 H2.out HLM.out ?_; intro wm2 hM hoth hbel; have n0_ := Gv.a0 (hbel w HB.out GEM.out); have n1_ := Gv.a0 ((hoth gb1 (blk_lt BK1.out) NM1.out).trans BK1.out); have n2_ := Gv.a0 hM; clear HB BK1 HM hM hoth hbel; have HB := n0_; have BK1 := n1_; have HM := n2_; clear n0_ n1_ n2_))
           go_roundg ((rd_T47 l0_1 (kk : Int)).f0.length - (jj + 1))
           case measure => have := HLT2.out; have := HG2.out; omega
           case rel =>
            have hlm := HR1.out.2.1
            have h9 := HLT2.out
            exact ⟨jj + 1, seen ++ [x_.f0], by omega, by omega, by rw [show wrap64 ((jj : Int) + 1) = ((jj + 1 : Nat) : Int) from by unfold wrap64; omega], HN, HI2, HM, BK1, HB⟩
      ·have hltz2 : ¬ (jj : Int) < ((rd_T47 l0_1 (kk : Int)).f0.length : Int) := by omega
       have hN := HN.out
       rw [List.drop_eq_nil_of_le (by have := HJJ.out; omega), Gv.wkIn, Option.bind_some] at hN
       clear HN
       have HN := Gv.a0 hN
       clear hN
       go_wp2_with fail
       go_roundg (l0_1.length - (kk + 1))
       case measure => have := HLT.out; have := HG.out; omega
       case rel => 
        have h8 := HL.out
        have h9 := HLT.out
        exact ⟨kk + 1, seen, by omega, by omega, by rw [show wrap64 ((kk : Int) + 1) = ((kk + 1 : Nat) : Int) from by unfold wrap64; omega], HN, HI, HM, BK1, HB⟩
    ·have hltz : ¬ (kk : Int) < (l0_1.length : Int) := by omega
     have hN := HN.out
     rw [List.drop_eq_nil_of_le (by have := HKK.out; omega), Gv.wkOut] at hN
     obtain ⟨D, hown, hsz, hat⟩ := HM.out
     have HRr := Gv.a0 (show decide (seen.length ≤ 64) = r from hN)
     go_wp2_with (at_len; refine wpList_len_own _ rfl _ 52 rfl 3 4 Try.underlying52 _ bm _ D rfl hown ?_)
     go_ret
     exact ⟨by rw [← HRr.out]; exact congrArg (fun b => Ending.returned (Value.bool b)) (decide_eq_decide.2 (by omega)), HB.out⟩

end Go.Proofs.Ytbfbfaoolkbodaa.PWx
