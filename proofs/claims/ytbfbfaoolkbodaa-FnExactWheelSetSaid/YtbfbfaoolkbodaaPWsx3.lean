/- Plain Lean functions of a law's Go functions, their contracts, by a program of this session (wip/pr.py over the kit's print). -/
import Derived.Test.YtbfbfaoolkbodaaPWsx0
import Derived.Test.YtbfbfaoolkbodaaPWsx1
import Derived.Test.YtbfbfaoolkbodaaPWsx2
namespace Go.Proofs.Ytbfbfaoolkbodaa.PWs
open Go.RowKit Go.Proofs.YtbfbfaoolkbodaaW.PrintWords Go.Proofs.YtbfbfaoolkbodaaW.PrintLast Go.Proofs.YtbfbfaoolkbodaaW.PrintMore
attribute [local go_sem] max2_int min2_int max_two min_two max_three min_three max_four min_four   -- for this text's walks alone
set_option linter.unusedVariables false
set_option linter.unusedSimpArgs false

/-! ### spec_WheelSet: function 21 -/
mutual
def spec_WheelSet.j0 : Nat → Int → Int → Bool → Int → List (S47) → Option (Int × (List (S47)) × Int)
 | 0, _, _, _, _, _ => none
 | k + 1, x1, x2, x20, x204000, x204001 => if x20 = true then (some (0, ([] : List (S47)), 1)) else (if x2 ≤ x204000 then (spec_WheelSet.j1 k x1 x2 true x204000 x204001) else (spec_WheelSet.j1 k x1 x2 (decide (x2 > (wrap64 (x204000 + 1000)))) x204000 x204001))
def spec_WheelSet.j1 : Nat → Int → Int → Bool → Int → List (S47) → Option (Int × (List (S47)) × Int)
 | 0, _, _, _, _, _ => none
 | k + 1, x1, x2, x32, x204000, x204001 => if x32 = true then (some (0, ([] : List (S47)), 2)) else ((spec_l12Has.f k x204000 x204001 x1).bind fun t206 => (if t206 = true then ((spec_l12Without.f k x204000 x204001 x204000 x1 (-1)).bind fun bt207 => (if 0 ≤ (Int.tmod x2 8) then (if (Int.tmod x2 8) < (bt207.2.length : Int) then (if ((rd_T47 bt207.2 (Int.tmod x2 8)).f0).length < 8796093022208 then (some (bt207.1, (bt207.2.set ((Int.tmod x2 8) : Int).toNat (⟨(((rd_T47 bt207.2 (Int.tmod x2 8)).f0) ++ [(⟨x1, x2⟩ : S50)])⟩ : S47)), 0)) else (none)) else (none)) else (none))) else ((spec_l12All.f k x204000 x204001).bind fun t217 => (if (t217.length : Int) = 64 then (some (0, ([] : List (S47)), 3)) else ((spec_l12Without.f k x204000 x204001 x204000 x1 (-1)).bind fun bt220 => (if 0 ≤ (Int.tmod x2 8) then (if (Int.tmod x2 8) < (bt220.2.length : Int) then (if ((rd_T47 bt220.2 (Int.tmod x2 8)).f0).length < 8796093022208 then (some (bt220.1, (bt220.2.set ((Int.tmod x2 8) : Int).toNat (⟨(((rd_T47 bt220.2 (Int.tmod x2 8)).f0) ++ [(⟨x1, x2⟩ : S50)])⟩ : S47)), 0)) else (none)) else (none)) else (none)))))))
end
def spec_WheelSet.f (k : Nat) (a0_0 : Int) (l0_1 : List (S47)) (a1 : Int) (a2 : Int) : Option (Int × (List (S47)) × Int) := (spec_WheelOk.f k a0_0 l0_1).bind fun t205 => (if t205 = true then (if a1 < 0 then (spec_WheelSet.j0 k a1 a2 true a0_0 l0_1) else (spec_WheelSet.j0 k a1 a2 (decide (a1 > 9999)) a0_0 l0_1)) else (spec_WheelSet.j0 k a1 a2 true a0_0 l0_1))
theorem spec_WheelSet.mono_l : ∀ k, (∀ y0 y1 y2 y3 y4, LeO (spec_WheelSet.j0 k y0 y1 y2 y3 y4) (spec_WheelSet.j0 (k + 1) y0 y1 y2 y3 y4)) ∧ (∀ y0 y1 y2 y3 y4, LeO (spec_WheelSet.j1 k y0 y1 y2 y3 y4) (spec_WheelSet.j1 (k + 1) y0 y1 y2 y3 y4))
 | 0 => ⟨fun _ _ _ _ _ r h => by simp [spec_WheelSet.j0] at h, fun _ _ _ _ _ r h => by simp [spec_WheelSet.j1] at h⟩
 | k + 1 => by
  obtain ⟨ih0, ih1⟩ := spec_WheelSet.mono_l k
  refine ⟨?_, ?_⟩
  ·intro y0 y1 y2 y3 y4
   unfold spec_WheelSet.j0
   repeat' first
   | (with_reducible exact ih0 _ _ _ _ _)
   | (with_reducible exact ih1 _ _ _ _ _)
   | (with_reducible exact spec_WheelOk.mono _ _ _)
   | (with_reducible exact spec_l12All.mono _ _ _)
   | (with_reducible exact spec_l12Has.mono _ _ _ _)
   | (with_reducible exact spec_l12Without.mono _ _ _ _ _ _)
   | (with_reducible exact LeO.refl _)
   | (with_reducible exact LeO.none _)
   | (with_reducible refine LeO.ite ?_ ?_)
   | (with_reducible refine LeO.bind ?_ (fun _ => ?_))
   | exact ih0 _ _ _ _ _
   | exact ih1 _ _ _ _ _
   | exact spec_WheelOk.mono _ _ _
   | exact spec_l12All.mono _ _ _
   | exact spec_l12Has.mono _ _ _ _
   | exact spec_l12Without.mono _ _ _ _ _ _
   | exact LeO.none _
   | refine LeO.ite ?_ ?_
   | refine LeO.bind ?_ (fun _ => ?_)
  ·intro y0 y1 y2 y3 y4
   unfold spec_WheelSet.j1
   repeat' first
   | (with_reducible exact ih0 _ _ _ _ _)
   | (with_reducible exact ih1 _ _ _ _ _)
   | (with_reducible exact spec_WheelOk.mono _ _ _)
   | (with_reducible exact spec_l12All.mono _ _ _)
   | (with_reducible exact spec_l12Has.mono _ _ _ _)
   | (with_reducible exact spec_l12Without.mono _ _ _ _ _ _)
   | (with_reducible exact LeO.refl _)
   | (with_reducible exact LeO.none _)
   | (with_reducible refine LeO.ite ?_ ?_)
   | (with_reducible refine LeO.bind ?_ (fun _ => ?_))
   | exact ih0 _ _ _ _ _
   | exact ih1 _ _ _ _ _
   | exact spec_WheelOk.mono _ _ _
   | exact spec_l12All.mono _ _ _
   | exact spec_l12Has.mono _ _ _ _
   | exact spec_l12Without.mono _ _ _ _ _ _
   | exact LeO.none _
   | refine LeO.ite ?_ ?_
   | refine LeO.bind ?_ (fun _ => ?_)
theorem spec_WheelSet.mono : ∀ a0 a1 a2 a3 k, LeO (spec_WheelSet.f k a0 a1 a2 a3) (spec_WheelSet.f (k + 1) a0 a1 a2 a3) := by
 intro a0 a1 a2 a3 k
 obtain ⟨ih0, ih1⟩ := spec_WheelSet.mono_l k
 unfold spec_WheelSet.f
 repeat' first
   | (with_reducible exact ih0 _ _ _ _ _)
   | (with_reducible exact ih1 _ _ _ _ _)
   | (with_reducible exact spec_WheelOk.mono _ _ _)
   | (with_reducible exact spec_l12All.mono _ _ _)
   | (with_reducible exact spec_l12Has.mono _ _ _ _)
   | (with_reducible exact spec_l12Without.mono _ _ _ _ _ _)
   | (with_reducible exact LeO.refl _)
   | (with_reducible exact LeO.none _)
   | (with_reducible refine LeO.ite ?_ ?_)
   | (with_reducible refine LeO.bind ?_ (fun _ => ?_))
   | exact ih0 _ _ _ _ _
   | exact ih1 _ _ _ _ _
   | exact spec_WheelOk.mono _ _ _
   | exact spec_l12All.mono _ _ _
   | exact spec_l12Has.mono _ _ _ _
   | exact spec_l12Without.mono _ _ _ _ _ _
   | exact LeO.none _
   | refine LeO.ite ?_ ?_
   | refine LeO.bind ?_ (fun _ => ?_)
def spec_WheelSet.T9 : Bool × List (List Nat × List Nat) := (true, [([], []), ([0], [0]), ([], []), ([], []), ([3], [3]), ([], []), ([4, 5], [4, 5]), ([6], [6]), ([7], [7]), ([], []), ([], []), ([9, 10], [9, 10]), ([11], [11]), ([8, 12], [8, 12]), ([1, 2, 0, 1, 2, 3, 4, 5, 6, 7, 8, 9, 10, 11, 12, 13], [1, 2]), ([14, 0, 1, 2, 3, 4, 5, 6, 7, 8, 9, 10, 11, 12, 13], [14]), ([15, 13, 13, 0, 1, 2, 3, 4, 5, 6, 7, 8, 9, 10, 11, 12, 13], [13, 15])])
def spec_WheelSet.B9 : List Nat := [0, 1, 0, 0, 8, 0, 56, 120, 248, 0, 0, 1536, 3584, 8184, 16383, 32767, 65535]
theorem spec_WheelSet.tab9 : rtab .any (opsOf Try.f21 9) = spec_WheelSet.T9 := by kernel_rfl
theorem spec_WheelSet.bits9 : waitsOk spec_WheelSet.T9.2 spec_WheelSet.B9 = true := by kernel_rfl
set_option maxHeartbeats 8000000 in
set_option maxRecDepth 100000 in
theorem spec_WheelSet.calls (k : Nat) (a0_0 : Int) (A0_1 : Option Addr) (c0_1 : Nat) (l0_1 : List (S47)) (a1 : Int) (a2 : Int) (r1 : Int) (r2 : List (S47)) (r3 : Int) (w : World) (hr0_1 : Kd.C k47 w A0_1 l0_1.length l0_1) (hc0_1 : l0_1.length ≤ c0_1) (h : spec_WheelSet.f k a0_0 l0_1 a1 a2 = some (r1, r2, r3)) :
  Calls Try.prog 21 #[.agg #[.int .i64 a0_0, .slice A0_1 l0_1.length c0_1], .int .i64 a1, .int .i64 a2] w fun e w' => ∃ v1_ : Value, e = .returned (.tuple #[.agg #[.int .i64 r1, v1_], .int .i64 r3]) ∧ Kd.S k47 47 w' w.heap.size (fun _ => True) v1_ r2 ∧ Below w.heap.size w w' := by
 have hu24 := Try.underlying24
 have hu50 := Try.underlying50
 have HR0_1 := Gv.a0 hr0_1
 have HC0_1 := Gv.a0 hc0_1
 clear hr0_1 hc0_1
 have HB := Gv.a0 (Below.refl w.heap.size w)
 have H : ((spec_WheelOk.f k a0_0 l0_1).bind fun t205 => (if t205 = true then (if a1 < 0 then (spec_WheelSet.j0 k a1 a2 true a0_0 l0_1) else (spec_WheelSet.j0 k a1 a2 (decide (a1 > 9999)) a0_0 l0_1)) else (spec_WheelSet.j0 k a1 a2 true a0_0 l0_1))) = some (r1, r2, r3) := h
 clear h
 have HC4 := Gv.a0 H
 clear H
 go_enter Try.func21, Try.ntmps21
 go_upto_region 1 with (first | ((with_reducible refine gate_dst (N := 3) rfl ?_); (try (refine gate_guard (by rfl) ?_; dsimp only)); refine box_event ?hg (N := 3) ?hd (cs := #[.int .i64 a0_0, .slice A0_1 l0_1.length c0_1]) (t := 24) ?hr ?_; (case hd => rfl); (case hg => rfl); (case hr => first | (go_simp; done) | (go_simp; rfl)); intro gb203 hg w5 hbox hb; have n0_ := Gv.a0 (below_step Gv.bw hb); have n1_ := Gv.a0 (hbox); have n2_ := Gv.a0 ((Gv.ble hg Gv.bw : w.heap.size ≤ gb203)); have n3_ := Gv.a0 ((Gv.ble hg Gv.bw : w.heap.size ≤ gb203)); clear HB; have HB := n0_; have BK203 := n1_; have GW203 := n2_; have GE203 := n3_; clear n0_ n1_ n2_ n3_; clear hb hbox hg) | ((with_reducible refine gate_dst (N := 6) rfl ?_); (try (refine gate_guard (by rfl) ?_; dsimp only)); refine box_event ?hg (N := 6) ?hd (cs := #[.int .i64 0, .slice none 0 0]) (t := 24) ?hr ?_; (case hd => rfl); (case hg => rfl); (case hr => first | (go_simp; done) | (go_simp; rfl)); intro gb204 hg w6 hbox hb; have n0_ := Gv.a0 (Gv.bb BK203.out hb); have n1_ := Gv.a0 (below_step Gv.bw hb); have n2_ := Gv.a0 (hbox); have n3_ := Gv.a0 ((Gv.ble hg Gv.bw : w.heap.size ≤ gb204)); have n4_ := Gv.a0 ((Gv.ble hg Gv.bw : w.heap.size ≤ gb204)); have n5_ := Gv.a0 ((Gv.nlt hg (Gv.kb BK203.out) : gb203 ≠ gb204)); have n6_ := Gv.a0 ((Gv.ngt hg (Gv.kb BK203.out) : gb204 ≠ gb203)); clear BK203; clear HB; have BK203 := n0_; have HB := n1_; have BK204 := n2_; have GW204 := n3_; have GE204 := n4_; have NB203_204 := n5_; have NB204_203 := n6_; clear n0_ n1_ n2_ n3_ n4_ n5_ n6_; clear hb hbox hg))
 (try simp only [Act.put, List.setIfInBounds_toArray, List.set_cons_zero, List.set_cons_succ])
 go_cut [20] (fun v20 wc => ∃ (kq : Nat) (x20_3 : Bool), v20 = .bool x20_3 ∧ Aside0 (spec_WheelSet.j0 kq a1 a2 x20_3 a0_0 l0_1 = some (r1, r2, r3)) ∧ Aside0 (kq ≤ k) ∧ Aside0 (wc.heap[gb203]? = some (.cells #[.int .i64 a0_0, (.slice A0_1 l0_1.length c0_1)] 24 (0, 0))) ∧ Aside0 (wc.heap[gb204]? = some (.cells #[.int .i64 0, (.slice none 0 0)] 24 (0, 0))) ∧ Aside0 (Below w.heap.size w wc))
 case first =>
  have H := HC4.out
  clear HC4
  replace H := Option.bind_eq_some_iff.mp H
  obtain ⟨t205, A70, H⟩ := H
  replace H : (if t205 = true then (if a1 < 0 then (spec_WheelSet.j0 k a1 a2 true a0_0 l0_1) else (spec_WheelSet.j0 k a1 a2 (decide (a1 > 9999)) a0_0 l0_1)) else (spec_WheelSet.j0 k a1 a2 true a0_0 l0_1)) = some (r1, r2, r3) := H
  have A7 := Gv.a0 A70
  clear A70
  by_cases c8 : t205 = true
  ·subst c8
   have H1 : (if a1 < 0 then (spec_WheelSet.j0 k a1 a2 true a0_0 l0_1) else (spec_WheelSet.j0 k a1 a2 (decide (a1 > 9999)) a0_0 l0_1)) = some (r1, r2, r3) := by rw [if_pos rfl] at H; exact H
   clear H
   have H := H1
   clear H1
   by_cases c9 : a1 < 0
   ·rw [if_pos c9] at H
    have c9b0 : decide (a1 < 0) = true := decide_eq_true c9
    clear c9
    (first | rw [c9b0] | (simp only [i64_w, i32_w]; rw [c9b0]) | skip)
    have H' := Gv.a0 H
    clear H
    have hnb10 := NB203_204.out
    have hnc10 := NB204_203.out
    have hcz11_0 : w6.cell? ⟨gb203, 0, none⟩ = some (.int .i64 a0_0) := (blk_cell BK203.out 0).trans rfl
    have hcz11_1 : w6.cell? ⟨gb203, 1, none⟩ = some (.slice A0_1 l0_1.length c0_1) := (blk_cell BK203.out 1).trans rfl
    have hfz11_0 := blk_frozen BK203.out 0
    have hfz11_1 := blk_frozen BK203.out 1
    go_wp2_with (first | ((with_reducible refine gate_callee (f := 14) rfl ?_); refine goesL_ (some 11) rfl rfl Try.func14 (by kernel_rfl) rfl #[.agg #[.int .i64 a0_0, .slice A0_1 l0_1.length c0_1]] rfl Gv.lm ?_; (with_reducible refine (spec_WheelOk.calls k a0_0 _ _ l0_1 true _ ?side1 ?side2 A7.out).mono ?_); (case side1 => repeat (first | exact (Kd.C_below HR0_1.out HB.out) | (with_reducible refine Kd.C_alloc ?_ _) | (with_reducible refine Kd.C_drewN ?_ _) | (with_reducible refine Kd.C_drew ?_))); (case side2 => exact HC0_1.out); rintro e w12 ⟨rfl, hb⟩; refine ⟨_, rfl, ?_⟩; have n0_ := Gv.a0 (Gv.bb BK203.out hb); have n1_ := Gv.a0 (Gv.bb BK204.out hb); have n2_ := Gv.a0 (below_step Gv.bw hb); clear BK203; clear BK204; clear HB; have BK203 := n0_; have BK204 := n1_; have HB := n2_; clear n0_ n1_ n2_; (try clear hb); (try clear hb2); (try clear hk); (try clear hi)))
    go_meet
    case rel => exact ⟨_, (true), Gv.rq, H', ⟨by first | omega | exact Nat.le_refl _⟩, ⟨by (with_reducible repeat (first | refine blk_drewN ?_ _ | refine blk_drew ?_ | refine blk_alloc ?_ _)); exact BK203.out⟩, ⟨by (with_reducible repeat (first | refine blk_drewN ?_ _ | refine blk_drew ?_ | refine blk_alloc ?_ _)); exact BK204.out⟩, ⟨Gv.bw⟩⟩
   ·rw [if_neg c9] at H
    have c9b0 : decide (a1 < 0) = false := decide_eq_false c9
    clear c9
    (first | rw [c9b0] | (simp only [i64_w, i32_w]; rw [c9b0]) | skip)
    have H' := Gv.a0 H
    clear H
    have hnb13 := NB203_204.out
    have hnc13 := NB204_203.out
    have hcz14_0 : w6.cell? ⟨gb203, 0, none⟩ = some (.int .i64 a0_0) := (blk_cell BK203.out 0).trans rfl
    have hcz14_1 : w6.cell? ⟨gb203, 1, none⟩ = some (.slice A0_1 l0_1.length c0_1) := (blk_cell BK203.out 1).trans rfl
    have hfz14_0 := blk_frozen BK203.out 0
    have hfz14_1 := blk_frozen BK203.out 1
    go_wp2_with (first | ((with_reducible refine gate_callee (f := 14) rfl ?_); refine goesL_ (some 11) rfl rfl Try.func14 (by kernel_rfl) rfl #[.agg #[.int .i64 a0_0, .slice A0_1 l0_1.length c0_1]] rfl Gv.lm ?_; (with_reducible refine (spec_WheelOk.calls k a0_0 _ _ l0_1 true _ ?side1 ?side2 A7.out).mono ?_); (case side1 => repeat (first | exact (Kd.C_below HR0_1.out HB.out) | (with_reducible refine Kd.C_alloc ?_ _) | (with_reducible refine Kd.C_drewN ?_ _) | (with_reducible refine Kd.C_drew ?_))); (case side2 => exact HC0_1.out); rintro e w15 ⟨rfl, hb⟩; refine ⟨_, rfl, ?_⟩; have n0_ := Gv.a0 (Gv.bb BK203.out hb); have n1_ := Gv.a0 (Gv.bb BK204.out hb); have n2_ := Gv.a0 (below_step Gv.bw hb); clear BK203; clear BK204; clear HB; have BK203 := n0_; have BK204 := n1_; have HB := n2_; clear n0_ n1_ n2_; (try clear hb); (try clear hb2); (try clear hk); (try clear hi)))
    go_meet
    case rel => exact ⟨_, (decide (a1 > 9999)), Gv.rq, H', ⟨by first | omega | exact Nat.le_refl _⟩, ⟨by (with_reducible repeat (first | refine blk_drewN ?_ _ | refine blk_drew ?_ | refine blk_alloc ?_ _)); exact BK203.out⟩, ⟨by (with_reducible repeat (first | refine blk_drewN ?_ _ | refine blk_drew ?_ | refine blk_alloc ?_ _)); exact BK204.out⟩, ⟨Gv.bw⟩⟩
  ·replace c8 := Bool.eq_false_iff.mpr c8
   subst c8
   have H1 : (spec_WheelSet.j0 k a1 a2 true a0_0 l0_1) = some (r1, r2, r3) := by rw [if_neg (show ¬ (false = true) by decide)] at H; exact H
   clear H
   have H := H1
   clear H1
   have H' := Gv.a0 H
   clear H
   have hnb16 := NB203_204.out
   have hnc16 := NB204_203.out
   have hcz17_0 : w6.cell? ⟨gb203, 0, none⟩ = some (.int .i64 a0_0) := (blk_cell BK203.out 0).trans rfl
   have hcz17_1 : w6.cell? ⟨gb203, 1, none⟩ = some (.slice A0_1 l0_1.length c0_1) := (blk_cell BK203.out 1).trans rfl
   have hfz17_0 := blk_frozen BK203.out 0
   have hfz17_1 := blk_frozen BK203.out 1
   go_wp2_with (first | ((with_reducible refine gate_callee (f := 14) rfl ?_); refine goesL_ (some 11) rfl rfl Try.func14 (by kernel_rfl) rfl #[.agg #[.int .i64 a0_0, .slice A0_1 l0_1.length c0_1]] rfl Gv.lm ?_; (with_reducible refine (spec_WheelOk.calls k a0_0 _ _ l0_1 false _ ?side1 ?side2 A7.out).mono ?_); (case side1 => repeat (first | exact (Kd.C_below HR0_1.out HB.out) | (with_reducible refine Kd.C_alloc ?_ _) | (with_reducible refine Kd.C_drewN ?_ _) | (with_reducible refine Kd.C_drew ?_))); (case side2 => exact HC0_1.out); rintro e w18 ⟨rfl, hb⟩; refine ⟨_, rfl, ?_⟩; have n0_ := Gv.a0 (Gv.bb BK203.out hb); have n1_ := Gv.a0 (Gv.bb BK204.out hb); have n2_ := Gv.a0 (below_step Gv.bw hb); clear BK203; clear BK204; clear HB; have BK203 := n0_; have BK204 := n1_; have HB := n2_; clear n0_ n1_ n2_; (try clear hb); (try clear hb2); (try clear hk); (try clear hi)))
   go_meet
   case rel => exact ⟨_, (true), Gv.rq, H', ⟨by first | omega | exact Nat.le_refl _⟩, ⟨by (with_reducible repeat (first | refine blk_drewN ?_ _ | refine blk_drew ?_ | refine blk_alloc ?_ _)); exact BK203.out⟩, ⟨by (with_reducible repeat (first | refine blk_drewN ?_ _ | refine blk_drew ?_ | refine blk_alloc ?_ _)); exact BK204.out⟩, ⟨Gv.bw⟩⟩
 case rest =>
  clear HC4
  try clear c1
  try clear c2
  try clear p2
  try clear c8
  try clear c9
  try clear c9b0
  try clear c10
  try clear c13
  try clear c14
  try clear c16
  try clear hcz11_0 hcz11_1
  try clear hcz14_0 hcz14_1
  try clear hcz17_0 hcz17_1
  try clear hfz11_0 hfz11_1
  try clear hfz14_0 hfz14_1
  try clear hfz17_0 hfz17_1
  obtain ⟨kq, x20_3, rfl, HA, HJ3, BK203, BK204, HB⟩ := hcut
  cases kq with
  | zero => exact absurd HA.out (by simp [spec_WheelSet.j0])
  | succ kj3 =>
   have H := HA.out
   clear HA
   simp only [spec_WheelSet.j0] at H
   by_cases c19 : x20_3 = true
   ·subst c19
    have H1 : (some (0, ([] : List (S47)), 1)) = some (r1, r2, r3) := by rw [if_pos rfl] at H; exact H
    clear H
    have H := H1
    clear H1
    simp only [Option.some.injEq, Prod.mk.injEq] at H
    obtain ⟨rfl, rfl, rfl⟩ := H
    have hnb20 := NB204_203.out
    have hnc20 := NB203_204.out
    have hcz21_0 : wc.cell? ⟨gb204, 0, none⟩ = some (.int .i64 0) := (blk_cell BK204.out 0).trans rfl
    have hcz21_1 : wc.cell? ⟨gb204, 1, none⟩ = some (.slice none 0 0) := (blk_cell BK204.out 1).trans rfl
    have hfz21_0 := blk_frozen BK204.out 0
    have hfz21_1 := blk_frozen BK204.out 1
    go_wp2
    refine bodyPost_ret (results_ct rfl _ _ gb204 24 #[.int .i64 0, .slice none 0 0] (0, 0) _ rfl (by (with_reducible repeat (first | refine blk_drewN ?_ _ | refine blk_drew ?_ | refine blk_alloc ?_ _)); refine blk_put (cs := #[.int .i64 0, .slice none 0 0]) ?_ 1 _ rfl; (with_reducible repeat (first | refine blk_drewN ?_ _ | refine blk_drew ?_ | refine blk_alloc ?_ _)); refine blk_put (cs := #[.int .i64 0, .slice none 0 0]) ?_ 0 _ rfl; (with_reducible repeat (first | refine blk_drewN ?_ _ | refine blk_drew ?_ | refine blk_alloc ?_ _)); exact BK204.out) Try.underlying24 rfl (by kernel_rfl)) rfl ?_
    exact ⟨_, Gv.rt, by first | exact Kd.S_nil _ _ _ _ _ | exact Kd.N_nil _ _ _ _ _ | exact Kd.V_nil _ _ _ _ _ | exact Kd.Q_nil _ _ _ _ _ | exact Kd.R_nil _ _ _ _ _, Gv.bw⟩
   ·replace c19 := Bool.eq_false_iff.mpr c19
    subst c19
    have H1 : (if a2 ≤ a0_0 then (spec_WheelSet.j1 kj3 a1 a2 true a0_0 l0_1) else (spec_WheelSet.j1 kj3 a1 a2 (decide (a2 > (wrap64 (a0_0 + 1000)))) a0_0 l0_1)) = some (r1, r2, r3) := by rw [if_neg (show ¬ (false = true) by decide)] at H; exact H
    clear H
    have H := H1
    clear H1
    have HC22 := Gv.a0 H
    clear H
    go_upto_region 3 with (fail)
    go_cut [32] (fun v32 wc => ∃ (kq : Nat) (x32_21 : Bool), v32 = .bool x32_21 ∧ Aside0 (spec_WheelSet.j1 kq a1 a2 x32_21 a0_0 l0_1 = some (r1, r2, r3)) ∧ Aside0 (kq ≤ kj3) ∧ Aside0 (wc.heap[gb203]? = some (.cells #[.int .i64 a0_0, (.slice A0_1 l0_1.length c0_1)] 24 (0, 0))) ∧ Aside0 (wc.heap[gb204]? = some (.cells #[.int .i64 0, (.slice none 0 0)] 24 (0, 0))) ∧ Aside0 (Below w.heap.size w wc))
    case first =>
     have H := HC22.out
     clear HC22
     by_cases c23 : a2 ≤ a0_0
     ·rw [if_pos c23] at H
      have c23b0 : decide (a2 ≤ a0_0) = true := decide_eq_true c23
      clear c23
      (first | rw [c23b0] | (simp only [i64_w, i32_w]; rw [c23b0]) | skip)
      have H' := Gv.a0 H
      clear H
      have hnb24 := NB203_204.out
      have hnc24 := NB204_203.out
      have hcz25_0 : wc.cell? ⟨gb203, 0, none⟩ = some (.int .i64 a0_0) := (blk_cell BK203.out 0).trans rfl
      have hcz25_1 : wc.cell? ⟨gb203, 1, none⟩ = some (.slice A0_1 l0_1.length c0_1) := (blk_cell BK203.out 1).trans rfl
      have hfz25_0 := blk_frozen BK203.out 0
      have hfz25_1 := blk_frozen BK203.out 1
      go_wp2
      go_meet
      case rel => exact ⟨_, (true), Gv.rq, H', ⟨by have := HJ3.out; first | omega | exact Nat.le_refl _⟩, ⟨by (with_reducible repeat (first | refine blk_drewN ?_ _ | refine blk_drew ?_ | refine blk_alloc ?_ _)); exact BK203.out⟩, ⟨by (with_reducible repeat (first | refine blk_drewN ?_ _ | refine blk_drew ?_ | refine blk_alloc ?_ _)); exact BK204.out⟩, ⟨Gv.bw⟩⟩
     ·rw [if_neg c23] at H
      have c23b0 : decide (a2 ≤ a0_0) = false := decide_eq_false c23
      clear c23
      (first | rw [c23b0] | (simp only [i64_w, i32_w]; rw [c23b0]) | skip)
      have H' := Gv.a0 H
      clear H
      have hnb26 := NB203_204.out
      have hnc26 := NB204_203.out
      have hcz27_0 : wc.cell? ⟨gb203, 0, none⟩ = some (.int .i64 a0_0) := (blk_cell BK203.out 0).trans rfl
      have hcz27_1 : wc.cell? ⟨gb203, 1, none⟩ = some (.slice A0_1 l0_1.length c0_1) := (blk_cell BK203.out 1).trans rfl
      have hfz27_0 := blk_frozen BK203.out 0
      have hfz27_1 := blk_frozen BK203.out 1
      go_wp2
      go_meet
      case rel => exact ⟨_, (decide (a2 > (wrap64 (a0_0 + 1000)))), Gv.rq, H', ⟨by have := HJ3.out; first | omega | exact Nat.le_refl _⟩, ⟨by (with_reducible repeat (first | refine blk_drewN ?_ _ | refine blk_drew ?_ | refine blk_alloc ?_ _)); exact BK203.out⟩, ⟨by (with_reducible repeat (first | refine blk_drewN ?_ _ | refine blk_drew ?_ | refine blk_alloc ?_ _)); exact BK204.out⟩, ⟨Gv.bw⟩⟩
    case rest =>
     clear HC22
     try clear c1
     try clear c2
     try clear p2
     try clear p6
     try clear c8
     try clear c9
     try clear c9b0
     try clear c10
     try clear c13
     try clear c14
     try clear c16
     try clear c19
     try clear c20
     try clear c21
     try clear c23
     try clear c23b0
     try clear c24
     try clear c26
     try clear hcz11_0 hcz11_1
     try clear hcz14_0 hcz14_1
     try clear hcz17_0 hcz17_1
     try clear hcz21_0 hcz21_1
     try clear hcz25_0 hcz25_1
     try clear hcz27_0 hcz27_1
     try clear hfz11_0 hfz11_1
     try clear hfz14_0 hfz14_1
     try clear hfz17_0 hfz17_1
     try clear hfz21_0 hfz21_1
     try clear hfz25_0 hfz25_1
     try clear hfz27_0 hfz27_1
     try clear p2
     obtain ⟨kq, x32_21, rfl, HA, HJ21, BK203, BK204, HB⟩ := hcut
     cases kq with
     | zero => exact absurd HA.out (by simp [spec_WheelSet.j1])
     | succ kj21 =>
      have H := HA.out
      clear HA
      simp only [spec_WheelSet.j1] at H
      by_cases c28 : x32_21 = true
      ·subst c28
       have H1 : (some (0, ([] : List (S47)), 2)) = some (r1, r2, r3) := by rw [if_pos rfl] at H; exact H
       clear H
       have H := H1
       clear H1
       simp only [Option.some.injEq, Prod.mk.injEq] at H
       obtain ⟨rfl, rfl, rfl⟩ := H
       have hnb29 := NB204_203.out
       have hnc29 := NB203_204.out
       have hcz30_0 : wc.cell? ⟨gb204, 0, none⟩ = some (.int .i64 0) := (blk_cell BK204.out 0).trans rfl
       have hcz30_1 : wc.cell? ⟨gb204, 1, none⟩ = some (.slice none 0 0) := (blk_cell BK204.out 1).trans rfl
       have hfz30_0 := blk_frozen BK204.out 0
       have hfz30_1 := blk_frozen BK204.out 1
       go_wp2
       refine bodyPost_ret (results_ct rfl _ _ gb204 24 #[.int .i64 0, .slice none 0 0] (0, 0) _ rfl (by (with_reducible repeat (first | refine blk_drewN ?_ _ | refine blk_drew ?_ | refine blk_alloc ?_ _)); refine blk_put (cs := #[.int .i64 0, .slice none 0 0]) ?_ 1 _ rfl; (with_reducible repeat (first | refine blk_drewN ?_ _ | refine blk_drew ?_ | refine blk_alloc ?_ _)); refine blk_put (cs := #[.int .i64 0, .slice none 0 0]) ?_ 0 _ rfl; (with_reducible repeat (first | refine blk_drewN ?_ _ | refine blk_drew ?_ | refine blk_alloc ?_ _)); exact BK204.out) Try.underlying24 rfl (by kernel_rfl)) rfl ?_
       exact ⟨_, Gv.rt, by first | exact Kd.S_nil _ _ _ _ _ | exact Kd.N_nil _ _ _ _ _ | exact Kd.V_nil _ _ _ _ _ | exact Kd.Q_nil _ _ _ _ _ | exact Kd.R_nil _ _ _ _ _, Gv.bw⟩
      ·replace c28 := Bool.eq_false_iff.mpr c28
       subst c28
       have H1 : ((spec_l12Has.f kj21 a0_0 l0_1 a1).bind fun t206 => (if t206 = true then ((spec_l12Without.f kj21 a0_0 l0_1 a0_0 a1 (-1)).bind fun bt207 => (if 0 ≤ (Int.tmod a2 8) then (if (Int.tmod a2 8) < (bt207.2.length : Int) then (if ((rd_T47 bt207.2 (Int.tmod a2 8)).f0).length < 8796093022208 then (some (bt207.1, (bt207.2.set ((Int.tmod a2 8) : Int).toNat (⟨(((rd_T47 bt207.2 (Int.tmod a2 8)).f0) ++ [(⟨a1, a2⟩ : S50)])⟩ : S47)), 0)) else (none)) else (none)) else (none))) else ((spec_l12All.f kj21 a0_0 l0_1).bind fun t217 => (if (t217.length : Int) = 64 then (some (0, ([] : List (S47)), 3)) else ((spec_l12Without.f kj21 a0_0 l0_1 a0_0 a1 (-1)).bind fun bt220 => (if 0 ≤ (Int.tmod a2 8) then (if (Int.tmod a2 8) < (bt220.2.length : Int) then (if ((rd_T47 bt220.2 (Int.tmod a2 8)).f0).length < 8796093022208 then (some (bt220.1, (bt220.2.set ((Int.tmod a2 8) : Int).toNat (⟨(((rd_T47 bt220.2 (Int.tmod a2 8)).f0) ++ [(⟨a1, a2⟩ : S50)])⟩ : S47)), 0)) else (none)) else (none)) else (none))))))) = some (r1, r2, r3) := by rw [if_neg (show ¬ (false = true) by decide)] at H; exact H
       clear H
       have H := H1
       clear H1
       replace H := Option.bind_eq_some_iff.mp H
       obtain ⟨t206, A310, H⟩ := H
       replace H : (if t206 = true then ((spec_l12Without.f kj21 a0_0 l0_1 a0_0 a1 (-1)).bind fun bt207 => (if 0 ≤ (Int.tmod a2 8) then (if (Int.tmod a2 8) < (bt207.2.length : Int) then (if ((rd_T47 bt207.2 (Int.tmod a2 8)).f0).length < 8796093022208 then (some (bt207.1, (bt207.2.set ((Int.tmod a2 8) : Int).toNat (⟨(((rd_T47 bt207.2 (Int.tmod a2 8)).f0) ++ [(⟨a1, a2⟩ : S50)])⟩ : S47)), 0)) else (none)) else (none)) else (none))) else ((spec_l12All.f kj21 a0_0 l0_1).bind fun t217 => (if (t217.length : Int) = 64 then (some (0, ([] : List (S47)), 3)) else ((spec_l12Without.f kj21 a0_0 l0_1 a0_0 a1 (-1)).bind fun bt220 => (if 0 ≤ (Int.tmod a2 8) then (if (Int.tmod a2 8) < (bt220.2.length : Int) then (if ((rd_T47 bt220.2 (Int.tmod a2 8)).f0).length < 8796093022208 then (some (bt220.1, (bt220.2.set ((Int.tmod a2 8) : Int).toNat (⟨(((rd_T47 bt220.2 (Int.tmod a2 8)).f0) ++ [(⟨a1, a2⟩ : S50)])⟩ : S47)), 0)) else (none)) else (none)) else (none)))))) = some (r1, r2, r3) := H
       have A31 := Gv.a0 A310
       clear A310
       by_cases c32 : t206 = true
       ·subst c32
        have H1 : ((spec_l12Without.f kj21 a0_0 l0_1 a0_0 a1 (-1)).bind fun bt207 => (if 0 ≤ (Int.tmod a2 8) then (if (Int.tmod a2 8) < (bt207.2.length : Int) then (if ((rd_T47 bt207.2 (Int.tmod a2 8)).f0).length < 8796093022208 then (some (bt207.1, (bt207.2.set ((Int.tmod a2 8) : Int).toNat (⟨(((rd_T47 bt207.2 (Int.tmod a2 8)).f0) ++ [(⟨a1, a2⟩ : S50)])⟩ : S47)), 0)) else (none)) else (none)) else (none))) = some (r1, r2, r3) := by rw [if_pos rfl] at H; exact H
        clear H
        have H := H1
        clear H1
        replace H := Option.bind_eq_some_iff.mp H
        obtain ⟨⟨t207, t208⟩, A330, H⟩ := H
        replace H : (if 0 ≤ (Int.tmod a2 8) then (if (Int.tmod a2 8) < (t208.length : Int) then (if ((rd_T47 t208 (Int.tmod a2 8)).f0).length < 8796093022208 then (some (t207, (t208.set ((Int.tmod a2 8) : Int).toNat (⟨(((rd_T47 t208 (Int.tmod a2 8)).f0) ++ [(⟨a1, a2⟩ : S50)])⟩ : S47)), 0)) else (none)) else (none)) else (none)) = some (r1, r2, r3) := H
        have A33 := Gv.a0 A330
        clear A330
        obtain ⟨ji34, hji34⟩ : ∃ j_ : Int, (Int.tmod a2 8) = j_ := ⟨_, rfl⟩
        replace H : (if 0 ≤ (ji34) then (if (ji34) < (t208.length : Int) then (if ((rd_T47 t208 (ji34)).f0).length < 8796093022208 then (some (t207, (t208.set ((ji34) : Int).toNat (⟨(((rd_T47 t208 (ji34)).f0) ++ [(⟨a1, a2⟩ : S50)])⟩ : S47)), 0)) else (none)) else (none)) else (none)) = some (r1, r2, r3) := by first | (rw [hji34] at H; exact H) | (simp only [hji34] at H ⊢; exact H)
        (try rw [hji34] at A31)
        (try rw [hji34] at A33)
        by_cases c35 : 0 ≤ (ji34)
        ·rw [if_pos c35] at H
         have c35b0 : decide (0 ≤ (ji34)) = true := decide_eq_true c35
         clear c35
         by_cases c36 : (ji34) < (t208.length : Int)
         ·rw [if_pos c36] at H
          have c36b0 : decide ((ji34) < (t208.length : Int)) = true := decide_eq_true c36
          clear c36
          by_cases c37 : ((rd_T47 t208 (ji34)).f0).length < 8796093022208
          ·rw [if_pos c37] at H
           have LMc37 := Gv.a0 c37
           clear c37
           obtain ⟨y213, hy213⟩ : ∃ y_ : List (S50), y_ = (((rd_T47 t208 (ji34)).f0) ++ [(⟨a1, a2⟩ : S50)]) := ⟨_, rfl⟩
           replace H : (some (t207, (t208.set ((ji34) : Int).toNat (⟨y213⟩ : S47)), 0)) = some (r1, r2, r3) := by first | (rw [hy213]; with_reducible exact H) | (have H2_ := (Option.bind_some _ _).symm.trans H; rw [hy213]; with_reducible exact H2_) | (have H2_ := (Option.bind_some _ _).symm.trans H; with_reducible exact H2_) | with_reducible exact H | (rw [hy213]; exact H) | exact H
           have Ny213 := Gv.a0 hy213
           clear hy213
           obtain ⟨y216, hy216⟩ : ∃ y_ : List (S47), y_ = (t208.set ((ji34) : Int).toNat (⟨y213⟩ : S47)) := ⟨_, rfl⟩
           replace H : (some (t207, y216, 0)) = some (r1, r2, r3) := by first | (rw [hy216]; with_reducible exact H) | (have H2_ := (Option.bind_some _ _).symm.trans H; rw [hy216]; with_reducible exact H2_) | (have H2_ := (Option.bind_some _ _).symm.trans H; with_reducible exact H2_) | with_reducible exact H | (rw [hy216]; exact H) | exact H
           have Ny216 := Gv.a0 hy216
           clear hy216
           simp only [Option.some.injEq, Prod.mk.injEq] at H
           obtain ⟨rfl, rfl, rfl⟩ := H
           have hnb39 := NB203_204.out
           have hnc39 := NB204_203.out
           have hcz40_0 : wc.cell? ⟨gb203, 0, none⟩ = some (.int .i64 a0_0) := (blk_cell BK203.out 0).trans rfl
           have hcz40_1 : wc.cell? ⟨gb203, 1, none⟩ = some (.slice A0_1 l0_1.length c0_1) := (blk_cell BK203.out 1).trans rfl
           have hfz40_0 := blk_frozen BK203.out 0
           have hfz40_1 := blk_frozen BK203.out 1
           try go_wp2_with (first | ((with_reducible refine gate_callee (f := 33) rfl ?_); refine goesL_ (some 36) rfl rfl Try.func33 (by kernel_rfl) rfl #[.agg #[.int .i64 a0_0, .slice A0_1 l0_1.length c0_1], .int .i64 a1] rfl Gv.lm ?_; (with_reducible refine (spec_l12Has.calls kj21 a0_0 _ _ l0_1 a1 true _ ?side1 ?side2 A31.out).mono ?_); (case side1 => repeat (first | exact (Kd.C_below HR0_1.out HB.out) | (with_reducible refine Kd.C_alloc ?_ _) | (with_reducible refine Kd.C_drewN ?_ _) | (with_reducible refine Kd.C_drew ?_))); (case side2 => exact HC0_1.out); rintro e w41 ⟨rfl, hb⟩; refine ⟨_, rfl, ?_⟩; have n0_ := Gv.a0 (Gv.bb BK203.out hb); have n1_ := Gv.a0 (Gv.bb BK204.out hb); have n2_ := Gv.a0 (below_step Gv.bw hb); clear BK203; clear BK204; clear HB; have BK203 := n0_; have BK204 := n1_; have HB := n2_; clear n0_ n1_ n2_; (try clear hb); (try clear hb2); (try clear hk); (try clear hi); have hcz42_0 : w41.cell? ⟨gb203, 0, none⟩ = some (.int .i64 a0_0) := (blk_cell BK203.out 0).trans rfl; have hcz42_1 : w41.cell? ⟨gb203, 1, none⟩ = some (.slice A0_1 l0_1.length c0_1) := (blk_cell BK203.out 1).trans rfl; have hfz42_0 := blk_frozen BK203.out 0; have hfz42_1 := blk_frozen BK203.out 1) | ((with_reducible refine gate_callee (f := 34) rfl ?_); refine goesL_ (some 49) rfl rfl Try.func34 (by kernel_rfl) rfl #[.agg #[.int .i64 a0_0, .slice A0_1 l0_1.length c0_1], .int .i64 a0_0, .int .i64 a1, .int .i64 (-1)] rfl Gv.lm ?_; (with_reducible refine (spec_l12Without.calls kj21 a0_0 _ _ l0_1 a0_0 a1 (-1) t207 t208 _ ?side1 ?side2 A33.out).mono ?_); (case side1 => repeat (first | exact (Kd.C_below HR0_1.out HB.out) | (with_reducible refine Kd.C_alloc ?_ _) | (with_reducible refine Kd.C_drewN ?_ _) | (with_reducible refine Kd.C_drew ?_))); (case side2 => exact HC0_1.out); rintro e w43 ⟨v209, rfl, ho0, hb⟩; refine ⟨_, rfl, ?_⟩; have n0_ := Gv.a0 (Kd.S_lower ho0 (below_size Gv.bw)); have n1_ := Gv.a0 (Gv.bb BK203.out hb); have n2_ := Gv.a0 (Gv.bb BK204.out hb); have n3_ := Gv.a0 (below_step Gv.bw hb); clear BK203; clear BK204; clear HB; have HO210 := n0_; have BK203 := n1_; have BK204 := n2_; have HB := n3_; clear n0_ n1_ n2_ n3_; (try clear hb); (try clear hb2); (try clear hk); (try clear hi); (try clear ho0)) | ((with_reducible refine gate_dst (N := 8) rfl ?_); (try (refine gate_guard (by rfl) ?_; dsimp only)); refine box_event ?hg (N := 8) ?hd (cs := #[.int .i64 0, .slice none 0 0]) (t := 24) ?hr ?_; (case hd => rfl); (case hg => rfl); (case hr => first | (go_simp; done) | (go_simp; rfl)); intro gb211 hg w44 hbox hb; have n0_ := Gv.a0 (Kd.S_below (by (with_reducible repeat (first | apply Kd.S_alloc | apply Kd.S_drewN | apply Kd.S_drew)); exact HO210.out) hb); have n1_ := Gv.a0 (Gv.bb BK203.out hb); have n2_ := Gv.a0 (Gv.bb BK204.out hb); have n3_ := Gv.a0 (below_step Gv.bw hb); have n4_ := Gv.a0 (hbox); have n5_ := Gv.a0 ((Gv.ble hg Gv.bw : w.heap.size ≤ gb211)); have n6_ := Gv.a0 ((Gv.ble hg Gv.bw : w.heap.size ≤ gb211)); have n7_ := Gv.a0 ((Gv.nlt hg (Gv.kb BK203.out) : gb203 ≠ gb211)); have n8_ := Gv.a0 ((Gv.ngt hg (Gv.kb BK203.out) : gb211 ≠ gb203)); have n9_ := Gv.a0 ((Gv.nlt hg (Gv.kb BK204.out) : gb204 ≠ gb211)); have n10_ := Gv.a0 ((Gv.ngt hg (Gv.kb BK204.out) : gb211 ≠ gb204)); clear HO210; clear BK203; clear BK204; clear HB; have HO210 := n0_; have BK203 := n1_; have BK204 := n2_; have HB := n3_; have BK211 := n4_; have GW211 := n5_; have GE211 := n6_; have NB203_211 := n7_; have NB211_203 := n8_; have NB204_211 := n9_; have NB211_204 := n10_; clear n0_ n1_ n2_ n3_ n4_ n5_ n6_ n7_ n8_ n9_ n10_; clear hb hbox hg; have hnb45 := NB211_203.out; have hnc45 := NB203_211.out; have hnb46 := NB211_204.out; have hnc46 := NB204_211.out; have hcz47_0 : w44.cell? ⟨gb211, 0, none⟩ = some (.int .i64 0) := (blk_cell BK211.out 0).trans rfl; have hcz47_1 : w44.cell? ⟨gb211, 1, none⟩ = some (.slice none 0 0) := (blk_cell BK211.out 1).trans rfl; have hfz47_0 := blk_frozen BK211.out 0; have hfz47_1 := blk_frozen BK211.out 1; obtain ⟨Ao48, co48, eo48⟩ := Kd.S_slice HO210.out; subst eo48))
           have n0_ : Aside0 (Kd.S k47 47 ((w44.setCell ⟨gb211, 0, none⟩ (.int .i64 t207)).setCell ⟨gb211, 1, none⟩ (.slice Ao48 t208.length co48)) w.heap.size (fun _ => True) (.slice Ao48 t208.length co48) t208) := ⟨by (with_reducible repeat (first | apply Kd.S_alloc | apply Kd.S_drewN | apply Kd.S_drew)); exact Kd.S_mono (Kd.S_far (p := ⟨gb211, 1, none⟩) (Kd.S_far (p := ⟨gb211, 0, none⟩) (Kd.S_types HO210.out BK211.out (by decide)) (fun _ hk => hk.2) (.int .i64 t207)) (fun _ hk => hk.2) (.slice Ao48 t208.length co48)) (fun _ hk => trivial)⟩
           have n1_ : Aside0 (((w44.setCell ⟨gb211, 0, none⟩ (.int .i64 t207)).setCell ⟨gb211, 1, none⟩ (.slice Ao48 t208.length co48)).heap[gb203]? = some (.cells #[.int .i64 a0_0, .slice A0_1 l0_1.length c0_1] 24 (0, 0))) := ⟨by (with_reducible repeat (first | refine blk_drewN ?_ _ | refine blk_drew ?_ | refine blk_alloc ?_ _)); refine blk_far ?_ NB203_211.out _; (with_reducible repeat (first | refine blk_drewN ?_ _ | refine blk_drew ?_ | refine blk_alloc ?_ _)); refine blk_far ?_ NB203_211.out _; (with_reducible repeat (first | refine blk_drewN ?_ _ | refine blk_drew ?_ | refine blk_alloc ?_ _)); exact BK203.out⟩
           have n2_ : Aside0 (((w44.setCell ⟨gb211, 0, none⟩ (.int .i64 t207)).setCell ⟨gb211, 1, none⟩ (.slice Ao48 t208.length co48)).heap[gb204]? = some (.cells #[.int .i64 0, .slice none 0 0] 24 (0, 0))) := ⟨by (with_reducible repeat (first | refine blk_drewN ?_ _ | refine blk_drew ?_ | refine blk_alloc ?_ _)); refine blk_far ?_ NB204_211.out _; (with_reducible repeat (first | refine blk_drewN ?_ _ | refine blk_drew ?_ | refine blk_alloc ?_ _)); refine blk_far ?_ NB204_211.out _; (with_reducible repeat (first | refine blk_drewN ?_ _ | refine blk_drew ?_ | refine blk_alloc ?_ _)); exact BK204.out⟩
           have n3_ : Aside0 (((w44.setCell ⟨gb211, 0, none⟩ (.int .i64 t207)).setCell ⟨gb211, 1, none⟩ (.slice Ao48 t208.length co48)).heap[gb211]? = some (.cells #[.int .i64 t207, .slice Ao48 t208.length co48] 24 (0, 0))) := ⟨by (with_reducible repeat (first | refine blk_drewN ?_ _ | refine blk_drew ?_ | refine blk_alloc ?_ _)); refine blk_put (cs := #[.int .i64 t207, .slice none 0 0]) ?_ 1 _ rfl; (with_reducible repeat (first | refine blk_drewN ?_ _ | refine blk_drew ?_ | refine blk_alloc ?_ _)); refine blk_put (cs := #[.int .i64 0, .slice none 0 0]) ?_ 0 _ rfl; (with_reducible repeat (first | refine blk_drewN ?_ _ | refine blk_drew ?_ | refine blk_alloc ?_ _)); exact BK211.out⟩
           have n4_ : Aside0 (Below w.heap.size w ((w44.setCell ⟨gb211, 0, none⟩ (.int .i64 t207)).setCell ⟨gb211, 1, none⟩ (.slice Ao48 t208.length co48))) := ⟨Gv.bw⟩
           (try clear HO210)
           (try clear BK203)
           (try clear BK204)
           (try clear BK211)
           (try clear HB)
           generalize ((w44.setCell ⟨gb211, 0, none⟩ (.int .i64 t207)).setCell ⟨gb211, 1, none⟩ (.slice Ao48 t208.length co48)) = w49 at n0_ n1_ n2_ n3_ n4_ ⊢
           have HO210 := n0_
           have BK203 := n1_
           have BK204 := n2_
           have BK211 := n3_
           have HB := n4_
           clear n0_ n1_ n2_ n3_ n4_
           have n0_ := Gv.a0 (Kd.S_drew HO210.out)
           have n1_ := Gv.a0 (blk_drew BK203.out)
           have n2_ := Gv.a0 (blk_drew BK204.out)
           have n3_ := Gv.a0 (blk_drew BK211.out)
           have n4_ := Gv.a0 (below_drew1 HB.out)
           clear HO210
           clear BK203
           clear BK204
           clear BK211
           clear HB
           have HO210 := n0_
           have BK203 := n1_
           have BK204 := n2_
           have BK211 := n3_
           have HB := n4_
           clear n0_ n1_ n2_ n3_ n4_
           have p212 : 0 ≤ ((ji34) : Int) := of_decide_eq_true (by first | (with_reducible assumption) | assumption)
           have q212 : (ji34) < (t208.length : Int) := of_decide_eq_true (by first | (with_reducible assumption) | assumption)
           obtain ⟨ad212, A212_0, c212_0, e212, hx212_0, hl212_0, hi212_0⟩ := at_T47 (Kd.S_reads' HO210.out).2.2 (ji34) p212 q212
           cases e212
           obtain ⟨ce212, hce212, hMe212, hcc212⟩ := Kd.S_get HO210.out z47 (ji34) p212 (by first | exact q212 | exact of_decide_eq_true (by first | (with_reducible assumption) | assumption) | (have e_ := (Kd.S_reads' HO210.out).1; omega))
           obtain ⟨ve212_0, rfl, ge212_0⟩ := k47_openM hMe212
           have hv212_0 := hcc212 0 _ rfl
           rw [Nat.add_zero, show (k47).sz = 1 from rfl, Nat.mul_one] at hv212_0
           replace hv212_0 := Option.some.inj (hv212_0.symm.trans hx212_0)
           rw [hv212_0] at ge212_0
           have HL212_0 := Gv.a0 (show Kd.R k50 50 _ _ _ _ ((rd_T47 t208 (ji34)).f0) from ge212_0)
           clear hv212_0 ge212_0
           have HX212_0 := Gv.a0 hx212_0
           clear hcc212 hce212
           have HR212_0 := Gv.a0 hi212_0
           have HC212_0 := Gv.a0 hl212_0
           clear hi212_0 hl212_0
           replace p212 := eq_true p212
           replace q212 := eq_true q212
           obtain ⟨go51, co51, eo51, gb51, gl51, cl51, HG51⟩ := Kd.S_form HO210.out (by have h_ : ((ji34) : Int) < ((t208.length : Int) : Int) := of_decide_eq_true (by first | (with_reducible assumption) | assumption); have h2_ : 0 ≤ ((ji34) : Int) := (of_decide_eq_true (by first | (with_reducible assumption) | assumption)); omega)
           (first | cases eo51 | (injection eo51 with ea_ en_ ec_; (first | subst ea_ | (injection ea_ with ea_; subst ea_)); subst ec_; clear en_))
           have GB51 := Gv.a0 gb51
           have GG51 := Gv.a0 HG51
           clear gb51 gl51 HG51
           (first | simp only [add_plain] at hx212_0 | skip)
           obtain ⟨oki51, ce51, hcl51, hM51, hcc51, _, _, hH51⟩ := Kd.S_elem HO210.out z47 ((ji34) : Int) (of_decide_eq_true (by first | (with_reducible assumption) | assumption)) (by have h_ : ((ji34) : Int) < ((t208.length : Int) : Int) := of_decide_eq_true (by first | (with_reducible assumption) | assumption); first | exact h_ | (have e_ := (Kd.S_reads' HO210.out).1; omega) | simpa using h_)
           obtain ⟨ve51_0, rfl, ge51_0⟩ := k47_openM hM51
           have hv51 := hcc51 0 _ rfl
           have hX51 := HX212_0.out
           (try simp only [add_plain] at hX51)
           (try simp only [Nat.add_zero] at hv51)
           (try rw [show (k47).sz = 1 from rfl, Nat.mul_one] at hv51)
           replace hv51 := Option.some.inj (hv51.symm.trans hX51)
           subst hv51
           clear hX51 hcc51 hcl51
           have UU51 := Gv.a0 (show Kd.R k50 50 _ w.heap.size oki51 (.slice A212_0 ((rd_T47 t208 (ji34)).f0).length c212_0) ((rd_T47 t208 (ji34)).f0) from ge51_0)
           have HH51 := Gv.a0 hH51
           have HN51 := Gv.a0 (Kd.S_reads' HO210.out).1
           clear hH51 ge51_0
           refine start_ (n := 17) (S := fun w' => w'.cell? ⟨gb211, 0, none⟩ = some (.int .i64 t207) ∧ w'.cell? ⟨gb211, 1, none⟩ = some (.slice (some ⟨go51, 0, none⟩) t208.length co48) ∧ w'.cell? ⟨go51, ((ji34)).toNat, none⟩ = some (.slice A212_0 ((rd_T47 t208 (ji34)).f0).length c212_0)) (ds := [16]) #[false, false, false, false, false, false, false, false, false, false, false, false, false, false, false, false, false] (by kernel_rfl) rfl rfl ⟨(blk_cell BK211.out 0).trans rfl, (blk_cell BK211.out 1).trans rfl, hx212_0⟩ (fun hHeld => ?_); refine with_tabW spec_WheelSet.tab9 spec_WheelSet.bits9 (fun HT_ HW_ => ?_)
           generalize w49.drew = w50 at HO210 BK203 BK204 BK211 HB GG51 HH51 HL212_0 HR212_0 HX212_0 UU51 hx212_0 hHeld ⊢
           refine Gv.pu 0 (some 52) HT_ ?_
           refine Gv.pu 2 (some 54) HT_ ?_
           refine Gv.pu 3 (some 55) HT_ ?_
           refine Gv.pu 5 (some 57) HT_ ?_
           refine Gv.pu 9 (some 61) HT_ ?_
           refine Gv.pu 10 (some 62) HT_ ?_
           refine Gv.pu 11 (some 63) HT_ ?_
           refine take_ (i := 1) (N := some 53) (v := ?_) (a' := ?_) #[true, true, true, true, false, true, false, false, false, true, true, true, false, false, false, false, false] rfl rfl (take_ofW HT_.out HW_.out (by kernel_rfl)) (fun _ _ _ h => h) (Or.inl ⟨by rfl, ?_⟩) hHeld ?_ ?_
           rotate_left
           ·rintro w' ⟨s0, s1, s2⟩
            go_simp
            with_reducible rfl
           rotate_left
           ·simp only [Act.put, List.setIfInBounds_toArray, List.set_cons_zero, List.set_cons_succ, i64_w, i32_w]
            rfl
           refine take_ (i := 4) (N := some 56) (v := ?_) (a' := ?_) #[true, true, true, true, true, true, false, false, false, true, true, true, false, false, false, false, false] rfl rfl (take_ofW HT_.out HW_.out (by kernel_rfl)) (fun _ _ _ h => h) (Or.inl ⟨by rfl, ?_⟩) hHeld ?_ ?_
           rotate_left
           ·rintro w' ⟨s0, s1, s2⟩
            go_simp
            with_reducible rfl
           rotate_left
           ·simp only [Act.put, List.setIfInBounds_toArray, List.set_cons_zero, List.set_cons_succ, i64_w, i32_w]
            rfl
           refine Gv.pu 6 (some 58) HT_ ?_
           refine Gv.pu 7 (some 59) HT_ ?_
           refine take_ (i := 8) (N := some 60) (v := ?_) (a' := ?_) #[true, true, true, true, true, true, true, true, true, true, true, true, false, false, false, false, false] rfl rfl (take_ofW HT_.out HW_.out (by kernel_rfl)) (fun _ _ _ h => h) (Or.inl ⟨by rfl, ?_⟩) hHeld ?_ ?_
           rotate_left
           ·rintro w' ⟨s0, s1, s2⟩
            go_simp
            with_reducible rfl
           rotate_left
           ·simp only [Act.put, List.setIfInBounds_toArray, List.set_cons_zero, List.set_cons_succ, i64_w, i32_w]
            rfl
           refine one_ (i := 12) (N := some 64) #[true, true, true, true, true, true, true, true, true, true, true, true, true, false, false, false, false] rfl rfl (one_of HT_.out (by kernel_rfl)) (by decide) (fun K hK => ?_)
           refine value_ (w1 := ?_) (v := ?_) (by rfl) rfl ?_ ?_
           rotate_left 2
           ·go_simp
            constructor
            ·rfl
            ·rfl
           refine hK.out _ _ ⟨(blk_cell (blk_alloc BK211.out _) 0).trans rfl, (blk_cell (blk_alloc BK211.out _) 1).trans rfl, (World.cell?_alloc_lt _ _ _ (World.block_lt_of_cell? _ _ (hHeld.2.2))).trans (hHeld.2.2)⟩ (fun hHeld => ?_)
           clear hK K
           refine norm_ (a' := ?_) ?_ ?_
           rotate_left
           ·show Act.put _ (some 64) _ = _
            simp only [Act.put, List.setIfInBounds_toArray, List.set_cons_zero, List.set_cons_succ, i64_w, i32_w]
            rfl
           refine one_ (i := 13) (N := some 65) #[true, true, true, true, true, true, true, true, true, true, true, true, true, true, false, false, false] rfl rfl (one_of HT_.out (by kernel_rfl)) (by decide) (fun K hK => ?_)
           refine Kd.R_append_step k50 (w0 := w) w.heap.size (by rfl) (.tmp 60) (.tmp 64) 45 50 (.agg #[(.int .i64 0), (.int .i64 0)]) 16 rfl Try.underlying45 info50 rfl (by decide) (by omega) (.slice A212_0 ((rd_T47 t208 (ji34)).f0).length c212_0) ((rd_T47 t208 (ji34)).f0) (⟨a1, a2⟩ : S50) [.int .i64 a1, .int .i64 a2] (fun k_ => oki51 k_ ∨ ((fun _ => True)) k_ ∧ w50.heap.size ≤ k_) (fun _ => False) rfl rfl ?aP (fun _ hk => hk.elim) ?aF ?aO ?aB ?aS ?aL ?_
           (case aP => exact k50_mkM _ _ _ (⟨a1, a2⟩ : S50))
           (case aB => exact Gv.bw)
           (case aF => exact (fun k_ hk => .inr ⟨trivial, hk⟩))
           (case aO => exact (by (with_reducible repeat (first | apply Kd.R_alloc | apply Kd.R_drewN | apply Kd.R_drew)); exact Kd.R_mono UU51.out (fun _ hk => .inl hk)))
           (case aS => exact (below_size Gv.bw))
           (case aL => have := LMc37.out; omega)
           intro v214 w52 ho hb hg hat
           (first | have HS2_ := cell_grown hg (hHeld.2.2) (by first | (rw [add_block]; exact (fun e_ => ((HL212_0.out.1 _ e_.symm).2) rfl)) | (show some (Addr.add _ _).block ≠ _; rw [add_block]; exact (fun e_ => ((HL212_0.out.1 _ e_.symm).2) rfl)) | exact (fun e_ => ((HL212_0.out.1 _ e_.symm).2) rfl)) | have HS2_ := cell_grown hg (cell_unalloc (hHeld.2.2) (by first | (rw [add_block]; exact Kd.S_lt HO210.out _ rfl) | (show (Addr.add _ _).block < _; rw [add_block]; exact Kd.S_lt HO210.out _ rfl) | exact Kd.S_lt HO210.out _ rfl)) (by first | (rw [add_block]; exact (fun e_ => ((HL212_0.out.1 _ e_.symm).2) rfl)) | (show some (Addr.add _ _).block ≠ _; rw [add_block]; exact (fun e_ => ((HL212_0.out.1 _ e_.symm).2) rfl)) | exact (fun e_ => ((HL212_0.out.1 _ e_.symm).2) rfl)))
           rw [← Ny213.out] at ho
           have n0_ := Gv.a0 (blk_grown (g := gb203) (o := .cells #[.int .i64 a0_0, .slice A0_1 l0_1.length c0_1] 24 (0, 0)) Gv.bk hg (Kd.R_ne HL212_0.out BK203.out (by decide)))
           have n1_ := Gv.a0 (blk_grown (g := gb204) (o := .cells #[.int .i64 0, .slice none 0 0] 24 (0, 0)) Gv.bk hg (Kd.R_ne HL212_0.out BK204.out (by decide)))
           have n2_ := Gv.a0 (blk_grown (g := gb211) (o := .cells #[.int .i64 t207, .slice (some ⟨go51, 0, none⟩) t208.length co48] 24 (0, 0)) Gv.bk hg (Kd.R_ne HL212_0.out BK211.out (by decide)))
           have n3_ := Gv.a0 (hb)
           have n4_ := Gv.a0 (Kd.H_grown (Kd.H_widen (by repeat (first | exact HH51.out | refine Kd.H_alloc ?_ _ | refine Kd.H_drewN ?_ _ | refine Kd.H_drew ?_))) hg (fun k_ e_ => .inl (UU51.out.1 k_ e_)))
           have n5_ := Gv.a0 (ho)
           clear BK203
           clear BK204
           clear BK211
           clear HB
           clear HH51
           clear HO210
           clear UU51
           clear HL212_0
           have BK203 := n0_
           have BK204 := n1_
           have BK211 := n2_
           have HB := n3_
           have HH51 := n4_
           have HO215 := n5_
           clear n0_ n1_ n2_ n3_ n4_ n5_
           clear ho hb hg hat
           have p38 : 0 ≤ ((ji34) : Int) := of_decide_eq_true (by first | (with_reducible assumption) | assumption)
           have q38 : ((ji34) : Int) < ((t208.length : Int) : Int) := of_decide_eq_true (by first | (with_reducible assumption) | assumption)
           replace p38 := eq_true p38
           replace q38 := eq_true q38
           obtain ⟨Ao55, co55, eo55⟩ := Kd.R_slice HO215.out
           (first | subst eo55 | (injection eo55 with f1_ f2_ f3_; have f4_ := f1_.symm; have f5_ := f3_.symm; clear f1_ f2_ f3_; subst f4_; subst f5_))
           obtain ⟨_, _, hraw53, _, _, hcc53, _⟩ := Kd.H_raw HH51.out (of_decide_eq_true (by first | (with_reducible assumption) | assumption)) (by have h_ : ((ji34) : Int) < ((t208.length : Int) : Int) := of_decide_eq_true (by first | (with_reducible assumption) | assumption); first | exact h_ | (have e_ := (HN51.out); omega) | simpa using h_)
           obtain ⟨_, hfr53⟩ := Kd.H_at HH51.out (of_decide_eq_true (by first | (with_reducible assumption) | assumption)) (by have h_ : ((ji34) : Int) < ((t208.length : Int) : Int) := of_decide_eq_true (by first | (with_reducible assumption) | assumption); first | exact h_ | (have e_ := (HN51.out); omega) | simpa using h_)
           have hx53_0 := hcc53 0 _ rfl
           have hf53_0 := hfr53 0
           (try simp only [Nat.add_zero] at hx53_0 hf53_0)
           (try rw [show (k47).sz = 1 from rfl, Nat.mul_one] at hx53_0)
           (try rw [show (k47).sz = 1 from rfl, Nat.mul_one] at hf53_0)
           have HP53 := Kd.S_seg0 HH51.out (of_decide_eq_true (by first | (with_reducible assumption) | assumption)) (by have h_ : ((ji34) : Int) < ((t208.length : Int) : Int) := of_decide_eq_true (by first | (with_reducible assumption) | assumption); first | exact h_ | (have e_ := (HN51.out); omega) | simpa using h_) (seg := [.slice Ao55 y213.length co55]) (j := 0) (show 1 ≤ 1 from by decide) (x' := (⟨y213⟩ : S47)) (k47_mkM _ _ _ (⟨y213⟩ : S47) HO215.out) (fun _ hk => hk)
           (try simp only [show (k47).sz = 1 from rfl, Nat.mul_one, Nat.add_zero] at HP53)
           clear hcc53 hfr53
           have HNB203_go51 := Gv.a0 (show gb203 ≠ go51 from by have h_ := Kd.R_ne hraw53 BK203.out (by decide); intro e_; exact h_ (by rw [e_]; rfl))
           have HNB204_go51 := Gv.a0 (show gb204 ≠ go51 from by have h_ := Kd.R_ne hraw53 BK204.out (by decide); intro e_; exact h_ (by rw [e_]; rfl))
           have HNB211_go51 := Gv.a0 (show gb211 ≠ go51 from by have h_ := Kd.R_ne hraw53 BK211.out (by decide); intro e_; exact h_ (by rw [e_]; rfl))
           have HS53 := HP53.1
           rw [← Ny216.out] at HS53
           have HQ53 := Gv.a0 HS53
           obtain ⟨_, hgg53⟩ := Kd.R_typed hraw53 go51 rfl
           have GG53_ := Gv.a0 hgg53
           clear HP53 HS53 hgg53
           refine hK.out _ _ ⟨(blk_cell BK211.out 0).trans rfl, (blk_cell BK211.out 1).trans rfl, HS2_⟩ (fun hHeld => ?_)
           clear hK K
           refine norm_ (a' := ?_) ?_ ?_
           rotate_left
           ·show Act.put _ (some 65) _ = _
            simp only [Act.put, List.setIfInBounds_toArray, List.set_cons_zero, List.set_cons_succ, i64_w, i32_w]
            rfl
           refine Gv.pu 14 (some 66) HT_ ?_
           refine Gv.pu 15 (some 67) HT_ ?_
           refine last_ (i := 16) (N := none) #[true, true, true, true, true, true, true, true, true, true, true, true, true, true, true, true, true] rfl rfl (one_of HT_.out (by kernel_rfl)) (by decide) (fun K hK => ?_)
           refine skip_ (w1 := ?_) (by rfl) rfl ?_ ?_
           rotate_left
           ·go_simp
            rfl
           refine hK.out _ _ ?_
           clear hK K
           refine done_ (done_of HT_.out (by kernel_rfl)) ?_
           have n0_ : Aside0 (Kd.S k47 47 (w52.setCell ⟨go51, ((ji34) : Int).toNat, none⟩ (.slice Ao55 y213.length co55)) w.heap.size (fun _ => True) (.slice (some ⟨go51, 0, none⟩) t208.length co48) y216) := ⟨by (with_reducible repeat (first | apply Kd.S_alloc | apply Kd.S_drewN | apply Kd.S_drew)); exact HQ53.out⟩
           have n1_ : Aside0 ((w52.setCell ⟨go51, ((ji34) : Int).toNat, none⟩ (.slice Ao55 y213.length co55)).heap[gb203]? = some (.cells #[.int .i64 a0_0, .slice A0_1 l0_1.length c0_1] 24 (0, 0))) := ⟨by (with_reducible repeat (first | refine blk_drewN ?_ _ | refine blk_drew ?_ | refine blk_alloc ?_ _)); refine blk_far ?_ HNB203_go51.out _; (with_reducible repeat (first | refine blk_drewN ?_ _ | refine blk_drew ?_ | refine blk_alloc ?_ _)); exact BK203.out⟩
           have n2_ : Aside0 ((w52.setCell ⟨go51, ((ji34) : Int).toNat, none⟩ (.slice Ao55 y213.length co55)).heap[gb204]? = some (.cells #[.int .i64 0, .slice none 0 0] 24 (0, 0))) := ⟨by (with_reducible repeat (first | refine blk_drewN ?_ _ | refine blk_drew ?_ | refine blk_alloc ?_ _)); refine blk_far ?_ HNB204_go51.out _; (with_reducible repeat (first | refine blk_drewN ?_ _ | refine blk_drew ?_ | refine blk_alloc ?_ _)); exact BK204.out⟩
           have n3_ : Aside0 ((w52.setCell ⟨go51, ((ji34) : Int).toNat, none⟩ (.slice Ao55 y213.length co55)).heap[gb211]? = some (.cells #[.int .i64 t207, .slice (some ⟨go51, 0, none⟩) t208.length co48] 24 (0, 0))) := ⟨by (with_reducible repeat (first | refine blk_drewN ?_ _ | refine blk_drew ?_ | refine blk_alloc ?_ _)); refine blk_far ?_ HNB211_go51.out _; (with_reducible repeat (first | refine blk_drewN ?_ _ | refine blk_drew ?_ | refine blk_alloc ?_ _)); exact BK211.out⟩
           have n4_ : Aside0 (Below w.heap.size w (w52.setCell ⟨go51, ((ji34) : Int).toNat, none⟩ (.slice Ao55 y213.length co55))) := ⟨Gv.bw⟩
           (try clear HO210)
           (try clear BK203)
           (try clear BK204)
           (try clear BK211)
           (try clear HB)
           generalize (w52.setCell ⟨go51, ((ji34) : Int).toNat, none⟩ (.slice Ao55 y213.length co55)) = w56 at n0_ n1_ n2_ n3_ n4_ ⊢
           have HO210 := n0_
           have BK203 := n1_
           have BK204 := n2_
           have BK211 := n3_
           have HB := n4_
           clear n0_ n1_ n2_ n3_ n4_
           have hcz57_0 : w56.cell? ⟨gb211, 0, none⟩ = some (.int .i64 t207) := (blk_cell BK211.out 0).trans rfl
           have hcz57_1 : w56.cell? ⟨gb211, 1, none⟩ = some (.slice (some ⟨go51, 0, none⟩) t208.length co48) := (blk_cell BK211.out 1).trans rfl
           have hfz57_0 := blk_frozen BK211.out 0
           have hfz57_1 := blk_frozen BK211.out 1
           have hcz58_0 : w56.cell? ⟨gb204, 0, none⟩ = some (.int .i64 0) := (blk_cell BK204.out 0).trans rfl
           have hcz58_1 : w56.cell? ⟨gb204, 1, none⟩ = some (.slice none 0 0) := (blk_cell BK204.out 1).trans rfl
           have hfz58_0 := blk_frozen BK204.out 0
           have hfz58_1 := blk_frozen BK204.out 1
           try go_wp2
           refine bodyPost_ret (results_ct rfl _ _ gb204 24 #[.int .i64 t207, .slice (some ⟨go51, 0, none⟩) t208.length co48] (0, 0) _ rfl (by (with_reducible repeat (first | refine blk_drewN ?_ _ | refine blk_drew ?_ | refine blk_alloc ?_ _)); refine blk_put (cs := #[.int .i64 t207, .slice none 0 0]) ?_ 1 _ rfl; (with_reducible repeat (first | refine blk_drewN ?_ _ | refine blk_drew ?_ | refine blk_alloc ?_ _)); refine blk_put (cs := #[.int .i64 0, .slice none 0 0]) ?_ 0 _ rfl; (with_reducible repeat (first | refine blk_drewN ?_ _ | refine blk_drew ?_ | refine blk_alloc ?_ _)); exact BK204.out) Try.underlying24 rfl (by kernel_rfl)) rfl ?_
           exact ⟨_, by first | rfl | (simp [errW_none, errW_some] <;> rfl) | (simp only [← hji34]; first | rfl | (simp [errW_none, errW_some] <;> rfl)) | (simp [*, errW_none, errW_some] <;> rfl), by (with_reducible repeat (first | apply Kd.S_alloc | apply Kd.S_drewN | apply Kd.S_drew)); exact Kd.S_mono (Kd.S_far (p := ⟨gb204, 1, none⟩) (Kd.S_far (p := ⟨gb204, 0, none⟩) (Kd.S_types HO210.out BK204.out (by decide)) (fun _ hk => hk.2) (.int .i64 t207)) (fun _ hk => hk.2) (.slice (some ⟨go51, 0, none⟩) t208.length co48)) (fun _ hk => trivial), Gv.bw⟩
          ·rw [if_neg c37] at H
           exact absurd H (by simp)
         ·rw [if_neg c36] at H
          exact absurd H (by simp)
        ·rw [if_neg c35] at H
         exact absurd H (by simp)
       ·replace c32 := Bool.eq_false_iff.mpr c32
        subst c32
        have H1 : ((spec_l12All.f kj21 a0_0 l0_1).bind fun t217 => (if (t217.length : Int) = 64 then (some (0, ([] : List (S47)), 3)) else ((spec_l12Without.f kj21 a0_0 l0_1 a0_0 a1 (-1)).bind fun bt220 => (if 0 ≤ (Int.tmod a2 8) then (if (Int.tmod a2 8) < (bt220.2.length : Int) then (if ((rd_T47 bt220.2 (Int.tmod a2 8)).f0).length < 8796093022208 then (some (bt220.1, (bt220.2.set ((Int.tmod a2 8) : Int).toNat (⟨(((rd_T47 bt220.2 (Int.tmod a2 8)).f0) ++ [(⟨a1, a2⟩ : S50)])⟩ : S47)), 0)) else (none)) else (none)) else (none))))) = some (r1, r2, r3) := by rw [if_neg (show ¬ (false = true) by decide)] at H; exact H
        clear H
        have H := H1
        clear H1
        replace H := Option.bind_eq_some_iff.mp H
        obtain ⟨t217, A590, H⟩ := H
        replace H : (if (t217.length : Int) = 64 then (some (0, ([] : List (S47)), 3)) else ((spec_l12Without.f kj21 a0_0 l0_1 a0_0 a1 (-1)).bind fun bt220 => (if 0 ≤ (Int.tmod a2 8) then (if (Int.tmod a2 8) < (bt220.2.length : Int) then (if ((rd_T47 bt220.2 (Int.tmod a2 8)).f0).length < 8796093022208 then (some (bt220.1, (bt220.2.set ((Int.tmod a2 8) : Int).toNat (⟨(((rd_T47 bt220.2 (Int.tmod a2 8)).f0) ++ [(⟨a1, a2⟩ : S50)])⟩ : S47)), 0)) else (none)) else (none)) else (none)))) = some (r1, r2, r3) := H
        have A59 := Gv.a0 A590
        clear A590
        by_cases c60 : (t217.length : Int) = 64
        ·rw [if_pos c60] at H
         have c60b0 : ((t217.length : Int) == 64) = true := beq_iff_eq.mpr c60
         have c60b1 : ((t217.length : Int) != 64) = false := bne_eq_false_iff_eq.mpr c60
         clear c60
         simp only [Option.some.injEq, Prod.mk.injEq] at H
         obtain ⟨rfl, rfl, rfl⟩ := H
         have hnb61 := NB203_204.out
         have hnc61 := NB204_203.out
         have hcz62_0 : wc.cell? ⟨gb203, 0, none⟩ = some (.int .i64 a0_0) := (blk_cell BK203.out 0).trans rfl
         have hcz62_1 : wc.cell? ⟨gb203, 1, none⟩ = some (.slice A0_1 l0_1.length c0_1) := (blk_cell BK203.out 1).trans rfl
         have hfz62_0 := blk_frozen BK203.out 0
         have hfz62_1 := blk_frozen BK203.out 1
         go_wp2_with (first | ((with_reducible refine gate_callee (f := 33) rfl ?_); refine goesL_ (some 36) rfl rfl Try.func33 (by kernel_rfl) rfl #[.agg #[.int .i64 a0_0, .slice A0_1 l0_1.length c0_1], .int .i64 a1] rfl Gv.lm ?_; (with_reducible refine (spec_l12Has.calls kj21 a0_0 _ _ l0_1 a1 false _ ?side1 ?side2 A31.out).mono ?_); (case side1 => repeat (first | exact (Kd.C_below HR0_1.out HB.out) | (with_reducible refine Kd.C_alloc ?_ _) | (with_reducible refine Kd.C_drewN ?_ _) | (with_reducible refine Kd.C_drew ?_))); (case side2 => exact HC0_1.out); rintro e w63 ⟨rfl, hb⟩; refine ⟨_, rfl, ?_⟩; have n0_ := Gv.a0 (Gv.bb BK203.out hb); have n1_ := Gv.a0 (Gv.bb BK204.out hb); have n2_ := Gv.a0 (below_step Gv.bw hb); clear BK203; clear BK204; clear HB; have BK203 := n0_; have BK204 := n1_; have HB := n2_; clear n0_ n1_ n2_; (try clear hb); (try clear hb2); (try clear hk); (try clear hi); have hcz64_0 : w63.cell? ⟨gb203, 0, none⟩ = some (.int .i64 a0_0) := (blk_cell BK203.out 0).trans rfl; have hcz64_1 : w63.cell? ⟨gb203, 1, none⟩ = some (.slice A0_1 l0_1.length c0_1) := (blk_cell BK203.out 1).trans rfl; have hfz64_0 := blk_frozen BK203.out 0; have hfz64_1 := blk_frozen BK203.out 1) | (go_at_call 28; (with_reducible refine (spec_l12All.calls kj21 a0_0 _ _ l0_1 t217 _ ?side1 ?side2 A59.out).mono ?_); (case side1 => repeat (first | exact (Kd.C_below HR0_1.out HB.out) | (with_reducible refine Kd.C_alloc ?_ _) | (with_reducible refine Kd.C_drewN ?_ _) | (with_reducible refine Kd.C_drew ?_))); (case side2 => exact HC0_1.out); rintro e w65 ⟨v218, rfl, ho0, hb⟩; have n0_ := Gv.a0 (Kd.R_lower ho0 (below_size Gv.bw)); have n1_ := Gv.a0 (Gv.bb BK203.out hb); have n2_ := Gv.a0 (Gv.bb BK204.out hb); have n3_ := Gv.a0 (below_step Gv.bw hb); clear BK203; clear BK204; clear HB; have HO219 := n0_; have BK203 := n1_; have BK204 := n2_; have HB := n3_; clear n0_ n1_ n2_ n3_; (try clear hb); (try clear hb2); (try clear hk); (try clear hi); (try clear ho0); obtain ⟨Ao66, co66, eo66⟩ := Kd.R_slice HO219.out; subst eo66; have hcz67_0 : w65.cell? ⟨gb204, 0, none⟩ = some (.int .i64 0) := (blk_cell BK204.out 0).trans rfl; have hcz67_1 : w65.cell? ⟨gb204, 1, none⟩ = some (.slice none 0 0) := (blk_cell BK204.out 1).trans rfl; have hfz67_0 := blk_frozen BK204.out 0; have hfz67_1 := blk_frozen BK204.out 1))
         refine bodyPost_ret (results_ct rfl _ _ gb204 24 #[.int .i64 0, .slice none 0 0] (0, 0) _ rfl (by (with_reducible repeat (first | refine blk_drewN ?_ _ | refine blk_drew ?_ | refine blk_alloc ?_ _)); refine blk_put (cs := #[.int .i64 0, .slice none 0 0]) ?_ 1 _ rfl; (with_reducible repeat (first | refine blk_drewN ?_ _ | refine blk_drew ?_ | refine blk_alloc ?_ _)); refine blk_put (cs := #[.int .i64 0, .slice none 0 0]) ?_ 0 _ rfl; (with_reducible repeat (first | refine blk_drewN ?_ _ | refine blk_drew ?_ | refine blk_alloc ?_ _)); exact BK204.out) Try.underlying24 rfl (by kernel_rfl)) rfl ?_
         exact ⟨_, Gv.rt, by first | exact Kd.S_nil _ _ _ _ _ | exact Kd.N_nil _ _ _ _ _ | exact Kd.V_nil _ _ _ _ _ | exact Kd.Q_nil _ _ _ _ _ | exact Kd.R_nil _ _ _ _ _, Gv.bw⟩
        ·rw [if_neg c60] at H
         have c60b0 : ((t217.length : Int) == 64) = false := beq_eq_false_iff_ne.mpr c60
         have c60b1 : ((t217.length : Int) != 64) = true := bne_iff_ne.mpr c60
         replace H := Option.bind_eq_some_iff.mp H
         obtain ⟨⟨t220, t221⟩, A680, H⟩ := H
         replace H : (if 0 ≤ (Int.tmod a2 8) then (if (Int.tmod a2 8) < (t221.length : Int) then (if ((rd_T47 t221 (Int.tmod a2 8)).f0).length < 8796093022208 then (some (t220, (t221.set ((Int.tmod a2 8) : Int).toNat (⟨(((rd_T47 t221 (Int.tmod a2 8)).f0) ++ [(⟨a1, a2⟩ : S50)])⟩ : S47)), 0)) else (none)) else (none)) else (none)) = some (r1, r2, r3) := H
         have A68 := Gv.a0 A680
         clear A680
         obtain ⟨ji69, hji69⟩ : ∃ j_ : Int, (Int.tmod a2 8) = j_ := ⟨_, rfl⟩
         replace H : (if 0 ≤ (ji69) then (if (ji69) < (t221.length : Int) then (if ((rd_T47 t221 (ji69)).f0).length < 8796093022208 then (some (t220, (t221.set ((ji69) : Int).toNat (⟨(((rd_T47 t221 (ji69)).f0) ++ [(⟨a1, a2⟩ : S50)])⟩ : S47)), 0)) else (none)) else (none)) else (none)) = some (r1, r2, r3) := by first | (rw [hji69] at H; exact H) | (simp only [hji69] at H ⊢; exact H)
         (try rw [hji69] at A31)
         (try rw [hji69] at A59)
         (try rw [hji69] at A68)
         by_cases c70 : 0 ≤ (ji69)
         ·rw [if_pos c70] at H
          have c70b0 : decide (0 ≤ (ji69)) = true := decide_eq_true c70
          clear c70
          by_cases c71 : (ji69) < (t221.length : Int)
          ·rw [if_pos c71] at H
           have c71b0 : decide ((ji69) < (t221.length : Int)) = true := decide_eq_true c71
           clear c71
           by_cases c72 : ((rd_T47 t221 (ji69)).f0).length < 8796093022208
           ·rw [if_pos c72] at H
            have LMc72 := Gv.a0 c72
            clear c72
            obtain ⟨y226, hy226⟩ : ∃ y_ : List (S50), y_ = (((rd_T47 t221 (ji69)).f0) ++ [(⟨a1, a2⟩ : S50)]) := ⟨_, rfl⟩
            replace H : (some (t220, (t221.set ((ji69) : Int).toNat (⟨y226⟩ : S47)), 0)) = some (r1, r2, r3) := by first | (rw [hy226]; with_reducible exact H) | (have H2_ := (Option.bind_some _ _).symm.trans H; rw [hy226]; with_reducible exact H2_) | (have H2_ := (Option.bind_some _ _).symm.trans H; with_reducible exact H2_) | with_reducible exact H | (rw [hy226]; exact H) | exact H
            have Ny226 := Gv.a0 hy226
            clear hy226
            obtain ⟨y229, hy229⟩ : ∃ y_ : List (S47), y_ = (t221.set ((ji69) : Int).toNat (⟨y226⟩ : S47)) := ⟨_, rfl⟩
            replace H : (some (t220, y229, 0)) = some (r1, r2, r3) := by first | (rw [hy229]; with_reducible exact H) | (have H2_ := (Option.bind_some _ _).symm.trans H; rw [hy229]; with_reducible exact H2_) | (have H2_ := (Option.bind_some _ _).symm.trans H; with_reducible exact H2_) | with_reducible exact H | (rw [hy229]; exact H) | exact H
            have Ny229 := Gv.a0 hy229
            clear hy229
            simp only [Option.some.injEq, Prod.mk.injEq] at H
            obtain ⟨rfl, rfl, rfl⟩ := H
            have hnb74 := NB203_204.out
            have hnc74 := NB204_203.out
            have hcz75_0 : wc.cell? ⟨gb203, 0, none⟩ = some (.int .i64 a0_0) := (blk_cell BK203.out 0).trans rfl
            have hcz75_1 : wc.cell? ⟨gb203, 1, none⟩ = some (.slice A0_1 l0_1.length c0_1) := (blk_cell BK203.out 1).trans rfl
            have hfz75_0 := blk_frozen BK203.out 0
            have hfz75_1 := blk_frozen BK203.out 1
            try go_wp2_with (first | ((with_reducible refine gate_callee (f := 33) rfl ?_); refine goesL_ (some 36) rfl rfl Try.func33 (by kernel_rfl) rfl #[.agg #[.int .i64 a0_0, .slice A0_1 l0_1.length c0_1], .int .i64 a1] rfl Gv.lm ?_; (with_reducible refine (spec_l12Has.calls kj21 a0_0 _ _ l0_1 a1 false _ ?side1 ?side2 A31.out).mono ?_); (case side1 => repeat (first | exact (Kd.C_below HR0_1.out HB.out) | (with_reducible refine Kd.C_alloc ?_ _) | (with_reducible refine Kd.C_drewN ?_ _) | (with_reducible refine Kd.C_drew ?_))); (case side2 => exact HC0_1.out); rintro e w76 ⟨rfl, hb⟩; refine ⟨_, rfl, ?_⟩; have n0_ := Gv.a0 (Gv.bb BK203.out hb); have n1_ := Gv.a0 (Gv.bb BK204.out hb); have n2_ := Gv.a0 (below_step Gv.bw hb); clear BK203; clear BK204; clear HB; have BK203 := n0_; have BK204 := n1_; have HB := n2_; clear n0_ n1_ n2_; (try clear hb); (try clear hb2); (try clear hk); (try clear hi); have hcz77_0 : w76.cell? ⟨gb203, 0, none⟩ = some (.int .i64 a0_0) := (blk_cell BK203.out 0).trans rfl; have hcz77_1 : w76.cell? ⟨gb203, 1, none⟩ = some (.slice A0_1 l0_1.length c0_1) := (blk_cell BK203.out 1).trans rfl; have hfz77_0 := blk_frozen BK203.out 0; have hfz77_1 := blk_frozen BK203.out 1) | (go_at_call 28; (with_reducible refine (spec_l12All.calls kj21 a0_0 _ _ l0_1 t217 _ ?side1 ?side2 A59.out).mono ?_); (case side1 => repeat (first | exact (Kd.C_below HR0_1.out HB.out) | (with_reducible refine Kd.C_alloc ?_ _) | (with_reducible refine Kd.C_drewN ?_ _) | (with_reducible refine Kd.C_drew ?_))); (case side2 => exact HC0_1.out); rintro e w78 ⟨v218, rfl, ho0, hb⟩; have n0_ := Gv.a0 (Kd.R_lower ho0 (below_size Gv.bw)); have n1_ := Gv.a0 (Gv.bb BK203.out hb); have n2_ := Gv.a0 (Gv.bb BK204.out hb); have n3_ := Gv.a0 (below_step Gv.bw hb); clear BK203; clear BK204; clear HB; have HO219 := n0_; have BK203 := n1_; have BK204 := n2_; have HB := n3_; clear n0_ n1_ n2_ n3_; (try clear hb); (try clear hb2); (try clear hk); (try clear hi); (try clear ho0); obtain ⟨Ao79, co79, eo79⟩ := Kd.R_slice HO219.out; subst eo79; have hcz80_0 : w78.cell? ⟨gb203, 0, none⟩ = some (.int .i64 a0_0) := (blk_cell BK203.out 0).trans rfl; have hcz80_1 : w78.cell? ⟨gb203, 1, none⟩ = some (.slice A0_1 l0_1.length c0_1) := (blk_cell BK203.out 1).trans rfl; have hfz80_0 := blk_frozen BK203.out 0; have hfz80_1 := blk_frozen BK203.out 1) | ((with_reducible refine gate_callee (f := 34) rfl ?_); refine goesL_ (some 49) rfl rfl Try.func34 (by kernel_rfl) rfl #[.agg #[.int .i64 a0_0, .slice A0_1 l0_1.length c0_1], .int .i64 a0_0, .int .i64 a1, .int .i64 (-1)] rfl Gv.lm ?_; (with_reducible refine (spec_l12Without.calls kj21 a0_0 _ _ l0_1 a0_0 a1 (-1) t220 t221 _ ?side1 ?side2 A68.out).mono ?_); (case side1 => repeat (first | exact (Kd.C_below HR0_1.out HB.out) | (with_reducible refine Kd.C_alloc ?_ _) | (with_reducible refine Kd.C_drewN ?_ _) | (with_reducible refine Kd.C_drew ?_))); (case side2 => exact HC0_1.out); rintro e w81 ⟨v222, rfl, ho0, hb⟩; refine ⟨_, rfl, ?_⟩; have n0_ := Gv.a0 (Kd.R_below (Gv.kr HO219.out) hb); have n1_ := Gv.a0 (Kd.S_lower (Kd.S_new' ho0 (Kd.R_lt (Gv.kr HO219.out))) (below_size Gv.bw)); have n2_ := Gv.a0 (Gv.bb BK203.out hb); have n3_ := Gv.a0 (Gv.bb BK204.out hb); have n4_ := Gv.a0 (below_step Gv.bw hb); clear HO219; clear BK203; clear BK204; clear HB; have HO219 := n0_; have HO223 := n1_; have BK203 := n2_; have BK204 := n3_; have HB := n4_; clear n0_ n1_ n2_ n3_ n4_; (try clear hb); (try clear hb2); (try clear hk); (try clear hi); (try clear ho0)) | ((with_reducible refine gate_dst (N := 8) rfl ?_); (try (refine gate_guard (by rfl) ?_; dsimp only)); refine box_event ?hg (N := 8) ?hd (cs := #[.int .i64 0, .slice none 0 0]) (t := 24) ?hr ?_; (case hd => rfl); (case hg => rfl); (case hr => first | (go_simp; done) | (go_simp; rfl)); intro gb224 hg w82 hbox hb; have n0_ := Gv.a0 (Kd.R_below (Gv.kr HO219.out) hb); have n1_ := Gv.a0 (Kd.S_below (by (with_reducible repeat (first | apply Kd.S_alloc | apply Kd.S_drewN | apply Kd.S_drew)); exact HO223.out) hb); have n2_ := Gv.a0 (Gv.bb BK203.out hb); have n3_ := Gv.a0 (Gv.bb BK204.out hb); have n4_ := Gv.a0 (below_step Gv.bw hb); have n5_ := Gv.a0 (hbox); have n6_ := Gv.a0 ((Gv.ble hg Gv.bw : w.heap.size ≤ gb224)); have n7_ := Gv.a0 ((Gv.ble hg Gv.bw : w.heap.size ≤ gb224)); have n8_ := Gv.a0 ((Gv.nlt hg (Gv.kb BK203.out) : gb203 ≠ gb224)); have n9_ := Gv.a0 ((Gv.ngt hg (Gv.kb BK203.out) : gb224 ≠ gb203)); have n10_ := Gv.a0 ((Gv.nlt hg (Gv.kb BK204.out) : gb204 ≠ gb224)); have n11_ := Gv.a0 ((Gv.ngt hg (Gv.kb BK204.out) : gb224 ≠ gb204)); clear HO219; clear HO223; clear BK203; clear BK204; clear HB; have HO219 := n0_; have HO223 := n1_; have BK203 := n2_; have BK204 := n3_; have HB := n4_; have BK224 := n5_; have GW224 := n6_; have GE224 := n7_; have NB203_224 := n8_; have NB224_203 := n9_; have NB204_224 := n10_; have NB224_204 := n11_; clear n0_ n1_ n2_ n3_ n4_ n5_ n6_ n7_ n8_ n9_ n10_ n11_; clear hb hbox hg; have hnb83 := NB224_203.out; have hnc83 := NB203_224.out; have hnb84 := NB224_204.out; have hnc84 := NB204_224.out; have hcz85_0 : w82.cell? ⟨gb224, 0, none⟩ = some (.int .i64 0) := (blk_cell BK224.out 0).trans rfl; have hcz85_1 : w82.cell? ⟨gb224, 1, none⟩ = some (.slice none 0 0) := (blk_cell BK224.out 1).trans rfl; have hfz85_0 := blk_frozen BK224.out 0; have hfz85_1 := blk_frozen BK224.out 1; obtain ⟨Ao86, co86, eo86⟩ := Kd.S_slice HO223.out; subst eo86))
            have n0_ : Aside0 (Kd.R k50 50 ((w82.setCell ⟨gb224, 0, none⟩ (.int .i64 t220)).setCell ⟨gb224, 1, none⟩ (.slice Ao86 t221.length co86)) w.heap.size (fun _ => True) (.slice Ao79 t217.length co79) t217) := ⟨by (with_reducible repeat (first | apply Kd.R_alloc | apply Kd.R_drewN | apply Kd.R_drew)); exact Kd.R_mono (Kd.R_far (p := ⟨gb224, 1, none⟩) (Kd.R_far (p := ⟨gb224, 0, none⟩) (Kd.R_types HO219.out BK224.out (by decide)) (fun _ hk => hk.2) (.int .i64 t220)) (fun _ hk => hk.2) (.slice Ao86 t221.length co86)) (fun _ hk => trivial)⟩
            have n1_ : Aside0 (Kd.S k47 47 ((w82.setCell ⟨gb224, 0, none⟩ (.int .i64 t220)).setCell ⟨gb224, 1, none⟩ (.slice Ao86 t221.length co86)) w.heap.size (fun k_ => some k_ ≠ (.slice Ao79 t217.length co79 : Value).ownBlock) (.slice Ao86 t221.length co86) t221) := ⟨by (with_reducible repeat (first | apply Kd.S_alloc | apply Kd.S_drewN | apply Kd.S_drew)); exact Kd.S_mono (Kd.S_far (p := ⟨gb224, 1, none⟩) (Kd.S_far (p := ⟨gb224, 0, none⟩) (Kd.S_types HO223.out BK224.out (by decide)) (fun _ hk => hk.2) (.int .i64 t220)) (fun _ hk => hk.2) (.slice Ao86 t221.length co86)) (fun _ hk => hk.1.2)⟩
            have n2_ : Aside0 (((w82.setCell ⟨gb224, 0, none⟩ (.int .i64 t220)).setCell ⟨gb224, 1, none⟩ (.slice Ao86 t221.length co86)).heap[gb203]? = some (.cells #[.int .i64 a0_0, .slice A0_1 l0_1.length c0_1] 24 (0, 0))) := ⟨by (with_reducible repeat (first | refine blk_drewN ?_ _ | refine blk_drew ?_ | refine blk_alloc ?_ _)); refine blk_far ?_ NB203_224.out _; (with_reducible repeat (first | refine blk_drewN ?_ _ | refine blk_drew ?_ | refine blk_alloc ?_ _)); refine blk_far ?_ NB203_224.out _; (with_reducible repeat (first | refine blk_drewN ?_ _ | refine blk_drew ?_ | refine blk_alloc ?_ _)); exact BK203.out⟩
            have n3_ : Aside0 (((w82.setCell ⟨gb224, 0, none⟩ (.int .i64 t220)).setCell ⟨gb224, 1, none⟩ (.slice Ao86 t221.length co86)).heap[gb204]? = some (.cells #[.int .i64 0, .slice none 0 0] 24 (0, 0))) := ⟨by (with_reducible repeat (first | refine blk_drewN ?_ _ | refine blk_drew ?_ | refine blk_alloc ?_ _)); refine blk_far ?_ NB204_224.out _; (with_reducible repeat (first | refine blk_drewN ?_ _ | refine blk_drew ?_ | refine blk_alloc ?_ _)); refine blk_far ?_ NB204_224.out _; (with_reducible repeat (first | refine blk_drewN ?_ _ | refine blk_drew ?_ | refine blk_alloc ?_ _)); exact BK204.out⟩
            have n4_ : Aside0 (((w82.setCell ⟨gb224, 0, none⟩ (.int .i64 t220)).setCell ⟨gb224, 1, none⟩ (.slice Ao86 t221.length co86)).heap[gb224]? = some (.cells #[.int .i64 t220, .slice Ao86 t221.length co86] 24 (0, 0))) := ⟨by (with_reducible repeat (first | refine blk_drewN ?_ _ | refine blk_drew ?_ | refine blk_alloc ?_ _)); refine blk_put (cs := #[.int .i64 t220, .slice none 0 0]) ?_ 1 _ rfl; (with_reducible repeat (first | refine blk_drewN ?_ _ | refine blk_drew ?_ | refine blk_alloc ?_ _)); refine blk_put (cs := #[.int .i64 0, .slice none 0 0]) ?_ 0 _ rfl; (with_reducible repeat (first | refine blk_drewN ?_ _ | refine blk_drew ?_ | refine blk_alloc ?_ _)); exact BK224.out⟩
            have n5_ : Aside0 (Below w.heap.size w ((w82.setCell ⟨gb224, 0, none⟩ (.int .i64 t220)).setCell ⟨gb224, 1, none⟩ (.slice Ao86 t221.length co86))) := ⟨Gv.bw⟩
            (try clear HO219)
            (try clear HO223)
            (try clear BK203)
            (try clear BK204)
            (try clear BK224)
            (try clear HB)
            generalize ((w82.setCell ⟨gb224, 0, none⟩ (.int .i64 t220)).setCell ⟨gb224, 1, none⟩ (.slice Ao86 t221.length co86)) = w87 at n0_ n1_ n2_ n3_ n4_ n5_ ⊢
            have HO219 := n0_
            have HO223 := n1_
            have BK203 := n2_
            have BK204 := n3_
            have BK224 := n4_
            have HB := n5_
            clear n0_ n1_ n2_ n3_ n4_ n5_
            have n0_ := Gv.a0 (Kd.R_drew HO219.out)
            have n1_ := Gv.a0 (Kd.S_drew HO223.out)
            have n2_ := Gv.a0 (blk_drew BK203.out)
            have n3_ := Gv.a0 (blk_drew BK204.out)
            have n4_ := Gv.a0 (blk_drew BK224.out)
            have n5_ := Gv.a0 (below_drew1 HB.out)
            clear HO219
            clear HO223
            clear BK203
            clear BK204
            clear BK224
            clear HB
            have HO219 := n0_
            have HO223 := n1_
            have BK203 := n2_
            have BK204 := n3_
            have BK224 := n4_
            have HB := n5_
            clear n0_ n1_ n2_ n3_ n4_ n5_
            have p225 : 0 ≤ ((ji69) : Int) := of_decide_eq_true (by first | (with_reducible assumption) | assumption)
            have q225 : (ji69) < (t221.length : Int) := of_decide_eq_true (by first | (with_reducible assumption) | assumption)
            obtain ⟨ad225, A225_0, c225_0, e225, hx225_0, hl225_0, hi225_0⟩ := at_T47 (Kd.S_reads' HO223.out).2.2 (ji69) p225 q225
            cases e225
            obtain ⟨ce225, hce225, hMe225, hcc225⟩ := Kd.S_get HO223.out z47 (ji69) p225 (by first | exact q225 | exact of_decide_eq_true (by first | (with_reducible assumption) | assumption) | (have e_ := (Kd.S_reads' HO223.out).1; omega))
            obtain ⟨ve225_0, rfl, ge225_0⟩ := k47_openM hMe225
            have hv225_0 := hcc225 0 _ rfl
            rw [Nat.add_zero, show (k47).sz = 1 from rfl, Nat.mul_one] at hv225_0
            replace hv225_0 := Option.some.inj (hv225_0.symm.trans hx225_0)
            rw [hv225_0] at ge225_0
            have HL225_0 := Gv.a0 (show Kd.R k50 50 _ _ _ _ ((rd_T47 t221 (ji69)).f0) from ge225_0)
            clear hv225_0 ge225_0
            have HX225_0 := Gv.a0 hx225_0
            clear hcc225 hce225
            have HR225_0 := Gv.a0 hi225_0
            have HC225_0 := Gv.a0 hl225_0
            clear hi225_0 hl225_0
            replace p225 := eq_true p225
            replace q225 := eq_true q225
            obtain ⟨go89, co89, eo89, gb89, gl89, cl89, HG89⟩ := Kd.S_form HO223.out (by have h_ : ((ji69) : Int) < ((t221.length : Int) : Int) := of_decide_eq_true (by first | (with_reducible assumption) | assumption); have h2_ : 0 ≤ ((ji69) : Int) := (of_decide_eq_true (by first | (with_reducible assumption) | assumption)); omega)
            (first | cases eo89 | (injection eo89 with ea_ en_ ec_; (first | subst ea_ | (injection ea_ with ea_; subst ea_)); subst ec_; clear en_))
            have GB89 := Gv.a0 gb89
            have GG89 := Gv.a0 HG89
            clear gb89 gl89 HG89
            (first | simp only [add_plain] at hx225_0 | skip)
            obtain ⟨oki89, ce89, hcl89, hM89, hcc89, _, _, hH89⟩ := Kd.S_elem HO223.out z47 ((ji69) : Int) (of_decide_eq_true (by first | (with_reducible assumption) | assumption)) (by have h_ : ((ji69) : Int) < ((t221.length : Int) : Int) := of_decide_eq_true (by first | (with_reducible assumption) | assumption); first | exact h_ | (have e_ := (Kd.S_reads' HO223.out).1; omega) | simpa using h_)
            obtain ⟨ve89_0, rfl, ge89_0⟩ := k47_openM hM89
            have hv89 := hcc89 0 _ rfl
            have hX89 := HX225_0.out
            (try simp only [add_plain] at hX89)
            (try simp only [Nat.add_zero] at hv89)
            (try rw [show (k47).sz = 1 from rfl, Nat.mul_one] at hv89)
            replace hv89 := Option.some.inj (hv89.symm.trans hX89)
            subst hv89
            clear hX89 hcc89 hcl89
            have UU89 := Gv.a0 (show Kd.R k50 50 _ w.heap.size oki89 (.slice A225_0 ((rd_T47 t221 (ji69)).f0).length c225_0) ((rd_T47 t221 (ji69)).f0) from ge89_0)
            have HH89 := Gv.a0 hH89
            have HN89 := Gv.a0 (Kd.S_reads' HO223.out).1
            clear hH89 ge89_0
            refine start_ (n := 17) (S := fun w' => w'.cell? ⟨gb224, 0, none⟩ = some (.int .i64 t220) ∧ w'.cell? ⟨gb224, 1, none⟩ = some (.slice (some ⟨go89, 0, none⟩) t221.length co86) ∧ w'.cell? ⟨go89, ((ji69)).toNat, none⟩ = some (.slice A225_0 ((rd_T47 t221 (ji69)).f0).length c225_0)) (ds := [16]) #[false, false, false, false, false, false, false, false, false, false, false, false, false, false, false, false, false] (by kernel_rfl) rfl rfl ⟨(blk_cell BK224.out 0).trans rfl, (blk_cell BK224.out 1).trans rfl, hx225_0⟩ (fun hHeld => ?_); refine with_tabW spec_WheelSet.tab9 spec_WheelSet.bits9 (fun HT_ HW_ => ?_)
            generalize w87.drew = w88 at HO219 HO223 BK203 BK204 BK224 HB GG89 HH89 HL225_0 HR225_0 HX225_0 UU89 hx225_0 hHeld ⊢
            refine Gv.pu 0 (some 52) HT_ ?_
            refine Gv.pu 2 (some 54) HT_ ?_
            refine Gv.pu 3 (some 55) HT_ ?_
            refine Gv.pu 5 (some 57) HT_ ?_
            refine Gv.pu 9 (some 61) HT_ ?_
            refine Gv.pu 10 (some 62) HT_ ?_
            refine Gv.pu 11 (some 63) HT_ ?_
            refine take_ (i := 1) (N := some 53) (v := ?_) (a' := ?_) #[true, true, true, true, false, true, false, false, false, true, true, true, false, false, false, false, false] rfl rfl (take_ofW HT_.out HW_.out (by kernel_rfl)) (fun _ _ _ h => h) (Or.inl ⟨by rfl, ?_⟩) hHeld ?_ ?_
            rotate_left
            ·rintro w' ⟨s0, s1, s2⟩
             go_simp
             with_reducible rfl
            rotate_left
            ·simp only [Act.put, List.setIfInBounds_toArray, List.set_cons_zero, List.set_cons_succ, i64_w, i32_w]
             rfl
            refine take_ (i := 4) (N := some 56) (v := ?_) (a' := ?_) #[true, true, true, true, true, true, false, false, false, true, true, true, false, false, false, false, false] rfl rfl (take_ofW HT_.out HW_.out (by kernel_rfl)) (fun _ _ _ h => h) (Or.inl ⟨by rfl, ?_⟩) hHeld ?_ ?_
            rotate_left
            ·rintro w' ⟨s0, s1, s2⟩
             go_simp
             with_reducible rfl
            rotate_left
            ·simp only [Act.put, List.setIfInBounds_toArray, List.set_cons_zero, List.set_cons_succ, i64_w, i32_w]
             rfl
            refine Gv.pu 6 (some 58) HT_ ?_
            refine Gv.pu 7 (some 59) HT_ ?_
            refine take_ (i := 8) (N := some 60) (v := ?_) (a' := ?_) #[true, true, true, true, true, true, true, true, true, true, true, true, false, false, false, false, false] rfl rfl (take_ofW HT_.out HW_.out (by kernel_rfl)) (fun _ _ _ h => h) (Or.inl ⟨by rfl, ?_⟩) hHeld ?_ ?_
            rotate_left
            ·rintro w' ⟨s0, s1, s2⟩
             go_simp
             with_reducible rfl
            rotate_left
            ·simp only [Act.put, List.setIfInBounds_toArray, List.set_cons_zero, List.set_cons_succ, i64_w, i32_w]
             rfl
            refine one_ (i := 12) (N := some 64) #[true, true, true, true, true, true, true, true, true, true, true, true, true, false, false, false, false] rfl rfl (one_of HT_.out (by kernel_rfl)) (by decide) (fun K hK => ?_)
            refine value_ (w1 := ?_) (v := ?_) (by rfl) rfl ?_ ?_
            rotate_left 2
            ·go_simp
             constructor
             ·rfl
             ·rfl
            refine hK.out _ _ ⟨(blk_cell (blk_alloc BK224.out _) 0).trans rfl, (blk_cell (blk_alloc BK224.out _) 1).trans rfl, (World.cell?_alloc_lt _ _ _ (World.block_lt_of_cell? _ _ (hHeld.2.2))).trans (hHeld.2.2)⟩ (fun hHeld => ?_)
            clear hK K
            refine norm_ (a' := ?_) ?_ ?_
            rotate_left
            ·show Act.put _ (some 64) _ = _
             simp only [Act.put, List.setIfInBounds_toArray, List.set_cons_zero, List.set_cons_succ, i64_w, i32_w]
             rfl
            refine one_ (i := 13) (N := some 65) #[true, true, true, true, true, true, true, true, true, true, true, true, true, true, false, false, false] rfl rfl (one_of HT_.out (by kernel_rfl)) (by decide) (fun K hK => ?_)
            refine Kd.R_append_step k50 (w0 := w) w.heap.size (by rfl) (.tmp 60) (.tmp 64) 45 50 (.agg #[(.int .i64 0), (.int .i64 0)]) 16 rfl Try.underlying45 info50 rfl (by decide) (by omega) (.slice A225_0 ((rd_T47 t221 (ji69)).f0).length c225_0) ((rd_T47 t221 (ji69)).f0) (⟨a1, a2⟩ : S50) [.int .i64 a1, .int .i64 a2] (fun k_ => oki89 k_ ∨ ((fun k_ => some k_ ≠ (.slice Ao79 t217.length co79 : Value).ownBlock)) k_ ∧ w88.heap.size ≤ k_) (fun _ => False) rfl rfl ?aP (fun _ hk => hk.elim) ?aF ?aO ?aB ?aS ?aL ?_
            (case aP => exact k50_mkM _ _ _ (⟨a1, a2⟩ : S50))
            (case aB => exact Gv.bw)
            (case aF => exact (fun k_ hk => .inr ⟨Kd.fresh' (Kd.R_lt (Gv.kr HO219.out)) k_ hk, hk⟩))
            (case aO => exact (by (with_reducible repeat (first | apply Kd.R_alloc | apply Kd.R_drewN | apply Kd.R_drew)); exact Kd.R_mono UU89.out (fun _ hk => .inl hk)))
            (case aS => exact (below_size Gv.bw))
            (case aL => have := LMc72.out; omega)
            intro v227 w90 ho hb hg hat
            (first | have HS2_ := cell_grown hg (hHeld.2.2) (by first | (rw [add_block]; exact (fun e_ => ((HL225_0.out.1 _ e_.symm).2) rfl)) | (show some (Addr.add _ _).block ≠ _; rw [add_block]; exact (fun e_ => ((HL225_0.out.1 _ e_.symm).2) rfl)) | exact (fun e_ => ((HL225_0.out.1 _ e_.symm).2) rfl)) | have HS2_ := cell_grown hg (cell_unalloc (hHeld.2.2) (by first | (rw [add_block]; exact Kd.S_lt HO223.out _ rfl) | (show (Addr.add _ _).block < _; rw [add_block]; exact Kd.S_lt HO223.out _ rfl) | exact Kd.S_lt HO223.out _ rfl)) (by first | (rw [add_block]; exact (fun e_ => ((HL225_0.out.1 _ e_.symm).2) rfl)) | (show some (Addr.add _ _).block ≠ _; rw [add_block]; exact (fun e_ => ((HL225_0.out.1 _ e_.symm).2) rfl)) | exact (fun e_ => ((HL225_0.out.1 _ e_.symm).2) rfl)))
            rw [← Ny226.out] at ho
            have n0_ := Gv.a0 (blk_grown (g := gb203) (o := .cells #[.int .i64 a0_0, .slice A0_1 l0_1.length c0_1] 24 (0, 0)) Gv.bk hg (Kd.R_ne HL225_0.out BK203.out (by decide)))
            have n1_ := Gv.a0 (blk_grown (g := gb204) (o := .cells #[.int .i64 0, .slice none 0 0] 24 (0, 0)) Gv.bk hg (Kd.R_ne HL225_0.out BK204.out (by decide)))
            have n2_ := Gv.a0 (Kd.R_grown2 (Gv.kr HO219.out) rfl hg (fun k_ e_ => (HL225_0.out.1 k_ e_).1))
            have n3_ := Gv.a0 (blk_grown (g := gb224) (o := .cells #[.int .i64 t220, .slice (some ⟨go89, 0, none⟩) t221.length co86] 24 (0, 0)) Gv.bk hg (Kd.R_ne HL225_0.out BK224.out (by decide)))
            have n4_ := Gv.a0 (hb)
            have n5_ := Gv.a0 (Kd.H_grown (Kd.H_widen (by repeat (first | exact HH89.out | refine Kd.H_alloc ?_ _ | refine Kd.H_drewN ?_ _ | refine Kd.H_drew ?_))) hg (fun k_ e_ => .inl (UU89.out.1 k_ e_)))
            have n6_ := Gv.a0 (ho)
            clear BK203
            clear BK204
            clear HO219
            clear BK224
            clear HB
            clear HH89
            clear HO223
            clear UU89
            clear HL225_0
            have BK203 := n0_
            have BK204 := n1_
            have HO219 := n2_
            have BK224 := n3_
            have HB := n4_
            have HH89 := n5_
            have HO228 := n6_
            clear n0_ n1_ n2_ n3_ n4_ n5_ n6_
            clear ho hb hg hat
            have p73 : 0 ≤ ((ji69) : Int) := of_decide_eq_true (by first | (with_reducible assumption) | assumption)
            have q73 : ((ji69) : Int) < ((t221.length : Int) : Int) := of_decide_eq_true (by first | (with_reducible assumption) | assumption)
            replace p73 := eq_true p73
            replace q73 := eq_true q73
            obtain ⟨Ao93, co93, eo93⟩ := Kd.R_slice HO228.out
            (first | subst eo93 | (injection eo93 with f1_ f2_ f3_; have f4_ := f1_.symm; have f5_ := f3_.symm; clear f1_ f2_ f3_; subst f4_; subst f5_))
            obtain ⟨_, _, hraw91, _, _, hcc91, _⟩ := Kd.H_raw HH89.out (of_decide_eq_true (by first | (with_reducible assumption) | assumption)) (by have h_ : ((ji69) : Int) < ((t221.length : Int) : Int) := of_decide_eq_true (by first | (with_reducible assumption) | assumption); first | exact h_ | (have e_ := (HN89.out); omega) | simpa using h_)
            obtain ⟨_, hfr91⟩ := Kd.H_at HH89.out (of_decide_eq_true (by first | (with_reducible assumption) | assumption)) (by have h_ : ((ji69) : Int) < ((t221.length : Int) : Int) := of_decide_eq_true (by first | (with_reducible assumption) | assumption); first | exact h_ | (have e_ := (HN89.out); omega) | simpa using h_)
            have hx91_0 := hcc91 0 _ rfl
            have hf91_0 := hfr91 0
            (try simp only [Nat.add_zero] at hx91_0 hf91_0)
            (try rw [show (k47).sz = 1 from rfl, Nat.mul_one] at hx91_0)
            (try rw [show (k47).sz = 1 from rfl, Nat.mul_one] at hf91_0)
            have HP91 := Kd.S_seg0 HH89.out (of_decide_eq_true (by first | (with_reducible assumption) | assumption)) (by have h_ : ((ji69) : Int) < ((t221.length : Int) : Int) := of_decide_eq_true (by first | (with_reducible assumption) | assumption); first | exact h_ | (have e_ := (HN89.out); omega) | simpa using h_) (seg := [.slice Ao93 y226.length co93]) (j := 0) (show 1 ≤ 1 from by decide) (x' := (⟨y226⟩ : S47)) (k47_mkM _ _ _ (⟨y226⟩ : S47) HO228.out) (fun _ hk => hk)
            (try simp only [show (k47).sz = 1 from rfl, Nat.mul_one, Nat.add_zero] at HP91)
            clear hcc91 hfr91
            have HNB203_go89 := Gv.a0 (show gb203 ≠ go89 from by have h_ := Kd.R_ne hraw91 BK203.out (by decide); intro e_; exact h_ (by rw [e_]; rfl))
            have HNB204_go89 := Gv.a0 (show gb204 ≠ go89 from by have h_ := Kd.R_ne hraw91 BK204.out (by decide); intro e_; exact h_ (by rw [e_]; rfl))
            have HNB224_go89 := Gv.a0 (show gb224 ≠ go89 from by have h_ := Kd.R_ne hraw91 BK224.out (by decide); intro e_; exact h_ (by rw [e_]; rfl))
            have HS91 := HP91.1
            rw [← Ny229.out] at HS91
            have HQ91 := Gv.a0 HS91
            obtain ⟨_, hgg91⟩ := Kd.R_typed hraw91 go89 rfl
            have GG91_ := Gv.a0 hgg91
            clear HP91 HS91 hgg91
            refine hK.out _ _ ⟨(blk_cell BK224.out 0).trans rfl, (blk_cell BK224.out 1).trans rfl, HS2_⟩ (fun hHeld => ?_)
            clear hK K
            refine norm_ (a' := ?_) ?_ ?_
            rotate_left
            ·show Act.put _ (some 65) _ = _
             simp only [Act.put, List.setIfInBounds_toArray, List.set_cons_zero, List.set_cons_succ, i64_w, i32_w]
             rfl
            refine Gv.pu 14 (some 66) HT_ ?_
            refine Gv.pu 15 (some 67) HT_ ?_
            refine last_ (i := 16) (N := none) #[true, true, true, true, true, true, true, true, true, true, true, true, true, true, true, true, true] rfl rfl (one_of HT_.out (by kernel_rfl)) (by decide) (fun K hK => ?_)
            refine skip_ (w1 := ?_) (by rfl) rfl ?_ ?_
            rotate_left
            ·go_simp
             rfl
            refine hK.out _ _ ?_
            clear hK K
            refine done_ (done_of HT_.out (by kernel_rfl)) ?_
            have n0_ : Aside0 (Kd.R k50 50 (w90.setCell ⟨go89, ((ji69) : Int).toNat, none⟩ (.slice Ao93 y226.length co93)) w.heap.size (fun _ => True) (.slice Ao79 t217.length co79) t217) := ⟨by (with_reducible repeat (first | apply Kd.R_alloc | apply Kd.R_drewN | apply Kd.R_drew)); exact Kd.R_mono (Kd.R_far (p := ⟨go89, ((ji69) : Int).toNat, none⟩) (Kd.R_types HO219.out GG91_.out (by decide)) (fun _ hk => hk.2) (.slice Ao93 y226.length co93)) (fun _ hk => trivial)⟩
            have n1_ : Aside0 (Kd.S k47 47 (w90.setCell ⟨go89, ((ji69) : Int).toNat, none⟩ (.slice Ao93 y226.length co93)) w.heap.size (fun k_ => some k_ ≠ (.slice Ao79 t217.length co79 : Value).ownBlock) (.slice (some ⟨go89, 0, none⟩) t221.length co86) y229) := ⟨by (with_reducible repeat (first | apply Kd.S_alloc | apply Kd.S_drewN | apply Kd.S_drew)); exact HQ91.out⟩
            have n2_ : Aside0 ((w90.setCell ⟨go89, ((ji69) : Int).toNat, none⟩ (.slice Ao93 y226.length co93)).heap[gb203]? = some (.cells #[.int .i64 a0_0, .slice A0_1 l0_1.length c0_1] 24 (0, 0))) := ⟨by (with_reducible repeat (first | refine blk_drewN ?_ _ | refine blk_drew ?_ | refine blk_alloc ?_ _)); refine blk_far ?_ HNB203_go89.out _; (with_reducible repeat (first | refine blk_drewN ?_ _ | refine blk_drew ?_ | refine blk_alloc ?_ _)); exact BK203.out⟩
            have n3_ : Aside0 ((w90.setCell ⟨go89, ((ji69) : Int).toNat, none⟩ (.slice Ao93 y226.length co93)).heap[gb204]? = some (.cells #[.int .i64 0, .slice none 0 0] 24 (0, 0))) := ⟨by (with_reducible repeat (first | refine blk_drewN ?_ _ | refine blk_drew ?_ | refine blk_alloc ?_ _)); refine blk_far ?_ HNB204_go89.out _; (with_reducible repeat (first | refine blk_drewN ?_ _ | refine blk_drew ?_ | refine blk_alloc ?_ _)); exact BK204.out⟩
            have n4_ : Aside0 ((w90.setCell ⟨go89, ((ji69) : Int).toNat, none⟩ (.slice Ao93 y226.length co93)).heap[gb224]? = some (.cells #[.int .i64 t220, .slice (some ⟨go89, 0, none⟩) t221.length co86] 24 (0, 0))) := ⟨by (with_reducible repeat (first | refine blk_drewN ?_ _ | refine blk_drew ?_ | refine blk_alloc ?_ _)); refine blk_far ?_ HNB224_go89.out _; (with_reducible repeat (first | refine blk_drewN ?_ _ | refine blk_drew ?_ | refine blk_alloc ?_ _)); exact BK224.out⟩
            have n5_ : Aside0 (Below w.heap.size w (w90.setCell ⟨go89, ((ji69) : Int).toNat, none⟩ (.slice Ao93 y226.length co93))) := ⟨Gv.bw⟩
            (try clear HO219)
            (try clear HO223)
            (try clear BK203)
            (try clear BK204)
            (try clear BK224)
            (try clear HB)
            generalize (w90.setCell ⟨go89, ((ji69) : Int).toNat, none⟩ (.slice Ao93 y226.length co93)) = w94 at n0_ n1_ n2_ n3_ n4_ n5_ ⊢
            have HO219 := n0_
            have HO223 := n1_
            have BK203 := n2_
            have BK204 := n3_
            have BK224 := n4_
            have HB := n5_
            clear n0_ n1_ n2_ n3_ n4_ n5_
            have hcz95_0 : w94.cell? ⟨gb224, 0, none⟩ = some (.int .i64 t220) := (blk_cell BK224.out 0).trans rfl
            have hcz95_1 : w94.cell? ⟨gb224, 1, none⟩ = some (.slice (some ⟨go89, 0, none⟩) t221.length co86) := (blk_cell BK224.out 1).trans rfl
            have hfz95_0 := blk_frozen BK224.out 0
            have hfz95_1 := blk_frozen BK224.out 1
            have hcz96_0 : w94.cell? ⟨gb204, 0, none⟩ = some (.int .i64 0) := (blk_cell BK204.out 0).trans rfl
            have hcz96_1 : w94.cell? ⟨gb204, 1, none⟩ = some (.slice none 0 0) := (blk_cell BK204.out 1).trans rfl
            have hfz96_0 := blk_frozen BK204.out 0
            have hfz96_1 := blk_frozen BK204.out 1
            try go_wp2
            refine bodyPost_ret (results_ct rfl _ _ gb204 24 #[.int .i64 t220, .slice (some ⟨go89, 0, none⟩) t221.length co86] (0, 0) _ rfl (by (with_reducible repeat (first | refine blk_drewN ?_ _ | refine blk_drew ?_ | refine blk_alloc ?_ _)); refine blk_put (cs := #[.int .i64 t220, .slice none 0 0]) ?_ 1 _ rfl; (with_reducible repeat (first | refine blk_drewN ?_ _ | refine blk_drew ?_ | refine blk_alloc ?_ _)); refine blk_put (cs := #[.int .i64 0, .slice none 0 0]) ?_ 0 _ rfl; (with_reducible repeat (first | refine blk_drewN ?_ _ | refine blk_drew ?_ | refine blk_alloc ?_ _)); exact BK204.out) Try.underlying24 rfl (by kernel_rfl)) rfl ?_
            exact ⟨_, by first | rfl | (simp [errW_none, errW_some] <;> rfl) | (simp only [← hji69]; first | rfl | (simp [errW_none, errW_some] <;> rfl)) | (simp [*, errW_none, errW_some] <;> rfl), by (with_reducible repeat (first | apply Kd.S_alloc | apply Kd.S_drewN | apply Kd.S_drew)); exact Kd.S_mono (Kd.S_far (p := ⟨gb204, 1, none⟩) (Kd.S_far (p := ⟨gb204, 0, none⟩) (Kd.S_types HO223.out BK204.out (by decide)) (fun _ hk => hk.2) (.int .i64 t220)) (fun _ hk => hk.2) (.slice (some ⟨go89, 0, none⟩) t221.length co86)) (fun _ hk => trivial), Gv.bw⟩
           ·rw [if_neg c72] at H
            exact absurd H (by simp)
          ·rw [if_neg c71] at H
           exact absurd H (by simp)
         ·rw [if_neg c70] at H
          exact absurd H (by simp)

/-! ### impl_within: function 30 -/
def impl_within.f (a0 : Int) (a1 : Int) (a2 : Int) : Option (Bool) := if a0 ≥ a1 then (some (decide (a0 ≤ a2))) else (some false)
set_option maxHeartbeats 8000000 in
set_option maxRecDepth 100000 in
theorem impl_within.calls (a0 : Int) (a1 : Int) (a2 : Int) (r : Bool) (w : World) (h : impl_within.f a0 a1 a2 = some r) :
  Calls Try.prog 30 #[.int .i64 a0, .int .i64 a1, .int .i64 a2] w fun e w' => e = .returned (.bool r) ∧ Drawn0 w w' := by
 have H : (if a0 ≥ a1 then (some (decide (a0 ≤ a2))) else (some false)) = some r := h
 clear h
 by_cases c4 : a0 ≥ a1
 ·rw [if_pos c4] at H
  have c4b0 : decide (a1 ≤ a0) = true := decide_eq_true c4
  clear c4
  obtain rfl := Option.some.inj H
  go_enter Try.func30, Try.ntmps30
  go_wp2
  go_ret
  exact ⟨by first | rfl | (simp; done) | (simp [Int.tdiv_eq_ediv_of_nonneg]; done) | (simp [*]; done), by repeat (first | exact Drawn0.refl _ | apply Drawn0.step)⟩
 ·rw [if_neg c4] at H
  have c4b0 : decide (a1 ≤ a0) = false := decide_eq_false c4
  clear c4
  obtain rfl := Option.some.inj H
  go_enter Try.func30, Try.ntmps30
  go_wp2
  go_ret
  exact ⟨by first | rfl | (simp; done) | (simp [Int.tdiv_eq_ediv_of_nonneg]; done) | (simp [*]; done), by repeat (first | exact Drawn0.refl _ | apply Drawn0.step)⟩

/-! ### impl_isNow: function 23 -/
def impl_isNow.f (a0 : Int) : Option (Bool) := (impl_within.f a0 0 1000000000000).bind fun t230 => (some t230)
set_option maxHeartbeats 8000000 in
set_option maxRecDepth 100000 in
theorem impl_isNow.calls (a0 : Int) (r : Bool) (w : World) (h : impl_isNow.f a0 = some r) :
  Calls Try.prog 23 #[.int .i64 a0] w fun e w' => e = .returned (.bool r) ∧ Drawn0 w w' := by
 have H : ((impl_within.f a0 0 1000000000000).bind fun t230 => (some t230)) = some r := h
 clear h
 replace H := Option.bind_eq_some_iff.mp H
 obtain ⟨t230, A20, H⟩ := H
 replace H : (some t230) = some r := H
 have A2 := Gv.a0 A20
 clear A20
 obtain rfl := Option.some.inj H
 go_enter Try.func23, Try.ntmps23
 go_wp2_with (first | ((with_reducible refine gate_callee (f := 30) rfl ?_); refine goesL_ (some 4) rfl rfl Try.func30 (by kernel_rfl) rfl #[.int .i64 a0, .int .i64 0, .int .i64 1000000000000] rfl Gv.lm ?_; (with_reducible refine (impl_within.calls a0 0 1000000000000 t230 _ A2.out).mono ?_); rintro e w' ⟨rfl, ⟨nd, rfl⟩⟩; refine ⟨_, rfl, ?_⟩))
 go_ret
 exact ⟨by first | rfl | (simp; done) | (simp [Int.tdiv_eq_ediv_of_nonneg]; done) | (simp [*]; done), by repeat (first | exact Drawn0.refl _ | apply Drawn0.step)⟩

/-! ### impl_Wheel_isAhead: function 31 -/
def impl_Wheel_isAhead.f (a0_0 : Int) (l0_1 : List (S47)) (a1 : Int) : Option (Bool) := (impl_within.f a1 (wrap64 (a0_0 + 1)) (wrap64 (a0_0 + 1000))).bind fun t232 => (some t232)
set_option maxHeartbeats 8000000 in
set_option maxRecDepth 100000 in
theorem impl_Wheel_isAhead.calls (a0_0 : Int) (A0_1 : Option Addr) (c0_1 : Nat) (l0_1 : List (S47)) (a1 : Int) (r : Bool) (w : World) (hr0_1 : Kd.C k47 w A0_1 l0_1.length l0_1) (hc0_1 : l0_1.length ≤ c0_1) (h : impl_Wheel_isAhead.f a0_0 l0_1 a1 = some r) :
  Calls Try.prog 31 #[.agg #[.int .i64 a0_0, .slice A0_1 l0_1.length c0_1], .int .i64 a1] w fun e w' => e = .returned (.bool r) ∧ Below w.heap.size w w' := by
 have hu24 := Try.underlying24
 have HR0_1 := Gv.a0 hr0_1
 have HC0_1 := Gv.a0 hc0_1
 clear hr0_1 hc0_1
 have HB := Gv.a0 (Below.refl w.heap.size w)
 have H : ((impl_within.f a1 (wrap64 (a0_0 + 1)) (wrap64 (a0_0 + 1000))).bind fun t232 => (some t232)) = some r := h
 clear h
 replace H := Option.bind_eq_some_iff.mp H
 obtain ⟨t232, A30, H⟩ := H
 replace H : (some t232) = some r := H
 have A3 := Gv.a0 A30
 clear A30
 obtain rfl := Option.some.inj H
 go_enter Try.func31, Try.ntmps31
 go_wp2_with (first | ((with_reducible refine gate_dst (N := 2) rfl ?_); refine box_event ?hg (N := 2) ?hd (cs := #[.int .i64 a0_0, .slice A0_1 l0_1.length c0_1]) (t := 24) ?hr ?_; (case hd => rfl); (case hg => rfl); (case hr => first | (go_simp; done) | (go_simp; rfl)); intro gb231 hg w4 hbox hb; have n0_ := Gv.a0 (below_step Gv.bw hb); have n1_ := Gv.a0 (hbox); have n2_ := Gv.a0 ((Gv.ble hg Gv.bw : w.heap.size ≤ gb231)); have n3_ := Gv.a0 ((Gv.ble hg Gv.bw : w.heap.size ≤ gb231)); clear HB; have HB := n0_; have BK231 := n1_; have GW231 := n2_; have GE231 := n3_; clear n0_ n1_ n2_ n3_; clear hb hbox hg; have hcz5_0 : w4.cell? ⟨gb231, 0, none⟩ = some (.int .i64 a0_0) := (blk_cell BK231.out 0).trans rfl; have hcz5_1 : w4.cell? ⟨gb231, 1, none⟩ = some (.slice A0_1 l0_1.length c0_1) := (blk_cell BK231.out 1).trans rfl; have hfz5_0 := blk_frozen BK231.out 0; have hfz5_1 := blk_frozen BK231.out 1) | ((with_reducible refine gate_callee (f := 30) rfl ?_); refine goesL_ (some 12) rfl rfl Try.func30 (by kernel_rfl) rfl #[.int .i64 a1, .int .i64 (wrap64 (a0_0 + 1)), .int .i64 (wrap64 (a0_0 + 1000))] rfl Gv.lm ?_; (with_reducible refine (impl_within.calls a1 (wrap64 (a0_0 + 1)) (wrap64 (a0_0 + 1000)) t232 _ A3.out).mono ?_); rintro e w' ⟨rfl, ⟨nd, rfl⟩⟩; refine ⟨_, rfl, ?_⟩))
 go_ret
 exact ⟨Gv.rt, Gv.bw⟩

/-! ### impl_WheelOk: function 16 -/
def impl_WheelOk.f (a0_0 : Int) (l0_1 : List (S47)) : Option (Bool) := some (Gv.wheelOk (fun s : S47 => s.f0) (fun x : S50 => x.f0) (fun x : S50 => x.f1) a0_0 l0_1)
theorem impl_WheelOk.within (n a b : Int) : impl_within.f n a b = some (Gv.wi n a b) := by
 unfold impl_within.f Gv.wi
 by_cases h : n ≥ a
 ·rw [if_pos h, decide_eq_true h]; rfl
 ·rw [if_neg h, decide_eq_false h]; rfl
theorem impl_WheelOk.now (n : Int) : impl_isNow.f n = some (Gv.wi n 0 1000000000000) := by
 unfold impl_isNow.f
 rw [impl_WheelOk.within]
 rfl
theorem impl_WheelOk.ahead (n : Int) (l : List S47) (a : Int) : impl_Wheel_isAhead.f n l a = some (Gv.wi a (wrap64 (n + 1)) (wrap64 (n + 1000))) := by
 unfold impl_Wheel_isAhead.f
 rw [impl_WheelOk.within]
 rfl
theorem impl_WheelOk.nodup_le : ∀ (n : Nat) (l : List Int), l.Nodup → (∀ x, x ∈ l → 0 ≤ x ∧ x < (n : Int)) → l.length ≤ n
 | 0, [], _, _ => Nat.le_refl _
 | 0, x :: l, _, h => by have := h x List.mem_cons_self; omega
 | n + 1, l, hn, h => by
  have h1 := impl_WheelOk.nodup_le n (l.erase (n : Int)) (hn.erase _) (fun x hx => by
   obtain ⟨g1, g2⟩ := (hn.mem_erase_iff).1 hx
   have := h x g2
   omega)
  have h2 := List.length_erase (a := (n : Int)) (l := l)
  split at h2 <;> omega
theorem impl_WheelOk.size_put {H : Type} {D : DataW H} {k : Lit} (hD : Maps.IsMap D) (hh : Maps.has D k = false) (d : DataW H) : Maps.size (D.put k d) = Maps.size D + 1 := by
 obtain ⟨es, rfl⟩ := hD
 rw [DataW.put_eq]
 unfold ChangeMaps.putKey
 rw [Maps.size_eq, Maps.size_eq, length_insert, List.filter_eq_self.2]
 intro p hp
 rw [Maps.has_eq, List.any_eq_false] at hh
 have := hh p hp
 unfold ChangeMaps.notKey
 simpa using this
/-- A set of small numbers in a map of the call's own. -/
def impl_WheelOk.OM (W : World) (b : Nat) (seen : List Int) : Prop := ∃ D : DataW Unit, W.ownsMap Try.prog 3 (plainElem Try.prog 4) b seen.length D ∧ Maps.size D = seen.length ∧ ∀ id : Int, 0 ≤ id → id ≤ 9999 → D.atKey (.int .i64 id) (.lit (.bool false)) = .lit (.bool (seen.contains id)) ∧ Maps.has D (.int .i64 id) = seen.contains id
theorem impl_WheelOk.OM_made (W : World) : impl_WheelOk.OM (W.alloc (.map #[] 0)) W.heap.size [] := ⟨.map [], World.ownsMap_made W _ _ _, rfl, fun _ _ _ => ⟨rfl, rfl⟩⟩
theorem impl_WheelOk.OM_move {W W' : World} {b : Nat} {seen : List Int} (h : impl_WheelOk.OM W b seen) (e : W'.heap[b]? = W.heap[b]?) : impl_WheelOk.OM W' b seen := by
 obtain ⟨D, ⟨es, clock, hb, F, hs, hD⟩, h2, h3⟩ := h
 exact ⟨D, ⟨es, clock, e.trans hb, F, hs, hD⟩, h2, h3⟩
theorem impl_WheelOk.OM_lt {W : World} {b : Nat} {seen : List Int} (h : impl_WheelOk.OM W b seen) : b < W.heap.size := h.choose_spec.1.lt
theorem impl_WheelOk.OM_below {W W' : World} {b : Nat} {seen : List Int} (h : impl_WheelOk.OM W b seen) (hb : Below W.heap.size W W') : impl_WheelOk.OM W' b seen := by
 refine impl_WheelOk.OM_move h ?_
 have hlt := impl_WheelOk.OM_lt h
 have e := Array.getElem?_eq_getElem hlt
 rw [e]
 exact blk_below e hb
theorem impl_WheelOk.wf {id : Int} (h0 : 0 ≤ id) (h1 : id ≤ 9999) : (Lit.int .i64 id).wf = true := by
 have e1 : IntKind.i64.min = -9223372036854775808 := rfl
 have e2 : IntKind.i64.max = 9223372036854775807 := rfl
 simp only [Lit.wf, e1, e2, Bool.and_eq_true, decide_eq_true_eq]
 omega
theorem impl_WheelOk.look {ops : Array Oper} {rest : List Oper} {o : Oper} {a : Act} {W : World} {Q : Exit → Act → World → Prop} {m x : Operand} {b : Nat} {id : Int} {seen : List Int} (hg : o.guard = none) (hop : o.op = .lookup 52 m x false) (hm : a.eval m = .map (some b)) (hx : a.eval x = .int .i64 id) (h : impl_WheelOk.OM W b seen) (h0 : 0 ≤ id) (h1 : id ≤ 9999)
  (hK : wpList Try.prog ops Q rest (a.put o.dst (.bool (seen.contains id))) W) : wpList Try.prog ops Q (o :: rest) a W := by
 obtain ⟨D, hown, _, hat⟩ := h
 obtain ⟨v, ps, hrun, hv⟩ := hown.lookup (Maps.int_keyed Try.underlying3) Try.underlying52 (Try.zeroValue4 W) (plainElem_bool Try.underlying4 false) (Maps.keyOf_int_mk Try.underlying3 (impl_WheelOk.wf h0 h1))
 rw [(hat id h0 h1).1] at hv
 have e : v = .bool (seen.contains id) := by
  unfold plainElem at hv
  rw [Try.underlying4] at hv
  cases v <;> simp at hv
  exact congrArg Value.bool (hv.1.trans (by simp))
 subst e
 refine wpList_plain hg fun K' hK' => ?_
 unfold Oper.wp
 simp [execOp, hop, hm, hx, hrun, Result.andThen]
 rw [show seen.contains id = decide (id ∈ seen) by simp] at hK
 exact hK' _ _ hK
theorem impl_WheelOk.mkmap {ops : Array Oper} {rest : List Oper} {o : Oper} {a : Act} {W : World} {Q : Exit → Act → World → Prop} (hg : o.guard = none) (hop : o.op = .makeMap 52 none)
  (hK : ∀ (W' : World) (b : Nat), impl_WheelOk.OM W' b [] → W.heap.size ≤ b → b = W.heap.size → Below W.heap.size W W' → wpList Try.prog ops Q rest (a.put o.dst (.map (some b))) W') : wpList Try.prog ops Q (o :: rest) a W := by
 refine wpList_plain hg fun K' hK' => ?_
 unfold Oper.wp
 simp [execOp, hop, run_makeMap, Result.andThen]
 exact hK' _ _ (hK _ _ (impl_WheelOk.OM_made W) (Nat.le_refl _) rfl ((Below.refl _ W).alloc (Nat.le_refl _) _))
theorem impl_WheelOk.upd {ops : Array Oper} {rest : List Oper} {o : Oper} {a : Act} {W : World} {Q : Exit → Act → World → Prop} {m x v : Operand} {b : Nat} {id : Int} {seen : List Int} (hg : o.guard = none) (hop : o.op = .mapUpdate 52 m x v) (hd : o.dst = none) (hm : a.eval m = .map (some b)) (hx : a.eval x = .int .i64 id) (hy : a.eval v = .bool true) (h : impl_WheelOk.OM W b seen) (h0 : 0 ≤ id) (h1 : id ≤ 9999) (hn : seen.contains id = false) (hlen : seen.length < maxLen)
  (hK : ∀ W' : World, impl_WheelOk.OM W' b (seen ++ [id]) → (∀ j, j < W.heap.size → j ≠ b → W'.heap[j]? = W.heap[j]?) → (∀ w0 : World, Below w0.heap.size w0 W → w0.heap.size ≤ b → Below w0.heap.size w0 W') → wpList Try.prog ops Q rest a W') : wpList Try.prog ops Q (o :: rest) a W := by
 obtain ⟨D, hown, hs, hat⟩ := h
 have hwf := impl_WheelOk.wf h0 h1
 have K := Maps.int_keyed (P := Try.prog) Try.underlying3
 have hkey := Maps.keyOf_int_mk (P := Try.prog) Try.underlying3 hwf
 obtain ⟨W', hrun, r1, r2⟩ := hown.update K Try.underlying52 hlen hkey (plainElem_bool Try.underlying4 true)
 have hM : Maps.IsMap D := hown.isMap
 refine wpList_plain hg fun K' hK' => ?_
 unfold Oper.wp
 simp [execOp, hop, hm, hx, hy, hrun, Result.andThen]
 refine hK' _ _ ?_
 rw [hd]
 refine hK W' ⟨D.put (.int .i64 id) (.lit (.bool true)), by rw [List.length_append]; exact r1, ?_, fun id' g0 g1 => ?_⟩ ?_ ?_
 ·rw [impl_WheelOk.size_put hM ((hat id h0 h1).2.trans hn), hs]
  first | done | simp
 ·by_cases e : id' = id
  ·subst e
   rw [Maps.atKey_put_same hM (K.key hkey), Maps.has_put_same hM (K.key hkey)]
   have hc : (seen ++ [id']).contains id' = true := by simp
   rw [hc]
   exact ⟨rfl, rfl⟩
  ·have ne : (Lit.int .i64 id') ≠ (Lit.int .i64 id) := fun q => e (by injection q)
   rw [Maps.atKey_put_other ne, Maps.has_put_other ne, (hat id' g0 g1).1, (hat id' g0 g1).2]
   simp [e]
 ·intro j hl hj
  exact r2.block j hl (fun e => hj (Option.some.inj e))
 ·intro w0 hb hle
  exact hb.grown r2 hb.size (fun k e => by cases e; exact hle)
set_option maxHeartbeats 8000000 in
set_option maxRecDepth 100000 in
theorem impl_WheelOk.calls (a0_0 : Int) (A0_1 : Option Addr) (c0_1 : Nat) (l0_1 : List (S47)) (r : Bool) (w : World) (hr0_1 : Kd.C k47 w A0_1 l0_1.length l0_1) (hc0_1 : l0_1.length ≤ c0_1) (h : impl_WheelOk.f a0_0 l0_1 = some r) :
  Calls Try.prog 16 #[.agg #[.int .i64 a0_0, .slice A0_1 l0_1.length c0_1]] w fun e w' => e = .returned (.bool r) ∧ Below w.heap.size w w' := by
 have hu24 := Try.underlying24
 have hu47 := Try.underlying47
 have hu50 := Try.underlying50
 have HR0 := Gv.a0 hr0_1
 have HC0 := Gv.a0 hc0_1
 have HRr := Gv.a0 (show Gv.wheelOk (fun s : S47 => s.f0) (fun x : S50 => x.f0) (fun x : S50 => x.f1) a0_0 l0_1 = r from Option.some.inj h)
 clear hr0_1 hc0_1 h
 have HB := Gv.a0 (Below.refl w.heap.size w)
 cases hn : Gv.wi a0_0 0 1000000000000 with
 | false =>
  have A1 := Gv.a0 ((impl_WheelOk.now a0_0).trans (congrArg some hn))
  have Hr : r = false := by rw [← HRr.out]; unfold Gv.wheelOk; rw [hn]; rfl
  subst Hr
  clear HRr hn
  go_enter Try.func16, Try.ntmps16
  go_wp2_with (first | ((with_reducible refine gate_dst (N := 1) rfl ?_); refine box_event ?hg (N := 1) ?hd (cs := #[.int .i64 a0_0, .slice A0_1 l0_1.length c0_1]) (t := 24) ?hr ?_; (case hd => rfl); (case hg => rfl); (case hr => first | (go_simp; done) | (go_simp; rfl)); intro gb1 hg w1 hbox hb; have n0_ := Gv.a0 (below_step Gv.bw hb); have n1_ := Gv.a0 hbox; have n2_ := Gv.a0 ((Gv.ble hg Gv.bw : w.heap.size ≤ gb1)); (try clear HB); clear hb hbox hg; have HB := n0_; have BK1 := n1_; have GE1 := n2_; clear n0_ n1_ n2_; (try clear hz1_0); have hz1_0 := (blk_cell BK1.out 0).trans (rfl : _ = (some (.int .i64 a0_0) : Option Value)); (try clear hz1_1); have hz1_1 := (blk_cell BK1.out 1).trans (rfl : _ = (some (.slice A0_1 l0_1.length c0_1) : Option Value)); (try clear hf1_0); have hf1_0 := blk_frozen BK1.out 0; (try clear hf1_1); have hf1_1 := blk_frozen BK1.out 1) | ((with_reducible refine gate_callee (f := 23) rfl ?_); (try (refine gate_guard (by rfl) ?_; dsimp only)); refine goesL_ (some 10) rfl rfl Try.func23 (by kernel_rfl) rfl #[.int .i64 a0_0] rfl Gv.lm ?_; (with_reducible refine (impl_isNow.calls a0_0 false _ A1.out).mono ?_); rintro e wc ⟨rfl, hd⟩; refine ⟨_, rfl, ?_⟩; have hb := hd.below; clear hd; have n0_ := Gv.a0 (below_step Gv.bw hb); have n1_ := Gv.a0 (Gv.bb BK1.out hb); clear HB BK1 hb; have HB := n0_; have BK1 := n1_; clear n0_ n1_; (try clear hz1_0); have hz1_0 := (blk_cell BK1.out 0).trans (rfl : _ = (some (.int .i64 a0_0) : Option Value)); (try clear hz1_1); have hz1_1 := (blk_cell BK1.out 1).trans (rfl : _ = (some (.slice A0_1 l0_1.length c0_1) : Option Value)); (try clear hf1_0); have hf1_0 := blk_frozen BK1.out 0; (try clear hf1_1); have hf1_1 := blk_frozen BK1.out 1))
  go_ret
  exact ⟨rfl, HB.out⟩
 | true =>
  have A1 := Gv.a0 ((impl_WheelOk.now a0_0).trans (congrArg some hn))
  by_cases hl : l0_1.length = 8
  rotate_left
  ·have e8 : ((l0_1.length : Int) == 8) = false := beq_eq_false_iff_ne.2 (by omega)
   have e9 : ((l0_1.length : Int) != 8) = true := bne_iff_ne.2 (by omega)
   have Hr : r = false := by rw [← HRr.out]; unfold Gv.wheelOk; rw [hn, decide_eq_false hl]; rfl
   subst Hr
   clear HRr hn hl
   go_enter Try.func16, Try.ntmps16
   go_wp2_with (first | ((with_reducible refine gate_dst (N := 1) rfl ?_); refine box_event ?hg (N := 1) ?hd (cs := #[.int .i64 a0_0, .slice A0_1 l0_1.length c0_1]) (t := 24) ?hr ?_; (case hd => rfl); (case hg => rfl); (case hr => first | (go_simp; done) | (go_simp; rfl)); intro gb1 hg w1 hbox hb; have n0_ := Gv.a0 (below_step Gv.bw hb); have n1_ := Gv.a0 hbox; have n2_ := Gv.a0 ((Gv.ble hg Gv.bw : w.heap.size ≤ gb1)); (try clear HB); clear hb hbox hg; have HB := n0_; have BK1 := n1_; have GE1 := n2_; clear n0_ n1_ n2_; (try clear hz1_0); have hz1_0 := (blk_cell BK1.out 0).trans (rfl : _ = (some (.int .i64 a0_0) : Option Value)); (try clear hz1_1); have hz1_1 := (blk_cell BK1.out 1).trans (rfl : _ = (some (.slice A0_1 l0_1.length c0_1) : Option Value)); (try clear hf1_0); have hf1_0 := blk_frozen BK1.out 0; (try clear hf1_1); have hf1_1 := blk_frozen BK1.out 1) | ((with_reducible refine gate_callee (f := 23) rfl ?_); (try (refine gate_guard (by rfl) ?_; dsimp only)); refine goesL_ (some 10) rfl rfl Try.func23 (by kernel_rfl) rfl #[.int .i64 a0_0] rfl Gv.lm ?_; (with_reducible refine (impl_isNow.calls a0_0 true _ A1.out).mono ?_); rintro e wc ⟨rfl, hd⟩; refine ⟨_, rfl, ?_⟩; have hb := hd.below; clear hd; have n0_ := Gv.a0 (below_step Gv.bw hb); have n1_ := Gv.a0 (Gv.bb BK1.out hb); clear HB BK1 hb; have HB := n0_; have BK1 := n1_; clear n0_ n1_; (try clear hz1_0); have hz1_0 := (blk_cell BK1.out 0).trans (rfl : _ = (some (.int .i64 a0_0) : Option Value)); (try clear hz1_1); have hz1_1 := (blk_cell BK1.out 1).trans (rfl : _ = (some (.slice A0_1 l0_1.length c0_1) : Option Value)); (try clear hf1_0); have hf1_0 := blk_frozen BK1.out 0; (try clear hf1_1); have hf1_1 := blk_frozen BK1.out 1))
   go_ret
   exact ⟨rfl, HB.out⟩
  ·have e8 : ((l0_1.length : Int) == 8) = true := beq_iff_eq.2 (by omega)
   have e9 : ((l0_1.length : Int) != 8) = false := bne_eq_false_iff_eq.2 (by omega)
   have HN := Gv.a0 (show Gv.wkEnd (Gv.wkOut (fun s : S47 => s.f0) (fun x : S50 => x.f0) (fun x : S50 => x.f1) a0_0 l0_1 0 []) = r from by rw [← HRr.out]; unfold Gv.wheelOk; rw [hn, decide_eq_true hl]; rfl)
   have HL := Gv.a0 hl
   clear HRr hn hl
   go_enter Try.func16, Try.ntmps16
   go_wp2_with (first | ((with_reducible refine gate_dst (N := 1) rfl ?_); refine box_event ?hg (N := 1) ?hd (cs := #[.int .i64 a0_0, .slice A0_1 l0_1.length c0_1]) (t := 24) ?hr ?_; (case hd => rfl); (case hg => rfl); (case hr => first | (go_simp; done) | (go_simp; rfl)); intro gb1 hg w1 hbox hb; have n0_ := Gv.a0 (below_step Gv.bw hb); have n1_ := Gv.a0 hbox; have n2_ := Gv.a0 ((Gv.ble hg Gv.bw : w.heap.size ≤ gb1)); (try clear HB); clear hb hbox hg; have HB := n0_; have BK1 := n1_; have GE1 := n2_; clear n0_ n1_ n2_; (try clear hz1_0); have hz1_0 := (blk_cell BK1.out 0).trans (rfl : _ = (some (.int .i64 a0_0) : Option Value)); (try clear hz1_1); have hz1_1 := (blk_cell BK1.out 1).trans (rfl : _ = (some (.slice A0_1 l0_1.length c0_1) : Option Value)); (try clear hf1_0); have hf1_0 := blk_frozen BK1.out 0; (try clear hf1_1); have hf1_1 := blk_frozen BK1.out 1) | ((with_reducible refine gate_callee (f := 23) rfl ?_); (try (refine gate_guard (by rfl) ?_; dsimp only)); refine goesL_ (some 10) rfl rfl Try.func23 (by kernel_rfl) rfl #[.int .i64 a0_0] rfl Gv.lm ?_; (with_reducible refine (impl_isNow.calls a0_0 true _ A1.out).mono ?_); rintro e wc ⟨rfl, hd⟩; refine ⟨_, rfl, ?_⟩; have hb := hd.below; clear hd; have n0_ := Gv.a0 (below_step Gv.bw hb); have n1_ := Gv.a0 (Gv.bb BK1.out hb); clear HB BK1 hb; have HB := n0_; have BK1 := n1_; clear n0_ n1_; (try clear hz1_0); have hz1_0 := (blk_cell BK1.out 0).trans (rfl : _ = (some (.int .i64 a0_0) : Option Value)); (try clear hz1_1); have hz1_1 := (blk_cell BK1.out 1).trans (rfl : _ = (some (.slice A0_1 l0_1.length c0_1) : Option Value)); (try clear hf1_0); have hf1_0 := blk_frozen BK1.out 0; (try clear hf1_1); have hf1_1 := blk_frozen BK1.out 1) | ((with_reducible refine gate_dst (N := 18) rfl ?_); refine impl_WheelOk.mkmap rfl rfl ?_; intro wm bm hM hge hbm hb; have n0_ := Gv.a0 (below_step Gv.bw hb); have n1_ := Gv.a0 (Gv.bb BK1.out hb); have n2_ := Gv.a0 hM; have n3_ := Gv.a0 (show w.heap.size ≤ bm from Nat.le_trans (below_size Gv.bw) hge); have n4_ := Gv.a0 (show gb1 ≠ bm from by rw [hbm]; exact Nat.ne_of_lt (blk_lt BK1.out)); clear HB BK1 hM hge hbm hb; have HB := n0_; have BK1 := n1_; have HM := n2_; have GEM := n3_; have NM1 := n4_; clear n0_ n1_ n2_ n3_ n4_; (try clear hz1_0); have hz1_0 := (blk_cell BK1.out 0).trans (rfl : _ = (some (.int .i64 a0_0) : Option Value)); (try clear hz1_1); have hz1_1 := (blk_cell BK1.out 1).trans (rfl : _ = (some (.slice A0_1 l0_1.length c0_1) : Option Value)); (try clear hf1_0); have hf1_0 := blk_frozen BK1.out 0; (try clear hf1_1); have hf1_1 := blk_frozen BK1.out 1))
   go_loopg [22] l0_1.length (fun gg s22 wr => ∃ (kk : Nat) (seen : List Int), kk ≤ l0_1.length ∧ l0_1.length - kk ≤ gg ∧ s22 = .int .i64 (kk : Int) ∧ Aside0 (Gv.wkEnd (Gv.wkOut (fun s : S47 => s.f0) (fun x : S50 => x.f0) (fun x : S50 => x.f1) a0_0 (l0_1.drop kk) kk seen) = r) ∧ Aside0 (seen.Nodup ∧ ∀ x, x ∈ seen → 0 ≤ x ∧ x < (10000 : Nat)) ∧ Aside0 (impl_WheelOk.OM wr bm seen) ∧ Aside0 (wr.heap[gb1]? = some (.cells #[.int .i64 a0_0, .slice A0_1 l0_1.length c0_1] 24 (0, 0))) ∧ Aside0 (Below w.heap.size w wr))
   case atStart => exact ⟨0, [], Nat.zero_le _, by omega, rfl, ⟨by rw [List.drop_zero]; exact HN.out⟩, ⟨List.nodup_nil, fun x hx => by cases hx⟩, ⟨HM.out⟩, ⟨BK1.out⟩, ⟨HB.out⟩⟩
   case round =>
    clear HN HM BK1 HB
    (try clear hz1_0); (try clear hz1_1); (try clear hf1_0); (try clear hf1_1)
    obtain ⟨kk, seen, hkk, hg, rfl, HN, HI, HM, BK1, HB⟩ := hrel
    have HKK := Gv.a0 hkk
    have HG := Gv.a0 hg
    clear hkk hg
    by_cases hlt : kk < l0_1.length
    ·have hltz : (kk : Int) < (l0_1.length : Int) := by omega
     have hk0 : 0 ≤ (kk : Int) := by omega
     obtain ⟨ad, A1, c1, e1, hx, hl1, hi1⟩ := at_T47 HR0.out (kk : Int) hk0 hltz
     cases e1
     rw [Int.toNat_natCast] at hx
     replace hx := Gv.bx HB.out hx
     have hget : l0_1.drop kk = rd_T47 l0_1 (kk : Int) :: l0_1.drop (kk + 1) := by
      rw [List.drop_eq_getElem_cons hlt]
      congr 1
      unfold rd_T47
      rw [Int.toNat_natCast, List.getD_eq_getElem?_getD, List.getElem?_eq_getElem hlt]
      rfl
     have hN := HN.out
     rw [hget, Gv.wkOut] at hN
     clear HN hget
     have HN := Gv.a0 hN
     have HR1 := Gv.a0 hi1
     have HC1 := Gv.a0 hl1
     have HLT := Gv.a0 hlt
     clear hN hi1 hl1 hlt
     (try clear hz1_0); have hz1_0 := (blk_cell BK1.out 0).trans (rfl : _ = (some (.int .i64 a0_0) : Option Value)); (try clear hz1_1); have hz1_1 := (blk_cell BK1.out 1).trans (rfl : _ = (some (.slice (some ad) l0_1.length c0_1) : Option Value)); (try clear hf1_0); have hf1_0 := blk_frozen BK1.out 0; (try clear hf1_1); have hf1_1 := blk_frozen BK1.out 1
     go_wp2_with (first | ((with_reducible refine gate_dst (N := 5) rfl ?_); refine box_event ?hg (N := 5) ?hd (cs := #[.slice none 0 0]) (t := 47) ?hr ?_; (case hd => rfl); (case hg => rfl); (case hr => first | (go_simp; done) | (go_simp; rfl)); intro gb5 hg w5 hbox hb; have n0_ := Gv.a0 (below_step Gv.bw hb); have n1_ := Gv.a0 hbox; have n2_ := Gv.a0 ((Gv.ble hg Gv.bw : w.heap.size ≤ gb5)); have n3_ := Gv.a0 (Gv.bb BK1.out hb); have n4_ := Gv.a0 ((Gv.ngt hg (Gv.kb BK1.out) : gb5 ≠ gb1)); have n5_ := Gv.a0 (impl_WheelOk.OM_below HM.out hb); have n6_ := Gv.a0 (show gb5 ≠ bm from by rw [hg]; exact Nat.ne_of_gt (impl_WheelOk.OM_lt HM.out)); (try clear HB BK1 HM); clear hb hbox hg; have HB := n0_; have BK5 := n1_; have GE5 := n2_; have BK1 := n3_; have NB5_1 := n4_; have HM := n5_; have NM5 := n6_; clear n0_ n1_ n2_ n3_ n4_ n5_ n6_) | ((with_reducible refine gate_store (t := 47) (p := 5) rfl ?_); refine Gv.store_event rfl rfl rfl rfl rfl (Gv.kb BK5.out) (by kernel_rfl) rfl (by first | rfl | (simp; done) | (simp; and_intros <;> rfl)) ?_; intro w5s hbox hoth hbel; have n0_ := Gv.a0 hbox; have n1_ := Gv.a0 (hbel w Gv.bw GE5.out); have n2_ := Gv.a0 ((hoth gb1 NB5_1.out.symm).trans (Gv.kb BK1.out)); have n3_ := Gv.a0 (impl_WheelOk.OM_move HM.out (hoth bm NM5.out.symm)); clear BK5 HB BK1 HM hbox hoth hbel; have BK5 := n0_; have HB := n1_; have BK1 := n2_; have HM := n3_; clear n0_ n1_ n2_ n3_; (try clear hz1_0); have hz1_0 := (blk_cell BK1.out 0).trans (rfl : _ = (some (.int .i64 a0_0) : Option Value)); (try clear hz1_1); have hz1_1 := (blk_cell BK1.out 1).trans (rfl : _ = (some (.slice (some ad) l0_1.length c0_1) : Option Value)); (try clear hf1_0); have hf1_0 := blk_frozen BK1.out 0; (try clear hf1_1); have hf1_1 := blk_frozen BK1.out 1; (try clear hz5_0); have hz5_0 := (blk_cell BK5.out 0).trans (rfl : _ = (some (.slice A1 (rd_T47 l0_1 (kk : Int)).f0.length c1) : Option Value)); (try clear hf5_0); have hf5_0 := blk_frozen BK5.out 0))
     go_loopg [30] (rd_T47 l0_1 (kk : Int)).f0.length (fun gg s30 wr => ∃ (jj : Nat) (seen : List Int), jj ≤ (rd_T47 l0_1 (kk : Int)).f0.length ∧ (rd_T47 l0_1 (kk : Int)).f0.length - jj ≤ gg ∧ s30 = .int .i64 (jj : Int) ∧ Aside0 (Gv.wkEnd ((Gv.wkIn (fun x : S50 => x.f0) (fun x : S50 => x.f1) a0_0 (kk : Int) ((rd_T47 l0_1 (kk : Int)).f0.drop jj) seen).bind fun seen' => Gv.wkOut (fun s : S47 => s.f0) (fun x : S50 => x.f0) (fun x : S50 => x.f1) a0_0 (l0_1.drop (kk + 1)) (kk + 1) seen') = r) ∧ Aside0 (seen.Nodup ∧ ∀ x, x ∈ seen → 0 ≤ x ∧ x < (10000 : Nat)) ∧ Aside0 (impl_WheelOk.OM wr bm seen) ∧ Aside0 (wr.heap[gb1]? = some (.cells #[.int .i64 a0_0, .slice (some ad) l0_1.length c0_1] 24 (0, 0))) ∧ Aside0 (Below w.heap.size w wr))
     case atStart => exact ⟨0, seen, Nat.zero_le _, by omega, rfl, ⟨by rw [List.drop_zero]; exact HN.out⟩, ⟨HI.out⟩, ⟨HM.out⟩, ⟨BK1.out⟩, ⟨HB.out⟩⟩
     case round =>
      clear HN HM BK1 HB HI BK5 hx
      (try clear hz1_0); (try clear hz1_1); (try clear hf1_0); (try clear hf1_1); (try clear hz5_0); (try clear hf5_0)
      obtain ⟨jj, seen, hjj, hg, rfl, HN, HI, HM, BK1, HB⟩ := hrel
      have HJJ := Gv.a0 hjj
      have HG2 := Gv.a0 hg
      clear hjj hg
      by_cases hlt : jj < (rd_T47 l0_1 (kk : Int)).f0.length
      ·have hltz2 : (jj : Int) < ((rd_T47 l0_1 (kk : Int)).f0.length : Int) := by omega
       have hj0 : 0 ≤ (jj : Int) := by omega
       obtain ⟨ad2, e2, hy0, hy1⟩ := at_T50 (Kd.C_below HR1.out HB.out) (jj : Int) hj0 hltz2
       cases e2
       obtain ⟨x_, hx_⟩ : ∃ x_, x_ = rd_T50 (rd_T47 l0_1 (kk : Int)).f0 (jj : Int) := ⟨_, rfl⟩
       rw [← hx_, Int.toNat_natCast] at hy0 hy1
       have hget : (rd_T47 l0_1 (kk : Int)).f0.drop jj = x_ :: (rd_T47 l0_1 (kk : Int)).f0.drop (jj + 1) := by
        rw [List.drop_eq_getElem_cons hlt, hx_]
        congr 1
        unfold rd_T50
        rw [Int.toNat_natCast, List.getD_eq_getElem?_getD, List.getElem?_eq_getElem hlt]
        rfl
       have hN := HN.out
       rw [hget, Gv.wkIn] at hN
       clear HN hget hx_
       have HN := Gv.a0 hN
       have HLT2 := Gv.a0 hlt
       clear hN hlt
       (try clear hz1_0); have hz1_0 := (blk_cell BK1.out 0).trans (rfl : _ = (some (.int .i64 a0_0) : Option Value)); (try clear hz1_1); have hz1_1 := (blk_cell BK1.out 1).trans (rfl : _ = (some (.slice (some ad) l0_1.length c0_1) : Option Value)); (try clear hf1_0); have hf1_0 := blk_frozen BK1.out 0; (try clear hf1_1); have hf1_1 := blk_frozen BK1.out 1
       cases h1 : Gv.wi x_.f0 0 9999 with
       | false =>
        have A2 := Gv.a0 ((impl_WheelOk.within x_.f0 0 9999).trans (congrArg some h1))
        have Hr := Gv.a0 (show false = r from by
         have hN := HN.out
         unfold Gv.wkBad at hN
         rw [h1, Bool.not_false, Bool.true_or, if_pos rfl] at hN
         exact hN)
        clear HN h1
        go_wp2_with (first | ((with_reducible refine gate_dst (N := 7) rfl ?_); refine box_event ?hg (N := 7) ?hd (cs := #[.int .i64 0, .int .i64 0]) (t := 50) ?hr ?_; (case hd => rfl); (case hg => rfl); (case hr => first | (go_simp; done) | (go_simp; rfl)); intro gb7 hg w7 hbox hb; have n0_ := Gv.a0 (below_step Gv.bw hb); have n1_ := Gv.a0 hbox; have n2_ := Gv.a0 ((Gv.ble hg Gv.bw : w.heap.size ≤ gb7)); have n3_ := Gv.a0 (Gv.bb BK1.out hb); have n4_ := Gv.a0 ((Gv.ngt hg (Gv.kb BK1.out) : gb7 ≠ gb1)); have n5_ := Gv.a0 (impl_WheelOk.OM_below HM.out hb); have n6_ := Gv.a0 (show gb7 ≠ bm from by rw [hg]; exact Nat.ne_of_gt (impl_WheelOk.OM_lt HM.out)); (try clear HB BK1 HM); clear hb hbox hg; have HB := n0_; have BK7 := n1_; have GE7 := n2_; have BK1 := n3_; have NB7_1 := n4_; have HM := n5_; have NM7 := n6_; clear n0_ n1_ n2_ n3_ n4_ n5_ n6_) | ((with_reducible refine gate_store (t := 50) (p := 7) rfl ?_); refine Gv.store_event rfl rfl rfl rfl rfl (Gv.kb BK7.out) (by kernel_rfl) rfl (by first | rfl | (simp; done) | (simp; and_intros <;> rfl)) ?_; intro w7s hbox hoth hbel; have n0_ := Gv.a0 hbox; have n1_ := Gv.a0 (hbel w Gv.bw GE7.out); have n2_ := Gv.a0 ((hoth gb1 NB7_1.out.symm).trans (Gv.kb BK1.out)); have n3_ := Gv.a0 (impl_WheelOk.OM_move HM.out (hoth bm NM7.out.symm)); clear BK7 HB BK1 HM hbox hoth hbel; have BK7 := n0_; have HB := n1_; have BK1 := n2_; have HM := n3_; clear n0_ n1_ n2_ n3_; (try clear hz1_0); have hz1_0 := (blk_cell BK1.out 0).trans (rfl : _ = (some (.int .i64 a0_0) : Option Value)); (try clear hz1_1); have hz1_1 := (blk_cell BK1.out 1).trans (rfl : _ = (some (.slice (some ad) l0_1.length c0_1) : Option Value)); (try clear hf1_0); have hf1_0 := blk_frozen BK1.out 0; (try clear hf1_1); have hf1_1 := blk_frozen BK1.out 1; (try clear hz7_0); have hz7_0 := (blk_cell BK7.out 0).trans (rfl : _ = (some (.int .i64 x_.f0) : Option Value)); (try clear hz7_1); have hz7_1 := (blk_cell BK7.out 1).trans (rfl : _ = (some (.int .i64 x_.f1) : Option Value)); (try clear hf7_0); have hf7_0 := blk_frozen BK7.out 0; (try clear hf7_1); have hf7_1 := blk_frozen BK7.out 1) | ((with_reducible refine gate_callee (f := 30) rfl ?_); (try (refine gate_guard (by rfl) ?_; dsimp only)); refine goesL_ (some 36) rfl rfl Try.func30 (by kernel_rfl) rfl #[.int .i64 x_.f0, .int .i64 0, .int .i64 9999] rfl Gv.lm ?_; (with_reducible refine (impl_within.calls x_.f0 0 9999 false _ A2.out).mono ?_); rintro e wc ⟨rfl, hd⟩; refine ⟨_, rfl, ?_⟩; have hb := hd.below; clear hd; have n0_ := Gv.a0 (below_step Gv.bw hb); have n1_ := Gv.a0 (Gv.bb BK1.out hb); have n2_ := Gv.a0 (Gv.bb BK7.out hb); have n3_ := Gv.a0 (impl_WheelOk.OM_below HM.out hb); clear HB BK1 BK7 HM hb; have HB := n0_; have BK1 := n1_; have BK7 := n2_; have HM := n3_; clear n0_ n1_ n2_ n3_; (try clear hz1_0); have hz1_0 := (blk_cell BK1.out 0).trans (rfl : _ = (some (.int .i64 a0_0) : Option Value)); (try clear hz1_1); have hz1_1 := (blk_cell BK1.out 1).trans (rfl : _ = (some (.slice (some ad) l0_1.length c0_1) : Option Value)); (try clear hf1_0); have hf1_0 := blk_frozen BK1.out 0; (try clear hf1_1); have hf1_1 := blk_frozen BK1.out 1; (try clear hz7_0); have hz7_0 := (blk_cell BK7.out 0).trans (rfl : _ = (some (.int .i64 x_.f0) : Option Value)); (try clear hz7_1); have hz7_1 := (blk_cell BK7.out 1).trans (rfl : _ = (some (.int .i64 x_.f1) : Option Value)); (try clear hf7_0); have hf7_0 := blk_frozen BK7.out 0; (try clear hf7_1); have hf7_1 := blk_frozen BK7.out 1))
        go_ret
        exact ⟨by rw [← Hr.out]; rfl, HB.out⟩
       | true =>
        have A2 := Gv.a0 ((impl_WheelOk.within x_.f0 0 9999).trans (congrArg some h1))
        have hr1 : 0 ≤ x_.f0 ∧ x_.f0 ≤ 9999 := by
         unfold Gv.wi at h1
         rw [Bool.and_eq_true, decide_eq_true_eq, decide_eq_true_eq] at h1
         exact h1
        have HW := Gv.a0 hr1
        clear hr1
        cases h2 : seen.contains x_.f0 with
        | true =>
         have Hr := Gv.a0 (show false = r from by
          have hN := HN.out
          unfold Gv.wkBad at hN
          rw [h1, h2, Bool.not_true, Bool.false_or, Bool.true_or, if_pos rfl] at hN
          exact hN)
         have H2 := Gv.a0 h2
         clear HN h1 h2
         go_wp2_with (first | ((with_reducible refine gate_dst (N := 7) rfl ?_); refine box_event ?hg (N := 7) ?hd (cs := #[.int .i64 0, .int .i64 0]) (t := 50) ?hr ?_; (case hd => rfl); (case hg => rfl); (case hr => first | (go_simp; done) | (go_simp; rfl)); intro gb7 hg w7 hbox hb; have n0_ := Gv.a0 (below_step Gv.bw hb); have n1_ := Gv.a0 hbox; have n2_ := Gv.a0 ((Gv.ble hg Gv.bw : w.heap.size ≤ gb7)); have n3_ := Gv.a0 (Gv.bb BK1.out hb); have n4_ := Gv.a0 ((Gv.ngt hg (Gv.kb BK1.out) : gb7 ≠ gb1)); have n5_ := Gv.a0 (impl_WheelOk.OM_below HM.out hb); have n6_ := Gv.a0 (show gb7 ≠ bm from by rw [hg]; exact Nat.ne_of_gt (impl_WheelOk.OM_lt HM.out)); (try clear HB BK1 HM); clear hb hbox hg; have HB := n0_; have BK7 := n1_; have GE7 := n2_; have BK1 := n3_; have NB7_1 := n4_; have HM := n5_; have NM7 := n6_; clear n0_ n1_ n2_ n3_ n4_ n5_ n6_) | ((with_reducible refine gate_store (t := 50) (p := 7) rfl ?_); refine Gv.store_event rfl rfl rfl rfl rfl (Gv.kb BK7.out) (by kernel_rfl) rfl (by first | rfl | (simp; done) | (simp; and_intros <;> rfl)) ?_; intro w7s hbox hoth hbel; have n0_ := Gv.a0 hbox; have n1_ := Gv.a0 (hbel w Gv.bw GE7.out); have n2_ := Gv.a0 ((hoth gb1 NB7_1.out.symm).trans (Gv.kb BK1.out)); have n3_ := Gv.a0 (impl_WheelOk.OM_move HM.out (hoth bm NM7.out.symm)); clear BK7 HB BK1 HM hbox hoth hbel; have BK7 := n0_; have HB := n1_; have BK1 := n2_; have HM := n3_; clear n0_ n1_ n2_ n3_; (try clear hz1_0); have hz1_0 := (blk_cell BK1.out 0).trans (rfl : _ = (some (.int .i64 a0_0) : Option Value)); (try clear hz1_1); have hz1_1 := (blk_cell BK1.out 1).trans (rfl : _ = (some (.slice (some ad) l0_1.length c0_1) : Option Value)); (try clear hf1_0); have hf1_0 := blk_frozen BK1.out 0; (try clear hf1_1); have hf1_1 := blk_frozen BK1.out 1; (try clear hz7_0); have hz7_0 := (blk_cell BK7.out 0).trans (rfl : _ = (some (.int .i64 x_.f0) : Option Value)); (try clear hz7_1); have hz7_1 := (blk_cell BK7.out 1).trans (rfl : _ = (some (.int .i64 x_.f1) : Option Value)); (try clear hf7_0); have hf7_0 := blk_frozen BK7.out 0; (try clear hf7_1); have hf7_1 := blk_frozen BK7.out 1) | ((with_reducible refine gate_callee (f := 30) rfl ?_); (try (refine gate_guard (by rfl) ?_; dsimp only)); refine goesL_ (some 36) rfl rfl Try.func30 (by kernel_rfl) rfl #[.int .i64 x_.f0, .int .i64 0, .int .i64 9999] rfl Gv.lm ?_; (with_reducible refine (impl_within.calls x_.f0 0 9999 true _ A2.out).mono ?_); rintro e wc ⟨rfl, hd⟩; refine ⟨_, rfl, ?_⟩; have hb := hd.below; clear hd; have n0_ := Gv.a0 (below_step Gv.bw hb); have n1_ := Gv.a0 (Gv.bb BK1.out hb); have n2_ := Gv.a0 (Gv.bb BK7.out hb); have n3_ := Gv.a0 (impl_WheelOk.OM_below HM.out hb); clear HB BK1 BK7 HM hb; have HB := n0_; have BK1 := n1_; have BK7 := n2_; have HM := n3_; clear n0_ n1_ n2_ n3_; (try clear hz1_0); have hz1_0 := (blk_cell BK1.out 0).trans (rfl : _ = (some (.int .i64 a0_0) : Option Value)); (try clear hz1_1); have hz1_1 := (blk_cell BK1.out 1).trans (rfl : _ = (some (.slice (some ad) l0_1.length c0_1) : Option Value)); (try clear hf1_0); have hf1_0 := blk_frozen BK1.out 0; (try clear hf1_1); have hf1_1 := blk_frozen BK1.out 1; (try clear hz7_0); have hz7_0 := (blk_cell BK7.out 0).trans (rfl : _ = (some (.int .i64 x_.f0) : Option Value)); (try clear hz7_1); have hz7_1 := (blk_cell BK7.out 1).trans (rfl : _ = (some (.int .i64 x_.f1) : Option Value)); (try clear hf7_0); have hf7_0 := blk_frozen BK7.out 0; (try clear hf7_1); have hf7_1 := blk_frozen BK7.out 1) | ((with_reducible refine gate_dst (N := 42) rfl ?_); (try (refine gate_guard (by rfl) ?_; dsimp only)); refine impl_WheelOk.look rfl rfl rfl rfl HM.out HW.out.1 HW.out.2 ?_; rw [H2.out]))
         go_ret
         exact ⟨by rw [← Hr.out]; rfl, HB.out⟩
        | false =>
         have H2 := Gv.a0 h2
         cases h3 : Gv.wi x_.f1 (wrap64 (a0_0 + 1)) (wrap64 (a0_0 + 1000)) with
         | false =>
          have A3 := Gv.a0 ((impl_WheelOk.ahead a0_0 l0_1 x_.f1).trans (congrArg some h3))
          have Hr := Gv.a0 (show false = r from by
           have hN := HN.out
           unfold Gv.wkBad at hN
           rw [h1, h2, h3, Bool.not_true, Bool.false_or, Bool.false_or, Bool.not_false, Bool.true_or, if_pos rfl] at hN
           exact hN)
          clear HN h1 h2 h3
          go_wp2_with (first | ((with_reducible refine gate_dst (N := 7) rfl ?_); refine box_event ?hg (N := 7) ?hd (cs := #[.int .i64 0, .int .i64 0]) (t := 50) ?hr ?_; (case hd => rfl); (case hg => rfl); (case hr => first | (go_simp; done) | (go_simp; rfl)); intro gb7 hg w7 hbox hb; have n0_ := Gv.a0 (below_step Gv.bw hb); have n1_ := Gv.a0 hbox; have n2_ := Gv.a0 ((Gv.ble hg Gv.bw : w.heap.size ≤ gb7)); have n3_ := Gv.a0 (Gv.bb BK1.out hb); have n4_ := Gv.a0 ((Gv.ngt hg (Gv.kb BK1.out) : gb7 ≠ gb1)); have n5_ := Gv.a0 (impl_WheelOk.OM_below HM.out hb); have n6_ := Gv.a0 (show gb7 ≠ bm from by rw [hg]; exact Nat.ne_of_gt (impl_WheelOk.OM_lt HM.out)); (try clear HB BK1 HM); clear hb hbox hg; have HB := n0_; have BK7 := n1_; have GE7 := n2_; have BK1 := n3_; have NB7_1 := n4_; have HM := n5_; have NM7 := n6_; clear n0_ n1_ n2_ n3_ n4_ n5_ n6_) | ((with_reducible refine gate_store (t := 50) (p := 7) rfl ?_); refine Gv.store_event rfl rfl rfl rfl rfl (Gv.kb BK7.out) (by kernel_rfl) rfl (by first | rfl | (simp; done) | (simp; and_intros <;> rfl)) ?_; intro w7s hbox hoth hbel; have n0_ := Gv.a0 hbox; have n1_ := Gv.a0 (hbel w Gv.bw GE7.out); have n2_ := Gv.a0 ((hoth gb1 NB7_1.out.symm).trans (Gv.kb BK1.out)); have n3_ := Gv.a0 (impl_WheelOk.OM_move HM.out (hoth bm NM7.out.symm)); clear BK7 HB BK1 HM hbox hoth hbel; have BK7 := n0_; have HB := n1_; have BK1 := n2_; have HM := n3_; clear n0_ n1_ n2_ n3_; (try clear hz1_0); have hz1_0 := (blk_cell BK1.out 0).trans (rfl : _ = (some (.int .i64 a0_0) : Option Value)); (try clear hz1_1); have hz1_1 := (blk_cell BK1.out 1).trans (rfl : _ = (some (.slice (some ad) l0_1.length c0_1) : Option Value)); (try clear hf1_0); have hf1_0 := blk_frozen BK1.out 0; (try clear hf1_1); have hf1_1 := blk_frozen BK1.out 1; (try clear hz7_0); have hz7_0 := (blk_cell BK7.out 0).trans (rfl : _ = (some (.int .i64 x_.f0) : Option Value)); (try clear hz7_1); have hz7_1 := (blk_cell BK7.out 1).trans (rfl : _ = (some (.int .i64 x_.f1) : Option Value)); (try clear hf7_0); have hf7_0 := blk_frozen BK7.out 0; (try clear hf7_1); have hf7_1 := blk_frozen BK7.out 1) | ((with_reducible refine gate_callee (f := 30) rfl ?_); (try (refine gate_guard (by rfl) ?_; dsimp only)); refine goesL_ (some 36) rfl rfl Try.func30 (by kernel_rfl) rfl #[.int .i64 x_.f0, .int .i64 0, .int .i64 9999] rfl Gv.lm ?_; (with_reducible refine (impl_within.calls x_.f0 0 9999 true _ A2.out).mono ?_); rintro e wc ⟨rfl, hd⟩; refine ⟨_, rfl, ?_⟩; have hb := hd.below; clear hd; have n0_ := Gv.a0 (below_step Gv.bw hb); have n1_ := Gv.a0 (Gv.bb BK1.out hb); have n2_ := Gv.a0 (Gv.bb BK7.out hb); have n3_ := Gv.a0 (impl_WheelOk.OM_below HM.out hb); clear HB BK1 BK7 HM hb; have HB := n0_; have BK1 := n1_; have BK7 := n2_; have HM := n3_; clear n0_ n1_ n2_ n3_; (try clear hz1_0); have hz1_0 := (blk_cell BK1.out 0).trans (rfl : _ = (some (.int .i64 a0_0) : Option Value)); (try clear hz1_1); have hz1_1 := (blk_cell BK1.out 1).trans (rfl : _ = (some (.slice (some ad) l0_1.length c0_1) : Option Value)); (try clear hf1_0); have hf1_0 := blk_frozen BK1.out 0; (try clear hf1_1); have hf1_1 := blk_frozen BK1.out 1; (try clear hz7_0); have hz7_0 := (blk_cell BK7.out 0).trans (rfl : _ = (some (.int .i64 x_.f0) : Option Value)); (try clear hz7_1); have hz7_1 := (blk_cell BK7.out 1).trans (rfl : _ = (some (.int .i64 x_.f1) : Option Value)); (try clear hf7_0); have hf7_0 := blk_frozen BK7.out 0; (try clear hf7_1); have hf7_1 := blk_frozen BK7.out 1) | ((with_reducible refine gate_dst (N := 42) rfl ?_); (try (refine gate_guard (by rfl) ?_; dsimp only)); refine impl_WheelOk.look rfl rfl rfl rfl HM.out HW.out.1 HW.out.2 ?_; rw [H2.out]) | ((with_reducible refine gate_callee (f := 31) rfl ?_); (try (refine gate_guard (by rfl) ?_; dsimp only)); refine goesL_ (some 48) rfl rfl Try.func31 (by kernel_rfl) rfl #[.agg #[.int .i64 a0_0, .slice (some ad) l0_1.length c0_1], .int .i64 x_.f1] rfl Gv.lm ?_; (with_reducible refine (impl_Wheel_isAhead.calls a0_0 _ _ l0_1 x_.f1 false _ (Kd.C_below HR0.out HB.out) HC0.out A3.out).mono ?_); rintro e wc ⟨rfl, hd⟩; refine ⟨_, rfl, ?_⟩; have hb := hd; clear hd; have n0_ := Gv.a0 (below_step Gv.bw hb); have n1_ := Gv.a0 (Gv.bb BK1.out hb); have n2_ := Gv.a0 (Gv.bb BK7.out hb); have n3_ := Gv.a0 (impl_WheelOk.OM_below HM.out hb); clear HB BK1 BK7 HM hb; have HB := n0_; have BK1 := n1_; have BK7 := n2_; have HM := n3_; clear n0_ n1_ n2_ n3_; (try clear hz1_0); have hz1_0 := (blk_cell BK1.out 0).trans (rfl : _ = (some (.int .i64 a0_0) : Option Value)); (try clear hz1_1); have hz1_1 := (blk_cell BK1.out 1).trans (rfl : _ = (some (.slice (some ad) l0_1.length c0_1) : Option Value)); (try clear hf1_0); have hf1_0 := blk_frozen BK1.out 0; (try clear hf1_1); have hf1_1 := blk_frozen BK1.out 1; (try clear hz7_0); have hz7_0 := (blk_cell BK7.out 0).trans (rfl : _ = (some (.int .i64 x_.f0) : Option Value)); (try clear hz7_1); have hz7_1 := (blk_cell BK7.out 1).trans (rfl : _ = (some (.int .i64 x_.f1) : Option Value)); (try clear hf7_0); have hf7_0 := blk_frozen BK7.out 0; (try clear hf7_1); have hf7_1 := blk_frozen BK7.out 1))
          go_ret
          exact ⟨by rw [← Hr.out]; rfl, HB.out⟩
         | true =>
          have A3 := Gv.a0 ((impl_WheelOk.ahead a0_0 l0_1 x_.f1).trans (congrArg some h3))
          by_cases h4 : Int.tmod x_.f1 8 = (kk : Int)
          rotate_left
          ·have h4a : (Int.tmod x_.f1 8 == (kk : Int)) = false := beq_eq_false_iff_ne.2 h4
           have h4b : (Int.tmod x_.f1 8 != (kk : Int)) = true := bne_iff_ne.2 h4
           have Hr := Gv.a0 (show false = r from by
            have hN := HN.out
            unfold Gv.wkBad at hN
            rw [h1, h2, h3, h4a, Bool.not_true, Bool.false_or, Bool.false_or, Bool.false_or, Bool.not_false, if_pos rfl] at hN
            exact hN)
           clear HN h1 h2 h3 h4
           go_wp2_with (first | ((with_reducible refine gate_dst (N := 7) rfl ?_); refine box_event ?hg (N := 7) ?hd (cs := #[.int .i64 0, .int .i64 0]) (t := 50) ?hr ?_; (case hd => rfl); (case hg => rfl); (case hr => first | (go_simp; done) | (go_simp; rfl)); intro gb7 hg w7 hbox hb; have n0_ := Gv.a0 (below_step Gv.bw hb); have n1_ := Gv.a0 hbox; have n2_ := Gv.a0 ((Gv.ble hg Gv.bw : w.heap.size ≤ gb7)); have n3_ := Gv.a0 (Gv.bb BK1.out hb); have n4_ := Gv.a0 ((Gv.ngt hg (Gv.kb BK1.out) : gb7 ≠ gb1)); have n5_ := Gv.a0 (impl_WheelOk.OM_below HM.out hb); have n6_ := Gv.a0 (show gb7 ≠ bm from by rw [hg]; exact Nat.ne_of_gt (impl_WheelOk.OM_lt HM.out)); (try clear HB BK1 HM); clear hb hbox hg; have HB := n0_; have BK7 := n1_; have GE7 := n2_; have BK1 := n3_; have NB7_1 := n4_; have HM := n5_; have NM7 := n6_; clear n0_ n1_ n2_ n3_ n4_ n5_ n6_) | ((with_reducible refine gate_store (t := 50) (p := 7) rfl ?_); refine Gv.store_event rfl rfl rfl rfl rfl (Gv.kb BK7.out) (by kernel_rfl) rfl (by first | rfl | (simp; done) | (simp; and_intros <;> rfl)) ?_; intro w7s hbox hoth hbel; have n0_ := Gv.a0 hbox; have n1_ := Gv.a0 (hbel w Gv.bw GE7.out); have n2_ := Gv.a0 ((hoth gb1 NB7_1.out.symm).trans (Gv.kb BK1.out)); have n3_ := Gv.a0 (impl_WheelOk.OM_move HM.out (hoth bm NM7.out.symm)); clear BK7 HB BK1 HM hbox hoth hbel; have BK7 := n0_; have HB := n1_; have BK1 := n2_; have HM := n3_; clear n0_ n1_ n2_ n3_; (try clear hz1_0); have hz1_0 := (blk_cell BK1.out 0).trans (rfl : _ = (some (.int .i64 a0_0) : Option Value)); (try clear hz1_1); have hz1_1 := (blk_cell BK1.out 1).trans (rfl : _ = (some (.slice (some ad) l0_1.length c0_1) : Option Value)); (try clear hf1_0); have hf1_0 := blk_frozen BK1.out 0; (try clear hf1_1); have hf1_1 := blk_frozen BK1.out 1; (try clear hz7_0); have hz7_0 := (blk_cell BK7.out 0).trans (rfl : _ = (some (.int .i64 x_.f0) : Option Value)); (try clear hz7_1); have hz7_1 := (blk_cell BK7.out 1).trans (rfl : _ = (some (.int .i64 x_.f1) : Option Value)); (try clear hf7_0); have hf7_0 := blk_frozen BK7.out 0; (try clear hf7_1); have hf7_1 := blk_frozen BK7.out 1) | ((with_reducible refine gate_callee (f := 30) rfl ?_); (try (refine gate_guard (by rfl) ?_; dsimp only)); refine goesL_ (some 36) rfl rfl Try.func30 (by kernel_rfl) rfl #[.int .i64 x_.f0, .int .i64 0, .int .i64 9999] rfl Gv.lm ?_; (with_reducible refine (impl_within.calls x_.f0 0 9999 true _ A2.out).mono ?_); rintro e wc ⟨rfl, hd⟩; refine ⟨_, rfl, ?_⟩; have hb := hd.below; clear hd; have n0_ := Gv.a0 (below_step Gv.bw hb); have n1_ := Gv.a0 (Gv.bb BK1.out hb); have n2_ := Gv.a0 (Gv.bb BK7.out hb); have n3_ := Gv.a0 (impl_WheelOk.OM_below HM.out hb); clear HB BK1 BK7 HM hb; have HB := n0_; have BK1 := n1_; have BK7 := n2_; have HM := n3_; clear n0_ n1_ n2_ n3_; (try clear hz1_0); have hz1_0 := (blk_cell BK1.out 0).trans (rfl : _ = (some (.int .i64 a0_0) : Option Value)); (try clear hz1_1); have hz1_1 := (blk_cell BK1.out 1).trans (rfl : _ = (some (.slice (some ad) l0_1.length c0_1) : Option Value)); (try clear hf1_0); have hf1_0 := blk_frozen BK1.out 0; (try clear hf1_1); have hf1_1 := blk_frozen BK1.out 1; (try clear hz7_0); have hz7_0 := (blk_cell BK7.out 0).trans (rfl : _ = (some (.int .i64 x_.f0) : Option Value)); (try clear hz7_1); have hz7_1 := (blk_cell BK7.out 1).trans (rfl : _ = (some (.int .i64 x_.f1) : Option Value)); (try clear hf7_0); have hf7_0 := blk_frozen BK7.out 0; (try clear hf7_1); have hf7_1 := blk_frozen BK7.out 1) | ((with_reducible refine gate_dst (N := 42) rfl ?_); (try (refine gate_guard (by rfl) ?_; dsimp only)); refine impl_WheelOk.look rfl rfl rfl rfl HM.out HW.out.1 HW.out.2 ?_; rw [H2.out]) | ((with_reducible refine gate_callee (f := 31) rfl ?_); (try (refine gate_guard (by rfl) ?_; dsimp only)); refine goesL_ (some 48) rfl rfl Try.func31 (by kernel_rfl) rfl #[.agg #[.int .i64 a0_0, .slice (some ad) l0_1.length c0_1], .int .i64 x_.f1] rfl Gv.lm ?_; (with_reducible refine (impl_Wheel_isAhead.calls a0_0 _ _ l0_1 x_.f1 true _ (Kd.C_below HR0.out HB.out) HC0.out A3.out).mono ?_); rintro e wc ⟨rfl, hd⟩; refine ⟨_, rfl, ?_⟩; have hb := hd; clear hd; have n0_ := Gv.a0 (below_step Gv.bw hb); have n1_ := Gv.a0 (Gv.bb BK1.out hb); have n2_ := Gv.a0 (Gv.bb BK7.out hb); have n3_ := Gv.a0 (impl_WheelOk.OM_below HM.out hb); clear HB BK1 BK7 HM hb; have HB := n0_; have BK1 := n1_; have BK7 := n2_; have HM := n3_; clear n0_ n1_ n2_ n3_; (try clear hz1_0); have hz1_0 := (blk_cell BK1.out 0).trans (rfl : _ = (some (.int .i64 a0_0) : Option Value)); (try clear hz1_1); have hz1_1 := (blk_cell BK1.out 1).trans (rfl : _ = (some (.slice (some ad) l0_1.length c0_1) : Option Value)); (try clear hf1_0); have hf1_0 := blk_frozen BK1.out 0; (try clear hf1_1); have hf1_1 := blk_frozen BK1.out 1; (try clear hz7_0); have hz7_0 := (blk_cell BK7.out 0).trans (rfl : _ = (some (.int .i64 x_.f0) : Option Value)); (try clear hz7_1); have hz7_1 := (blk_cell BK7.out 1).trans (rfl : _ = (some (.int .i64 x_.f1) : Option Value)); (try clear hf7_0); have hf7_0 := blk_frozen BK7.out 0; (try clear hf7_1); have hf7_1 := blk_frozen BK7.out 1))
           go_ret
           exact ⟨by rw [← Hr.out]; rfl, HB.out⟩
          ·have h4a : (Int.tmod x_.f1 8 == (kk : Int)) = true := beq_iff_eq.2 h4
           have h4b : (Int.tmod x_.f1 8 != (kk : Int)) = false := bne_eq_false_iff_eq.2 h4
           have hN := HN.out
           unfold Gv.wkBad at hN
           rw [h1, h2, h3, h4a, Bool.not_true, Bool.false_or, Bool.false_or, Bool.false_or, if_neg (by decide)] at hN
           clear HN
           have HN := Gv.a0 hN
           have HI2 := Gv.a0 (show (seen ++ [x_.f0]).Nodup ∧ ∀ x, x ∈ seen ++ [x_.f0] → 0 ≤ x ∧ x < (10000 : Nat) from by
            obtain ⟨i1, i2⟩ := HI.out
            have hw := HW.out
            have hc : x_.f0 ∉ seen := by simpa using h2
            refine ⟨List.nodup_append.2 ⟨i1, by simp, fun a ha b hb e => hc (by simp at hb; rw [← hb, ← e]; exact ha)⟩, fun x hx => ?_⟩
            rw [List.mem_append, List.mem_singleton] at hx
            rcases hx with hx | rfl
            ·exact i2 x hx
            ·omega)
           have HLM := Gv.a0 (show seen.length < maxLen from by
            have := impl_WheelOk.nodup_le 10000 seen HI.out.1 HI.out.2
            unfold maxLen
            omega)
           clear hN HI h1 h2 h3 h4
           go_wp2_with (first | ((with_reducible refine gate_dst (N := 7) rfl ?_); refine box_event ?hg (N := 7) ?hd (cs := #[.int .i64 0, .int .i64 0]) (t := 50) ?hr ?_; (case hd => rfl); (case hg => rfl); (case hr => first | (go_simp; done) | (go_simp; rfl)); intro gb7 hg w7 hbox hb; have n0_ := Gv.a0 (below_step Gv.bw hb); have n1_ := Gv.a0 hbox; have n2_ := Gv.a0 ((Gv.ble hg Gv.bw : w.heap.size ≤ gb7)); have n3_ := Gv.a0 (Gv.bb BK1.out hb); have n4_ := Gv.a0 ((Gv.ngt hg (Gv.kb BK1.out) : gb7 ≠ gb1)); have n5_ := Gv.a0 (impl_WheelOk.OM_below HM.out hb); have n6_ := Gv.a0 (show gb7 ≠ bm from by rw [hg]; exact Nat.ne_of_gt (impl_WheelOk.OM_lt HM.out)); (try clear HB BK1 HM); clear hb hbox hg; have HB := n0_; have BK7 := n1_; have GE7 := n2_; have BK1 := n3_; have NB7_1 := n4_; have HM := n5_; have NM7 := n6_; clear n0_ n1_ n2_ n3_ n4_ n5_ n6_) | ((with_reducible refine gate_store (t := 50) (p := 7) rfl ?_); refine Gv.store_event rfl rfl rfl rfl rfl (Gv.kb BK7.out) (by kernel_rfl) rfl (by first | rfl | (simp; done) | (simp; and_intros <;> rfl)) ?_; intro w7s hbox hoth hbel; have n0_ := Gv.a0 hbox; have n1_ := Gv.a0 (hbel w Gv.bw GE7.out); have n2_ := Gv.a0 ((hoth gb1 NB7_1.out.symm).trans (Gv.kb BK1.out)); have n3_ := Gv.a0 (impl_WheelOk.OM_move HM.out (hoth bm NM7.out.symm)); clear BK7 HB BK1 HM hbox hoth hbel; have BK7 := n0_; have HB := n1_; have BK1 := n2_; have HM := n3_; clear n0_ n1_ n2_ n3_; (try clear hz1_0); have hz1_0 := (blk_cell BK1.out 0).trans (rfl : _ = (some (.int .i64 a0_0) : Option Value)); (try clear hz1_1); have hz1_1 := (blk_cell BK1.out 1).trans (rfl : _ = (some (.slice (some ad) l0_1.length c0_1) : Option Value)); (try clear hf1_0); have hf1_0 := blk_frozen BK1.out 0; (try clear hf1_1); have hf1_1 := blk_frozen BK1.out 1; (try clear hz7_0); have hz7_0 := (blk_cell BK7.out 0).trans (rfl : _ = (some (.int .i64 x_.f0) : Option Value)); (try clear hz7_1); have hz7_1 := (blk_cell BK7.out 1).trans (rfl : _ = (some (.int .i64 x_.f1) : Option Value)); (try clear hf7_0); have hf7_0 := blk_frozen BK7.out 0; (try clear hf7_1); have hf7_1 := blk_frozen BK7.out 1) | ((with_reducible refine gate_callee (f := 30) rfl ?_); (try (refine gate_guard (by rfl) ?_; dsimp only)); refine goesL_ (some 36) rfl rfl Try.func30 (by kernel_rfl) rfl #[.int .i64 x_.f0, .int .i64 0, .int .i64 9999] rfl Gv.lm ?_; (with_reducible refine (impl_within.calls x_.f0 0 9999 true _ A2.out).mono ?_); rintro e wc ⟨rfl, hd⟩; refine ⟨_, rfl, ?_⟩; have hb := hd.below; clear hd; have n0_ := Gv.a0 (below_step Gv.bw hb); have n1_ := Gv.a0 (Gv.bb BK1.out hb); have n2_ := Gv.a0 (Gv.bb BK7.out hb); have n3_ := Gv.a0 (impl_WheelOk.OM_below HM.out hb); clear HB BK1 BK7 HM hb; have HB := n0_; have BK1 := n1_; have BK7 := n2_; have HM := n3_; clear n0_ n1_ n2_ n3_; (try clear hz1_0); have hz1_0 := (blk_cell BK1.out 0).trans (rfl : _ = (some (.int .i64 a0_0) : Option Value)); (try clear hz1_1); have hz1_1 := (blk_cell BK1.out 1).trans (rfl : _ = (some (.slice (some ad) l0_1.length c0_1) : Option Value)); (try clear hf1_0); have hf1_0 := blk_frozen BK1.out 0; (try clear hf1_1); have hf1_1 := blk_frozen BK1.out 1; (try clear hz7_0); have hz7_0 := (blk_cell BK7.out 0).trans (rfl : _ = (some (.int .i64 x_.f0) : Option Value)); (try clear hz7_1); have hz7_1 := (blk_cell BK7.out 1).trans (rfl : _ = (some (.int .i64 x_.f1) : Option Value)); (try clear hf7_0); have hf7_0 := blk_frozen BK7.out 0; (try clear hf7_1); have hf7_1 := blk_frozen BK7.out 1) | ((with_reducible refine gate_dst (N := 42) rfl ?_); (try (refine gate_guard (by rfl) ?_; dsimp only)); refine impl_WheelOk.look rfl rfl rfl rfl HM.out HW.out.1 HW.out.2 ?_; rw [H2.out]) | ((with_reducible refine gate_callee (f := 31) rfl ?_); (try (refine gate_guard (by rfl) ?_; dsimp only)); refine goesL_ (some 48) rfl rfl Try.func31 (by kernel_rfl) rfl #[.agg #[.int .i64 a0_0, .slice (some ad) l0_1.length c0_1], .int .i64 x_.f1] rfl Gv.lm ?_; (with_reducible refine (impl_Wheel_isAhead.calls a0_0 _ _ l0_1 x_.f1 true _ (Kd.C_below HR0.out HB.out) HC0.out A3.out).mono ?_); rintro e wc ⟨rfl, hd⟩; refine ⟨_, rfl, ?_⟩; have hb := hd; clear hd; have n0_ := Gv.a0 (below_step Gv.bw hb); have n1_ := Gv.a0 (Gv.bb BK1.out hb); have n2_ := Gv.a0 (Gv.bb BK7.out hb); have n3_ := Gv.a0 (impl_WheelOk.OM_below HM.out hb); clear HB BK1 BK7 HM hb; have HB := n0_; have BK1 := n1_; have BK7 := n2_; have HM := n3_; clear n0_ n1_ n2_ n3_; (try clear hz1_0); have hz1_0 := (blk_cell BK1.out 0).trans (rfl : _ = (some (.int .i64 a0_0) : Option Value)); (try clear hz1_1); have hz1_1 := (blk_cell BK1.out 1).trans (rfl : _ = (some (.slice (some ad) l0_1.length c0_1) : Option Value)); (try clear hf1_0); have hf1_0 := blk_frozen BK1.out 0; (try clear hf1_1); have hf1_1 := blk_frozen BK1.out 1; (try clear hz7_0); have hz7_0 := (blk_cell BK7.out 0).trans (rfl : _ = (some (.int .i64 x_.f0) : Option Value)); (try clear hz7_1); have hz7_1 := (blk_cell BK7.out 1).trans (rfl : _ = (some (.int .i64 x_.f1) : Option Value)); (try clear hf7_0); have hf7_0 := blk_frozen BK7.out 0; (try clear hf7_1); have hf7_1 := blk_frozen BK7.out 1) | (at_mapUpdate; refine impl_WheelOk.upd rfl rfl rfl rfl rfl rfl HM.out HW.out.1 HW.out.2 H2.out HLM.out ?_; intro wm2 hM hoth hbel; have n0_ := Gv.a0 (hbel w HB.out GEM.out); have n1_ := Gv.a0 ((hoth gb1 (blk_lt BK1.out) NM1.out).trans BK1.out); have n2_ := Gv.a0 hM; clear HB BK1 HM hM hoth hbel; have HB := n0_; have BK1 := n1_; have HM := n2_; clear n0_ n1_ n2_))
           go_roundg ((rd_T47 l0_1 (kk : Int)).f0.length - (jj + 1))
           case measure => have := HLT2.out; have := HG2.out; omega
           case rel =>
            have hlm := HR1.out.2.1
            have h9 := HLT2.out
            exact ⟨jj + 1, seen ++ [x_.f0], by omega, by omega, by rw [show wrap64 ((jj : Int) + 1) = ((jj + 1 : Nat) : Int) from by unfold wrap64; omega], HN, HI2, HM, BK1, HB⟩
      ·have hltz2 : ¬ (jj : Int) < ((rd_T47 l0_1 (kk : Int)).f0.length : Int) := by omega
       have hN := HN.out
       rw [List.drop_eq_nil_of_le (by have := HJJ.out; omega), Gv.wkIn, Option.bind_some] at hN
       clear HN
       have HN := Gv.a0 hN
       clear hN
       go_wp2_with fail
       go_roundg (l0_1.length - (kk + 1))
       case measure => have := HLT.out; have := HG.out; omega
       case rel => 
        have h8 := HL.out
        have h9 := HLT.out
        exact ⟨kk + 1, seen, by omega, by omega, by rw [show wrap64 ((kk : Int) + 1) = ((kk + 1 : Nat) : Int) from by unfold wrap64; omega], HN, HI, HM, BK1, HB⟩
    ·have hltz : ¬ (kk : Int) < (l0_1.length : Int) := by omega
     have hN := HN.out
     rw [List.drop_eq_nil_of_le (by have := HKK.out; omega), Gv.wkOut] at hN
     obtain ⟨D, hown, hsz, hat⟩ := HM.out
     have HRr := Gv.a0 (show decide (seen.length ≤ 64) = r from hN)
     go_wp2_with (at_len; refine wpList_len_own _ rfl _ 52 rfl 3 4 Try.underlying52 _ bm _ D rfl hown ?_)
     go_ret
     exact ⟨by rw [← HRr.out]; exact congrArg (fun b => Ending.returned (Value.bool b)) (decide_eq_decide.2 (by omega)), HB.out⟩

/-! ### impl_Wheel_timers: function 32 -/
def impl_Wheel_timers.l0 : Nat → List (S50) → List (S47) → Int → Int → Option ((List (S50)))
 | 0, _, _, _, _ => none
 | k + 1, x3, x8, x9, x10 => if x10 < x9 then (if 0 ≤ x10 then (if x10 < (x8.length : Int) then (if x3.length + ((rd_T47 x8 x10).f0).length < 8796093022208 then (impl_Wheel_timers.l0 k (x3 ++ ((rd_T47 x8 x10).f0)) x8 x9 (wrap64 (x10 + 1))) else (none)) else (none)) else (none)) else (some x3)
def impl_Wheel_timers.f (k : Nat) (a0_0 : Int) (l0_1 : List (S47)) : Option ((List (S50))) := impl_Wheel_timers.l0 k (([] : List (S50))) l0_1 (l0_1.length : Int) 0
theorem impl_Wheel_timers.mono_l : ∀ k, (∀ y0 y1 y2 y3, LeO (impl_Wheel_timers.l0 k y0 y1 y2 y3) (impl_Wheel_timers.l0 (k + 1) y0 y1 y2 y3))
 | 0 => fun _ _ _ _ r h => by simp [impl_Wheel_timers.l0] at h
 | k + 1 => by
  have ih0 := impl_Wheel_timers.mono_l k
  ·intro y0 y1 y2 y3
   unfold impl_Wheel_timers.l0
   repeat' first
   | (with_reducible exact ih0 _ _ _ _)
   | (with_reducible exact LeO.refl _)
   | (with_reducible exact LeO.none _)
   | (with_reducible refine LeO.ite ?_ ?_)
   | (with_reducible refine LeO.bind ?_ (fun _ => ?_))
   | exact ih0 _ _ _ _
   | exact LeO.none _
   | refine LeO.ite ?_ ?_
   | refine LeO.bind ?_ (fun _ => ?_)
theorem impl_Wheel_timers.mono : ∀ a0 a1 k, LeO (impl_Wheel_timers.f k a0 a1) (impl_Wheel_timers.f (k + 1) a0 a1) := by
 intro a0 a1 k
 have ih0 := impl_Wheel_timers.mono_l k
 unfold impl_Wheel_timers.f
 repeat' first
   | (with_reducible exact ih0 _ _ _ _)
   | (with_reducible exact LeO.refl _)
   | (with_reducible exact LeO.none _)
   | (with_reducible refine LeO.ite ?_ ?_)
   | (with_reducible refine LeO.bind ?_ (fun _ => ?_))
   | exact ih0 _ _ _ _
   | exact LeO.none _
   | refine LeO.ite ?_ ?_
   | refine LeO.bind ?_ (fun _ => ?_)
set_option maxHeartbeats 8000000 in
set_option maxRecDepth 100000 in
theorem impl_Wheel_timers.calls (k : Nat) (a0_0 : Int) (A0_1 : Option Addr) (c0_1 : Nat) (l0_1 : List (S47)) (r : List (S50)) (w : World) (hr0_1 : Kd.C k47 w A0_1 l0_1.length l0_1) (hc0_1 : l0_1.length ≤ c0_1) (h : impl_Wheel_timers.f k a0_0 l0_1 = some r) :
  Calls Try.prog 32 #[.agg #[.int .i64 a0_0, .slice A0_1 l0_1.length c0_1]] w fun e w' => ∃ v0_ : Value, e = .returned (v0_) ∧ Kd.R k50 50 w' w.heap.size (fun _ => True) v0_ r ∧ Below w.heap.size w w' := by
 have hu24 := Try.underlying24
 have hu47 := Try.underlying47
 have HR0_1 := Gv.a0 hr0_1
 have HC0_1 := Gv.a0 hc0_1
 clear hr0_1 hc0_1
 have HB := Gv.a0 (Below.refl w.heap.size w)
 have H : (impl_Wheel_timers.l0 k (([] : List (S50))) l0_1 (l0_1.length : Int) 0) = some r := h
 clear h
 obtain ⟨y234, hy234⟩ : ∃ y_ : List (S50), y_ = (([] : List (S50))) := ⟨_, rfl⟩
 replace H : (impl_Wheel_timers.l0 k y234 l0_1 (l0_1.length : Int) 0) = some r := by first | (rw [hy234]; with_reducible exact H) | (have H2_ := (Option.bind_some _ _).symm.trans H; rw [hy234]; with_reducible exact H2_) | (have H2_ := (Option.bind_some _ _).symm.trans H; with_reducible exact H2_) | with_reducible exact H | (rw [hy234]; exact H) | exact H
 have Ny234 := Gv.a0 hy234
 clear hy234
 have H' := Gv.a0 H
 clear H
 go_enter Try.func32, Try.ntmps32
 go_wp2_with (first | ((with_reducible refine gate_dst (N := 1) rfl ?_); refine box_event ?hg (N := 1) ?hd (cs := #[.int .i64 a0_0, .slice A0_1 l0_1.length c0_1]) (t := 24) ?hr ?_; (case hd => rfl); (case hg => rfl); (case hr => first | (go_simp; done) | (go_simp; rfl)); intro gb233 hg w2 hbox hb; have n0_ := Gv.a0 (below_step Gv.bw hb); have n1_ := Gv.a0 (hbox); have n2_ := Gv.a0 ((Gv.ble hg Gv.bw : w.heap.size ≤ gb233)); have n3_ := Gv.a0 ((Gv.ble hg Gv.bw : w.heap.size ≤ gb233)); clear HB; have HB := n0_; have BK233 := n1_; have GW233 := n2_; have GE233 := n3_; clear n0_ n1_ n2_ n3_; clear hb hbox hg) | ((with_reducible refine gate_dst (N := 6) rfl ?_); refine Kd.R_lit k50 _ 50 ?hg (N := 6) ?hd (xs := ([] : List (S50))) (inner := []) (ok := fun _ => True) (okp := fun _ => True) ?hr ?hp (fun _ hk => hk) trivial (Below.refl _ _) (Nat.le_refl _) (by simp) ?_; (case hd => rfl); (case hg => rfl); (case hr => first | (go_simp; done) | (go_simp; rfl)); (case hp => exact (Reps.none _ _)); intro v235 w3 ho4 hb hg_ hnew_; clear hg_ hnew_; (first | rw [← Ny234.out] at ho4 | (simp only [Int.reduceToNat] at ho4; rw [← Ny234.out] at ho4)); have n0_ := Gv.a0 (Kd.R_lower ho4 (below_size Gv.bw)); have n1_ := Gv.a0 (Gv.bb BK233.out hb); have n2_ := Gv.a0 (below_step Gv.bw hb); clear BK233; clear HB; have HO236 := n0_; have BK233 := n1_; have HB := n2_; clear n0_ n1_ n2_; clear hb ho4; have hcz5_0 : w3.cell? ⟨gb233, 0, none⟩ = some (.int .i64 a0_0) := (blk_cell BK233.out 0).trans rfl; have hcz5_1 : w3.cell? ⟨gb233, 1, none⟩ = some (.slice A0_1 l0_1.length c0_1) := (blk_cell BK233.out 1).trans rfl; have hfz5_0 := blk_frozen BK233.out 0; have hfz5_1 := blk_frozen BK233.out 1))
 go_loopg [3, 10] k (fun kq v3 v10 w' => ∃ (x3_1 : List (S50)) (x10_1 : Int), v10 = .int .i64 x10_1 ∧ Aside0 (impl_Wheel_timers.l0 kq x3_1 l0_1 (l0_1.length : Int) x10_1 = some r) ∧ Aside0 (kq ≤ k) ∧ Aside0 (Kd.R k50 50 w' w.heap.size (fun _ => True) v3 x3_1) ∧ Aside0 (w'.heap[gb233]? = some (.cells #[.int .i64 a0_0, (.slice A0_1 l0_1.length c0_1)] 24 (0, 0))) ∧ Aside0 (Below w.heap.size w w'))
 case atStart => exact ⟨(y234), (0), Gv.rq, H', ⟨Nat.le_refl _⟩, ⟨Gv.kr HO236.out⟩, ⟨by (with_reducible repeat (first | refine blk_drewN ?_ _ | refine blk_drew ?_ | refine blk_alloc ?_ _)); exact BK233.out⟩, ⟨Gv.bw⟩⟩
 case round =>
  clear H'
  try clear p2
  try clear c3
  try clear hcz5_0 hcz5_1
  try clear hfz5_0 hfz5_1
  obtain ⟨x3_1, x10_1, rfl, HA, HK1, HO_3, BK233, HB⟩ := hrel
  cases gk with
  | zero => exact absurd HA.out (by simp [impl_Wheel_timers.l0])
  | succ k1 =>
   have H := HA.out
   clear HA
   simp only [impl_Wheel_timers.l0] at H
   by_cases c6 : x10_1 < (l0_1.length : Int)
   ·rw [if_pos c6] at H
    have c6b0 : decide (x10_1 < (l0_1.length : Int)) = true := decide_eq_true c6
    clear c6
    by_cases c7 : 0 ≤ x10_1
    ·rw [if_pos c7] at H
     have c7b0 : decide (0 ≤ x10_1) = true := decide_eq_true c7
     clear c7
     by_cases c8 : x10_1 < (l0_1.length : Int)
     ·rw [if_pos c8] at H
      have c8b0 : decide (x10_1 < (l0_1.length : Int)) = true := decide_eq_true c8
      clear c8
      by_cases c9 : x3_1.length + ((rd_T47 l0_1 x10_1).f0).length < 8796093022208
      ·rw [if_pos c9] at H
       have LMc9 := Gv.a0 c9
       clear c9
       obtain ⟨y239, hy239⟩ : ∃ y_ : List (S50), y_ = (x3_1 ++ ((rd_T47 l0_1 x10_1).f0)) := ⟨_, rfl⟩
       replace H : (impl_Wheel_timers.l0 k1 y239 l0_1 (l0_1.length : Int) (wrap64 (x10_1 + 1))) = some r := by first | (rw [hy239]; with_reducible exact H) | (have H2_ := (Option.bind_some _ _).symm.trans H; rw [hy239]; with_reducible exact H2_) | (have H2_ := (Option.bind_some _ _).symm.trans H; with_reducible exact H2_) | with_reducible exact H | (rw [hy239]; exact H) | exact H
       have Ny239 := Gv.a0 hy239
       clear hy239
       have H' := Gv.a0 H
       clear H
       have p237 : 0 ≤ (x10_1 : Int) := of_decide_eq_true (by first | (with_reducible assumption) | assumption)
       have q237 : x10_1 < (l0_1.length : Int) := of_decide_eq_true (by first | (with_reducible assumption) | assumption)
       obtain ⟨ad237, A237_0, c237_0, e237, hx237_0, hl237_0, hi237_0⟩ := at_T47 HR0_1.out x10_1 p237 q237
       cases e237
       replace hx237_0 := Gv.bx HB.out hx237_0
       have HR237_0 := Gv.a0 hi237_0
       have HC237_0 := Gv.a0 hl237_0
       clear hi237_0 hl237_0
       replace p237 := eq_true p237
       replace q237 := eq_true q237
       go_wp2_with (first | ((with_reducible refine gate_dst (N := 5) rfl ?_); refine box_event ?hg (N := 5) ?hd (cs := #[.slice none 0 0]) (t := 47) ?hr ?_; (case hd => rfl); (case hg => rfl); (case hr => first | (go_simp; done) | (go_simp; rfl)); intro gb238 hg w10 hbox hb; have n0_ := Gv.a0 (Kd.R_below (Gv.kr HO_3.out) hb); have n1_ := Gv.a0 (Gv.bb BK233.out hb); have n2_ := Gv.a0 (below_step Gv.bw hb); have n3_ := Gv.a0 (hbox); have n4_ := Gv.a0 ((Gv.ble hg Gv.bw : w.heap.size ≤ gb238)); have n5_ := Gv.a0 ((Gv.ble hg Gv.bw : w.heap.size ≤ gb238)); have n6_ := Gv.a0 ((Gv.nlt hg (Gv.kb BK233.out) : gb233 ≠ gb238)); have n7_ := Gv.a0 ((Gv.ngt hg (Gv.kb BK233.out) : gb238 ≠ gb233)); clear HO_3; clear BK233; clear HB; have HO_3 := n0_; have BK233 := n1_; have HB := n2_; have BK238 := n3_; have GW238 := n4_; have GE238 := n5_; have NB233_238 := n6_; have NB238_233 := n7_; clear n0_ n1_ n2_ n3_ n4_ n5_ n6_ n7_; clear hb hbox hg; have hnb11 := NB238_233.out; have hnc11 := NB233_238.out; have hcz12_0 : w10.cell? ⟨gb238, 0, none⟩ = some (.slice none 0 0) := (blk_cell BK238.out 0).trans rfl; have hfz12_0 := blk_frozen BK238.out 0) | ((with_reducible refine gate_builtin (b := .append) (xs := #[.tmp 14, .tmp 16]) rfl ?_); at_builtin; refine Kd.R_append_rows k50 (w0 := w) w.heap.size rfl (.tmp 14) (.tmp 16) 45 50 (.agg #[(.int .i64 0), (.int .i64 0)]) 16 rfl Try.underlying45 info50 rfl (by decide) (by omega) u3 x3_1 ((rd_T47 l0_1 x10_1).f0) _ _ _ (fun _ => True) (fun _ => False) rfl rfl ?aO ?aR (fun _ _ h => h) (fun _ h => h.elim) ?aF ?aB ?aS ?aL ?_; (case aR => exact Kd.C_below HR237_0.out Gv.bw); (case aB => exact Gv.bw); (case aF => exact (fun _ _ => trivial)); (case aO => exact (by (with_reducible repeat (first | apply Kd.R_alloc | apply Kd.R_drewN | apply Kd.R_drew)); exact Kd.R_mono (Kd.R_far (p := ⟨gb238, 0, none⟩) (Kd.R_types HO_3.out BK238.out (by decide)) (fun _ hk => hk.2) (.slice A237_0 ((rd_T47 l0_1 x10_1).f0).length c237_0)) (fun _ hk => trivial))); (case aS => exact (below_size Gv.bw)); (case aL => have := LMc9.out; omega); intro v240 w13 ho hb hg hat; rw [← Ny239.out] at ho; have n0_ := Gv.a0 (blk_grown (g := gb233) (o := .cells #[.int .i64 a0_0, .slice (some ad237) l0_1.length c0_1] 24 (0, 0)) Gv.bkf hg (Kd.R_ne HO_3.out BK233.out (by decide))); have n1_ := Gv.a0 (blk_grown (g := gb238) (o := .cells #[.slice A237_0 ((rd_T47 l0_1 x10_1).f0).length c237_0] 47 (0, 0)) (by (with_reducible repeat (first | refine blk_drewN ?_ _ | refine blk_drew ?_ | refine blk_alloc ?_ _)); refine blk_put (cs := #[.slice none 0 0]) ?_ 0 _ rfl; (with_reducible repeat (first | refine blk_drewN ?_ _ | refine blk_drew ?_ | refine blk_alloc ?_ _)); exact BK238.out) hg (Kd.R_ne HO_3.out BK238.out (by decide))); have n2_ := Gv.a0 (hb); have n3_ := Gv.a0 (ho); clear BK233; clear BK238; clear HB; clear HO_3; have BK233 := n0_; have BK238 := n1_; have HB := n2_; have HO241 := n3_; clear n0_ n1_ n2_ n3_; clear ho hb hg hat))
       go_roundg k1
       case measure => have := HK1.out; omega
       case rel => exact ⟨(y239), (wrap64 (x10_1 + 1)), Gv.rq, H', ⟨by have := HK1.out; omega⟩, ⟨Gv.kr HO241.out⟩, ⟨by (with_reducible repeat (first | refine blk_drewN ?_ _ | refine blk_drew ?_ | refine blk_alloc ?_ _)); exact BK233.out⟩, ⟨Gv.bw⟩⟩
      ·rw [if_neg c9] at H
       exact absurd H (by simp)
     ·rw [if_neg c8] at H
      exact absurd H (by simp)
    ·rw [if_neg c7] at H
     exact absurd H (by simp)
   ·rw [if_neg c6] at H
    have c6b0 : decide (x10_1 < (l0_1.length : Int)) = false := decide_eq_false c6
    clear c6
    obtain rfl := Option.some.inj H
    go_wp2
    go_ret
    exact ⟨_, Gv.rt, Gv.kr HO_3.out, Gv.bw⟩

/-! ### impl_Timer_c45: function 44 over a closure -/
set_option maxHeartbeats 8000000 in
set_option maxRecDepth 100000 in
theorem impl_Timer_c45.idx (g : Nat) (lb : Array Value) (eg : ∀ args w, (callFunc g args).run Try.prog w = .ok (.enter g args) w) (p : S50 → Option Bool) (A0 : Option Addr) (c0 : Nat) (l0 : List S50) (r : Int) (w : World) (hr0 : Kd.C k50 w A0 l0.length l0)
    (hp : ∀ (W : World) (x : S50) (b : Bool), p x = some b → Below w.heap.size w W → Calls Try.prog g (#[.agg #[.int .i64 x.f0, .int .i64 x.f1]] ++ lb) W fun e w' => e = .returned (.bool b) ∧ Below W.heap.size W w') (h : Gv.idxO p l0 0 = some r) :
    Calls Try.prog 51 #[.slice A0 l0.length c0, .func (.func g) #[] lb] w fun e w' => e = .returned (.int .i64 r) ∧ Below w.heap.size w w' := by
  have hu50 := Try.underlying50
  have HR0 := Aside0.mk hr0
  have HP := Aside0.mk hp
  have hlm := hr0.2.1
  have H0 := Aside0.mk h
  clear hr0 hp h
  go_enter Try.func51, Try.ntmps51
  go_wp2
  go_loopg [5, 8] l0.length (fun gg _ s8 wr => ∃ kk : Nat, kk ≤ l0.length ∧ l0.length - kk ≤ gg ∧ s8 = .int .i64 kk ∧ Aside0 (Below w.heap.size w wr) ∧ Aside0 (Gv.idxO p (l0.drop kk) kk = some r))
  case atStart => exact ⟨0, Nat.zero_le _, by omega, rfl, ⟨Below.refl _ w⟩, ⟨H0.out⟩⟩
  case round =>
    obtain ⟨kk, hkk, hg, rfl, HB, HN⟩ := hrel
    by_cases hlt : kk < l0.length
    · have hltz : (kk : Int) < (l0.length : Int) := by omega
      have hk0 : 0 ≤ (kk : Int) := by omega
      obtain ⟨ad, e1, hx0, hx1⟩ := at_T50 (Kd.C_below HR0.out HB.out) (kk : Int) hk0 hltz
      cases e1
      obtain ⟨x_, hx_⟩ : ∃ x_, x_ = rd_T50 l0 kk := ⟨_, rfl⟩
      rw [← hx_, Int.toNat_natCast] at hx0 hx1
      have hN := HN.out
      have hget : l0.drop kk = x_ :: l0.drop (kk + 1) := by
        rw [hx_, List.drop_eq_getElem_cons hlt]
        congr 1
        unfold rd_T50
        rw [Int.toNat_natCast, List.getD_eq_getElem?_getD, List.getElem?_eq_getElem hlt]
        rfl
      rw [hget] at hN
      obtain ⟨b, hq, hN⟩ := Option.bind_eq_some_iff.mp hN
      have hcall := HP.out wr x_ b hq HB.out
      have HC := Aside0.mk hcall
      have HN2 := Aside0.mk hN
      clear hcall hN hq hget HN hx_
      cases b with
      | true =>
        have HRr := Aside0.mk (show (kk : Int) = r from Option.some.inj HN2.out)
        go_wp2_with (first | ((with_reducible refine Gv.gate_load (t := 50) rfl ?_); refine Gv.load_event (cs := [_, _]) rfl rfl rfl ⟨hx0, hx1, trivial⟩ Try.underlying50 rfl (by kernel_rfl) ?_))
        refine HC.out.mono ?_
        rintro e w' ⟨rfl, hb⟩
        have HB' := Aside0.mk (HB.out.trans (hb.mono HB.out.size))
        clear hb
        go_wp2_with fail
        go_ret
        exact ⟨by rw [← HRr.out]; rfl, HB'.out⟩
      | false =>
        go_wp2_with (first | ((with_reducible refine Gv.gate_load (t := 50) rfl ?_); refine Gv.load_event (cs := [_, _]) rfl rfl rfl ⟨hx0, hx1, trivial⟩ Try.underlying50 rfl (by kernel_rfl) ?_))
        refine HC.out.mono ?_
        rintro e w' ⟨rfl, hb⟩
        have HB' := Aside0.mk (HB.out.trans (hb.mono HB.out.size))
        clear hb
        go_wp2_with fail
        go_roundg (l0.length - (kk + 1))
        case measure => omega
        case rel =>
          have e_ : ((kk + 1 : Nat) : Int) = (kk : Int) + 1 := by omega
          exact ⟨kk + 1, by omega, by omega, by go_num, HB', ⟨by rw [e_]; exact HN2.out⟩⟩
    · have hltz : ¬ (kk : Int) < (l0.length : Int) := by omega
      have HRr := Aside0.mk (show (-1 : Int) = r from by
        have hN := HN.out
        rw [List.drop_eq_nil_of_le (by omega)] at hN
        exact Option.some.inj hN)
      go_wp2_with fail
      go_ret
      exact ⟨by rw [← HRr.out]; rfl, HB.out⟩
set_option maxHeartbeats 8000000 in
set_option maxRecDepth 100000 in
theorem impl_Timer_c45.clo (g0 : Nat) (c0_0 : Int) (x : S50) (b : Bool) (W : World) (hc0 : W.heap[g0]? = some (.cells #[.int .i64 c0_0] 3 (0, 0))) (h : (some (x.f0 == c0_0)) = some b) :
    Calls Try.prog 45 (#[.agg #[.int .i64 x.f0, .int .i64 x.f1]] ++ #[.pointer (some ⟨g0, 0, none⟩)]) W fun e w' => e = .returned (.bool b) ∧ Below W.heap.size W w' := by
  obtain rfl := Option.some.inj h
  have HC0 := Aside0.mk hc0
  clear hc0
  go_enter Try.func45, Try.ntmps45
  go_wp2_with (first | ((with_reducible refine gate_dst (N := 2) rfl ?_); refine box_event ?hg (N := 2) ?hd (cs := #[.int .i64 x.f0, .int .i64 x.f1]) (t := 50) ?hr ?_; (case hd => rfl); (case hg => rfl); (case hr => first | (go_simp; done) | (go_simp; rfl)); intro gbx hg w1 hbox hb; have n0_ := Aside0.mk (blk_below HC0.out hb); have HX := Aside0.mk hbox; have HB0 := Aside0.mk hb; clear HC0 hbox hb hg; have HC0 := n0_; clear n0_) | ((with_reducible refine Gv.gate_load (t := 3) rfl ?_); refine Gv.get_event (g := gbx) rfl rfl rfl HX.out rfl Try.underlying3 rfl ?_) | ((with_reducible refine Gv.gate_load (t := 3) rfl ?_); refine Gv.get_event (g := g0) rfl rfl rfl HC0.out rfl Try.underlying3 rfl ?_))
  all_goals go_ret
  all_goals exact ⟨by first | rfl | (simp; done) | (simp [eq_comm]; done), HB0.out⟩
def impl_Timer_c45.f (l0 : List S50) (c0_0 : Int) : Option Bool := (Gv.idxO (fun x : S50 => some (x.f0 == c0_0)) l0 0).bind fun i => some (decide (i ≥ 0))
set_option maxHeartbeats 8000000 in
set_option maxRecDepth 100000 in
theorem impl_Timer_c45.calls (A0 : Option Addr) (c0 : Nat) (l0 : List S50) (g0 : Nat) (c0_0 : Int) (r : Bool) (w : World) (hr0 : Kd.C k50 w A0 l0.length l0) (hc0_ : l0.length ≤ c0) (hc0 : w.heap[g0]? = some (.cells #[.int .i64 c0_0] 3 (0, 0))) (h : impl_Timer_c45.f l0 c0_0 = some r) :
    Calls Try.prog 44 #[.slice A0 l0.length c0, .func (.func 45) #[] #[.pointer (some ⟨g0, 0, none⟩)]] w fun e w' => e = .returned (.bool r) ∧ Below w.heap.size w w' := by
  unfold impl_Timer_c45.f at h
  obtain ⟨i, hi, h⟩ := Option.bind_eq_some_iff.mp h
  obtain rfl := Option.some.inj h
  have HR := Aside0.mk hr0
  have HI := Aside0.mk hi
  clear hr0 hi h
  go_enter Try.func44, Try.ntmps44
  go_wp2_with fail
  refine (impl_Timer_c45.idx 45 #[.pointer (some ⟨g0, 0, none⟩)] (enters_of Try.func45 (by kernel_rfl) rfl) (fun x => some (x.f0 == c0_0)) A0 c0 l0 i w HR.out (fun W x b hb hW => impl_Timer_c45.clo g0 c0_0 x b W (blk_below hc0 hW) hb) HI.out).mono ?_
  rintro e w' ⟨rfl, hb⟩
  have HB := Aside0.mk hb
  clear hb
  go_wp2_with fail
  go_ret
  exact ⟨rfl, HB.out⟩

/-! ### impl_Wheel_hasTimer: function 35 -/
def impl_Wheel_hasTimer.f (k : Nat) (a0_0 : Int) (l0_1 : List (S47)) (a1 : Int) : Option (Bool) := (impl_Wheel_timers.f k a0_0 l0_1).bind fun t244 => ((impl_Timer_c45.f t244 a1).bind fun t247 => (some t247))
theorem impl_Wheel_hasTimer.mono : ∀ a0 a1 a2 k, LeO (impl_Wheel_hasTimer.f k a0 a1 a2) (impl_Wheel_hasTimer.f (k + 1) a0 a1 a2) := by
 intro a0 a1 a2 k
 unfold impl_Wheel_hasTimer.f
 repeat' first
   | (with_reducible exact impl_Wheel_timers.mono _ _ _)
   | (with_reducible exact LeO.refl _)
   | (with_reducible exact LeO.none _)
   | (with_reducible refine LeO.ite ?_ ?_)
   | (with_reducible refine LeO.bind ?_ (fun _ => ?_))
   | exact impl_Wheel_timers.mono _ _ _
   | exact LeO.none _
   | refine LeO.ite ?_ ?_
   | refine LeO.bind ?_ (fun _ => ?_)
set_option maxHeartbeats 8000000 in
set_option maxRecDepth 100000 in
theorem impl_Wheel_hasTimer.calls (k : Nat) (a0_0 : Int) (A0_1 : Option Addr) (c0_1 : Nat) (l0_1 : List (S47)) (a1 : Int) (r : Bool) (w : World) (hr0_1 : Kd.C k47 w A0_1 l0_1.length l0_1) (hc0_1 : l0_1.length ≤ c0_1) (h : impl_Wheel_hasTimer.f k a0_0 l0_1 a1 = some r) :
  Calls Try.prog 35 #[.agg #[.int .i64 a0_0, .slice A0_1 l0_1.length c0_1], .int .i64 a1] w fun e w' => e = .returned (.bool r) ∧ Below w.heap.size w w' := by
 have hu24 := Try.underlying24
 have HR0_1 := Gv.a0 hr0_1
 have HC0_1 := Gv.a0 hc0_1
 clear hr0_1 hc0_1
 have HB := Gv.a0 (Below.refl w.heap.size w)
 have H : ((impl_Wheel_timers.f k a0_0 l0_1).bind fun t244 => ((impl_Timer_c45.f t244 a1).bind fun t247 => (some t247))) = some r := h
 clear h
 replace H := Option.bind_eq_some_iff.mp H
 obtain ⟨t244, A30, H⟩ := H
 replace H : ((impl_Timer_c45.f t244 a1).bind fun t247 => (some t247)) = some r := H
 have A3 := Gv.a0 A30
 clear A30
 replace H := Option.bind_eq_some_iff.mp H
 obtain ⟨t247, A40, H⟩ := H
 replace H : (some t247) = some r := H
 have A4 := Gv.a0 A40
 clear A40
 obtain rfl := Option.some.inj H
 have hmf : ∀ (fn : Fn) (first cap : Array Value) (w : World), (Instr.makeFunc fn first cap).run Try.prog w = .ok (.func fn first cap) w := fun _ _ _ _ => rfl
 go_enter Try.func35, Try.ntmps35
 go_wp2_with (first | ((with_reducible refine gate_dst (N := 2) rfl ?_); refine box_event ?hg (N := 2) ?hd (cs := #[.int .i64 a0_0, .slice A0_1 l0_1.length c0_1]) (t := 24) ?hr ?_; (case hd => rfl); (case hg => rfl); (case hr => first | (go_simp; done) | (go_simp; rfl)); intro gb242 hg w5 hbox hb; have n0_ := Gv.a0 (below_step Gv.bw hb); have n1_ := Gv.a0 (hbox); have n2_ := Gv.a0 ((Gv.ble hg Gv.bw : w.heap.size ≤ gb242)); have n3_ := Gv.a0 ((Gv.ble hg Gv.bw : w.heap.size ≤ gb242)); clear HB; have HB := n0_; have BK242 := n1_; have GW242 := n2_; have GE242 := n3_; clear n0_ n1_ n2_ n3_; clear hb hbox hg) | ((with_reducible refine gate_dst (N := 3) rfl ?_); refine box_event ?hg (N := 3) ?hd (cs := #[.int .i64 a1]) (t := 3) ?hr ?_; (case hd => rfl); (case hg => rfl); (case hr => first | (go_simp; done) | (go_simp; rfl)); intro gb243 hg w6 hbox hb; have n0_ := Gv.a0 (Gv.bb BK242.out hb); have n1_ := Gv.a0 (below_step Gv.bw hb); have n2_ := Gv.a0 (hbox); have n3_ := Gv.a0 ((Gv.ble hg Gv.bw : w.heap.size ≤ gb243)); have n4_ := Gv.a0 ((Gv.ble hg Gv.bw : w.heap.size ≤ gb243)); have n5_ := Gv.a0 ((Gv.nlt hg (Gv.kb BK242.out) : gb242 ≠ gb243)); have n6_ := Gv.a0 ((Gv.ngt hg (Gv.kb BK242.out) : gb243 ≠ gb242)); clear BK242; clear HB; have BK242 := n0_; have HB := n1_; have BK243 := n2_; have GW243 := n3_; have GE243 := n4_; have NB242_243 := n5_; have NB243_242 := n6_; clear n0_ n1_ n2_ n3_ n4_ n5_ n6_; clear hb hbox hg; have hnb7 := NB242_243.out; have hnc7 := NB243_242.out; have hcz8_0 : w6.cell? ⟨gb242, 0, none⟩ = some (.int .i64 a0_0) := (blk_cell BK242.out 0).trans rfl; have hcz8_1 : w6.cell? ⟨gb242, 1, none⟩ = some (.slice A0_1 l0_1.length c0_1) := (blk_cell BK242.out 1).trans rfl; have hfz8_0 := blk_frozen BK242.out 0; have hfz8_1 := blk_frozen BK242.out 1) | ((with_reducible refine gate_callee (f := 32) rfl ?_); refine goesL_ (some 6) rfl rfl Try.func32 (by kernel_rfl) rfl #[.agg #[.int .i64 a0_0, .slice A0_1 l0_1.length c0_1]] rfl Gv.lm ?_; (with_reducible refine (impl_Wheel_timers.calls k a0_0 _ _ l0_1 t244 _ ?side1 ?side2 A3.out).mono ?_); (case side1 => repeat (first | exact (Kd.C_below HR0_1.out HB.out) | (with_reducible refine Kd.C_alloc ?_ _) | (with_reducible refine Kd.C_drewN ?_ _) | (with_reducible refine Kd.C_drew ?_))); (case side2 => exact HC0_1.out); rintro e w9 ⟨v245, rfl, ho0, hb⟩; refine ⟨_, rfl, ?_⟩; have n0_ := Gv.a0 (Kd.R_lower ho0 (below_size Gv.bw)); have n1_ := Gv.a0 (Gv.bb BK242.out hb); have n2_ := Gv.a0 (Gv.bb BK243.out hb); have n3_ := Gv.a0 (below_step Gv.bw hb); clear BK242; clear BK243; clear HB; have HO246 := n0_; have BK242 := n1_; have BK243 := n2_; have HB := n3_; clear n0_ n1_ n2_ n3_; (try clear hb); (try clear hb2); (try clear hk); (try clear hi); (try clear ho0); obtain ⟨Ao10, co10, eo10⟩ := Kd.R_slice HO246.out; subst eo10) | ((with_reducible refine gate_callee (f := 44) rfl ?_); refine goesL_ (some 8) rfl rfl Try.func44 (by kernel_rfl) rfl #[.slice Ao10 t244.length co10, .func (.func 45) #[] #[.pointer (some ⟨gb243, 0, none⟩)]] rfl Gv.lm ?_; (with_reducible refine (impl_Timer_c45.calls _ _ t244 gb243 a1 t247 _ ?side1 ?side2 ?side3 A4.out).mono ?_); (case side1 => repeat (first | exact (Kd.R_reads' HO246.out).2.2 | (with_reducible refine Kd.C_alloc ?_ _) | (with_reducible refine Kd.C_drewN ?_ _) | (with_reducible refine Kd.C_drew ?_))); (case side2 => exact (Kd.R_reads' HO246.out).2.1); (case side3 => exact Gv.bk); rintro e w11 ⟨rfl, hb⟩; refine ⟨_, rfl, ?_⟩; have n0_ := Gv.a0 (Kd.R_below (Gv.kr HO246.out) hb); have n1_ := Gv.a0 (Gv.bb BK242.out hb); have n2_ := Gv.a0 (Gv.bb BK243.out hb); have n3_ := Gv.a0 (below_step Gv.bw hb); clear HO246; clear BK242; clear BK243; clear HB; have HO246 := n0_; have BK242 := n1_; have BK243 := n2_; have HB := n3_; clear n0_ n1_ n2_ n3_; (try clear hb); (try clear hb2); (try clear hk); (try clear hi)))
 go_ret
 exact ⟨Gv.rt, Gv.bw⟩

/-! ### impl_Timer: function 47 -/
def impl_Timer.f (l0 : List (S50)) : Option ((List (S50))) := (some (([] : List (S50)) : List (S50))).bind fun y248 => (if y248.length + l0.length < 8796093022208 then (some (y248 ++ l0)) else (none))
set_option maxHeartbeats 8000000 in
set_option maxRecDepth 100000 in
theorem impl_Timer.calls (A0 : Option Addr) (c0 : Nat) (l0 : List (S50)) (r : List (S50)) (w : World) (hr0 : Kd.C k50 w A0 l0.length l0) (hc0 : l0.length ≤ c0) (h : impl_Timer.f l0 = some r) :
  Calls Try.prog 47 #[.slice A0 l0.length c0] w fun e w' => ∃ v0_ : Value, e = .returned (v0_) ∧ Kd.R k50 50 w' w.heap.size (fun _ => True) v0_ r ∧ Below w.heap.size w w' := by
 have HR0 := Gv.a0 hr0
 have HC0 := Gv.a0 hc0
 clear hr0 hc0
 have HB := Gv.a0 (Below.refl w.heap.size w)
 have H : ((some (([] : List (S50)) : List (S50))).bind fun y248 => (if y248.length + l0.length < 8796093022208 then (some (y248 ++ l0)) else (none))) = some r := h
 clear h
 obtain ⟨y248, hy248⟩ : ∃ y_ : List (S50), y_ = (([] : List (S50))) := ⟨_, rfl⟩
 replace H : (if y248.length + l0.length < 8796093022208 then (some (y248 ++ l0)) else (none)) = some r := by first | (rw [hy248]; with_reducible exact H) | (have H2_ := (Option.bind_some _ _).symm.trans H; rw [hy248]; with_reducible exact H2_) | (have H2_ := (Option.bind_some _ _).symm.trans H; with_reducible exact H2_) | with_reducible exact H | (rw [hy248]; exact H) | exact H
 have Ny248 := Gv.a0 hy248
 clear hy248
 by_cases c2 : y248.length + l0.length < 8796093022208
 ·rw [if_pos c2] at H
  have LMc2 := Gv.a0 c2
  clear c2
  obtain ⟨y251, hy251⟩ : ∃ y_ : List (S50), y_ = (y248 ++ l0) := ⟨_, rfl⟩
  replace H : (some y251) = some r := by first | (rw [hy251]; with_reducible exact H) | (have H2_ := (Option.bind_some _ _).symm.trans H; rw [hy251]; with_reducible exact H2_) | (have H2_ := (Option.bind_some _ _).symm.trans H; with_reducible exact H2_) | with_reducible exact H | (rw [hy251]; exact H) | exact H
  have Ny251 := Gv.a0 hy251
  clear hy251
  obtain rfl := Option.some.inj H
  have q_ : ∀ (w : World) (a : Option Addr) (n c n' c' : Nat), (binOp .eql 45 (.slice a n c) (.slice none n' c')).run Try.prog w = .ok (.bool a.isNone) w := fun w a n c n' c' => Lib.run_eql_slice_nil w _ _ a n c n' c' Try.underlying45
  rcases A0 with _ | a0_
  ·have hl : l0 = [] := by
    rcases Nat.eq_zero_or_pos l0.length with h0 | h0
    ·exact List.length_eq_zero_iff.1 h0
    ·obtain ⟨ad, e, _⟩ := HR0.out.2.2 h0
     cases e
   have e_ : y251 = [] := by rw [Ny251.out, Ny248.out, hl]; rfl
   rw [e_]
   clear e_ hl
   go_enter Try.func47, Try.ntmps47
   go_wp2
   go_ret
   exact ⟨_, rfl, Kd.R_nil _ _ _ _ _, HB.out⟩
  go_enter Try.func47, Try.ntmps47
  go_wp2_with (first | ((with_reducible refine gate_dst (N := 5) rfl ?_); refine Kd.R_lit k50 _ 50 ?hg (N := 5) ?hd (xs := ([] : List (S50))) (inner := []) (ok := fun _ => True) (okp := fun _ => True) ?hr ?hp (fun _ hk => hk) trivial (Below.refl _ _) (Nat.le_refl _) (by simp) ?_; (case hd => rfl); (case hg => rfl); (case hr => first | (go_simp; done) | (go_simp; rfl)); (case hp => exact (Reps.none _ _)); intro v249 w3 ho4 hb hg_ hnew_; clear hg_ hnew_; (first | rw [← Ny248.out] at ho4 | (simp only [Int.reduceToNat] at ho4; rw [← Ny248.out] at ho4)); have n0_ := Gv.a0 (Kd.R_lower ho4 (below_size Gv.bw)); have n1_ := Gv.a0 (below_step Gv.bw hb); clear HB; have HO250 := n0_; have HB := n1_; clear n0_ n1_; clear hb ho4) | ((with_reducible refine gate_builtin (b := .append) (xs := #[.tmp 5, .tmp 6]) rfl ?_); at_builtin; refine Kd.R_append_rows k50 (w0 := w) w.heap.size rfl (.tmp 5) (.tmp 6) 45 50 (.agg #[(.int .i64 0), (.int .i64 0)]) 16 rfl Try.underlying45 info50 rfl (by decide) (by omega) v249 y248 l0 _ _ _ (fun _ => True) (fun _ => False) rfl rfl ?aO ?aR (fun _ _ h => h) (fun _ h => h.elim) ?aF ?aB ?aS ?aL ?_; (case aR => repeat (first | exact (Kd.C_below HR0.out HB.out) | (with_reducible refine Kd.C_alloc ?_ _) | (with_reducible refine Kd.C_drewN ?_ _) | (with_reducible refine Kd.C_drew ?_))); (case aB => exact Gv.bw); (case aF => exact (fun _ _ => trivial)); (case aO => exact (Gv.kr HO250.out)); (case aS => exact (below_size Gv.bw)); (case aL => have := LMc2.out; omega); intro v252 w5 ho hb hg hat; rw [← Ny251.out] at ho; have n0_ := Gv.a0 (hb); have n1_ := Gv.a0 (ho); clear HB; clear HO250; have HB := n0_; have HO253 := n1_; clear n0_ n1_; clear ho hb hg hat))
  go_ret
  exact ⟨_, Gv.rt, Gv.kr HO253.out, Gv.bw⟩
 ·rw [if_neg c2] at H
  exact absurd H (by simp)

end Go.Proofs.Ytbfbfaoolkbodaa.PWs
