/- Plain Lean functions of a law's Go functions, their contracts, by a program of this session (wip/pr.py over the kit's print). -/
import Derived.Test.YtbpkmdghloapjaaPCcx0
import Derived.Test.YtbpkmdghloapjaaPCcx2
import Derived.Test.YtbpkmdghloapjaaPCcx6
namespace Go.Proofs.Ytbpkmdghloapjaa.PCc
open Go.RowKit Go.Proofs.YtbpkmdghloapjaaW.PrintWords Go.Proofs.YtbpkmdghloapjaaW.PrintLast Go.Proofs.YtbpkmdghloapjaaW.PrintMore
attribute [local go_sem] max2_int min2_int max_two min_two max_three min_three max_four min_four   -- for this text's walks alone
set_option linter.unusedVariables false
set_option linter.unusedSimpArgs false

attribute [local go_sem high] eqA29
/-! ### spec_ChainCost: function 22 -/
mutual
def spec_ChainCost.j0 : Nat → List (S75) → List (S38) → Int → Bool → Option (Int × Int × Int)
 | 0, _, _, _, _ => none
 | k + 1, x0, x1, x2, x26 => if x26 = true then (some (0, 0, 0)) else (spec_ChainCost.l0 k x0 x1 x2 0)
def spec_ChainCost.l0 : Nat → List (S75) → List (S38) → Int → Int → Option (Int × Int × Int)
 | 0, _, _, _, _ => none
 | k + 1, x0, x1, x2, x7 => if x7 < 7 then (if 0 ≤ x7 then (if x7 < (x0.length : Int) then ((spec_ProfOk.f ((rd_T75 x0 x7).f0.f0) ((rd_T75 x0 x7).f0.f1) ((rd_T75 x0 x7).f0.f2) ((rd_T75 x0 x7).f1.f0) ((rd_T75 x0 x7).f1.f1) ((rd_T75 x0 x7).f1.f2)).bind fun t276 => (if t276 = true then (spec_ChainCost.l0 k x0 x1 x2 (wrap64 (x7 + 1))) else (some (0, 0, 0)))) else (none)) else (none)) else (spec_ChainCost.l1 k x0 x1 x2 0 0 0 0)
def spec_ChainCost.l1 : Nat → List (S75) → List (S38) → Int → Int → Int → Int → Int → Option (Int × Int × Int)
 | 0, _, _, _, _, _, _, _ => none
 | k + 1, x0, x1, x2, x9, x278000, x278001, x278002 => if x9 < (x1.length : Int) then (if 0 ≤ x9 then (if 0 ≤ (wrap64 (((rd_T38 x1 x9).f0) - 1)) then (if (wrap64 (((rd_T38 x1 x9).f0) - 1)) < (x0.length : Int) then ((spec_ProfCost.f ((rd_T75 x0 (wrap64 (((rd_T38 x1 x9).f0) - 1))).f0.f0) ((rd_T75 x0 (wrap64 (((rd_T38 x1 x9).f0) - 1))).f0.f1) ((rd_T75 x0 (wrap64 (((rd_T38 x1 x9).f0) - 1))).f0.f2) ((rd_T75 x0 (wrap64 (((rd_T38 x1 x9).f0) - 1))).f1.f0) ((rd_T75 x0 (wrap64 (((rd_T38 x1 x9).f0) - 1))).f1.f1) ((rd_T75 x0 (wrap64 (((rd_T38 x1 x9).f0) - 1))).f1.f2) x2).bind fun bt280 => (spec_ChainCost.l1 k x0 x1 x2 (wrap64 (x9 + 1)) (wrap64 (x278000 + bt280.1)) (wrap64 (x278001 + bt280.2.1)) (wrap64 (x278002 + bt280.2.2)))) else (none)) else (none)) else (none)) else ((spec_Clip.f x278000 1 1000).bind fun t284 => ((spec_Clip.f x278001 1 1000).bind fun t285 => ((spec_Clip.f x278002 1 1000).bind fun t286 => (some (t284, t285, t286)))))
end
def spec_ChainCost.f (k : Nat) (l0 : List (S75)) (l1 : List (S38)) (a2 : Int) : Option (Int × Int × Int) := if (l0.length : Int) = 7 then ((spec_ChainOk.f k l1).bind fun t274 => (if t274 = true then (if a2 < 0 then (spec_ChainCost.j0 k l0 l1 a2 true) else (spec_ChainCost.j0 k l0 l1 a2 (decide (a2 > 1600)))) else (spec_ChainCost.j0 k l0 l1 a2 true))) else (spec_ChainCost.j0 k l0 l1 a2 true)
theorem spec_ChainCost.mono_l : ∀ k, (∀ y0 y1 y2 y3, LeO (spec_ChainCost.j0 k y0 y1 y2 y3) (spec_ChainCost.j0 (k + 1) y0 y1 y2 y3)) ∧ (∀ y0 y1 y2 y3, LeO (spec_ChainCost.l0 k y0 y1 y2 y3) (spec_ChainCost.l0 (k + 1) y0 y1 y2 y3)) ∧ (∀ y0 y1 y2 y3 y4 y5 y6, LeO (spec_ChainCost.l1 k y0 y1 y2 y3 y4 y5 y6) (spec_ChainCost.l1 (k + 1) y0 y1 y2 y3 y4 y5 y6))
 | 0 => ⟨fun _ _ _ _ r h => by simp [spec_ChainCost.j0] at h, fun _ _ _ _ r h => by simp [spec_ChainCost.l0] at h, fun _ _ _ _ _ _ _ r h => by simp [spec_ChainCost.l1] at h⟩
 | k + 1 => by
  obtain ⟨ih0, ih1, ih2⟩ := spec_ChainCost.mono_l k
  refine ⟨?_, ?_, ?_⟩
  ·intro y0 y1 y2 y3
   unfold spec_ChainCost.j0
   repeat' first
   | (with_reducible exact ih0 _ _ _ _)
   | (with_reducible exact ih1 _ _ _ _)
   | (with_reducible exact ih2 _ _ _ _ _ _ _)
   | (with_reducible exact spec_ChainOk.mono _ _)
   | (with_reducible exact LeO.refl _)
   | (with_reducible exact LeO.none _)
   | (with_reducible refine LeO.ite ?_ ?_)
   | (with_reducible refine LeO.bind ?_ (fun _ => ?_))
   | exact ih0 _ _ _ _
   | exact ih1 _ _ _ _
   | exact ih2 _ _ _ _ _ _ _
   | exact spec_ChainOk.mono _ _
   | exact LeO.none _
   | refine LeO.ite ?_ ?_
   | refine LeO.bind ?_ (fun _ => ?_)
  ·intro y0 y1 y2 y3
   unfold spec_ChainCost.l0
   repeat' first
   | (with_reducible exact ih0 _ _ _ _)
   | (with_reducible exact ih1 _ _ _ _)
   | (with_reducible exact ih2 _ _ _ _ _ _ _)
   | (with_reducible exact spec_ChainOk.mono _ _)
   | (with_reducible exact LeO.refl _)
   | (with_reducible exact LeO.none _)
   | (with_reducible refine LeO.ite ?_ ?_)
   | (with_reducible refine LeO.bind ?_ (fun _ => ?_))
   | exact ih0 _ _ _ _
   | exact ih1 _ _ _ _
   | exact ih2 _ _ _ _ _ _ _
   | exact spec_ChainOk.mono _ _
   | exact LeO.none _
   | refine LeO.ite ?_ ?_
   | refine LeO.bind ?_ (fun _ => ?_)
  ·intro y0 y1 y2 y3 y4 y5 y6
   unfold spec_ChainCost.l1
   repeat' first
   | (with_reducible exact ih0 _ _ _ _)
   | (with_reducible exact ih1 _ _ _ _)
   | (with_reducible exact ih2 _ _ _ _ _ _ _)
   | (with_reducible exact spec_ChainOk.mono _ _)
   | (with_reducible exact LeO.refl _)
   | (with_reducible exact LeO.none _)
   | (with_reducible refine LeO.ite ?_ ?_)
   | (with_reducible refine LeO.bind ?_ (fun _ => ?_))
   | exact ih0 _ _ _ _
   | exact ih1 _ _ _ _
   | exact ih2 _ _ _ _ _ _ _
   | exact spec_ChainOk.mono _ _
   | exact LeO.none _
   | refine LeO.ite ?_ ?_
   | refine LeO.bind ?_ (fun _ => ?_)
theorem spec_ChainCost.mono : ∀ a0 a1 a2 k, LeO (spec_ChainCost.f k a0 a1 a2) (spec_ChainCost.f (k + 1) a0 a1 a2) := by
 intro a0 a1 a2 k
 obtain ⟨ih0, ih1, ih2⟩ := spec_ChainCost.mono_l k
 unfold spec_ChainCost.f
 repeat' first
   | (with_reducible exact ih0 _ _ _ _)
   | (with_reducible exact ih1 _ _ _ _)
   | (with_reducible exact ih2 _ _ _ _ _ _ _)
   | (with_reducible exact spec_ChainOk.mono _ _)
   | (with_reducible exact LeO.refl _)
   | (with_reducible exact LeO.none _)
   | (with_reducible refine LeO.ite ?_ ?_)
   | (with_reducible refine LeO.bind ?_ (fun _ => ?_))
   | exact ih0 _ _ _ _
   | exact ih1 _ _ _ _
   | exact ih2 _ _ _ _ _ _ _
   | exact spec_ChainOk.mono _ _
   | exact LeO.none _
   | refine LeO.ite ?_ ?_
   | refine LeO.bind ?_ (fun _ => ?_)
def spec_ChainCost.T16 : Bool × List (List Nat × List Nat) := (true, [([], []), ([0], [0]), ([1], [1]), ([], []), ([3], [3]), ([4, 2], [4]), ([], []), ([6], [6]), ([7, 5], [7]), ([2, 5, 8], [2, 5, 8]), ([9, 8, 0, 1, 2, 3, 4, 5, 6, 7, 8, 9], [9])])
def spec_ChainCost.B16 : List Nat := [0, 1, 3, 0, 8, 31, 0, 64, 255, 511, 1023]
theorem spec_ChainCost.tab16 : rtab .any (opsOf Try.f22 16) = spec_ChainCost.T16 := by kernel_rfl
theorem spec_ChainCost.bits16 : waitsOk spec_ChainCost.T16.2 spec_ChainCost.B16 = true := by kernel_rfl
set_option maxHeartbeats 8000000 in
set_option maxRecDepth 100000 in
theorem spec_ChainCost.calls (k : Nat) (A0 : Option Addr) (c0 : Nat) (l0 : List (S75)) (A1 : Option Addr) (c1 : Nat) (l1 : List (S38)) (a2 : Int) (r1 : Int) (r2 : Int) (r3 : Int) (w : World) (hr0 : Kd.C k75 w A0 l0.length l0) (hc0 : l0.length ≤ c0) (hr1 : Kd.C k38 w A1 l1.length l1) (hc1 : l1.length ≤ c1) (h : spec_ChainCost.f k l0 l1 a2 = some (r1, r2, r3)) :
  Calls Try.prog 22 #[.slice A0 l0.length c0, .slice A1 l1.length c1, .int .i64 a2] w fun e w' => e = .returned (.agg #[.int .i64 r1, .int .i64 r2, .int .i64 r3]) ∧ Below w.heap.size w w' := by
 have hu51 := Try.underlying51
 have hu75 := Try.underlying75
 have HR0 := Gv.a0 hr0
 have HC0 := Gv.a0 hc0
 clear hr0 hc0
 have HR1 := Gv.a0 hr1
 have HC1 := Gv.a0 hc1
 clear hr1 hc1
 have HB := Gv.a0 (Below.refl w.heap.size w)
 have H : (if (l0.length : Int) = 7 then ((spec_ChainOk.f k l1).bind fun t274 => (if t274 = true then (if a2 < 0 then (spec_ChainCost.j0 k l0 l1 a2 true) else (spec_ChainCost.j0 k l0 l1 a2 (decide (a2 > 1600)))) else (spec_ChainCost.j0 k l0 l1 a2 true))) else (spec_ChainCost.j0 k l0 l1 a2 true)) = some (r1, r2, r3) := h
 clear h
 have HC4 := Gv.a0 H
 clear H
 go_enter Try.func22, Try.ntmps22
 go_upto_region 1 with (first | ((with_reducible refine gate_dst (N := 6) rfl ?_); refine box_event ?hg (N := 6) ?hd (cs := #[.int .i64 0, .int .i64 0, .int .i64 0]) (t := 51) ?hr ?_; (case hd => rfl); (case hg => rfl); (case hr => first | (go_simp; done) | (go_simp; rfl)); intro gb273 hg w5 hbox hb; have n0_ := Gv.a0 (below_step Gv.bw hb); have n1_ := Gv.a0 (hbox); have n2_ := Gv.a0 ((Gv.ble hg Gv.bw : w.heap.size ≤ gb273)); have n3_ := Gv.a0 ((Gv.ble hg Gv.bw : w.heap.size ≤ gb273)); clear HB; have HB := n0_; have BK273 := n1_; have GW273 := n2_; have GE273 := n3_; clear n0_ n1_ n2_ n3_; clear hb hbox hg))
 (try simp only [Act.put, List.setIfInBounds_toArray, List.set_cons_zero, List.set_cons_succ])
 go_cut [26] (fun v26 wc => ∃ (kq : Nat) (x26_3 : Bool), v26 = .bool x26_3 ∧ Aside0 (spec_ChainCost.j0 kq l0 l1 a2 x26_3 = some (r1, r2, r3)) ∧ Aside0 (kq ≤ k) ∧ Aside0 (wc.heap[gb273]? = some (.cells #[.int .i64 0, .int .i64 0, .int .i64 0] 51 (0, 0))) ∧ Aside0 (Below w.heap.size w wc))
 case first =>
  have H := HC4.out
  clear HC4
  by_cases c6 : (l0.length : Int) = 7
  ·rw [if_pos c6] at H
   have c6b0 : ((l0.length : Int) == 7) = true := beq_iff_eq.mpr c6
   have c6b1 : ((l0.length : Int) != 7) = false := bne_eq_false_iff_eq.mpr c6
   clear c6
   (first | rw [c6b0] | (simp only [i64_w, i32_w]; rw [c6b0]) | skip)
   replace H := Option.bind_eq_some_iff.mp H
   obtain ⟨t274, A70, H⟩ := H
   replace H : (if t274 = true then (if a2 < 0 then (spec_ChainCost.j0 k l0 l1 a2 true) else (spec_ChainCost.j0 k l0 l1 a2 (decide (a2 > 1600)))) else (spec_ChainCost.j0 k l0 l1 a2 true)) = some (r1, r2, r3) := H
   have A7 := Gv.a0 A70
   clear A70
   by_cases c8 : t274 = true
   ·subst c8
    have H1 : (if a2 < 0 then (spec_ChainCost.j0 k l0 l1 a2 true) else (spec_ChainCost.j0 k l0 l1 a2 (decide (a2 > 1600)))) = some (r1, r2, r3) := by rw [if_pos rfl] at H; exact H
    clear H
    have H := H1
    clear H1
    by_cases c9 : a2 < 0
    ·rw [if_pos c9] at H
     have c9b0 : decide (a2 < 0) = true := decide_eq_true c9
     clear c9
     have H' := Gv.a0 H
     clear H
     go_wp2_with (first | (go_at_call 17; (with_reducible refine (spec_ChainOk.calls k _ _ l1 true _ ?side1 ?side2 A7.out).mono ?_); (case side1 => repeat (first | exact (Kd.C_below HR1.out HB.out) | (with_reducible refine Kd.C_alloc ?_ _) | (with_reducible refine Kd.C_drewN ?_ _) | (with_reducible refine Kd.C_drew ?_))); (case side2 => exact HC1.out); rintro e w10 ⟨rfl, hb⟩; have n0_ := Gv.a0 (Gv.bb BK273.out hb); have n1_ := Gv.a0 (below_step Gv.bw hb); clear BK273; clear HB; have BK273 := n0_; have HB := n1_; clear n0_ n1_; (try clear hb); (try clear hb2); (try clear hk); (try clear hi)))
     go_meet
     case rel => exact ⟨_, (true), Gv.rq, H', ⟨by first | omega | exact Nat.le_refl _⟩, ⟨by (with_reducible repeat (first | refine blk_drewN ?_ _ | refine blk_drew ?_ | refine blk_alloc ?_ _)); exact BK273.out⟩, ⟨Gv.bw⟩⟩
    ·rw [if_neg c9] at H
     have c9b0 : decide (a2 < 0) = false := decide_eq_false c9
     clear c9
     have H' := Gv.a0 H
     clear H
     go_wp2_with (first | (go_at_call 17; (with_reducible refine (spec_ChainOk.calls k _ _ l1 true _ ?side1 ?side2 A7.out).mono ?_); (case side1 => repeat (first | exact (Kd.C_below HR1.out HB.out) | (with_reducible refine Kd.C_alloc ?_ _) | (with_reducible refine Kd.C_drewN ?_ _) | (with_reducible refine Kd.C_drew ?_))); (case side2 => exact HC1.out); rintro e w11 ⟨rfl, hb⟩; have n0_ := Gv.a0 (Gv.bb BK273.out hb); have n1_ := Gv.a0 (below_step Gv.bw hb); clear BK273; clear HB; have BK273 := n0_; have HB := n1_; clear n0_ n1_; (try clear hb); (try clear hb2); (try clear hk); (try clear hi)))
     go_meet
     case rel => exact ⟨_, (decide (a2 > 1600)), Gv.rq, H', ⟨by first | omega | exact Nat.le_refl _⟩, ⟨by (with_reducible repeat (first | refine blk_drewN ?_ _ | refine blk_drew ?_ | refine blk_alloc ?_ _)); exact BK273.out⟩, ⟨Gv.bw⟩⟩
   ·replace c8 := Bool.eq_false_iff.mpr c8
    subst c8
    have H1 : (spec_ChainCost.j0 k l0 l1 a2 true) = some (r1, r2, r3) := by rw [if_neg (show ¬ (false = true) by decide)] at H; exact H
    clear H
    have H := H1
    clear H1
    have H' := Gv.a0 H
    clear H
    go_wp2_with (first | (go_at_call 17; (with_reducible refine (spec_ChainOk.calls k _ _ l1 false _ ?side1 ?side2 A7.out).mono ?_); (case side1 => repeat (first | exact (Kd.C_below HR1.out HB.out) | (with_reducible refine Kd.C_alloc ?_ _) | (with_reducible refine Kd.C_drewN ?_ _) | (with_reducible refine Kd.C_drew ?_))); (case side2 => exact HC1.out); rintro e w12 ⟨rfl, hb⟩; have n0_ := Gv.a0 (Gv.bb BK273.out hb); have n1_ := Gv.a0 (below_step Gv.bw hb); clear BK273; clear HB; have BK273 := n0_; have HB := n1_; clear n0_ n1_; (try clear hb); (try clear hb2); (try clear hk); (try clear hi)))
    go_meet
    case rel => exact ⟨_, (true), Gv.rq, H', ⟨by first | omega | exact Nat.le_refl _⟩, ⟨by (with_reducible repeat (first | refine blk_drewN ?_ _ | refine blk_drew ?_ | refine blk_alloc ?_ _)); exact BK273.out⟩, ⟨Gv.bw⟩⟩
  ·rw [if_neg c6] at H
   have c6b0 : ((l0.length : Int) == 7) = false := beq_eq_false_iff_ne.mpr c6
   have c6b1 : ((l0.length : Int) != 7) = true := bne_iff_ne.mpr c6
   (first | rw [c6b0] | (simp only [i64_w, i32_w]; rw [c6b0]) | skip)
   have H' := Gv.a0 H
   clear H
   go_wp2
   go_meet
   case rel => exact ⟨_, (true), Gv.rq, H', ⟨by first | omega | exact Nat.le_refl _⟩, ⟨by (with_reducible repeat (first | refine blk_drewN ?_ _ | refine blk_drew ?_ | refine blk_alloc ?_ _)); exact BK273.out⟩, ⟨Gv.bw⟩⟩
 case rest =>
  clear HC4
  try clear c1
  try clear c2
  try clear p2
  try clear c6
  try clear c6b0
  try clear c6b1
  try clear c8
  try clear c9
  try clear c9b0
  obtain ⟨kq, x26_3, rfl, HA, HJ3, BK273, HB⟩ := hcut
  cases kq with
  | zero => exact absurd HA.out (by simp [spec_ChainCost.j0])
  | succ kj3 =>
   have H := HA.out
   clear HA
   simp only [spec_ChainCost.j0] at H
   by_cases c13 : x26_3 = true
   ·subst c13
    have H1 : (some (0, 0, 0)) = some (r1, r2, r3) := by rw [if_pos rfl] at H; exact H
    clear H
    have H := H1
    clear H1
    simp only [Option.some.injEq, Prod.mk.injEq] at H
    obtain ⟨rfl, rfl, rfl⟩ := H
    have hcz14_0 : wc.cell? ⟨gb273, 0, none⟩ = some (.int .i64 0) := (blk_cell BK273.out 0).trans rfl
    have hcz14_1 : wc.cell? ⟨gb273, 1, none⟩ = some (.int .i64 0) := (blk_cell BK273.out 1).trans rfl
    have hcz14_2 : wc.cell? ⟨gb273, 2, none⟩ = some (.int .i64 0) := (blk_cell BK273.out 2).trans rfl
    have hfz14_0 := blk_frozen BK273.out 0
    have hfz14_1 := blk_frozen BK273.out 1
    have hfz14_2 := blk_frozen BK273.out 2
    go_wp2
    refine bodyPost_ret (results_cell_row rfl _ _ gb273 51 #[.int .i64 0, .int .i64 0, .int .i64 0] (0, 0) _ rfl (by (with_reducible repeat (first | refine blk_drewN ?_ _ | refine blk_drew ?_ | refine blk_alloc ?_ _)); refine blk_put (cs := #[.int .i64 0, .int .i64 0, .int .i64 0]) ?_ 2 _ rfl; (with_reducible repeat (first | refine blk_drewN ?_ _ | refine blk_drew ?_ | refine blk_alloc ?_ _)); refine blk_put (cs := #[.int .i64 0, .int .i64 0, .int .i64 0]) ?_ 1 _ rfl; (with_reducible repeat (first | refine blk_drewN ?_ _ | refine blk_drew ?_ | refine blk_alloc ?_ _)); refine blk_put (cs := #[.int .i64 0, .int .i64 0, .int .i64 0]) ?_ 0 _ rfl; (with_reducible repeat (first | refine blk_drewN ?_ _ | refine blk_drew ?_ | refine blk_alloc ?_ _)); exact BK273.out) Try.underlying51 rfl (by kernel_rfl)) rfl ?_
    exact ⟨Gv.rt, Gv.bw⟩
   ·replace c13 := Bool.eq_false_iff.mpr c13
    subst c13
    have H1 : (spec_ChainCost.l0 kj3 l0 l1 a2 0) = some (r1, r2, r3) := by rw [if_neg (show ¬ (false = true) by decide)] at H; exact H
    clear H
    have H := H1
    clear H1
    have H' := Gv.a0 H
    clear H
    go_wp2
    go_loopg [7] kj3 (fun kq v7 w' => ∃ (x7_2 : Int) (x274000_2 : Int) (x274001_2 : Int) (x274002_2 : Int), v7 = .int .i64 x7_2 ∧ Aside0 (spec_ChainCost.l0 kq l0 l1 a2 x7_2 = some (r1, r2, r3)) ∧ Aside0 (kq ≤ kj3) ∧ Aside0 (w'.heap[gb273]? = some (.cells #[.int .i64 x274000_2, .int .i64 x274001_2, .int .i64 x274002_2] 51 (0, 0))) ∧ Aside0 (Below w.heap.size w w'))
    case atStart => exact ⟨(0), (0), (0), (0), Gv.rq, H', ⟨Nat.le_refl _⟩, ⟨by (with_reducible repeat (first | refine blk_drewN ?_ _ | refine blk_drew ?_ | refine blk_alloc ?_ _)); exact BK273.out⟩, ⟨Gv.bw⟩⟩
    case round =>
     clear H'
     try clear c1
     try clear c2
     try clear p2
     try clear c6
     try clear c6b0
     try clear c6b1
     try clear c8
     try clear c9
     try clear c9b0
     try clear c13
     try clear hcz14_0 hcz14_1 hcz14_2
     try clear hfz14_0 hfz14_1 hfz14_2
     try clear p2
     obtain ⟨x7_2, x274000_2, x274001_2, x274002_2, rfl, HA, HK2, BK273, HB⟩ := hrel
     cases gk with
     | zero => exact absurd HA.out (by simp [spec_ChainCost.l0])
     | succ k2 =>
      have H := HA.out
      clear HA
      simp only [spec_ChainCost.l0] at H
      by_cases c15 : x7_2 < 7
      ·rw [if_pos c15] at H
       have c15b0 : decide (x7_2 < 7) = true := decide_eq_true c15
       clear c15
       by_cases c16 : 0 ≤ x7_2
       ·rw [if_pos c16] at H
        have c16b0 : decide (0 ≤ x7_2) = true := decide_eq_true c16
        clear c16
        by_cases c17 : x7_2 < (l0.length : Int)
        ·rw [if_pos c17] at H
         have c17b0 : decide (x7_2 < (l0.length : Int)) = true := decide_eq_true c17
         clear c17
         replace H := Option.bind_eq_some_iff.mp H
         obtain ⟨t276, A180, H⟩ := H
         replace H : (if t276 = true then (spec_ChainCost.l0 k2 l0 l1 a2 (wrap64 (x7_2 + 1))) else (some (0, 0, 0))) = some (r1, r2, r3) := H
         have A18 := Gv.a0 A180
         clear A180
         by_cases c19 : t276 = true
         ·subst c19
          have H1 : (spec_ChainCost.l0 k2 l0 l1 a2 (wrap64 (x7_2 + 1))) = some (r1, r2, r3) := by rw [if_pos rfl] at H; exact H
          clear H
          have H := H1
          clear H1
          have H' := Gv.a0 H
          clear H
          have p275 : 0 ≤ (x7_2 : Int) := of_decide_eq_true (by first | (with_reducible assumption) | assumption)
          have q275 : x7_2 < (l0.length : Int) := of_decide_eq_true (by first | (with_reducible assumption) | assumption)
          obtain ⟨ad275, e275, hx275_0, hx275_1, hx275_2, hx275_3, hx275_4, hx275_5⟩ := at_T75 HR0.out x7_2 p275 q275
          cases e275
          replace hx275_0 := Gv.bx HB.out hx275_0
          replace hx275_1 := Gv.bx HB.out hx275_1
          replace hx275_2 := Gv.bx HB.out hx275_2
          replace hx275_3 := Gv.bx HB.out hx275_3
          replace hx275_4 := Gv.bx HB.out hx275_4
          replace hx275_5 := Gv.bx HB.out hx275_5
          replace p275 := eq_true p275
          replace q275 := eq_true q275
          go_wp2_with (first | ((with_reducible refine gate_callee (f := 49) rfl ?_); refine goesL_ (some 36) rfl rfl Try.func49 (by kernel_rfl) rfl #[.agg #[.int .i64 ((rd_T75 l0 x7_2).f0.f0), .int .i64 ((rd_T75 l0 x7_2).f0.f1), .int .i64 ((rd_T75 l0 x7_2).f0.f2), .int .i64 ((rd_T75 l0 x7_2).f1.f0), .int .i64 ((rd_T75 l0 x7_2).f1.f1), .int .i64 ((rd_T75 l0 x7_2).f1.f2)]] rfl Gv.lm ?_; (with_reducible refine (spec_ProfOk.calls _ _ _ _ _ _ true _ A18.out).mono ?_); rintro e w20 ⟨rfl, hb⟩; refine ⟨_, rfl, ?_⟩; have n0_ := Gv.a0 (Gv.bb BK273.out hb); have n1_ := Gv.a0 (below_step Gv.bw hb); clear BK273; clear HB; have BK273 := n0_; have HB := n1_; clear n0_ n1_; (try clear hb); (try clear hb2); (try clear hk); (try clear hi)))
          go_roundg k2
          case measure => have := HJ3.out; have := HK2.out; omega
          case rel => exact ⟨(wrap64 (x7_2 + 1)), (x274000_2), (x274001_2), (x274002_2), Gv.rq, H', ⟨by have := HJ3.out; have := HK2.out; omega⟩, ⟨by (with_reducible repeat (first | refine blk_drewN ?_ _ | refine blk_drew ?_ | refine blk_alloc ?_ _)); exact BK273.out⟩, ⟨Gv.bw⟩⟩
         ·replace c19 := Bool.eq_false_iff.mpr c19
          subst c19
          have H1 : (some (0, 0, 0)) = some (r1, r2, r3) := by rw [if_neg (show ¬ (false = true) by decide)] at H; exact H
          clear H
          have H := H1
          clear H1
          simp only [Option.some.injEq, Prod.mk.injEq] at H
          obtain ⟨rfl, rfl, rfl⟩ := H
          have p275 : 0 ≤ (x7_2 : Int) := of_decide_eq_true (by first | (with_reducible assumption) | assumption)
          have q275 : x7_2 < (l0.length : Int) := of_decide_eq_true (by first | (with_reducible assumption) | assumption)
          obtain ⟨ad275, e275, hx275_0, hx275_1, hx275_2, hx275_3, hx275_4, hx275_5⟩ := at_T75 HR0.out x7_2 p275 q275
          cases e275
          replace hx275_0 := Gv.bx HB.out hx275_0
          replace hx275_1 := Gv.bx HB.out hx275_1
          replace hx275_2 := Gv.bx HB.out hx275_2
          replace hx275_3 := Gv.bx HB.out hx275_3
          replace hx275_4 := Gv.bx HB.out hx275_4
          replace hx275_5 := Gv.bx HB.out hx275_5
          replace p275 := eq_true p275
          replace q275 := eq_true q275
          go_wp2_with (first | ((with_reducible refine gate_callee (f := 49) rfl ?_); refine goesL_ (some 36) rfl rfl Try.func49 (by kernel_rfl) rfl #[.agg #[.int .i64 ((rd_T75 l0 x7_2).f0.f0), .int .i64 ((rd_T75 l0 x7_2).f0.f1), .int .i64 ((rd_T75 l0 x7_2).f0.f2), .int .i64 ((rd_T75 l0 x7_2).f1.f0), .int .i64 ((rd_T75 l0 x7_2).f1.f1), .int .i64 ((rd_T75 l0 x7_2).f1.f2)]] rfl Gv.lm ?_; (with_reducible refine (spec_ProfOk.calls _ _ _ _ _ _ false _ A18.out).mono ?_); rintro e w21 ⟨rfl, hb⟩; refine ⟨_, rfl, ?_⟩; have n0_ := Gv.a0 (Gv.bb BK273.out hb); have n1_ := Gv.a0 (below_step Gv.bw hb); clear BK273; clear HB; have BK273 := n0_; have HB := n1_; clear n0_ n1_; (try clear hb); (try clear hb2); (try clear hk); (try clear hi); have hcz22_0 : w21.cell? ⟨gb273, 0, none⟩ = some (.int .i64 x274000_2) := (blk_cell BK273.out 0).trans rfl; have hcz22_1 : w21.cell? ⟨gb273, 1, none⟩ = some (.int .i64 x274001_2) := (blk_cell BK273.out 1).trans rfl; have hcz22_2 : w21.cell? ⟨gb273, 2, none⟩ = some (.int .i64 x274002_2) := (blk_cell BK273.out 2).trans rfl; have hfz22_0 := blk_frozen BK273.out 0; have hfz22_1 := blk_frozen BK273.out 1; have hfz22_2 := blk_frozen BK273.out 2))
          refine bodyPost_ret (results_cell_row rfl _ _ gb273 51 #[.int .i64 0, .int .i64 0, .int .i64 0] (0, 0) _ rfl (by (with_reducible repeat (first | refine blk_drewN ?_ _ | refine blk_drew ?_ | refine blk_alloc ?_ _)); refine blk_put (cs := #[.int .i64 0, .int .i64 0, .int .i64 x274002_2]) ?_ 2 _ rfl; (with_reducible repeat (first | refine blk_drewN ?_ _ | refine blk_drew ?_ | refine blk_alloc ?_ _)); refine blk_put (cs := #[.int .i64 0, .int .i64 x274001_2, .int .i64 x274002_2]) ?_ 1 _ rfl; (with_reducible repeat (first | refine blk_drewN ?_ _ | refine blk_drew ?_ | refine blk_alloc ?_ _)); refine blk_put (cs := #[.int .i64 x274000_2, .int .i64 x274001_2, .int .i64 x274002_2]) ?_ 0 _ rfl; (with_reducible repeat (first | refine blk_drewN ?_ _ | refine blk_drew ?_ | refine blk_alloc ?_ _)); exact BK273.out) Try.underlying51 rfl (by kernel_rfl)) rfl ?_
          exact ⟨Gv.rt, Gv.bw⟩
        ·rw [if_neg c17] at H
         exact absurd H (by simp)
       ·rw [if_neg c16] at H
        exact absurd H (by simp)
      ·rw [if_neg c15] at H
       have c15b0 : decide (x7_2 < 7) = false := decide_eq_false c15
       clear c15
       have H' := Gv.a0 H
       clear H
       go_wp2_with (first | ((with_reducible refine gate_dst (N := 8) rfl ?_); refine box_event ?hg (N := 8) ?hd (cs := #[.int .i64 0, .int .i64 0, .int .i64 0]) (t := 51) ?hr ?_; (case hd => rfl); (case hg => rfl); (case hr => first | (go_simp; done) | (go_simp; rfl)); intro gb277 hg w23 hbox hb; have n0_ := Gv.a0 (Gv.bb BK273.out hb); have n1_ := Gv.a0 (below_step Gv.bw hb); have n2_ := Gv.a0 (hbox); have n3_ := Gv.a0 ((Gv.ble hg Gv.bw : w.heap.size ≤ gb277)); have n4_ := Gv.a0 ((Gv.ble hg Gv.bw : w.heap.size ≤ gb277)); have n5_ := Gv.a0 ((Gv.nlt hg (Gv.kb BK273.out) : gb273 ≠ gb277)); have n6_ := Gv.a0 ((Gv.ngt hg (Gv.kb BK273.out) : gb277 ≠ gb273)); clear BK273; clear HB; have BK273 := n0_; have HB := n1_; have BK277 := n2_; have GW277 := n3_; have GE277 := n4_; have NB273_277 := n5_; have NB277_273 := n6_; clear n0_ n1_ n2_ n3_ n4_ n5_ n6_; clear hb hbox hg; have hnb24 := NB277_273.out; have hnc24 := NB273_277.out; have hcz25_0 : w23.cell? ⟨gb277, 0, none⟩ = some (.int .i64 0) := (blk_cell BK277.out 0).trans rfl; have hcz25_1 : w23.cell? ⟨gb277, 1, none⟩ = some (.int .i64 0) := (blk_cell BK277.out 1).trans rfl; have hcz25_2 : w23.cell? ⟨gb277, 2, none⟩ = some (.int .i64 0) := (blk_cell BK277.out 2).trans rfl; have hfz25_0 := blk_frozen BK277.out 0; have hfz25_1 := blk_frozen BK277.out 1; have hfz25_2 := blk_frozen BK277.out 2))
       go_loopg [9] k2 (fun kq v9 w' => ∃ (x9_3 : Int) (x278000_3 : Int) (x278001_3 : Int) (x278002_3 : Int), v9 = .int .i64 x9_3 ∧ Aside0 (spec_ChainCost.l1 kq l0 l1 a2 x9_3 x278000_3 x278001_3 x278002_3 = some (r1, r2, r3)) ∧ Aside0 (kq ≤ k2) ∧ Aside0 (w'.heap[gb273]? = some (.cells #[.int .i64 x274000_2, .int .i64 x274001_2, .int .i64 x274002_2] 51 (0, 0))) ∧ Aside0 (w'.heap[gb277]? = some (.cells #[.int .i64 x278000_3, .int .i64 x278001_3, .int .i64 x278002_3] 51 (0, 0))) ∧ Aside0 (Below w.heap.size w w'))
       case atStart => exact ⟨(0), (0), (0), (0), Gv.rq, H', ⟨Nat.le_refl _⟩, ⟨by (with_reducible repeat (first | refine blk_drewN ?_ _ | refine blk_drew ?_ | refine blk_alloc ?_ _)); refine blk_far ?_ NB273_277.out _; (with_reducible repeat (first | refine blk_drewN ?_ _ | refine blk_drew ?_ | refine blk_alloc ?_ _)); refine blk_far ?_ NB273_277.out _; (with_reducible repeat (first | refine blk_drewN ?_ _ | refine blk_drew ?_ | refine blk_alloc ?_ _)); refine blk_far ?_ NB273_277.out _; (with_reducible repeat (first | refine blk_drewN ?_ _ | refine blk_drew ?_ | refine blk_alloc ?_ _)); exact BK273.out⟩, ⟨by (with_reducible repeat (first | refine blk_drewN ?_ _ | refine blk_drew ?_ | refine blk_alloc ?_ _)); refine blk_put (cs := #[.int .i64 0, .int .i64 0, .int .i64 0]) ?_ 2 _ rfl; (with_reducible repeat (first | refine blk_drewN ?_ _ | refine blk_drew ?_ | refine blk_alloc ?_ _)); refine blk_put (cs := #[.int .i64 0, .int .i64 0, .int .i64 0]) ?_ 1 _ rfl; (with_reducible repeat (first | refine blk_drewN ?_ _ | refine blk_drew ?_ | refine blk_alloc ?_ _)); refine blk_put (cs := #[.int .i64 0, .int .i64 0, .int .i64 0]) ?_ 0 _ rfl; (with_reducible repeat (first | refine blk_drewN ?_ _ | refine blk_drew ?_ | refine blk_alloc ?_ _)); exact BK277.out⟩, ⟨Gv.bw⟩⟩
       case round =>
        clear H'
        try clear c1
        try clear c2
        try clear p2
        try clear q2
        try clear hx2
        try clear c4
        try clear c6
        try clear c6b0
        try clear c6b1
        try clear p6
        try clear c8
        try clear c9
        try clear c9b0
        try clear c13
        try clear c15
        try clear c15b0
        try clear c16
        try clear c16b0
        try clear c17
        try clear c17b0
        try clear c19
        try clear c22
        try clear c24
        try clear hcz14_0 hcz14_1 hcz14_2
        try clear hcz22_0 hcz22_1 hcz22_2
        try clear hcz25_0 hcz25_1 hcz25_2
        try clear hfz14_0 hfz14_1 hfz14_2
        try clear hfz22_0 hfz22_1 hfz22_2
        try clear hfz25_0 hfz25_1 hfz25_2
        try clear hx275_0
        try clear hx275_1
        try clear hx275_2
        try clear hx275_3
        try clear hx275_4
        try clear hx275_5
        try clear p2
        try clear p275
        try clear q275
        obtain ⟨x9_3, x278000_3, x278001_3, x278002_3, rfl, HA, HK3, BK273, BK277, HB⟩ := hrel
        cases gk with
        | zero => exact absurd HA.out (by simp [spec_ChainCost.l1])
        | succ k3 =>
         have H := HA.out
         clear HA
         simp only [spec_ChainCost.l1] at H
         by_cases c26 : x9_3 < (l1.length : Int)
         ·rw [if_pos c26] at H
          have c26b0 : decide (x9_3 < (l1.length : Int)) = true := decide_eq_true c26
          clear c26
          by_cases c27 : 0 ≤ x9_3
          ·rw [if_pos c27] at H
           have c27b0 : decide (0 ≤ x9_3) = true := decide_eq_true c27
           clear c27
           obtain ⟨ji28, hji28⟩ : ∃ j_ : Int, (wrap64 (((rd_T38 l1 x9_3).f0) - 1)) = j_ := ⟨_, rfl⟩
           replace H : (if 0 ≤ (ji28) then (if (ji28) < (l0.length : Int) then ((spec_ProfCost.f ((rd_T75 l0 (ji28)).f0.f0) ((rd_T75 l0 (ji28)).f0.f1) ((rd_T75 l0 (ji28)).f0.f2) ((rd_T75 l0 (ji28)).f1.f0) ((rd_T75 l0 (ji28)).f1.f1) ((rd_T75 l0 (ji28)).f1.f2) a2).bind fun bt280 => (spec_ChainCost.l1 k3 l0 l1 a2 (wrap64 (x9_3 + 1)) (wrap64 (x278000_3 + bt280.1)) (wrap64 (x278001_3 + bt280.2.1)) (wrap64 (x278002_3 + bt280.2.2)))) else (none)) else (none)) = some (r1, r2, r3) := by first | (rw [hji28] at H; exact H) | (simp only [hji28] at H ⊢; exact H)
           have hji28w : (IntKind.i64.wrap (((rd_T38 l1 x9_3).f0) - 1)) = ji28 := (i64_w _).trans hji28
           by_cases c29 : 0 ≤ (ji28)
           ·rw [if_pos c29] at H
            have c29b0 : decide (0 ≤ (ji28)) = true := decide_eq_true c29
            clear c29
            by_cases c30 : (ji28) < (l0.length : Int)
            ·rw [if_pos c30] at H
             have c30b0 : decide ((ji28) < (l0.length : Int)) = true := decide_eq_true c30
             clear c30
             replace H := Option.bind_eq_some_iff.mp H
             obtain ⟨⟨t280, t281, t282⟩, A310, H⟩ := H
             replace H : (spec_ChainCost.l1 k3 l0 l1 a2 (wrap64 (x9_3 + 1)) (wrap64 (x278000_3 + t280)) (wrap64 (x278001_3 + t281)) (wrap64 (x278002_3 + t282))) = some (r1, r2, r3) := H
             have A31 := Gv.a0 A310
             clear A310
             have H' := Gv.a0 H
             clear H
             have p278 : 0 ≤ (x9_3 : Int) := of_decide_eq_true (by first | (with_reducible assumption) | assumption)
             have q278 : x9_3 < (l1.length : Int) := of_decide_eq_true (by first | (with_reducible assumption) | assumption)
             obtain ⟨ad278, e278, hx278_0, _, _, _, _, _, _, _, _, _, _, _, _, _, _, _, _⟩ := at_T38 HR1.out x9_3 p278 q278
             cases e278
             replace hx278_0 := Gv.bx HB.out hx278_0
             replace p278 := eq_true p278
             replace q278 := eq_true q278
             have p279 : 0 ≤ ((ji28) : Int) := of_decide_eq_true (by first | (with_reducible assumption) | assumption)
             have q279 : (ji28) < (l0.length : Int) := of_decide_eq_true (by first | (with_reducible assumption) | assumption)
             obtain ⟨ad279, e279, hx279_0, hx279_1, hx279_2, hx279_3, hx279_4, hx279_5⟩ := at_T75 HR0.out (ji28) p279 q279
             cases e279
             replace hx279_0 := Gv.bx HB.out hx279_0
             replace hx279_1 := Gv.bx HB.out hx279_1
             replace hx279_2 := Gv.bx HB.out hx279_2
             replace hx279_3 := Gv.bx HB.out hx279_3
             replace hx279_4 := Gv.bx HB.out hx279_4
             replace hx279_5 := Gv.bx HB.out hx279_5
             replace p279 := eq_true p279
             replace q279 := eq_true q279
             go_wp2_with (first | ((with_reducible refine gate_callee (f := 50) rfl ?_); refine goesL_ (some 56) rfl rfl Try.func50 (by kernel_rfl) rfl #[.agg #[.int .i64 ((rd_T75 l0 (ji28)).f0.f0), .int .i64 ((rd_T75 l0 (ji28)).f0.f1), .int .i64 ((rd_T75 l0 (ji28)).f0.f2), .int .i64 ((rd_T75 l0 (ji28)).f1.f0), .int .i64 ((rd_T75 l0 (ji28)).f1.f1), .int .i64 ((rd_T75 l0 (ji28)).f1.f2)], .int .i64 a2] rfl (by (try simp only [List.map_toArray, List.map_cons, List.map_nil]); first | done | (simp only [hji28]; rfl) | rfl | (simp only [List.length_drop, List.length_take]; rfl)) ?_; (with_reducible refine (spec_ProfCost.calls ((rd_T75 l0 (ji28)).f0.f0) ((rd_T75 l0 (ji28)).f0.f1) ((rd_T75 l0 (ji28)).f0.f2) ((rd_T75 l0 (ji28)).f1.f0) ((rd_T75 l0 (ji28)).f1.f1) ((rd_T75 l0 (ji28)).f1.f2) a2 t280 t281 t282 _ A31.out).mono ?_); rintro e w32 ⟨rfl, hb⟩; refine ⟨_, rfl, ?_⟩; have n0_ := Gv.a0 (Gv.bb BK273.out hb); have n1_ := Gv.a0 (Gv.bb BK277.out hb); have n2_ := Gv.a0 (below_step Gv.bw hb); clear BK273; clear BK277; clear HB; have BK273 := n0_; have BK277 := n1_; have HB := n2_; clear n0_ n1_ n2_; (try clear hb); (try clear hb2); (try clear hk); (try clear hi)) | ((with_reducible refine gate_dst (N := 10) rfl ?_); refine box_event ?hg (N := 10) ?hd (cs := #[.int .i64 0, .int .i64 0, .int .i64 0]) (t := 51) ?hr ?_; (case hd => rfl); (case hg => rfl); (case hr => first | (go_simp; done) | (go_simp; rfl)); intro gb283 hg w33 hbox hb; have n0_ := Gv.a0 (Gv.bb BK273.out hb); have n1_ := Gv.a0 (Gv.bb BK277.out hb); have n2_ := Gv.a0 (below_step Gv.bw hb); have n3_ := Gv.a0 (hbox); have n4_ := Gv.a0 ((Gv.ble hg Gv.bw : w.heap.size ≤ gb283)); have n5_ := Gv.a0 ((Gv.ble hg Gv.bw : w.heap.size ≤ gb283)); have n6_ := Gv.a0 ((Gv.nlt hg (Gv.kb BK273.out) : gb273 ≠ gb283)); have n7_ := Gv.a0 ((Gv.ngt hg (Gv.kb BK273.out) : gb283 ≠ gb273)); have n8_ := Gv.a0 ((Gv.nlt hg (Gv.kb BK277.out) : gb277 ≠ gb283)); have n9_ := Gv.a0 ((Gv.ngt hg (Gv.kb BK277.out) : gb283 ≠ gb277)); clear BK273; clear BK277; clear HB; have BK273 := n0_; have BK277 := n1_; have HB := n2_; have BK283 := n3_; have GW283 := n4_; have GE283 := n5_; have NB273_283 := n6_; have NB283_273 := n7_; have NB277_283 := n8_; have NB283_277 := n9_; clear n0_ n1_ n2_ n3_ n4_ n5_ n6_ n7_ n8_ n9_; clear hb hbox hg; have hnb34 := NB283_273.out; have hnc34 := NB273_283.out; have hnb35 := NB283_277.out; have hnc35 := NB277_283.out; have hcz36_0 : w33.cell? ⟨gb283, 0, none⟩ = some (.int .i64 0) := (blk_cell BK283.out 0).trans rfl; have hcz36_1 : w33.cell? ⟨gb283, 1, none⟩ = some (.int .i64 0) := (blk_cell BK283.out 1).trans rfl; have hcz36_2 : w33.cell? ⟨gb283, 2, none⟩ = some (.int .i64 0) := (blk_cell BK283.out 2).trans rfl; have hfz36_0 := blk_frozen BK283.out 0; have hfz36_1 := blk_frozen BK283.out 1; have hfz36_2 := blk_frozen BK283.out 2; have hnb37 := NB277_273.out; have hnc37 := NB273_277.out; have hcz38_0 : w33.cell? ⟨gb277, 0, none⟩ = some (.int .i64 x278000_3) := (blk_cell BK277.out 0).trans rfl; have hcz38_1 : w33.cell? ⟨gb277, 1, none⟩ = some (.int .i64 x278001_3) := (blk_cell BK277.out 1).trans rfl; have hcz38_2 : w33.cell? ⟨gb277, 2, none⟩ = some (.int .i64 x278002_3) := (blk_cell BK277.out 2).trans rfl; have hfz38_0 := blk_frozen BK277.out 0; have hfz38_1 := blk_frozen BK277.out 1; have hfz38_2 := blk_frozen BK277.out 2))
             go_roundg k3
             case measure => have := HJ3.out; have := HK2.out; have := HK3.out; omega
             case rel => exact ⟨(wrap64 (x9_3 + 1)), (wrap64 (x278000_3 + t280)), (wrap64 (x278001_3 + t281)), (wrap64 (x278002_3 + t282)), Gv.rq, H', ⟨by have := HJ3.out; have := HK2.out; have := HK3.out; omega⟩, ⟨by (with_reducible repeat (first | refine blk_drewN ?_ _ | refine blk_drew ?_ | refine blk_alloc ?_ _)); refine blk_far ?_ NB273_277.out _; (with_reducible repeat (first | refine blk_drewN ?_ _ | refine blk_drew ?_ | refine blk_alloc ?_ _)); refine blk_far ?_ NB273_277.out _; (with_reducible repeat (first | refine blk_drewN ?_ _ | refine blk_drew ?_ | refine blk_alloc ?_ _)); refine blk_far ?_ NB273_277.out _; (with_reducible repeat (first | refine blk_drewN ?_ _ | refine blk_drew ?_ | refine blk_alloc ?_ _)); refine blk_far ?_ NB273_283.out _; (with_reducible repeat (first | refine blk_drewN ?_ _ | refine blk_drew ?_ | refine blk_alloc ?_ _)); refine blk_far ?_ NB273_283.out _; (with_reducible repeat (first | refine blk_drewN ?_ _ | refine blk_drew ?_ | refine blk_alloc ?_ _)); refine blk_far ?_ NB273_283.out _; (with_reducible repeat (first | refine blk_drewN ?_ _ | refine blk_drew ?_ | refine blk_alloc ?_ _)); exact BK273.out⟩, ⟨by (with_reducible repeat (first | refine blk_drewN ?_ _ | refine blk_drew ?_ | refine blk_alloc ?_ _)); refine blk_put (cs := #[.int .i64 (wrap64 (x278000_3 + t280)), .int .i64 (wrap64 (x278001_3 + t281)), .int .i64 x278002_3]) ?_ 2 _ rfl; (with_reducible repeat (first | refine blk_drewN ?_ _ | refine blk_drew ?_ | refine blk_alloc ?_ _)); refine blk_put (cs := #[.int .i64 (wrap64 (x278000_3 + t280)), .int .i64 x278001_3, .int .i64 x278002_3]) ?_ 1 _ rfl; (with_reducible repeat (first | refine blk_drewN ?_ _ | refine blk_drew ?_ | refine blk_alloc ?_ _)); refine blk_put (cs := #[.int .i64 x278000_3, .int .i64 x278001_3, .int .i64 x278002_3]) ?_ 0 _ rfl; (with_reducible repeat (first | refine blk_drewN ?_ _ | refine blk_drew ?_ | refine blk_alloc ?_ _)); refine blk_far ?_ NB277_283.out _; (with_reducible repeat (first | refine blk_drewN ?_ _ | refine blk_drew ?_ | refine blk_alloc ?_ _)); refine blk_far ?_ NB277_283.out _; (with_reducible repeat (first | refine blk_drewN ?_ _ | refine blk_drew ?_ | refine blk_alloc ?_ _)); refine blk_far ?_ NB277_283.out _; (with_reducible repeat (first | refine blk_drewN ?_ _ | refine blk_drew ?_ | refine blk_alloc ?_ _)); exact BK277.out⟩, ⟨Gv.bw⟩⟩
            ·rw [if_neg c30] at H
             exact absurd H (by simp)
           ·rw [if_neg c29] at H
            exact absurd H (by simp)
          ·rw [if_neg c27] at H
           exact absurd H (by simp)
         ·rw [if_neg c26] at H
          have c26b0 : decide (x9_3 < (l1.length : Int)) = false := decide_eq_false c26
          clear c26
          replace H := Option.bind_eq_some_iff.mp H
          obtain ⟨t284, A390, H⟩ := H
          replace H : ((spec_Clip.f x278001_3 1 1000).bind fun t285 => ((spec_Clip.f x278002_3 1 1000).bind fun t286 => (some (t284, t285, t286)))) = some (r1, r2, r3) := H
          have A39 := Gv.a0 A390
          clear A390
          replace H := Option.bind_eq_some_iff.mp H
          obtain ⟨t285, A400, H⟩ := H
          replace H : ((spec_Clip.f x278002_3 1 1000).bind fun t286 => (some (t284, t285, t286))) = some (r1, r2, r3) := H
          have A40 := Gv.a0 A400
          clear A400
          replace H := Option.bind_eq_some_iff.mp H
          obtain ⟨t286, A410, H⟩ := H
          replace H : (some (t284, t285, t286)) = some (r1, r2, r3) := H
          have A41 := Gv.a0 A410
          clear A410
          simp only [Option.some.injEq, Prod.mk.injEq] at H
          obtain ⟨rfl, rfl, rfl⟩ := H
          try go_wp2
          have n0_ := Gv.a0 (blk_drew BK273.out)
          have n1_ := Gv.a0 (blk_drew BK277.out)
          have n2_ := Gv.a0 (below_drew1 HB.out)
          clear BK273
          clear BK277
          clear HB
          have BK273 := n0_
          have BK277 := n1_
          have HB := n2_
          clear n0_ n1_ n2_
          refine start_ (n := 11) (S := fun w' => w'.cell? ⟨gb277, 0, none⟩ = some (.int .i64 x278000_3) ∧ w'.cell? ⟨gb277, 1, none⟩ = some (.int .i64 x278001_3) ∧ w'.cell? ⟨gb277, 2, none⟩ = some (.int .i64 x278002_3)) (ds := []) #[false, false, false, false, false, false, false, false, false, false, false] (by kernel_rfl) rfl rfl ⟨(blk_cell BK277.out 0).trans rfl, (blk_cell BK277.out 1).trans rfl, (blk_cell BK277.out 2).trans rfl⟩ (fun hHeld => ?_); refine with_tabW spec_ChainCost.tab16 spec_ChainCost.bits16 (fun HT_ HW_ => ?_)
          generalize wr.drew = w42 at BK273 BK277 HB hHeld ⊢
          refine Gv.pu 0 (some 75) HT_ ?_
          refine Gv.pu 3 (some 78) HT_ ?_
          refine Gv.pu 6 (some 81) HT_ ?_
          refine take_ (i := 1) (N := some 76) (v := ?_) (a' := ?_) #[true, true, false, true, false, false, true, false, false, false, false] rfl rfl (take_ofW HT_.out HW_.out (by kernel_rfl)) (fun _ _ _ h => h) (Or.inl ⟨by rfl, ?_⟩) hHeld ?_ ?_
          rotate_left
          ·rintro w' ⟨s0, s1, s2⟩
           go_simp
           with_reducible rfl
          rotate_left
          ·simp only [Act.put, List.setIfInBounds_toArray, List.set_cons_zero, List.set_cons_succ, i64_w, i32_w]
           rfl
          refine take_ (i := 4) (N := some 79) (v := ?_) (a' := ?_) #[true, true, false, true, true, false, true, false, false, false, false] rfl rfl (take_ofW HT_.out HW_.out (by kernel_rfl)) (fun _ _ _ h => h) (Or.inl ⟨by rfl, ?_⟩) hHeld ?_ ?_
          rotate_left
          ·rintro w' ⟨s0, s1, s2⟩
           go_simp
           with_reducible rfl
          rotate_left
          ·simp only [Act.put, List.setIfInBounds_toArray, List.set_cons_zero, List.set_cons_succ, i64_w, i32_w]
           rfl
          refine take_ (i := 7) (N := some 82) (v := ?_) (a' := ?_) #[true, true, false, true, true, false, true, true, false, false, false] rfl rfl (take_ofW HT_.out HW_.out (by kernel_rfl)) (fun _ _ _ h => h) (Or.inl ⟨by rfl, ?_⟩) hHeld ?_ ?_
          rotate_left
          ·rintro w' ⟨s0, s1, s2⟩
           go_simp
           with_reducible rfl
          rotate_left
          ·simp only [Act.put, List.setIfInBounds_toArray, List.set_cons_zero, List.set_cons_succ, i64_w, i32_w]
           rfl
          refine one_ (i := 2) (N := some 77) #[true, true, true, true, true, false, true, true, false, false, false] rfl rfl (one_of HT_.out (by kernel_rfl)) (by decide) (fun K hK => ?_)
          refine goes_ Try.func51 (by kernel_rfl) rfl #[.int .i64 x278000_3, .int .i64 1, .int .i64 1000] (by rfl) rfl rfl Gv.lm ?_
          with_reducible refine (spec_Clip.calls x278000_3 1 1000 t284 _ A39.out).mono ?_
          rintro e w' ⟨rfl, ⟨nd, rfl⟩⟩
          refine ⟨_, rfl, ?_⟩
          refine hK.out _ _ ⟨(blk_cell BK277.out 0).trans rfl, (blk_cell BK277.out 1).trans rfl, (blk_cell BK277.out 2).trans rfl⟩ (fun hHeld => ?_)
          clear hK K
          refine norm_ (a' := ?_) ?_ ?_
          rotate_left
          ·show Act.put _ (some 77) _ = _
           simp only [Act.put, List.setIfInBounds_toArray, List.set_cons_zero, List.set_cons_succ, i64_w, i32_w]
           rfl
          refine one_ (i := 5) (N := some 80) #[true, true, true, true, true, true, true, true, false, false, false] rfl rfl (one_of HT_.out (by kernel_rfl)) (by decide) (fun K hK => ?_)
          refine goes_ Try.func51 (by kernel_rfl) rfl #[.int .i64 x278001_3, .int .i64 1, .int .i64 1000] (by rfl) rfl rfl Gv.lm ?_
          with_reducible refine (spec_Clip.calls x278001_3 1 1000 t285 _ A40.out).mono ?_
          rintro e w' ⟨rfl, ⟨nd, rfl⟩⟩
          refine ⟨_, rfl, ?_⟩
          refine hK.out _ _ ⟨(blk_cell BK277.out 0).trans rfl, (blk_cell BK277.out 1).trans rfl, (blk_cell BK277.out 2).trans rfl⟩ (fun hHeld => ?_)
          clear hK K
          refine norm_ (a' := ?_) ?_ ?_
          rotate_left
          ·show Act.put _ (some 80) _ = _
           simp only [Act.put, List.setIfInBounds_toArray, List.set_cons_zero, List.set_cons_succ, i64_w, i32_w]
           rfl
          refine one_ (i := 8) (N := some 83) #[true, true, true, true, true, true, true, true, true, false, false] rfl rfl (one_of HT_.out (by kernel_rfl)) (by decide) (fun K hK => ?_)
          refine goes_ Try.func51 (by kernel_rfl) rfl #[.int .i64 x278002_3, .int .i64 1, .int .i64 1000] (by rfl) rfl rfl Gv.lm ?_
          with_reducible refine (spec_Clip.calls x278002_3 1 1000 t286 _ A41.out).mono ?_
          rintro e w' ⟨rfl, ⟨nd, rfl⟩⟩
          refine ⟨_, rfl, ?_⟩
          refine hK.out _ _ ⟨(blk_cell BK277.out 0).trans rfl, (blk_cell BK277.out 1).trans rfl, (blk_cell BK277.out 2).trans rfl⟩ (fun hHeld => ?_)
          clear hK K
          refine norm_ (a' := ?_) ?_ ?_
          rotate_left
          ·show Act.put _ (some 83) _ = _
           simp only [Act.put, List.setIfInBounds_toArray, List.set_cons_zero, List.set_cons_succ, i64_w, i32_w]
           rfl
          refine Gv.pu 9 (some 84) HT_ ?_
          refine one_ (i := 10) (N := none) #[true, true, true, true, true, true, true, true, true, true, true] rfl rfl (one_of HT_.out (by kernel_rfl)) (by decide) (fun K hK => ?_)
          have hs43 : w42.cell? ⟨gb273, 0, none⟩ = some (.int .i64 x274000_2) := (blk_cell BK273.out 0).trans rfl
          have hfs43 := blk_frozen BK273.out 0
          have hns43_1 := NB277_273.out
          have hms43_1 := NB273_277.out
          have hs44 : w42.cell? ⟨gb273, 1, none⟩ = some (.int .i64 x274001_2) := (blk_cell BK273.out 1).trans rfl
          have hfs44 := blk_frozen BK273.out 1
          have hns44_1 := NB277_273.out
          have hms44_1 := NB273_277.out
          have hs45 : w42.cell? ⟨gb273, 2, none⟩ = some (.int .i64 x274002_2) := (blk_cell BK273.out 2).trans rfl
          have hfs45 := blk_frozen BK273.out 2
          have hns45_1 := NB277_273.out
          have hms45_1 := NB273_277.out
          refine skip_ (w1 := ?_) (by rfl) rfl ?_ ?_
          rotate_left
          ·go_simp
           rfl
          refine hK.out _ _ ⟨((cell_far (p := ⟨gb273, _, none⟩) NB277_273.out _).trans (((cell_far (p := ⟨gb273, _, none⟩) NB277_273.out _).trans (((cell_far (p := ⟨gb273, _, none⟩) NB277_273.out _).trans (hHeld.1)))))), ((cell_far (p := ⟨gb273, _, none⟩) NB277_273.out _).trans (((cell_far (p := ⟨gb273, _, none⟩) NB277_273.out _).trans (((cell_far (p := ⟨gb273, _, none⟩) NB277_273.out _).trans (hHeld.2.1)))))), ((cell_far (p := ⟨gb273, _, none⟩) NB277_273.out _).trans (((cell_far (p := ⟨gb273, _, none⟩) NB277_273.out _).trans (((cell_far (p := ⟨gb273, _, none⟩) NB277_273.out _).trans (hHeld.2.2))))))⟩ (fun hHeld => ?_)
          clear hK K
          refine done_ (done_of HT_.out (by kernel_rfl)) ?_
          try go_wp2
          refine bodyPost_ret (results_cell_row rfl _ _ gb273 51 #[.int .i64 t284, .int .i64 t285, .int .i64 t286] (0, 0) _ rfl (by (with_reducible repeat (first | refine blk_drewN ?_ _ | refine blk_drew ?_ | refine blk_alloc ?_ _)); refine blk_put (cs := #[.int .i64 t284, .int .i64 t285, .int .i64 x274002_2]) ?_ 2 _ rfl; (with_reducible repeat (first | refine blk_drewN ?_ _ | refine blk_drew ?_ | refine blk_alloc ?_ _)); refine blk_put (cs := #[.int .i64 t284, .int .i64 x274001_2, .int .i64 x274002_2]) ?_ 1 _ rfl; (with_reducible repeat (first | refine blk_drewN ?_ _ | refine blk_drew ?_ | refine blk_alloc ?_ _)); refine blk_put (cs := #[.int .i64 x274000_2, .int .i64 x274001_2, .int .i64 x274002_2]) ?_ 0 _ rfl; (with_reducible repeat (first | refine blk_drewN ?_ _ | refine blk_drew ?_ | refine blk_alloc ?_ _)); exact BK273.out) Try.underlying51 rfl (by kernel_rfl)) rfl ?_
          exact ⟨Gv.rt, Gv.bw⟩

/-! ### laws_toVec: function 74 -/
def laws_toVec.f (a0_0 : Int) (a0_1 : Int) (a0_2 : Int) : Option (Int × Int × Int) := some (a0_0, a0_1, a0_2)
set_option maxHeartbeats 8000000 in
set_option maxRecDepth 100000 in
theorem laws_toVec.calls (a0_0 : Int) (a0_1 : Int) (a0_2 : Int) (r1 : Int) (r2 : Int) (r3 : Int) (w : World) (h : laws_toVec.f a0_0 a0_1 a0_2 = some (r1, r2, r3)) :
  Calls Try.prog 74 #[.agg #[.int .i64 a0_0, .int .i64 a0_1, .int .i64 a0_2]] w fun e w' => e = .returned (.agg #[.int .i64 r1, .int .i64 r2, .int .i64 r3]) ∧ Below w.heap.size w w' := by
 have hu79 := Try.underlying79
 have hu51 := Try.underlying51
 have HB := Gv.a0 (Below.refl w.heap.size w)
 have H : (some (a0_0, a0_1, a0_2)) = some (r1, r2, r3) := h
 clear h
 simp only [Option.some.injEq, Prod.mk.injEq] at H
 obtain ⟨rfl, rfl, rfl⟩ := H
 go_enter Try.func74, Try.ntmps74
 go_wp2_with (first | ((with_reducible refine gate_dst (N := 1) rfl ?_); refine box_event ?hg (N := 1) ?hd (cs := #[.int .i64 a0_0, .int .i64 a0_1, .int .i64 a0_2]) (t := 79) ?hr ?_; (case hd => rfl); (case hg => rfl); (case hr => first | (go_simp; done) | (go_simp; rfl)); intro gb287 hg w2 hbox hb; have n0_ := Gv.a0 (below_step Gv.bw hb); have n1_ := Gv.a0 (hbox); have n2_ := Gv.a0 ((Gv.ble hg Gv.bw : w.heap.size ≤ gb287)); have n3_ := Gv.a0 ((Gv.ble hg Gv.bw : w.heap.size ≤ gb287)); clear HB; have HB := n0_; have BK287 := n1_; have GW287 := n2_; have GE287 := n3_; clear n0_ n1_ n2_ n3_; clear hb hbox hg) | ((with_reducible refine gate_dst (N := 2) rfl ?_); refine box_event ?hg (N := 2) ?hd (cs := #[.int .i64 0, .int .i64 0, .int .i64 0]) (t := 51) ?hr ?_; (case hd => rfl); (case hg => rfl); (case hr => first | (go_simp; done) | (go_simp; rfl)); intro gb288 hg w3 hbox hb; have n0_ := Gv.a0 (Gv.bb BK287.out hb); have n1_ := Gv.a0 (below_step Gv.bw hb); have n2_ := Gv.a0 (hbox); have n3_ := Gv.a0 ((Gv.ble hg Gv.bw : w.heap.size ≤ gb288)); have n4_ := Gv.a0 ((Gv.ble hg Gv.bw : w.heap.size ≤ gb288)); have n5_ := Gv.a0 ((Gv.nlt hg (Gv.kb BK287.out) : gb287 ≠ gb288)); have n6_ := Gv.a0 ((Gv.ngt hg (Gv.kb BK287.out) : gb288 ≠ gb287)); clear BK287; clear HB; have BK287 := n0_; have HB := n1_; have BK288 := n2_; have GW288 := n3_; have GE288 := n4_; have NB287_288 := n5_; have NB288_287 := n6_; clear n0_ n1_ n2_ n3_ n4_ n5_ n6_; clear hb hbox hg) | ((with_reducible refine gate_dst (N := 3) rfl ?_); refine box_event ?hg (N := 3) ?hd (cs := #[.int .i64 0, .int .i64 0, .int .i64 0]) (t := 51) ?hr ?_; (case hd => rfl); (case hg => rfl); (case hr => first | (go_simp; done) | (go_simp; rfl)); intro gb289 hg w4 hbox hb; have n0_ := Gv.a0 (Gv.bb BK287.out hb); have n1_ := Gv.a0 (Gv.bb BK288.out hb); have n2_ := Gv.a0 (below_step Gv.bw hb); have n3_ := Gv.a0 (hbox); have n4_ := Gv.a0 ((Gv.ble hg Gv.bw : w.heap.size ≤ gb289)); have n5_ := Gv.a0 ((Gv.ble hg Gv.bw : w.heap.size ≤ gb289)); have n6_ := Gv.a0 ((Gv.nlt hg (Gv.kb BK287.out) : gb287 ≠ gb289)); have n7_ := Gv.a0 ((Gv.ngt hg (Gv.kb BK287.out) : gb289 ≠ gb287)); have n8_ := Gv.a0 ((Gv.nlt hg (Gv.kb BK288.out) : gb288 ≠ gb289)); have n9_ := Gv.a0 ((Gv.ngt hg (Gv.kb BK288.out) : gb289 ≠ gb288)); clear BK287; clear BK288; clear HB; have BK287 := n0_; have BK288 := n1_; have HB := n2_; have BK289 := n3_; have GW289 := n4_; have GE289 := n5_; have NB287_289 := n6_; have NB289_287 := n7_; have NB288_289 := n8_; have NB289_288 := n9_; clear n0_ n1_ n2_ n3_ n4_ n5_ n6_ n7_ n8_ n9_; clear hb hbox hg; have hnb5 := NB287_288.out; have hnc5 := NB288_287.out; have hnb6 := NB287_289.out; have hnc6 := NB289_287.out; have hcz7_0 : w4.cell? ⟨gb287, 0, none⟩ = some (.int .i64 a0_0) := (blk_cell BK287.out 0).trans rfl; have hcz7_1 : w4.cell? ⟨gb287, 1, none⟩ = some (.int .i64 a0_1) := (blk_cell BK287.out 1).trans rfl; have hcz7_2 : w4.cell? ⟨gb287, 2, none⟩ = some (.int .i64 a0_2) := (blk_cell BK287.out 2).trans rfl; have hfz7_0 := blk_frozen BK287.out 0; have hfz7_1 := blk_frozen BK287.out 1; have hfz7_2 := blk_frozen BK287.out 2; have hnb8 := NB289_288.out; have hnc8 := NB288_289.out; have hcz9_0 : w4.cell? ⟨gb289, 0, none⟩ = some (.int .i64 0) := (blk_cell BK289.out 0).trans rfl; have hcz9_1 : w4.cell? ⟨gb289, 1, none⟩ = some (.int .i64 0) := (blk_cell BK289.out 1).trans rfl; have hcz9_2 : w4.cell? ⟨gb289, 2, none⟩ = some (.int .i64 0) := (blk_cell BK289.out 2).trans rfl; have hfz9_0 := blk_frozen BK289.out 0; have hfz9_1 := blk_frozen BK289.out 1; have hfz9_2 := blk_frozen BK289.out 2; have hcz10_0 : w4.cell? ⟨gb288, 0, none⟩ = some (.int .i64 0) := (blk_cell BK288.out 0).trans rfl; have hcz10_1 : w4.cell? ⟨gb288, 1, none⟩ = some (.int .i64 0) := (blk_cell BK288.out 1).trans rfl; have hcz10_2 : w4.cell? ⟨gb288, 2, none⟩ = some (.int .i64 0) := (blk_cell BK288.out 2).trans rfl; have hfz10_0 := blk_frozen BK288.out 0; have hfz10_1 := blk_frozen BK288.out 1; have hfz10_2 := blk_frozen BK288.out 2))
 refine bodyPost_ret (results_cell_row rfl _ _ gb288 51 #[.int .i64 a0_0, .int .i64 a0_1, .int .i64 a0_2] (0, 0) _ rfl (by (with_reducible repeat (first | refine blk_drewN ?_ _ | refine blk_drew ?_ | refine blk_alloc ?_ _)); refine blk_put (cs := #[.int .i64 a0_0, .int .i64 a0_1, .int .i64 0]) ?_ 2 _ rfl; (with_reducible repeat (first | refine blk_drewN ?_ _ | refine blk_drew ?_ | refine blk_alloc ?_ _)); refine blk_put (cs := #[.int .i64 a0_0, .int .i64 0, .int .i64 0]) ?_ 1 _ rfl; (with_reducible repeat (first | refine blk_drewN ?_ _ | refine blk_drew ?_ | refine blk_alloc ?_ _)); refine blk_put (cs := #[.int .i64 0, .int .i64 0, .int .i64 0]) ?_ 0 _ rfl; (with_reducible repeat (first | refine blk_drewN ?_ _ | refine blk_drew ?_ | refine blk_alloc ?_ _)); refine blk_far ?_ NB288_289.out _; (with_reducible repeat (first | refine blk_drewN ?_ _ | refine blk_drew ?_ | refine blk_alloc ?_ _)); refine blk_far ?_ NB288_289.out _; (with_reducible repeat (first | refine blk_drewN ?_ _ | refine blk_drew ?_ | refine blk_alloc ?_ _)); refine blk_far ?_ NB288_289.out _; (with_reducible repeat (first | refine blk_drewN ?_ _ | refine blk_drew ?_ | refine blk_alloc ?_ _)); exact BK288.out) Try.underlying51 rfl (by kernel_rfl)) rfl ?_
 exact ⟨Gv.rt, Gv.bw⟩

/-! ### laws_toProf: function 52 -/
def laws_toProf.f (a0_0 : Int) (a0_1 : Int) (a0_2 : Int) (a0_3 : Int) (a0_4 : Int) (a0_5 : Int) : Option (Int × Int × Int × Int × Int × Int) := (laws_toVec.f a0_0 a0_1 a0_2).bind fun bt293 => ((laws_toVec.f a0_3 a0_4 a0_5).bind fun bt296 => (some (bt293.1, bt293.2.1, bt293.2.2, bt296.1, bt296.2.1, bt296.2.2)))
set_option maxHeartbeats 8000000 in
set_option maxRecDepth 100000 in
theorem laws_toProf.calls (a0_0 : Int) (a0_1 : Int) (a0_2 : Int) (a0_3 : Int) (a0_4 : Int) (a0_5 : Int) (r1 : Int) (r2 : Int) (r3 : Int) (r4 : Int) (r5 : Int) (r6 : Int) (w : World) (h : laws_toProf.f a0_0 a0_1 a0_2 a0_3 a0_4 a0_5 = some (r1, r2, r3, r4, r5, r6)) :
  Calls Try.prog 52 #[.agg #[.int .i64 a0_0, .int .i64 a0_1, .int .i64 a0_2, .int .i64 a0_3, .int .i64 a0_4, .int .i64 a0_5]] w fun e w' => e = .returned (.agg #[.int .i64 r1, .int .i64 r2, .int .i64 r3, .int .i64 r4, .int .i64 r5, .int .i64 r6]) ∧ Below w.heap.size w w' := by
 have hu81 := Try.underlying81
 have hu75 := Try.underlying75
 have hu79 := Try.underlying79
 have hu51 := Try.underlying51
 have HB := Gv.a0 (Below.refl w.heap.size w)
 have H : ((laws_toVec.f a0_0 a0_1 a0_2).bind fun bt293 => ((laws_toVec.f a0_3 a0_4 a0_5).bind fun bt296 => (some (bt293.1, bt293.2.1, bt293.2.2, bt296.1, bt296.2.1, bt296.2.2)))) = some (r1, r2, r3, r4, r5, r6) := h
 clear h
 replace H := Option.bind_eq_some_iff.mp H
 obtain ⟨⟨t293, t294, t295⟩, A20, H⟩ := H
 replace H : ((laws_toVec.f a0_3 a0_4 a0_5).bind fun bt296 => (some (t293, t294, t295, bt296.1, bt296.2.1, bt296.2.2))) = some (r1, r2, r3, r4, r5, r6) := H
 have A2 := Gv.a0 A20
 clear A20
 replace H := Option.bind_eq_some_iff.mp H
 obtain ⟨⟨t296, t297, t298⟩, A30, H⟩ := H
 replace H : (some (t293, t294, t295, t296, t297, t298)) = some (r1, r2, r3, r4, r5, r6) := H
 have A3 := Gv.a0 A30
 clear A30
 simp only [Option.some.injEq, Prod.mk.injEq] at H
 obtain ⟨rfl, rfl, rfl, rfl, rfl, rfl⟩ := H
 go_enter Try.func52, Try.ntmps52
 go_wp2_with (first | ((with_reducible refine gate_dst (N := 1) rfl ?_); refine box_event ?hg (N := 1) ?hd (cs := #[.int .i64 a0_0, .int .i64 a0_1, .int .i64 a0_2, .int .i64 a0_3, .int .i64 a0_4, .int .i64 a0_5]) (t := 81) ?hr ?_; (case hd => rfl); (case hg => rfl); (case hr => first | (go_simp; done) | (go_simp; rfl)); intro gb290 hg w4 hbox hb; have n0_ := Gv.a0 (below_step Gv.bw hb); have n1_ := Gv.a0 (hbox); have n2_ := Gv.a0 ((Gv.ble hg Gv.bw : w.heap.size ≤ gb290)); have n3_ := Gv.a0 ((Gv.ble hg Gv.bw : w.heap.size ≤ gb290)); clear HB; have HB := n0_; have BK290 := n1_; have GW290 := n2_; have GE290 := n3_; clear n0_ n1_ n2_ n3_; clear hb hbox hg) | ((with_reducible refine gate_dst (N := 2) rfl ?_); refine box_event ?hg (N := 2) ?hd (cs := #[.int .i64 0, .int .i64 0, .int .i64 0, .int .i64 0, .int .i64 0, .int .i64 0]) (t := 75) ?hr ?_; (case hd => rfl); (case hg => rfl); (case hr => first | (go_simp; done) | (go_simp; rfl)); intro gb291 hg w5 hbox hb; have n0_ := Gv.a0 (Gv.bb BK290.out hb); have n1_ := Gv.a0 (below_step Gv.bw hb); have n2_ := Gv.a0 (hbox); have n3_ := Gv.a0 ((Gv.ble hg Gv.bw : w.heap.size ≤ gb291)); have n4_ := Gv.a0 ((Gv.ble hg Gv.bw : w.heap.size ≤ gb291)); have n5_ := Gv.a0 ((Gv.nlt hg (Gv.kb BK290.out) : gb290 ≠ gb291)); have n6_ := Gv.a0 ((Gv.ngt hg (Gv.kb BK290.out) : gb291 ≠ gb290)); clear BK290; clear HB; have BK290 := n0_; have HB := n1_; have BK291 := n2_; have GW291 := n3_; have GE291 := n4_; have NB290_291 := n5_; have NB291_290 := n6_; clear n0_ n1_ n2_ n3_ n4_ n5_ n6_; clear hb hbox hg) | ((with_reducible refine gate_dst (N := 3) rfl ?_); refine box_event ?hg (N := 3) ?hd (cs := #[.int .i64 0, .int .i64 0, .int .i64 0, .int .i64 0, .int .i64 0, .int .i64 0]) (t := 75) ?hr ?_; (case hd => rfl); (case hg => rfl); (case hr => first | (go_simp; done) | (go_simp; rfl)); intro gb292 hg w6 hbox hb; have n0_ := Gv.a0 (Gv.bb BK290.out hb); have n1_ := Gv.a0 (Gv.bb BK291.out hb); have n2_ := Gv.a0 (below_step Gv.bw hb); have n3_ := Gv.a0 (hbox); have n4_ := Gv.a0 ((Gv.ble hg Gv.bw : w.heap.size ≤ gb292)); have n5_ := Gv.a0 ((Gv.ble hg Gv.bw : w.heap.size ≤ gb292)); have n6_ := Gv.a0 ((Gv.nlt hg (Gv.kb BK290.out) : gb290 ≠ gb292)); have n7_ := Gv.a0 ((Gv.ngt hg (Gv.kb BK290.out) : gb292 ≠ gb290)); have n8_ := Gv.a0 ((Gv.nlt hg (Gv.kb BK291.out) : gb291 ≠ gb292)); have n9_ := Gv.a0 ((Gv.ngt hg (Gv.kb BK291.out) : gb292 ≠ gb291)); clear BK290; clear BK291; clear HB; have BK290 := n0_; have BK291 := n1_; have HB := n2_; have BK292 := n3_; have GW292 := n4_; have GE292 := n5_; have NB290_292 := n6_; have NB292_290 := n7_; have NB291_292 := n8_; have NB292_291 := n9_; clear n0_ n1_ n2_ n3_ n4_ n5_ n6_ n7_ n8_ n9_; clear hb hbox hg; have hnb7 := NB290_291.out; have hnc7 := NB291_290.out; have hnb8 := NB290_292.out; have hnc8 := NB292_290.out; obtain ⟨hcz9_0, hcz9_1, hcz9_2, hcz9_3, hcz9_4, hcz9_5⟩ := Gv.c6 BK290.out; obtain ⟨hfz9_0, hfz9_1, hfz9_2, hfz9_3, hfz9_4, hfz9_5⟩ := Gv.f6 BK290.out) | ((with_reducible refine gate_callee (f := 74) rfl ?_); refine goesL_ (some 6) rfl rfl Try.func74 (by kernel_rfl) rfl #[.agg #[.int .i64 a0_0, .int .i64 a0_1, .int .i64 a0_2]] rfl Gv.lm ?_; (with_reducible refine (laws_toVec.calls a0_0 a0_1 a0_2 t293 t294 t295 _ A2.out).mono ?_); rintro e w10 ⟨rfl, hb⟩; refine ⟨_, rfl, ?_⟩; have n0_ := Gv.a0 (Gv.bb BK290.out hb); have n1_ := Gv.a0 (Gv.bb BK291.out hb); have n2_ := Gv.a0 (Gv.bb BK292.out hb); have n3_ := Gv.a0 (below_step Gv.bw hb); clear BK290; clear BK291; clear BK292; clear HB; have BK290 := n0_; have BK291 := n1_; have BK292 := n2_; have HB := n3_; clear n0_ n1_ n2_ n3_; (try clear hb); (try clear hb2); (try clear hk); (try clear hi); have hnb11 := NB292_291.out; have hnc11 := NB291_292.out; obtain ⟨hcz12_0, hcz12_1, hcz12_2, hcz12_3, hcz12_4, hcz12_5⟩ := Gv.c6 BK292.out; obtain ⟨hfz12_0, hfz12_1, hfz12_2, hfz12_3, hfz12_4, hfz12_5⟩ := Gv.f6 BK292.out; obtain ⟨hcz13_0, hcz13_1, hcz13_2, hcz13_3, hcz13_4, hcz13_5⟩ := Gv.c6 BK290.out; obtain ⟨hfz13_0, hfz13_1, hfz13_2, hfz13_3, hfz13_4, hfz13_5⟩ := Gv.f6 BK290.out) | ((with_reducible refine gate_callee (f := 74) rfl ?_); refine goesL_ (some 10) rfl rfl Try.func74 (by kernel_rfl) rfl #[.agg #[.int .i64 a0_3, .int .i64 a0_4, .int .i64 a0_5]] rfl Gv.lm ?_; (with_reducible refine (laws_toVec.calls a0_3 a0_4 a0_5 t296 t297 t298 _ A3.out).mono ?_); rintro e w14 ⟨rfl, hb⟩; refine ⟨_, rfl, ?_⟩; have n0_ := Gv.a0 (blk_below (g := gb290) (o := .cells #[.int .i64 a0_0, .int .i64 a0_1, .int .i64 a0_2, .int .i64 a0_3, .int .i64 a0_4, .int .i64 a0_5] 81 (0, 0)) Gv.bkf hb); have n1_ := Gv.a0 (blk_below (g := gb291) (o := .cells #[.int .i64 0, .int .i64 0, .int .i64 0, .int .i64 0, .int .i64 0, .int .i64 0] 75 (0, 0)) Gv.bkf hb); have n2_ := Gv.a0 (blk_below (g := gb292) (o := .cells #[.int .i64 t293, .int .i64 t294, .int .i64 t295, .int .i64 0, .int .i64 0, .int .i64 0] 75 (0, 0)) (by (with_reducible repeat (first | refine blk_drewN ?_ _ | refine blk_drew ?_ | refine blk_alloc ?_ _)); refine blk_put (cs := #[.int .i64 t293, .int .i64 t294, .int .i64 0, .int .i64 0, .int .i64 0, .int .i64 0]) ?_ 2 _ rfl; (with_reducible repeat (first | refine blk_drewN ?_ _ | refine blk_drew ?_ | refine blk_alloc ?_ _)); refine blk_put (cs := #[.int .i64 t293, .int .i64 0, .int .i64 0, .int .i64 0, .int .i64 0, .int .i64 0]) ?_ 1 _ rfl; (with_reducible repeat (first | refine blk_drewN ?_ _ | refine blk_drew ?_ | refine blk_alloc ?_ _)); refine blk_put (cs := #[.int .i64 0, .int .i64 0, .int .i64 0, .int .i64 0, .int .i64 0, .int .i64 0]) ?_ 0 _ rfl; (with_reducible repeat (first | refine blk_drewN ?_ _ | refine blk_drew ?_ | refine blk_alloc ?_ _)); exact BK292.out) hb); have n3_ := Gv.a0 (below_step Gv.bw hb); clear BK290; clear BK291; clear BK292; clear HB; have BK290 := n0_; have BK291 := n1_; have BK292 := n2_; have HB := n3_; clear n0_ n1_ n2_ n3_; (try clear hb); (try clear hb2); (try clear hk); (try clear hi); obtain ⟨hcz15_0, hcz15_1, hcz15_2, hcz15_3, hcz15_4, hcz15_5⟩ := Gv.c6 BK292.out; obtain ⟨hfz15_0, hfz15_1, hfz15_2, hfz15_3, hfz15_4, hfz15_5⟩ := Gv.f6 BK292.out; obtain ⟨hcz16_0, hcz16_1, hcz16_2, hcz16_3, hcz16_4, hcz16_5⟩ := Gv.c6 BK291.out; obtain ⟨hfz16_0, hfz16_1, hfz16_2, hfz16_3, hfz16_4, hfz16_5⟩ := Gv.f6 BK291.out))
 refine bodyPost_ret (results_cell_row rfl _ _ gb291 75 #[.int .i64 t293, .int .i64 t294, .int .i64 t295, .int .i64 t296, .int .i64 t297, .int .i64 t298] (0, 0) _ rfl (by (with_reducible repeat (first | refine blk_drewN ?_ _ | refine blk_drew ?_ | refine blk_alloc ?_ _)); refine blk_put (cs := #[.int .i64 t293, .int .i64 t294, .int .i64 t295, .int .i64 t296, .int .i64 t297, .int .i64 0]) ?_ 5 _ rfl; (with_reducible repeat (first | refine blk_drewN ?_ _ | refine blk_drew ?_ | refine blk_alloc ?_ _)); refine blk_put (cs := #[.int .i64 t293, .int .i64 t294, .int .i64 t295, .int .i64 t296, .int .i64 0, .int .i64 0]) ?_ 4 _ rfl; (with_reducible repeat (first | refine blk_drewN ?_ _ | refine blk_drew ?_ | refine blk_alloc ?_ _)); refine blk_put (cs := #[.int .i64 t293, .int .i64 t294, .int .i64 t295, .int .i64 0, .int .i64 0, .int .i64 0]) ?_ 3 _ rfl; (with_reducible repeat (first | refine blk_drewN ?_ _ | refine blk_drew ?_ | refine blk_alloc ?_ _)); refine blk_put (cs := #[.int .i64 t293, .int .i64 t294, .int .i64 0, .int .i64 0, .int .i64 0, .int .i64 0]) ?_ 2 _ rfl; (with_reducible repeat (first | refine blk_drewN ?_ _ | refine blk_drew ?_ | refine blk_alloc ?_ _)); refine blk_put (cs := #[.int .i64 t293, .int .i64 0, .int .i64 0, .int .i64 0, .int .i64 0, .int .i64 0]) ?_ 1 _ rfl; (with_reducible repeat (first | refine blk_drewN ?_ _ | refine blk_drew ?_ | refine blk_alloc ?_ _)); refine blk_put (cs := #[.int .i64 0, .int .i64 0, .int .i64 0, .int .i64 0, .int .i64 0, .int .i64 0]) ?_ 0 _ rfl; (with_reducible repeat (first | refine blk_drewN ?_ _ | refine blk_drew ?_ | refine blk_alloc ?_ _)); refine blk_far ?_ NB291_292.out _; (with_reducible repeat (first | refine blk_drewN ?_ _ | refine blk_drew ?_ | refine blk_alloc ?_ _)); refine blk_far ?_ NB291_292.out _; (with_reducible repeat (first | refine blk_drewN ?_ _ | refine blk_drew ?_ | refine blk_alloc ?_ _)); refine blk_far ?_ NB291_292.out _; (with_reducible repeat (first | refine blk_drewN ?_ _ | refine blk_drew ?_ | refine blk_alloc ?_ _)); exact BK291.out) Try.underlying75 rfl (by kernel_rfl)) rfl ?_
 exact ⟨Gv.rt, Gv.bw⟩

/-! ### laws_toProfS: function 23 -/
def laws_toProfS.l0 : Nat → List (S81) → List (S75) → Int → Option ((List (S75)))
 | 0, _, _, _ => none
 | k + 1, x0, x3, x4 => if x4 < (x0.length : Int) then (if 0 ≤ x4 then ((laws_toProf.f ((rd_T81 x0 x4).f0.f0) ((rd_T81 x0 x4).f0.f1) ((rd_T81 x0 x4).f0.f2) ((rd_T81 x0 x4).f1.f0) ((rd_T81 x0 x4).f1.f1) ((rd_T81 x0 x4).f1.f2)).bind fun bt303 => (if x4 < (x3.length : Int) then (laws_toProfS.l0 k x0 (x3.set (x4 : Int).toNat (⟨(⟨bt303.1, bt303.2.1, bt303.2.2.1⟩ : S51), (⟨bt303.2.2.2.1, bt303.2.2.2.2.1, bt303.2.2.2.2.2⟩ : S51)⟩ : S75)) (wrap64 (x4 + 1))) else (none))) else (none)) else (some x3)
def laws_toProfS.f (k : Nat) (l0 : List (S81)) : Option ((List (S75))) := if 0 ≤ (l0.length : Int) then (if ((l0.length : Int) : Int).toNat ≤ 5864062014805 then (laws_toProfS.l0 k l0 (List.replicate ((l0.length : Int) : Int).toNat z75) 0) else (none)) else (none)
theorem laws_toProfS.mono_l : ∀ k, (∀ y0 y1 y2, LeO (laws_toProfS.l0 k y0 y1 y2) (laws_toProfS.l0 (k + 1) y0 y1 y2))
 | 0 => fun _ _ _ r h => by simp [laws_toProfS.l0] at h
 | k + 1 => by
  have ih0 := laws_toProfS.mono_l k
  ·intro y0 y1 y2
   unfold laws_toProfS.l0
   repeat' first
   | (with_reducible exact ih0 _ _ _)
   | (with_reducible exact LeO.refl _)
   | (with_reducible exact LeO.none _)
   | (with_reducible refine LeO.ite ?_ ?_)
   | (with_reducible refine LeO.bind ?_ (fun _ => ?_))
   | exact ih0 _ _ _
   | exact LeO.none _
   | refine LeO.ite ?_ ?_
   | refine LeO.bind ?_ (fun _ => ?_)
theorem laws_toProfS.mono : ∀ a0 k, LeO (laws_toProfS.f k a0) (laws_toProfS.f (k + 1) a0) := by
 intro a0 k
 have ih0 := laws_toProfS.mono_l k
 unfold laws_toProfS.f
 repeat' first
   | (with_reducible exact ih0 _ _ _)
   | (with_reducible exact LeO.refl _)
   | (with_reducible exact LeO.none _)
   | (with_reducible refine LeO.ite ?_ ?_)
   | (with_reducible refine LeO.bind ?_ (fun _ => ?_))
   | exact ih0 _ _ _
   | exact LeO.none _
   | refine LeO.ite ?_ ?_
   | refine LeO.bind ?_ (fun _ => ?_)
set_option maxHeartbeats 8000000 in
set_option maxRecDepth 100000 in
theorem laws_toProfS.calls (k : Nat) (A0 : Option Addr) (c0 : Nat) (l0 : List (S81)) (r : List (S75)) (w : World) (hr0 : Kd.C k81 w A0 l0.length l0) (hc0 : l0.length ≤ c0) (h : laws_toProfS.f k l0 = some r) :
  Calls Try.prog 23 #[.slice A0 l0.length c0] w fun e w' => ∃ v0_ : Value, e = .returned (v0_) ∧ Kd.R k75 75 w' w.heap.size (fun _ => True) v0_ r ∧ Below w.heap.size w w' := by
 have hu81 := Try.underlying81
 have hu75 := Try.underlying75
 have HR0 := Gv.a0 hr0
 have HC0 := Gv.a0 hc0
 clear hr0 hc0
 have HB := Gv.a0 (Below.refl w.heap.size w)
 have H : (if 0 ≤ (l0.length : Int) then (if ((l0.length : Int) : Int).toNat ≤ 5864062014805 then (laws_toProfS.l0 k l0 (List.replicate ((l0.length : Int) : Int).toNat z75) 0) else (none)) else (none)) = some r := h
 clear h
 by_cases c2 : 0 ≤ (l0.length : Int)
 ·rw [if_pos c2] at H
  have c2b0 := eq_true c2
  have c2b1 : decide (0 ≤ (l0.length : Int)) = true := decide_eq_true c2
  clear c2
  by_cases c3 : ((l0.length : Int) : Int).toNat ≤ 5864062014805
  ·rw [if_pos c3] at H
   have c3b0 := eq_true c3
   have c3b1 : decide (((l0.length : Int) : Int).toNat ≤ 5864062014805) = true := decide_eq_true c3
   clear c3
   obtain ⟨y299, hy299⟩ : ∃ y_ : List (S75), y_ = (List.replicate ((l0.length : Int) : Int).toNat z75) := ⟨_, rfl⟩
   replace H : (laws_toProfS.l0 k l0 y299 0) = some r := by first | (rw [hy299]; with_reducible exact H) | (have H2_ := (Option.bind_some _ _).symm.trans H; rw [hy299]; with_reducible exact H2_) | (have H2_ := (Option.bind_some _ _).symm.trans H; with_reducible exact H2_) | with_reducible exact H | (rw [hy299]; exact H) | exact H
   have Ny299 := Gv.a0 hy299
   clear hy299
   have H' := Gv.a0 H
   clear H
   go_enter Try.func23, Try.ntmps23
   go_wp2_with (first | ((with_reducible refine gate_dst (N := 7) rfl ?_); refine Kd.R_make k75 _ 75 rfl (N := 7) rfl 53 _ _ rfl (l0.length : Int) rfl rfl Try.underlying53 (.agg #[(.int .i64 0), (.int .i64 0), (.int .i64 0), (.int .i64 0), (.int .i64 0), (.int .i64 0)]) 48 info75 rfl (by decide) (by omega) z75 (ok := fun _ => True) (okp := fun _ => True) (k75_mkM _ _ _ z75 ) (fun _ hk => hk) trivial (of_decide_eq_true (by first | (with_reducible assumption) | assumption)) (Nat.le_trans (Nat.mul_le_mul_right _ (of_decide_eq_true (by first | (with_reducible assumption) | assumption) : (l0.length : Int).toNat ≤ 5864062014805)) (by omega)) (Below.refl _ _) (Nat.le_refl _) ?_; intro v300 w4 ho5 hb hg_ hnew_; clear hg_ hnew_; (first | rw [← Ny299.out] at ho5 | (simp only [Int.reduceToNat] at ho5; rw [← Ny299.out] at ho5)); have n0_ := Gv.a0 (Kd.R_lower ho5 (below_size Gv.bw)); have n1_ := Gv.a0 (below_step Gv.bw hb); clear HB; have HO301 := n0_; have HB := n1_; clear n0_ n1_; clear hb ho5))
   go_loopg [4] k (fun kq v4 w' => ∃ (x3_1 : List (S75)) (x4_1 : Int), v4 = .int .i64 x4_1 ∧ Aside0 (laws_toProfS.l0 kq l0 x3_1 x4_1 = some r) ∧ Aside0 (kq ≤ k) ∧ Aside0 (Kd.R k75 75 w' w.heap.size (fun _ => True) v300 x3_1) ∧ Aside0 (Below w.heap.size w w'))
   case atStart => exact ⟨(y299), (0), Gv.rq, H', ⟨Nat.le_refl _⟩, ⟨Gv.kr HO301.out⟩, ⟨Gv.bw⟩⟩
   case round =>
    clear H'
    try clear c2
    try clear c2b0
    try clear c2b1
    try clear p2
    try clear c3
    try clear c3b0
    try clear c3b1
    obtain ⟨x3_1, x4_1, rfl, HA, HK1, HO_3, HB⟩ := hrel
    cases gk with
    | zero => exact absurd HA.out (by simp [laws_toProfS.l0])
    | succ k1 =>
     have H := HA.out
     clear HA
     simp only [laws_toProfS.l0] at H
     by_cases c6 : x4_1 < (l0.length : Int)
     ·rw [if_pos c6] at H
      have c6b0 : decide (x4_1 < (l0.length : Int)) = true := decide_eq_true c6
      clear c6
      by_cases c7 : 0 ≤ x4_1
      ·rw [if_pos c7] at H
       have c7b0 : decide (0 ≤ x4_1) = true := decide_eq_true c7
       clear c7
       replace H := Option.bind_eq_some_iff.mp H
       obtain ⟨⟨t303, t304, t305, t306, t307, t308⟩, A80, H⟩ := H
       replace H : (if x4_1 < (x3_1.length : Int) then (laws_toProfS.l0 k1 l0 (x3_1.set (x4_1 : Int).toNat (⟨(⟨t303, t304, t305⟩ : S51), (⟨t306, t307, t308⟩ : S51)⟩ : S75)) (wrap64 (x4_1 + 1))) else (none)) = some r := H
       have A8 := Gv.a0 A80
       clear A80
       by_cases c9 : x4_1 < (x3_1.length : Int)
       ·rw [if_pos c9] at H
        have c9b0 : decide (x4_1 < (x3_1.length : Int)) = true := decide_eq_true c9
        clear c9
        obtain ⟨y309, hy309⟩ : ∃ y_ : List (S75), y_ = (x3_1.set (x4_1 : Int).toNat (⟨(⟨t303, t304, t305⟩ : S51), (⟨t306, t307, t308⟩ : S51)⟩ : S75)) := ⟨_, rfl⟩
        replace H : (laws_toProfS.l0 k1 l0 y309 (wrap64 (x4_1 + 1))) = some r := by first | (rw [hy309]; with_reducible exact H) | (have H2_ := (Option.bind_some _ _).symm.trans H; rw [hy309]; with_reducible exact H2_) | (have H2_ := (Option.bind_some _ _).symm.trans H; with_reducible exact H2_) | with_reducible exact H | (rw [hy309]; exact H) | exact H
        have Ny309 := Gv.a0 hy309
        clear hy309
        have H' := Gv.a0 H
        clear H
        have p302 : 0 ≤ (x4_1 : Int) := of_decide_eq_true (by first | (with_reducible assumption) | assumption)
        have q302 : x4_1 < (l0.length : Int) := of_decide_eq_true (by first | (with_reducible assumption) | assumption)
        obtain ⟨ad302, e302, hx302_0, hx302_1, hx302_2, hx302_3, hx302_4, hx302_5⟩ := at_T81 HR0.out x4_1 p302 q302
        cases e302
        replace hx302_0 := Gv.bx HB.out hx302_0
        replace hx302_1 := Gv.bx HB.out hx302_1
        replace hx302_2 := Gv.bx HB.out hx302_2
        replace hx302_3 := Gv.bx HB.out hx302_3
        replace hx302_4 := Gv.bx HB.out hx302_4
        replace hx302_5 := Gv.bx HB.out hx302_5
        replace p302 := eq_true p302
        replace q302 := eq_true q302
        go_wp2_with (first | ((with_reducible refine gate_callee (f := 52) rfl ?_); refine goesL_ (some 20) rfl rfl Try.func52 (by kernel_rfl) rfl #[.agg #[.int .i64 ((rd_T81 l0 x4_1).f0.f0), .int .i64 ((rd_T81 l0 x4_1).f0.f1), .int .i64 ((rd_T81 l0 x4_1).f0.f2), .int .i64 ((rd_T81 l0 x4_1).f1.f0), .int .i64 ((rd_T81 l0 x4_1).f1.f1), .int .i64 ((rd_T81 l0 x4_1).f1.f2)]] rfl Gv.lm ?_; (with_reducible refine (laws_toProf.calls _ _ _ _ _ _ t303 t304 t305 t306 t307 t308 _ A8.out).mono ?_); rintro e w11 ⟨rfl, hb⟩; refine ⟨_, rfl, ?_⟩; have n0_ := Gv.a0 (Kd.R_below (Gv.kr HO_3.out) hb); have n1_ := Gv.a0 (below_step Gv.bw hb); clear HO_3; clear HB; have HO_3 := n0_; have HB := n1_; clear n0_ n1_; (try clear hb); (try clear hb2); (try clear hk); (try clear hi); have p10 : 0 ≤ (x4_1 : Int) := of_decide_eq_true (by first | (with_reducible assumption) | assumption); have q10 : (x4_1 : Int) < ((x3_1.length : Int) : Int) := of_decide_eq_true (by first | (with_reducible assumption) | assumption); obtain ⟨go10, co10, eo10, gb10, gl10, cl10, HG10⟩ := Kd.R_form HO_3.out (by omega); (first | cases eo10 | (injection eo10 with ea_ en_ ec_; (first | subst ea_ | (injection ea_ with ea_; subst ea_)); subst ec_; clear en_)); have GB10 := Gv.a0 gb10; have GG10 := Gv.a0 HG10; clear gb10 gl10 HG10; replace p10 := eq_true p10; replace q10 := eq_true q10; have HX12 := Gv.a0 (show Kd.R k75 75 w11 w.heap.size (fun _ => True) (.slice (some ⟨go10, 0, none⟩) x3_1.length co10) x3_1 from (Gv.kr HO_3.out))) | ((with_reducible refine gate_store (t := 75) (p := 21) rfl ?_); refine Gv.row_store (d := k75) (x4_1 : Int) (⟨(⟨t303, t304, t305⟩ : S51), (⟨t306, t307, t308⟩ : S51)⟩ : S75) rfl rfl rfl rfl rfl (by kernel_rfl) HX12.out (of_decide_eq_true (by first | (with_reducible assumption) | assumption)) (by have h_ : (x4_1 : Int) < ((x3_1.length : Int) : Int) := of_decide_eq_true (by first | (with_reducible assumption) | assumption); first | exact h_ | (have e_ := (Kd.R_reads' HO_3.out).1; omega) | simpa using h_) rfl rfl (k75_mkM _ _ _ (⟨(⟨t303, t304, t305⟩ : S51), (⟨t306, t307, t308⟩ : S51)⟩ : S75) ) ?_; intro w13 hR_ hoth_ hbel_; have n0_ := Gv.a0 (show Kd.R k75 75 w13 w.heap.size (fun _ => True) (.slice (some ⟨go10, 0, none⟩) x3_1.length co10) y309 from by rw [Ny309.out]; exact hR_); have n1_ := Gv.a0 (hbel_ w HB.out GB10.out); clear HO_3 HB HX12; have HO_3 := n0_; have HB := n1_; clear n0_ n1_ hR_ hoth_ hbel_))
        go_roundg k1
        case measure => have := HK1.out; omega
        case rel => exact ⟨(y309), (wrap64 (x4_1 + 1)), Gv.rq, H', ⟨by have := HK1.out; omega⟩, ⟨Gv.kr HO_3.out⟩, ⟨Gv.bw⟩⟩
       ·rw [if_neg c9] at H
        exact absurd H (by simp)
      ·rw [if_neg c7] at H
       exact absurd H (by simp)
     ·rw [if_neg c6] at H
      have c6b0 : decide (x4_1 < (l0.length : Int)) = false := decide_eq_false c6
      clear c6
      obtain rfl := Option.some.inj H
      go_wp2
      go_ret
      exact ⟨_, Gv.rt, Gv.kr HO_3.out, Gv.bw⟩
  ·rw [if_neg c3] at H
   exact absurd H (by simp)
 ·rw [if_neg c2] at H
  exact absurd H (by simp)

/-! ### impl_within: function 44 -/
def impl_within.f (a0 : Int) (a1 : Int) (a2 : Int) : Option (Bool) := if a0 ≥ a1 then (some (decide (a0 ≤ a2))) else (some false)
set_option maxHeartbeats 8000000 in
set_option maxRecDepth 100000 in
theorem impl_within.calls (a0 : Int) (a1 : Int) (a2 : Int) (r : Bool) (w : World) (h : impl_within.f a0 a1 a2 = some r) :
  Calls Try.prog 44 #[.int .i64 a0, .int .i64 a1, .int .i64 a2] w fun e w' => e = .returned (.bool r) ∧ Drawn0 w w' := by
 have H : (if a0 ≥ a1 then (some (decide (a0 ≤ a2))) else (some false)) = some r := h
 clear h
 by_cases c4 : a0 ≥ a1
 ·rw [if_pos c4] at H
  have c4b0 : decide (a1 ≤ a0) = true := decide_eq_true c4
  clear c4
  obtain rfl := Option.some.inj H
  go_enter Try.func44, Try.ntmps44
  go_wp2
  go_ret
  exact ⟨by first | rfl | (simp; done) | (simp [Int.tdiv_eq_ediv_of_nonneg]; done) | (simp [*]; done), by repeat (first | exact Drawn0.refl _ | apply Drawn0.step)⟩
 ·rw [if_neg c4] at H
  have c4b0 : decide (a1 ≤ a0) = false := decide_eq_false c4
  clear c4
  obtain rfl := Option.some.inj H
  go_enter Try.func44, Try.ntmps44
  go_wp2
  go_ret
  exact ⟨by first | rfl | (simp; done) | (simp [Int.tdiv_eq_ediv_of_nonneg]; done) | (simp [*]; done), by repeat (first | exact Drawn0.refl _ | apply Drawn0.step)⟩

/-! ### impl_isAny: function 66 -/
def impl_isAny.f (a0_0 : Int) (a0_1 : Int) (a0_2 : Int) (a0_3 : Int) (a0_4 : Int) (a0_5 : Int) : Option (Bool) := some ((a0_0 == 0 && (a0_1 == 0 && (a0_2 == 0 && (a0_3 == 0 && (a0_4 == 0))))) && (a0_5 == 0))
set_option maxHeartbeats 8000000 in
set_option maxRecDepth 100000 in
theorem impl_isAny.calls (a0_0 : Int) (a0_1 : Int) (a0_2 : Int) (a0_3 : Int) (a0_4 : Int) (a0_5 : Int) (r : Bool) (w : World) (h : impl_isAny.f a0_0 a0_1 a0_2 a0_3 a0_4 a0_5 = some r) :
  Calls Try.prog 66 #[.agg #[.int .i64 a0_0, .int .i64 a0_1, .int .i64 a0_2, .int .i64 a0_3, .int .i64 a0_4, .int .i64 a0_5]] w fun e w' => e = .returned (.bool r) ∧ Below w.heap.size w w' := by
 have hu29 := Try.underlying29
 have HB := Gv.a0 (Below.refl w.heap.size w)
 have H : (some ((a0_0 == 0 && (a0_1 == 0 && (a0_2 == 0 && (a0_3 == 0 && (a0_4 == 0))))) && (a0_5 == 0))) = some r := h
 clear h
 obtain rfl := Option.some.inj H
 go_enter Try.func66, Try.ntmps66
 go_wp2_with (first | ((with_reducible refine gate_dst (N := 1) rfl ?_); refine box_event ?hg (N := 1) ?hd (cs := #[.int .i64 a0_0, .int .i64 a0_1, .int .i64 a0_2, .int .i64 a0_3, .int .i64 a0_4, .int .i64 a0_5]) (t := 29) ?hr ?_; (case hd => rfl); (case hg => rfl); (case hr => first | (go_simp; done) | (go_simp; rfl)); intro gb310 hg w2 hbox hb; have n0_ := Gv.a0 (below_step Gv.bw hb); have n1_ := Gv.a0 (hbox); have n2_ := Gv.a0 ((Gv.ble hg Gv.bw : w.heap.size ≤ gb310)); have n3_ := Gv.a0 ((Gv.ble hg Gv.bw : w.heap.size ≤ gb310)); clear HB; have HB := n0_; have BK310 := n1_; have GW310 := n2_; have GE310 := n3_; clear n0_ n1_ n2_ n3_; clear hb hbox hg; obtain ⟨hcz3_0, hcz3_1, hcz3_2, hcz3_3, hcz3_4, hcz3_5⟩ := Gv.c6 BK310.out; obtain ⟨hfz3_0, hfz3_1, hfz3_2, hfz3_3, hfz3_4, hfz3_5⟩ := Gv.f6 BK310.out))
 go_ret
 exact ⟨Gv.rt, Gv.bw⟩

/-! ### impl_isLong: function 85 -/
def impl_isLong.f (a0 : Int) : Option (Bool) := (impl_within.f a0 0 4294967295).bind fun t311 => (some t311)
set_option maxHeartbeats 8000000 in
set_option maxRecDepth 100000 in
theorem impl_isLong.calls (a0 : Int) (r : Bool) (w : World) (h : impl_isLong.f a0 = some r) :
  Calls Try.prog 85 #[.int .i64 a0] w fun e w' => e = .returned (.bool r) ∧ Drawn0 w w' := by
 have H : ((impl_within.f a0 0 4294967295).bind fun t311 => (some t311)) = some r := h
 clear h
 replace H := Option.bind_eq_some_iff.mp H
 obtain ⟨t311, A20, H⟩ := H
 replace H : (some t311) = some r := H
 have A2 := Gv.a0 A20
 clear A20
 obtain rfl := Option.some.inj H
 go_enter Try.func85, Try.ntmps85
 go_wp2_with (first | ((with_reducible refine gate_callee (f := 44) rfl ?_); refine goesL_ (some 4) rfl rfl Try.func44 (by kernel_rfl) rfl #[.int .i64 a0, .int .i64 0, .int .i64 4294967295] rfl Gv.lm ?_; (with_reducible refine (impl_within.calls a0 0 4294967295 t311 _ A2.out).mono ?_); rintro e w' ⟨rfl, ⟨nd, rfl⟩⟩; refine ⟨_, rfl, ?_⟩))
 go_ret
 exact ⟨by first | rfl | (simp; done) | (simp [Int.tdiv_eq_ediv_of_nonneg]; done) | (simp [*]; done), by repeat (first | exact Drawn0.refl _ | apply Drawn0.step)⟩

/-! ### impl_AddrOk: function 67 -/
def impl_AddrOk.f (a0_0 : Int) (a0_1 : Int) (a0_2 : Int) (a0_3 : Int) (a0_4 : Int) : Option (Bool) := if a0_0 = 4 then (if a0_1 = 0 then (if a0_2 = 0 then (if a0_3 = 0 then ((impl_isLong.f a0_4).bind fun t313 => (some t313)) else (some false)) else (some false)) else (some false)) else (if a0_0 = 6 then ((impl_isLong.f a0_1).bind fun t314 => (if t314 = true then ((impl_isLong.f a0_2).bind fun t315 => (if t315 = true then ((impl_isLong.f a0_3).bind fun t316 => (if t316 = true then ((impl_isLong.f a0_4).bind fun t317 => (some t317)) else (some false))) else (some false))) else (some false))) else (some false))
set_option maxHeartbeats 8000000 in
set_option maxRecDepth 100000 in
theorem impl_AddrOk.calls (a0_0 : Int) (a0_1 : Int) (a0_2 : Int) (a0_3 : Int) (a0_4 : Int) (r : Bool) (w : World) (h : impl_AddrOk.f a0_0 a0_1 a0_2 a0_3 a0_4 = some r) :
  Calls Try.prog 67 #[.agg #[.int .i64 a0_0, .int .i64 a0_1, .int .i64 a0_2, .int .i64 a0_3, .int .i64 a0_4]] w fun e w' => e = .returned (.bool r) ∧ Below w.heap.size w w' := by
 have hu26 := Try.underlying26
 have HB := Gv.a0 (Below.refl w.heap.size w)
 have H : (if a0_0 = 4 then (if a0_1 = 0 then (if a0_2 = 0 then (if a0_3 = 0 then ((impl_isLong.f a0_4).bind fun t313 => (some t313)) else (some false)) else (some false)) else (some false)) else (if a0_0 = 6 then ((impl_isLong.f a0_1).bind fun t314 => (if t314 = true then ((impl_isLong.f a0_2).bind fun t315 => (if t315 = true then ((impl_isLong.f a0_3).bind fun t316 => (if t316 = true then ((impl_isLong.f a0_4).bind fun t317 => (some t317)) else (some false))) else (some false))) else (some false))) else (some false))) = some r := h
 clear h
 by_cases c2 : a0_0 = 4
 ·rw [if_pos c2] at H
  have c2b0 : (a0_0 == 4) = true := beq_iff_eq.mpr c2
  have c2b1 : (a0_0 != 4) = false := bne_eq_false_iff_eq.mpr c2
  clear c2
  by_cases c3 : a0_1 = 0
  ·rw [if_pos c3] at H
   have c3b0 : (a0_1 == 0) = true := beq_iff_eq.mpr c3
   have c3b1 : (a0_1 != 0) = false := bne_eq_false_iff_eq.mpr c3
   clear c3
   by_cases c4 : a0_2 = 0
   ·rw [if_pos c4] at H
    have c4b0 : (a0_2 == 0) = true := beq_iff_eq.mpr c4
    have c4b1 : (a0_2 != 0) = false := bne_eq_false_iff_eq.mpr c4
    clear c4
    by_cases c5 : a0_3 = 0
    ·rw [if_pos c5] at H
     have c5b0 : (a0_3 == 0) = true := beq_iff_eq.mpr c5
     have c5b1 : (a0_3 != 0) = false := bne_eq_false_iff_eq.mpr c5
     clear c5
     replace H := Option.bind_eq_some_iff.mp H
     obtain ⟨t313, A60, H⟩ := H
     replace H : (some t313) = some r := H
     have A6 := Gv.a0 A60
     clear A60
     obtain rfl := Option.some.inj H
     go_enter Try.func67, Try.ntmps67
     go_wp2_with (first | ((with_reducible refine gate_dst (N := 1) rfl ?_); refine box_event ?hg (N := 1) ?hd (cs := #[.int .i64 a0_0, .int .i64 a0_1, .int .i64 a0_2, .int .i64 a0_3, .int .i64 a0_4]) (t := 26) ?hr ?_; (case hd => rfl); (case hg => rfl); (case hr => first | (go_simp; done) | (go_simp; rfl)); intro gb312 hg w7 hbox hb; have n0_ := Gv.a0 (below_step Gv.bw hb); have n1_ := Gv.a0 (hbox); have n2_ := Gv.a0 ((Gv.ble hg Gv.bw : w.heap.size ≤ gb312)); have n3_ := Gv.a0 ((Gv.ble hg Gv.bw : w.heap.size ≤ gb312)); clear HB; have HB := n0_; have BK312 := n1_; have GW312 := n2_; have GE312 := n3_; clear n0_ n1_ n2_ n3_; clear hb hbox hg; obtain ⟨hcz8_0, hcz8_1, hcz8_2, hcz8_3, hcz8_4⟩ := Gv.c5 BK312.out; obtain ⟨hfz8_0, hfz8_1, hfz8_2, hfz8_3, hfz8_4⟩ := Gv.f5 BK312.out) | (go_at_call 85; (with_reducible refine (impl_isLong.calls a0_4 t313 _ A6.out).mono ?_); rintro e w' ⟨rfl, ⟨nd, rfl⟩⟩))
     go_ret
     exact ⟨Gv.rt, Gv.bw⟩
    ·rw [if_neg c5] at H
     have c5b0 : (a0_3 == 0) = false := beq_eq_false_iff_ne.mpr c5
     have c5b1 : (a0_3 != 0) = true := bne_iff_ne.mpr c5
     obtain rfl := Option.some.inj H
     go_enter Try.func67, Try.ntmps67
     go_wp2_with (first | ((with_reducible refine gate_dst (N := 1) rfl ?_); refine box_event ?hg (N := 1) ?hd (cs := #[.int .i64 a0_0, .int .i64 a0_1, .int .i64 a0_2, .int .i64 a0_3, .int .i64 a0_4]) (t := 26) ?hr ?_; (case hd => rfl); (case hg => rfl); (case hr => first | (go_simp; done) | (go_simp; rfl)); intro gb312 hg w9 hbox hb; have n0_ := Gv.a0 (below_step Gv.bw hb); have n1_ := Gv.a0 (hbox); have n2_ := Gv.a0 ((Gv.ble hg Gv.bw : w.heap.size ≤ gb312)); have n3_ := Gv.a0 ((Gv.ble hg Gv.bw : w.heap.size ≤ gb312)); clear HB; have HB := n0_; have BK312 := n1_; have GW312 := n2_; have GE312 := n3_; clear n0_ n1_ n2_ n3_; clear hb hbox hg; obtain ⟨hcz10_0, hcz10_1, hcz10_2, hcz10_3, hcz10_4⟩ := Gv.c5 BK312.out; obtain ⟨hfz10_0, hfz10_1, hfz10_2, hfz10_3, hfz10_4⟩ := Gv.f5 BK312.out))
     go_ret
     exact ⟨Gv.rt, Gv.bw⟩
   ·rw [if_neg c4] at H
    have c4b0 : (a0_2 == 0) = false := beq_eq_false_iff_ne.mpr c4
    have c4b1 : (a0_2 != 0) = true := bne_iff_ne.mpr c4
    obtain rfl := Option.some.inj H
    go_enter Try.func67, Try.ntmps67
    go_wp2_with (first | ((with_reducible refine gate_dst (N := 1) rfl ?_); refine box_event ?hg (N := 1) ?hd (cs := #[.int .i64 a0_0, .int .i64 a0_1, .int .i64 a0_2, .int .i64 a0_3, .int .i64 a0_4]) (t := 26) ?hr ?_; (case hd => rfl); (case hg => rfl); (case hr => first | (go_simp; done) | (go_simp; rfl)); intro gb312 hg w11 hbox hb; have n0_ := Gv.a0 (below_step Gv.bw hb); have n1_ := Gv.a0 (hbox); have n2_ := Gv.a0 ((Gv.ble hg Gv.bw : w.heap.size ≤ gb312)); have n3_ := Gv.a0 ((Gv.ble hg Gv.bw : w.heap.size ≤ gb312)); clear HB; have HB := n0_; have BK312 := n1_; have GW312 := n2_; have GE312 := n3_; clear n0_ n1_ n2_ n3_; clear hb hbox hg; obtain ⟨hcz12_0, hcz12_1, hcz12_2, hcz12_3, hcz12_4⟩ := Gv.c5 BK312.out; obtain ⟨hfz12_0, hfz12_1, hfz12_2, hfz12_3, hfz12_4⟩ := Gv.f5 BK312.out))
    go_ret
    exact ⟨Gv.rt, Gv.bw⟩
  ·rw [if_neg c3] at H
   have c3b0 : (a0_1 == 0) = false := beq_eq_false_iff_ne.mpr c3
   have c3b1 : (a0_1 != 0) = true := bne_iff_ne.mpr c3
   obtain rfl := Option.some.inj H
   go_enter Try.func67, Try.ntmps67
   go_wp2_with (first | ((with_reducible refine gate_dst (N := 1) rfl ?_); refine box_event ?hg (N := 1) ?hd (cs := #[.int .i64 a0_0, .int .i64 a0_1, .int .i64 a0_2, .int .i64 a0_3, .int .i64 a0_4]) (t := 26) ?hr ?_; (case hd => rfl); (case hg => rfl); (case hr => first | (go_simp; done) | (go_simp; rfl)); intro gb312 hg w13 hbox hb; have n0_ := Gv.a0 (below_step Gv.bw hb); have n1_ := Gv.a0 (hbox); have n2_ := Gv.a0 ((Gv.ble hg Gv.bw : w.heap.size ≤ gb312)); have n3_ := Gv.a0 ((Gv.ble hg Gv.bw : w.heap.size ≤ gb312)); clear HB; have HB := n0_; have BK312 := n1_; have GW312 := n2_; have GE312 := n3_; clear n0_ n1_ n2_ n3_; clear hb hbox hg; obtain ⟨hcz14_0, hcz14_1, hcz14_2, hcz14_3, hcz14_4⟩ := Gv.c5 BK312.out; obtain ⟨hfz14_0, hfz14_1, hfz14_2, hfz14_3, hfz14_4⟩ := Gv.f5 BK312.out))
   go_ret
   exact ⟨Gv.rt, Gv.bw⟩
 ·rw [if_neg c2] at H
  have c2b0 : (a0_0 == 4) = false := beq_eq_false_iff_ne.mpr c2
  have c2b1 : (a0_0 != 4) = true := bne_iff_ne.mpr c2
  by_cases c15 : a0_0 = 6
  ·rw [if_pos c15] at H
   have c15b0 : (a0_0 == 6) = true := beq_iff_eq.mpr c15
   have c15b1 : (a0_0 != 6) = false := bne_eq_false_iff_eq.mpr c15
   clear c15
   replace H := Option.bind_eq_some_iff.mp H
   obtain ⟨t314, A160, H⟩ := H
   replace H : (if t314 = true then ((impl_isLong.f a0_2).bind fun t315 => (if t315 = true then ((impl_isLong.f a0_3).bind fun t316 => (if t316 = true then ((impl_isLong.f a0_4).bind fun t317 => (some t317)) else (some false))) else (some false))) else (some false)) = some r := H
   have A16 := Gv.a0 A160
   clear A160
   by_cases c17 : t314 = true
   ·subst c17
    have H1 : ((impl_isLong.f a0_2).bind fun t315 => (if t315 = true then ((impl_isLong.f a0_3).bind fun t316 => (if t316 = true then ((impl_isLong.f a0_4).bind fun t317 => (some t317)) else (some false))) else (some false))) = some r := by rw [if_pos rfl] at H; exact H
    clear H
    have H := H1
    clear H1
    replace H := Option.bind_eq_some_iff.mp H
    obtain ⟨t315, A180, H⟩ := H
    replace H : (if t315 = true then ((impl_isLong.f a0_3).bind fun t316 => (if t316 = true then ((impl_isLong.f a0_4).bind fun t317 => (some t317)) else (some false))) else (some false)) = some r := H
    have A18 := Gv.a0 A180
    clear A180
    by_cases c19 : t315 = true
    ·subst c19
     have H1 : ((impl_isLong.f a0_3).bind fun t316 => (if t316 = true then ((impl_isLong.f a0_4).bind fun t317 => (some t317)) else (some false))) = some r := by rw [if_pos rfl] at H; exact H
     clear H
     have H := H1
     clear H1
     replace H := Option.bind_eq_some_iff.mp H
     obtain ⟨t316, A200, H⟩ := H
     replace H : (if t316 = true then ((impl_isLong.f a0_4).bind fun t317 => (some t317)) else (some false)) = some r := H
     have A20 := Gv.a0 A200
     clear A200
     by_cases c21 : t316 = true
     ·subst c21
      have H1 : ((impl_isLong.f a0_4).bind fun t317 => (some t317)) = some r := by rw [if_pos rfl] at H; exact H
      clear H
      have H := H1
      clear H1
      replace H := Option.bind_eq_some_iff.mp H
      obtain ⟨t317, A220, H⟩ := H
      replace H : (some t317) = some r := H
      have A22 := Gv.a0 A220
      clear A220
      obtain rfl := Option.some.inj H
      go_enter Try.func67, Try.ntmps67
      go_wp2_with (first | ((with_reducible refine gate_dst (N := 1) rfl ?_); refine box_event ?hg (N := 1) ?hd (cs := #[.int .i64 a0_0, .int .i64 a0_1, .int .i64 a0_2, .int .i64 a0_3, .int .i64 a0_4]) (t := 26) ?hr ?_; (case hd => rfl); (case hg => rfl); (case hr => first | (go_simp; done) | (go_simp; rfl)); intro gb312 hg w23 hbox hb; have n0_ := Gv.a0 (below_step Gv.bw hb); have n1_ := Gv.a0 (hbox); have n2_ := Gv.a0 ((Gv.ble hg Gv.bw : w.heap.size ≤ gb312)); have n3_ := Gv.a0 ((Gv.ble hg Gv.bw : w.heap.size ≤ gb312)); clear HB; have HB := n0_; have BK312 := n1_; have GW312 := n2_; have GE312 := n3_; clear n0_ n1_ n2_ n3_; clear hb hbox hg; obtain ⟨hcz24_0, hcz24_1, hcz24_2, hcz24_3, hcz24_4⟩ := Gv.c5 BK312.out; obtain ⟨hfz24_0, hfz24_1, hfz24_2, hfz24_3, hfz24_4⟩ := Gv.f5 BK312.out) | ((with_reducible refine gate_callee (f := 85) rfl ?_); refine goesL_ (some 29) rfl rfl Try.func85 (by kernel_rfl) rfl #[.int .i64 a0_1] rfl Gv.lm ?_; (with_reducible refine (impl_isLong.calls a0_1 true _ A16.out).mono ?_); rintro e w' ⟨rfl, ⟨nd, rfl⟩⟩; refine ⟨_, rfl, ?_⟩) | (go_at_call 85; (with_reducible refine (impl_isLong.calls a0_2 true _ A18.out).mono ?_); rintro e w' ⟨rfl, ⟨nd, rfl⟩⟩) | (go_at_call 85; (with_reducible refine (impl_isLong.calls a0_3 true _ A20.out).mono ?_); rintro e w' ⟨rfl, ⟨nd, rfl⟩⟩) | (go_at_call 85; (with_reducible refine (impl_isLong.calls a0_4 t317 _ A22.out).mono ?_); rintro e w' ⟨rfl, ⟨nd, rfl⟩⟩))
      go_ret
      exact ⟨Gv.rt, Gv.bw⟩
     ·replace c21 := Bool.eq_false_iff.mpr c21
      subst c21
      have H1 : (some false) = some r := by rw [if_neg (show ¬ (false = true) by decide)] at H; exact H
      clear H
      have H := H1
      clear H1
      obtain rfl := Option.some.inj H
      go_enter Try.func67, Try.ntmps67
      go_wp2_with (first | ((with_reducible refine gate_dst (N := 1) rfl ?_); refine box_event ?hg (N := 1) ?hd (cs := #[.int .i64 a0_0, .int .i64 a0_1, .int .i64 a0_2, .int .i64 a0_3, .int .i64 a0_4]) (t := 26) ?hr ?_; (case hd => rfl); (case hg => rfl); (case hr => first | (go_simp; done) | (go_simp; rfl)); intro gb312 hg w25 hbox hb; have n0_ := Gv.a0 (below_step Gv.bw hb); have n1_ := Gv.a0 (hbox); have n2_ := Gv.a0 ((Gv.ble hg Gv.bw : w.heap.size ≤ gb312)); have n3_ := Gv.a0 ((Gv.ble hg Gv.bw : w.heap.size ≤ gb312)); clear HB; have HB := n0_; have BK312 := n1_; have GW312 := n2_; have GE312 := n3_; clear n0_ n1_ n2_ n3_; clear hb hbox hg; obtain ⟨hcz26_0, hcz26_1, hcz26_2, hcz26_3, hcz26_4⟩ := Gv.c5 BK312.out; obtain ⟨hfz26_0, hfz26_1, hfz26_2, hfz26_3, hfz26_4⟩ := Gv.f5 BK312.out) | ((with_reducible refine gate_callee (f := 85) rfl ?_); refine goesL_ (some 29) rfl rfl Try.func85 (by kernel_rfl) rfl #[.int .i64 a0_1] rfl Gv.lm ?_; (with_reducible refine (impl_isLong.calls a0_1 true _ A16.out).mono ?_); rintro e w' ⟨rfl, ⟨nd, rfl⟩⟩; refine ⟨_, rfl, ?_⟩) | (go_at_call 85; (with_reducible refine (impl_isLong.calls a0_2 true _ A18.out).mono ?_); rintro e w' ⟨rfl, ⟨nd, rfl⟩⟩) | (go_at_call 85; (with_reducible refine (impl_isLong.calls a0_3 false _ A20.out).mono ?_); rintro e w' ⟨rfl, ⟨nd, rfl⟩⟩))
      go_ret
      exact ⟨Gv.rt, Gv.bw⟩
    ·replace c19 := Bool.eq_false_iff.mpr c19
     subst c19
     have H1 : (some false) = some r := by rw [if_neg (show ¬ (false = true) by decide)] at H; exact H
     clear H
     have H := H1
     clear H1
     obtain rfl := Option.some.inj H
     go_enter Try.func67, Try.ntmps67
     go_wp2_with (first | ((with_reducible refine gate_dst (N := 1) rfl ?_); refine box_event ?hg (N := 1) ?hd (cs := #[.int .i64 a0_0, .int .i64 a0_1, .int .i64 a0_2, .int .i64 a0_3, .int .i64 a0_4]) (t := 26) ?hr ?_; (case hd => rfl); (case hg => rfl); (case hr => first | (go_simp; done) | (go_simp; rfl)); intro gb312 hg w27 hbox hb; have n0_ := Gv.a0 (below_step Gv.bw hb); have n1_ := Gv.a0 (hbox); have n2_ := Gv.a0 ((Gv.ble hg Gv.bw : w.heap.size ≤ gb312)); have n3_ := Gv.a0 ((Gv.ble hg Gv.bw : w.heap.size ≤ gb312)); clear HB; have HB := n0_; have BK312 := n1_; have GW312 := n2_; have GE312 := n3_; clear n0_ n1_ n2_ n3_; clear hb hbox hg; obtain ⟨hcz28_0, hcz28_1, hcz28_2, hcz28_3, hcz28_4⟩ := Gv.c5 BK312.out; obtain ⟨hfz28_0, hfz28_1, hfz28_2, hfz28_3, hfz28_4⟩ := Gv.f5 BK312.out) | ((with_reducible refine gate_callee (f := 85) rfl ?_); refine goesL_ (some 29) rfl rfl Try.func85 (by kernel_rfl) rfl #[.int .i64 a0_1] rfl Gv.lm ?_; (with_reducible refine (impl_isLong.calls a0_1 true _ A16.out).mono ?_); rintro e w' ⟨rfl, ⟨nd, rfl⟩⟩; refine ⟨_, rfl, ?_⟩) | (go_at_call 85; (with_reducible refine (impl_isLong.calls a0_2 false _ A18.out).mono ?_); rintro e w' ⟨rfl, ⟨nd, rfl⟩⟩))
     go_ret
     exact ⟨Gv.rt, Gv.bw⟩
   ·replace c17 := Bool.eq_false_iff.mpr c17
    subst c17
    have H1 : (some false) = some r := by rw [if_neg (show ¬ (false = true) by decide)] at H; exact H
    clear H
    have H := H1
    clear H1
    obtain rfl := Option.some.inj H
    go_enter Try.func67, Try.ntmps67
    go_wp2_with (first | ((with_reducible refine gate_dst (N := 1) rfl ?_); refine box_event ?hg (N := 1) ?hd (cs := #[.int .i64 a0_0, .int .i64 a0_1, .int .i64 a0_2, .int .i64 a0_3, .int .i64 a0_4]) (t := 26) ?hr ?_; (case hd => rfl); (case hg => rfl); (case hr => first | (go_simp; done) | (go_simp; rfl)); intro gb312 hg w29 hbox hb; have n0_ := Gv.a0 (below_step Gv.bw hb); have n1_ := Gv.a0 (hbox); have n2_ := Gv.a0 ((Gv.ble hg Gv.bw : w.heap.size ≤ gb312)); have n3_ := Gv.a0 ((Gv.ble hg Gv.bw : w.heap.size ≤ gb312)); clear HB; have HB := n0_; have BK312 := n1_; have GW312 := n2_; have GE312 := n3_; clear n0_ n1_ n2_ n3_; clear hb hbox hg; obtain ⟨hcz30_0, hcz30_1, hcz30_2, hcz30_3, hcz30_4⟩ := Gv.c5 BK312.out; obtain ⟨hfz30_0, hfz30_1, hfz30_2, hfz30_3, hfz30_4⟩ := Gv.f5 BK312.out) | ((with_reducible refine gate_callee (f := 85) rfl ?_); refine goesL_ (some 29) rfl rfl Try.func85 (by kernel_rfl) rfl #[.int .i64 a0_1] rfl Gv.lm ?_; (with_reducible refine (impl_isLong.calls a0_1 false _ A16.out).mono ?_); rintro e w' ⟨rfl, ⟨nd, rfl⟩⟩; refine ⟨_, rfl, ?_⟩))
    go_ret
    exact ⟨Gv.rt, Gv.bw⟩
  ·rw [if_neg c15] at H
   have c15b0 : (a0_0 == 6) = false := beq_eq_false_iff_ne.mpr c15
   have c15b1 : (a0_0 != 6) = true := bne_iff_ne.mpr c15
   obtain rfl := Option.some.inj H
   go_enter Try.func67, Try.ntmps67
   go_wp2_with (first | ((with_reducible refine gate_dst (N := 1) rfl ?_); refine box_event ?hg (N := 1) ?hd (cs := #[.int .i64 a0_0, .int .i64 a0_1, .int .i64 a0_2, .int .i64 a0_3, .int .i64 a0_4]) (t := 26) ?hr ?_; (case hd => rfl); (case hg => rfl); (case hr => first | (go_simp; done) | (go_simp; rfl)); intro gb312 hg w31 hbox hb; have n0_ := Gv.a0 (below_step Gv.bw hb); have n1_ := Gv.a0 (hbox); have n2_ := Gv.a0 ((Gv.ble hg Gv.bw : w.heap.size ≤ gb312)); have n3_ := Gv.a0 ((Gv.ble hg Gv.bw : w.heap.size ≤ gb312)); clear HB; have HB := n0_; have BK312 := n1_; have GW312 := n2_; have GE312 := n3_; clear n0_ n1_ n2_ n3_; clear hb hbox hg; obtain ⟨hcz32_0, hcz32_1, hcz32_2, hcz32_3, hcz32_4⟩ := Gv.c5 BK312.out; obtain ⟨hfz32_0, hfz32_1, hfz32_2, hfz32_3, hfz32_4⟩ := Gv.f5 BK312.out))
   go_ret
   exact ⟨Gv.rt, Gv.bw⟩

/-! ### impl_Clip: function 59 -/
def impl_Clip.f (a0 : Int) (a1 : Int) (a2 : Int) : Option (Int) := if a0 < a1 then (some a1) else (if a0 > a2 then (some a2) else (some a0))
set_option maxHeartbeats 8000000 in
set_option maxRecDepth 100000 in
theorem impl_Clip.calls (a0 : Int) (a1 : Int) (a2 : Int) (r : Int) (w : World) (h : impl_Clip.f a0 a1 a2 = some r) :
  Calls Try.prog 59 #[.int .i64 a0, .int .i64 a1, .int .i64 a2] w fun e w' => e = .returned (.int .i64 r) ∧ Drawn0 w w' := by
 have H : (if a0 < a1 then (some a1) else (if a0 > a2 then (some a2) else (some a0))) = some r := h
 clear h
 by_cases c4 : a0 < a1
 ·rw [if_pos c4] at H
  have c4b0 : decide (a0 < a1) = true := decide_eq_true c4
  clear c4
  obtain rfl := Option.some.inj H
  go_enter Try.func59, Try.ntmps59
  go_wp2
  go_ret
  exact ⟨by first | rfl | (simp; done) | (simp [Int.tdiv_eq_ediv_of_nonneg]; done) | (simp [*]; done), by repeat (first | exact Drawn0.refl _ | apply Drawn0.step)⟩
 ·rw [if_neg c4] at H
  have c4b0 : decide (a0 < a1) = false := decide_eq_false c4
  clear c4
  by_cases c5 : a0 > a2
  ·rw [if_pos c5] at H
   have c5b0 : decide (a2 < a0) = true := decide_eq_true c5
   clear c5
   obtain rfl := Option.some.inj H
   go_enter Try.func59, Try.ntmps59
   go_wp2
   go_ret
   exact ⟨by first | rfl | (simp; done) | (simp [Int.tdiv_eq_ediv_of_nonneg]; done) | (simp [*]; done), by repeat (first | exact Drawn0.refl _ | apply Drawn0.step)⟩
  ·rw [if_neg c5] at H
   have c5b0 : decide (a2 < a0) = false := decide_eq_false c5
   clear c5
   obtain rfl := Option.some.inj H
   go_enter Try.func59, Try.ntmps59
   go_wp2
   go_ret
   exact ⟨by first | rfl | (simp; done) | (simp [Int.tdiv_eq_ediv_of_nonneg]; done) | (simp [*]; done), by repeat (first | exact Drawn0.refl _ | apply Drawn0.step)⟩

/-! ### impl_bitsOf: function 70 -/
def impl_bitsOf.f (a0_0 : Int) (a0_1 : Int) (a0_2 : Int) (a0_3 : Int) (a0_4 : Int) : Option (Int) := if a0_0 = 4 then (some 32) else (some 128)
set_option maxHeartbeats 8000000 in
set_option maxRecDepth 100000 in
theorem impl_bitsOf.calls (a0_0 : Int) (a0_1 : Int) (a0_2 : Int) (a0_3 : Int) (a0_4 : Int) (r : Int) (w : World) (h : impl_bitsOf.f a0_0 a0_1 a0_2 a0_3 a0_4 = some r) :
  Calls Try.prog 70 #[.agg #[.int .i64 a0_0, .int .i64 a0_1, .int .i64 a0_2, .int .i64 a0_3, .int .i64 a0_4]] w fun e w' => e = .returned (.int .i64 r) ∧ Below w.heap.size w w' := by
 have hu26 := Try.underlying26
 have HB := Gv.a0 (Below.refl w.heap.size w)
 have H : (if a0_0 = 4 then (some 32) else (some 128)) = some r := h
 clear h
 by_cases c2 : a0_0 = 4
 ·rw [if_pos c2] at H
  have c2b0 : (a0_0 == 4) = true := beq_iff_eq.mpr c2
  have c2b1 : (a0_0 != 4) = false := bne_eq_false_iff_eq.mpr c2
  clear c2
  obtain rfl := Option.some.inj H
  go_enter Try.func70, Try.ntmps70
  go_wp2_with (first | ((with_reducible refine gate_dst (N := 1) rfl ?_); refine box_event ?hg (N := 1) ?hd (cs := #[.int .i64 a0_0, .int .i64 a0_1, .int .i64 a0_2, .int .i64 a0_3, .int .i64 a0_4]) (t := 26) ?hr ?_; (case hd => rfl); (case hg => rfl); (case hr => first | (go_simp; done) | (go_simp; rfl)); intro gb318 hg w3 hbox hb; have n0_ := Gv.a0 (below_step Gv.bw hb); have n1_ := Gv.a0 (hbox); have n2_ := Gv.a0 ((Gv.ble hg Gv.bw : w.heap.size ≤ gb318)); have n3_ := Gv.a0 ((Gv.ble hg Gv.bw : w.heap.size ≤ gb318)); clear HB; have HB := n0_; have BK318 := n1_; have GW318 := n2_; have GE318 := n3_; clear n0_ n1_ n2_ n3_; clear hb hbox hg; obtain ⟨hcz4_0, hcz4_1, hcz4_2, hcz4_3, hcz4_4⟩ := Gv.c5 BK318.out; obtain ⟨hfz4_0, hfz4_1, hfz4_2, hfz4_3, hfz4_4⟩ := Gv.f5 BK318.out))
  go_ret
  exact ⟨Gv.rt, Gv.bw⟩
 ·rw [if_neg c2] at H
  have c2b0 : (a0_0 == 4) = false := beq_eq_false_iff_ne.mpr c2
  have c2b1 : (a0_0 != 4) = true := bne_iff_ne.mpr c2
  obtain rfl := Option.some.inj H
  go_enter Try.func70, Try.ntmps70
  go_wp2_with (first | ((with_reducible refine gate_dst (N := 1) rfl ?_); refine box_event ?hg (N := 1) ?hd (cs := #[.int .i64 a0_0, .int .i64 a0_1, .int .i64 a0_2, .int .i64 a0_3, .int .i64 a0_4]) (t := 26) ?hr ?_; (case hd => rfl); (case hg => rfl); (case hr => first | (go_simp; done) | (go_simp; rfl)); intro gb318 hg w5 hbox hb; have n0_ := Gv.a0 (below_step Gv.bw hb); have n1_ := Gv.a0 (hbox); have n2_ := Gv.a0 ((Gv.ble hg Gv.bw : w.heap.size ≤ gb318)); have n3_ := Gv.a0 ((Gv.ble hg Gv.bw : w.heap.size ≤ gb318)); clear HB; have HB := n0_; have BK318 := n1_; have GW318 := n2_; have GE318 := n3_; clear n0_ n1_ n2_ n3_; clear hb hbox hg; obtain ⟨hcz6_0, hcz6_1, hcz6_2, hcz6_3, hcz6_4⟩ := Gv.c5 BK318.out; obtain ⟨hfz6_0, hfz6_1, hfz6_2, hfz6_3, hfz6_4⟩ := Gv.f5 BK318.out))
  go_ret
  exact ⟨Gv.rt, Gv.bw⟩

/-! ### impl_put: function 93 -/
def impl_put.l0 : Nat → Int → Int → List Int → Int → Int → Option (List Int)
 | 0, _, _, _, _, _ => none
 | k + 1, x0, x1, x5, x10, x11 => if x11 < x10 then (if 0 ≤ (wrap64 (8 * (wrap64 ((wrap64 (x1 - 1)) - x11)))) then (if 0 ≤ x11 then (if x11 < (x5.length : Int) then (impl_put.l0 k x0 x1 (x5.set (x11 : Int).toNat ((shr .i64 x0 (wrap64 (8 * (wrap64 ((wrap64 (x1 - 1)) - x11))))) % 256)) x10 (wrap64 (x11 + 1))) else (none)) else (none)) else (none)) else (some x5)
def impl_put.f (k : Nat) (a0 : Int) (a1 : Int) : Option (List Int) := if 0 ≤ a1 then (if (a1 : Int).toNat ≤ 281474976710656 then ((some (List.replicate (a1 : Int).toNat 0 : List Int)).bind fun y319 => (impl_put.l0 k a0 a1 y319 (y319.length : Int) 0)) else (none)) else (none)
theorem impl_put.mono_l : ∀ k, (∀ y0 y1 y2 y3 y4, LeO (impl_put.l0 k y0 y1 y2 y3 y4) (impl_put.l0 (k + 1) y0 y1 y2 y3 y4))
 | 0 => fun _ _ _ _ _ r h => by simp [impl_put.l0] at h
 | k + 1 => by
  have ih0 := impl_put.mono_l k
  ·intro y0 y1 y2 y3 y4
   unfold impl_put.l0
   repeat' first
   | (with_reducible exact ih0 _ _ _ _ _)
   | (with_reducible exact LeO.refl _)
   | (with_reducible exact LeO.none _)
   | (with_reducible refine LeO.ite ?_ ?_)
   | (with_reducible refine LeO.bind ?_ (fun _ => ?_))
   | exact ih0 _ _ _ _ _
   | exact LeO.none _
   | refine LeO.ite ?_ ?_
   | refine LeO.bind ?_ (fun _ => ?_)
theorem impl_put.mono : ∀ a0 a1 k, LeO (impl_put.f k a0 a1) (impl_put.f (k + 1) a0 a1) := by
 intro a0 a1 k
 have ih0 := impl_put.mono_l k
 unfold impl_put.f
 repeat' first
   | (with_reducible exact ih0 _ _ _ _ _)
   | (with_reducible exact LeO.refl _)
   | (with_reducible exact LeO.none _)
   | (with_reducible refine LeO.ite ?_ ?_)
   | (with_reducible refine LeO.bind ?_ (fun _ => ?_))
   | exact ih0 _ _ _ _ _
   | exact LeO.none _
   | refine LeO.ite ?_ ?_
   | refine LeO.bind ?_ (fun _ => ?_)
set_option maxHeartbeats 8000000 in
set_option maxRecDepth 100000 in
theorem impl_put.calls (k : Nat) (a0 : Int) (a1 : Int) (r : List Int) (w : World) (h : impl_put.f k a0 a1 = some r) :
  Calls Try.prog 93 #[.int .i64 a0, .int .i64 a1] w fun e w' => ∃ v0_ : Value, e = .returned (v0_) ∧ Kd.R (Kd.int .u8) 5 w' w.heap.size (fun _ => True) v0_ r ∧ Below w.heap.size w w' := by
 have HB := Gv.a0 (Below.refl w.heap.size w)
 have H : (if 0 ≤ a1 then (if (a1 : Int).toNat ≤ 281474976710656 then ((some (List.replicate (a1 : Int).toNat 0 : List Int)).bind fun y319 => (impl_put.l0 k a0 a1 y319 (y319.length : Int) 0)) else (none)) else (none)) = some r := h
 clear h
 by_cases c3 : 0 ≤ a1
 ·rw [if_pos c3] at H
  have c3b0 := eq_true c3
  have c3b1 : decide (0 ≤ a1) = true := decide_eq_true c3
  clear c3
  by_cases c4 : (a1 : Int).toNat ≤ 281474976710656
  ·rw [if_pos c4] at H
   have c4b0 := eq_true c4
   have c4b1 : decide ((a1 : Int).toNat ≤ 281474976710656) = true := decide_eq_true c4
   clear c4
   obtain ⟨y319, hy319⟩ : ∃ y_ : List Int, y_ = (List.replicate (a1 : Int).toNat 0) := ⟨_, rfl⟩
   replace H : (impl_put.l0 k a0 a1 y319 (y319.length : Int) 0) = some r := by first | (rw [hy319]; with_reducible exact H) | (have H2_ := (Option.bind_some _ _).symm.trans H; rw [hy319]; with_reducible exact H2_) | (have H2_ := (Option.bind_some _ _).symm.trans H; with_reducible exact H2_) | with_reducible exact H | (rw [hy319]; exact H) | exact H
   have Ny319 := Gv.a0 hy319
   clear hy319
   have H' := Gv.a0 H
   clear H
   go_enter Try.func93, Try.ntmps93
   go_wp2_with (first | ((with_reducible refine gate_dst (N := 8) rfl ?_); refine Kd.R_make (Kd.int .u8) _ 5 rfl (N := 8) rfl 62 _ _ rfl a1 rfl rfl Try.underlying62 (.int .u8 0) 1 info5 rfl (by decide) (by omega) 0 (ok := fun _ => True) (okp := fun _ => True) rfl (fun _ hk => hk) trivial (of_decide_eq_true (by first | (with_reducible assumption) | assumption)) (Nat.le_trans (Nat.mul_le_mul_right _ (of_decide_eq_true (by first | (with_reducible assumption) | assumption) : a1.toNat ≤ 281474976710656)) (by omega)) (Below.refl _ _) (Nat.le_refl _) ?_; intro v320 w5 ho6 hb hg_ hnew_; clear hg_ hnew_; (first | rw [← Ny319.out] at ho6 | (simp only [Int.reduceToNat] at ho6; rw [← Ny319.out] at ho6)); have n0_ := Gv.a0 (Kd.R_lower ho6 (below_size Gv.bw)); have n1_ := Gv.a0 (below_step Gv.bw hb); clear HB; have HO321 := n0_; have HB := n1_; clear n0_ n1_; clear hb ho6; obtain ⟨Ao7, co7, eo7⟩ := Kd.R_slice HO321.out; subst eo7))
   go_loopg [11] k (fun kq v11 w' => ∃ (x5_1 : List Int) (x11_1 : Int), v11 = .int .i64 x11_1 ∧ Aside0 (impl_put.l0 kq a0 a1 x5_1 (y319.length : Int) x11_1 = some r) ∧ Aside0 (kq ≤ k) ∧ Aside0 (Kd.R (Kd.int .u8) 5 w' w.heap.size (fun _ => True) (.slice Ao7 y319.length co7) x5_1) ∧ Aside0 (Below w.heap.size w w'))
   case atStart => exact ⟨(y319), (0), Gv.rq, H', ⟨Nat.le_refl _⟩, ⟨Gv.kr HO321.out⟩, ⟨Gv.bw⟩⟩
   case round =>
    clear H'
    try clear p2
    try clear c3
    try clear c3b0
    try clear c3b1
    try clear c4
    try clear c4b0
    try clear c4b1
    obtain ⟨x5_1, x11_1, rfl, HA, HK1, HO_5, HB⟩ := hrel
    have hl5_1 := (Kd.R_reads' HO_5.out).1
    rw [hl5_1] at HO_5
    (try simp only [hl5_1])
    cases gk with
    | zero => exact absurd HA.out (by simp [impl_put.l0])
    | succ k1 =>
     have H := HA.out
     clear HA
     simp only [impl_put.l0] at H
     by_cases c8 : x11_1 < (y319.length : Int)
     ·rw [if_pos c8] at H
      have c8b0 : decide (x11_1 < (y319.length : Int)) = true := decide_eq_true c8
      (try (have c8b9 := c8b0; rw [hl5_1] at c8b9))
      (try (have c8b8 := c8b0; rw [← hl5_1] at c8b8))
      clear c8
      obtain ⟨ji9, hji9⟩ : ∃ j_ : Int, (wrap64 (8 * (wrap64 ((wrap64 (a1 - 1)) - x11_1)))) = j_ := ⟨_, rfl⟩
      replace H : (if 0 ≤ (ji9) then (if 0 ≤ x11_1 then (if x11_1 < (x5_1.length : Int) then (impl_put.l0 k1 a0 a1 (x5_1.set (x11_1 : Int).toNat ((shr .i64 a0 (ji9)) % 256)) (y319.length : Int) (wrap64 (x11_1 + 1))) else (none)) else (none)) else (none)) = some r := by first | (rw [hji9] at H; exact H) | (simp only [hji9] at H ⊢; exact H)
      have hji9w : (IntKind.i64.wrap (8 * (wrap64 ((wrap64 (a1 - 1)) - x11_1)))) = ji9 := (i64_w _).trans hji9
      by_cases c10 : 0 ≤ (ji9)
      ·rw [if_pos c10] at H
       have c10b0 := eq_true c10
       have c10b1 : decide (0 ≤ (ji9)) = true := decide_eq_true c10
       clear c10
       obtain ⟨ji11, hji11⟩ : ∃ j_ : Int, (shr .i64 a0 (ji9)) = j_ := ⟨_, rfl⟩
       replace H : (if 0 ≤ x11_1 then (if x11_1 < (x5_1.length : Int) then (impl_put.l0 k1 a0 a1 (x5_1.set (x11_1 : Int).toNat ((ji11) % 256)) (y319.length : Int) (wrap64 (x11_1 + 1))) else (none)) else (none)) = some r := by first | (rw [hji11] at H; exact H) | (simp only [hji11] at H ⊢; exact H)
       have hji11_ : (a0 / 2 ^ min (ji9).toNat 64) = ji11 := hji11
       have hji11z : (ji9) ≤ 64 → (a0 / 2 ^ (ji9).toNat) = ji11 := shr_small hji11
       by_cases c12 : 0 ≤ x11_1
       ·rw [if_pos c12] at H
        have c12b0 : decide (0 ≤ x11_1) = true := decide_eq_true c12
        clear c12
        by_cases c13 : x11_1 < (x5_1.length : Int)
        ·rw [if_pos c13] at H
         have c13b0 : decide (x11_1 < (x5_1.length : Int)) = true := decide_eq_true c13
         clear c13
         obtain ⟨y322, hy322⟩ : ∃ y_ : List Int, y_ = (x5_1.set (x11_1 : Int).toNat ((ji11) % 256)) := ⟨_, rfl⟩
         replace H : (impl_put.l0 k1 a0 a1 y322 (y319.length : Int) (wrap64 (x11_1 + 1))) = some r := by first | (rw [hy322]; with_reducible exact H) | (have H2_ := (Option.bind_some _ _).symm.trans H; rw [hy322]; with_reducible exact H2_) | (have H2_ := (Option.bind_some _ _).symm.trans H; with_reducible exact H2_) | with_reducible exact H | (rw [hy322]; exact H) | exact H
         have Ny322 := Gv.a0 hy322
         clear hy322
         have H' := Gv.a0 H
         clear H
         have p14 : 0 ≤ (x11_1 : Int) := of_decide_eq_true (by first | (with_reducible assumption) | assumption)
         have q14 : (x11_1 : Int) < ((x5_1.length : Int) : Int) := of_decide_eq_true (by first | (with_reducible assumption) | assumption)
         obtain ⟨go14, co14, eo14, gb14, gl14, cl14, HG14⟩ := Kd.R_form HO_5.out (by omega)
         (first | cases eo14 | (injection eo14 with ea_ en_ ec_; (first | subst ea_ | (injection ea_ with ea_; subst ea_)); subst ec_; clear en_))
         have GB14 := Gv.a0 gb14
         have GG14 := Gv.a0 HG14
         clear gb14 gl14 HG14
         obtain ⟨hx14_0, hf14_0⟩ := Kd.R_celln 0 HO_5.out (x11_1 : Int) p14 q14
         replace p14 := eq_true p14
         replace q14 := eq_true q14
         have HP15 := Kd.R_putg HO_5.out (x11_1 : Int) ((ji11) % 256)
         go_wp2_with (first | ((with_reducible refine gate_store (t := 5) (p := 24) rfl ?_); refine store_event (t := 5) (p := 24) (v := ?vo_w16) (w1 := (wr.setCell ⟨go14, (x11_1 : Int).toNat, none⟩ (.int .u8 ((ji11) % 256)))) ?hg ?ho ?hn ?hr ?_; (case ho => rfl); (case hg => rfl); (case hn => rfl); (case hr => first | (go_simp; done) | (go_simp; rfl)); intro w16 hw; have hg : wr.grownBy w16 (some go14) := (by rw [hw]; exact HP15.2); have hp_ : Kd.R (Kd.int .u8) 5 w16 w.heap.size (fun _ => True) (.slice (some ⟨go14, 0, none⟩) x5_1.length co7) y322 := (by rw [hw, Ny322.out]; exact HP15.1); clear HP15; have n0_ := Gv.a0 (hp_); have n1_ := Gv.a0 ((by rw [hw]; exact below_set (HB.out) GB14.out : Below w.heap.size w w16)); clear HO_5; clear HB; have HO_5 := n0_; have HB := n1_; clear n0_ n1_; clear hg hw hp_))
         (try simp only [← hl5_1])
         go_roundg k1
         case measure => have := HK1.out; omega
         case rel => exact ⟨(y322), (wrap64 (x11_1 + 1)), Gv.rq, H', ⟨by have := HK1.out; omega⟩, ⟨by (try simp only [hl5_1]); (with_reducible repeat (first | apply Kd.R_alloc | apply Kd.R_drewN | apply Kd.R_drew)); exact HO_5.out⟩, ⟨Gv.bw⟩⟩
        ·rw [if_neg c13] at H
         exact absurd H (by simp)
       ·rw [if_neg c12] at H
        exact absurd H (by simp)
      ·rw [if_neg c10] at H
       exact absurd H (by simp)
     ·rw [if_neg c8] at H
      have c8b0 : decide (x11_1 < (y319.length : Int)) = false := decide_eq_false c8
      (try (have c8b9 := c8b0; rw [hl5_1] at c8b9))
      (try (have c8b8 := c8b0; rw [← hl5_1] at c8b8))
      clear c8
      obtain rfl := Option.some.inj H
      go_wp2
      go_ret
      exact ⟨_, Gv.rt, Gv.kr HO_5.out, Gv.bw⟩
  ·rw [if_neg c4] at H
   exact absurd H (by simp)
 ·rw [if_neg c3] at H
  exact absurd H (by simp)

/-! ### impl_Put32: function 90 -/
def impl_Put32.f (k : Nat) (a0 : Int) : Option (List Int) := (impl_put.f k a0 4).bind fun t323 => (some t323)
theorem impl_Put32.mono : ∀ a0 k, LeO (impl_Put32.f k a0) (impl_Put32.f (k + 1) a0) := by
 intro a0 k
 unfold impl_Put32.f
 repeat' first
   | (with_reducible exact impl_put.mono _ _ _)
   | (with_reducible exact LeO.refl _)
   | (with_reducible exact LeO.none _)
   | (with_reducible refine LeO.ite ?_ ?_)
   | (with_reducible refine LeO.bind ?_ (fun _ => ?_))
   | exact impl_put.mono _ _ _
   | exact LeO.none _
   | refine LeO.ite ?_ ?_
   | refine LeO.bind ?_ (fun _ => ?_)
set_option maxHeartbeats 8000000 in
set_option maxRecDepth 100000 in
theorem impl_Put32.calls (k : Nat) (a0 : Int) (r : List Int) (w : World) (h : impl_Put32.f k a0 = some r) :
  Calls Try.prog 90 #[.int .i64 a0] w fun e w' => ∃ v0_ : Value, e = .returned (v0_) ∧ Kd.R (Kd.int .u8) 5 w' w.heap.size (fun _ => True) v0_ r ∧ Below w.heap.size w w' := by
 have HB := Gv.a0 (Below.refl w.heap.size w)
 have H : ((impl_put.f k a0 4).bind fun t323 => (some t323)) = some r := h
 clear h
 replace H := Option.bind_eq_some_iff.mp H
 obtain ⟨t323, A20, H⟩ := H
 replace H : (some t323) = some r := H
 have A2 := Gv.a0 A20
 clear A20
 obtain rfl := Option.some.inj H
 go_enter Try.func90, Try.ntmps90
 go_wp2_with (first | ((with_reducible refine gate_callee (f := 93) rfl ?_); refine goesL_ (some 4) rfl rfl Try.func93 (by kernel_rfl) rfl #[.int .i64 a0, .int .i64 4] rfl Gv.lm ?_; (with_reducible refine (impl_put.calls k a0 4 t323 _ A2.out).mono ?_); rintro e w3 ⟨v324, rfl, ho0, hb⟩; refine ⟨_, rfl, ?_⟩; have n0_ := Gv.a0 (Kd.R_lower ho0 (below_size Gv.bw)); have n1_ := Gv.a0 (below_step Gv.bw hb); clear HB; have HO325 := n0_; have HB := n1_; clear n0_ n1_; (try clear hb); (try clear hb2); (try clear hk); (try clear hi); (try clear ho0)))
 go_ret
 exact ⟨_, Gv.rt, Gv.kr HO325.out, Gv.bw⟩

/-! ### slices_Grow_byte_byte: function 94 -/
def slices_Grow_byte_byte.f (a0 : Int) : Option (List Int) := if 0 ≤ a0 ∧ a0 ≤ 1099511627776 then some ([] : List Int) else none
set_option maxHeartbeats 8000000 in
set_option maxRecDepth 100000 in
theorem slices_Grow_byte_byte.calls (a0 : Int) (r : List Int) (w : World) (h : slices_Grow_byte_byte.f a0 = some r) :
  Calls Try.prog 94 #[.slice none 0 0, .int .i64 a0] w fun e w' => ∃ v0_ : Value, e = .returned (v0_) ∧ Kd.R (Kd.int .u8) 5 w' w.heap.size (fun _ => True) v0_ r ∧ Below w.heap.size w w' := by
 unfold slices_Grow_byte_byte.f at h
 by_cases hn : 0 ≤ a0 ∧ a0 ≤ 1099511627776
 rotate_left
 ·rw [if_neg hn] at h
  cases h
 rw [if_pos hn] at h
 obtain rfl := Option.some.inj h
 clear h
 by_cases h0 : a0 = 0
 ·subst h0
  go_enter Try.func94, Try.ntmps94
  go_wp2
  go_ret
  exact ⟨_, rfl, Kd.R_nil _ _ _ _ _, Below.refl _ w⟩
 obtain ⟨n, rfl⟩ : ∃ n : Nat, a0 = n := ⟨a0.toNat, by omega⟩
 have hi := info5
 rw [Option.map_eq_some_iff] at hi
 obtain ⟨i, hi, hz⟩ := hi
 simp only [Prod.mk.injEq] at hz
 obtain ⟨hz, hs, hb⟩ := hz
 have hrz : ∀ ty, (Builtin.append_ #[62, 3] ty #[.slice none 0 0, .int .i64 (n : Int)]).run Try.prog w = _ := fun ty =>
  Lib.run_append_nil_zeros w 62 3 ty 5 i (.int .u8 0) .i64 .i64 Try.underlying62 Try.underlying3 hi hz n (by omega) (by omega) (by omega) (by rw [hb]; omega)
 have hG1 : n ≤ grownCap w n 0 5 := grownCap_ge w _ _ _
 have hG2 : grownCap w n 0 5 ≤ maxLen := grownCap_le_maxLen w n 0 5 (by unfold maxLen; omega)
 obtain ⟨G, hG⟩ : ∃ G, G = grownCap w n 0 5 := ⟨_, rfl⟩
 rw [← hG] at hrz hG1 hG2
 have h1 : ¬ ((n : Int) < 0) := by omega
 have h2 : wrap64 ((0 : Int) - 0) = 0 := by unfold wrap64; omega
 have h3 : wrap64 ((n : Int) - 0) = n := by unfold wrap64; omega
 have h4 : (n : Int) > 0 := by omega
 have hG63 : G ≤ 9223372036854775807 := by unfold maxLen at hG2; omega
 have hsz : (Builtin.zeroCells (Value.int .u8 0).cells n ++ Builtin.zeroCells (Value.int .u8 0).cells (G - n)).size = G * 1 := by
  rw [Array.size_append, size_zeroCells, size_zeroCells, show (Value.int .u8 0).cells.size = 1 from rfl]
  omega
 clear hG hz hs hb hi
 go_enter Try.func94, Try.ntmps94
 go_wp2_with (at_builtin; refine Lib.wpList_append_run _ rfl _ _ _ _ rfl _ _ rfl rfl _ _ (hrz _) ?_)
 go_ret
 refine ⟨_, rfl, ⟨fun _ _ => trivial, [], ⟨by simp, .inr ⟨w.heap.size, G, _, rfl, Nat.le_refl _, heap_alloc_new _ _, Nat.zero_le _, hG2, hsz, by simp⟩⟩, Reps.none _ _⟩, (below_alloc (below_drew1 (Below.refl _ w)) _)⟩

/-! ### slices_Concat_byte_byte: function 91 -/
mutual
def slices_Concat_byte_byte.l0 : Nat → List (List Int) → Int → List (List Int) → Int → Int → Option (List Int)
 | 0, _, _, _, _, _ => none
 | k + 1, x0, x3, x9, x10, x11 => if x11 < x10 then (if 0 ≤ x11 then (if x11 < (x9.length : Int) then (if (wrap64 (x3 + ((rd_L12 x9 x11).length : Int))) < 0 then (none) else (slices_Concat_byte_byte.l0 k x0 (wrap64 (x3 + ((rd_L12 x9 x11).length : Int))) x9 x10 (wrap64 (x11 + 1)))) else (none)) else (none)) else ((slices_Grow_byte_byte.f x3).bind fun t330 => (slices_Concat_byte_byte.l1 k t330 x0 (x0.length : Int) 0))
def slices_Concat_byte_byte.l1 : Nat → List Int → List (List Int) → Int → Int → Option (List Int)
 | 0, _, _, _, _ => none
 | k + 1, x6, x25, x26, x27 => if x27 < x26 then (if 0 ≤ x27 then (if x27 < (x25.length : Int) then (if x6.length + (rd_L12 x25 x27).length < 140737488355328 then (slices_Concat_byte_byte.l1 k (x6 ++ (rd_L12 x25 x27)) x25 x26 (wrap64 (x27 + 1))) else (none)) else (none)) else (none)) else (some x6)
end
def slices_Concat_byte_byte.f (k : Nat) (l0 : List (List Int)) : Option (List Int) := slices_Concat_byte_byte.l0 k l0 0 l0 (l0.length : Int) 0
theorem slices_Concat_byte_byte.mono_l : ∀ k, (∀ y0 y1 y2 y3 y4, LeO (slices_Concat_byte_byte.l0 k y0 y1 y2 y3 y4) (slices_Concat_byte_byte.l0 (k + 1) y0 y1 y2 y3 y4)) ∧ (∀ y0 y1 y2 y3, LeO (slices_Concat_byte_byte.l1 k y0 y1 y2 y3) (slices_Concat_byte_byte.l1 (k + 1) y0 y1 y2 y3))
 | 0 => ⟨fun _ _ _ _ _ r h => by simp [slices_Concat_byte_byte.l0] at h, fun _ _ _ _ r h => by simp [slices_Concat_byte_byte.l1] at h⟩
 | k + 1 => by
  obtain ⟨ih0, ih1⟩ := slices_Concat_byte_byte.mono_l k
  refine ⟨?_, ?_⟩
  ·intro y0 y1 y2 y3 y4
   unfold slices_Concat_byte_byte.l0
   repeat' first
   | (with_reducible exact ih0 _ _ _ _ _)
   | (with_reducible exact ih1 _ _ _ _)
   | (with_reducible exact LeO.refl _)
   | (with_reducible exact LeO.none _)
   | (with_reducible refine LeO.ite ?_ ?_)
   | (with_reducible refine LeO.bind ?_ (fun _ => ?_))
   | exact ih0 _ _ _ _ _
   | exact ih1 _ _ _ _
   | exact LeO.none _
   | refine LeO.ite ?_ ?_
   | refine LeO.bind ?_ (fun _ => ?_)
  ·intro y0 y1 y2 y3
   unfold slices_Concat_byte_byte.l1
   repeat' first
   | (with_reducible exact ih0 _ _ _ _ _)
   | (with_reducible exact ih1 _ _ _ _)
   | (with_reducible exact LeO.refl _)
   | (with_reducible exact LeO.none _)
   | (with_reducible refine LeO.ite ?_ ?_)
   | (with_reducible refine LeO.bind ?_ (fun _ => ?_))
   | exact ih0 _ _ _ _ _
   | exact ih1 _ _ _ _
   | exact LeO.none _
   | refine LeO.ite ?_ ?_
   | refine LeO.bind ?_ (fun _ => ?_)
theorem slices_Concat_byte_byte.mono : ∀ a0 k, LeO (slices_Concat_byte_byte.f k a0) (slices_Concat_byte_byte.f (k + 1) a0) := by
 intro a0 k
 obtain ⟨ih0, ih1⟩ := slices_Concat_byte_byte.mono_l k
 unfold slices_Concat_byte_byte.f
 repeat' first
   | (with_reducible exact ih0 _ _ _ _ _)
   | (with_reducible exact ih1 _ _ _ _)
   | (with_reducible exact LeO.refl _)
   | (with_reducible exact LeO.none _)
   | (with_reducible refine LeO.ite ?_ ?_)
   | (with_reducible refine LeO.bind ?_ (fun _ => ?_))
   | exact ih0 _ _ _ _ _
   | exact ih1 _ _ _ _
   | exact LeO.none _
   | refine LeO.ite ?_ ?_
   | refine LeO.bind ?_ (fun _ => ?_)
set_option maxHeartbeats 8000000 in
set_option maxRecDepth 100000 in
theorem slices_Concat_byte_byte.calls (k : Nat) (A0 : Option Addr) (c0 : Nat) (l0 : List (List Int)) (r : List Int) (w : World) (hr0 : Kd.C (Kd.slice 5 (Kd.int .u8)) w A0 l0.length l0) (hc0 : l0.length ≤ c0) (h : slices_Concat_byte_byte.f k l0 = some r) :
  Calls Try.prog 91 #[.slice A0 l0.length c0] w fun e w' => ∃ v0_ : Value, e = .returned (v0_) ∧ Kd.R (Kd.int .u8) 5 w' w.heap.size (fun _ => True) v0_ r ∧ Below w.heap.size w w' := by
 have HR0 := Gv.a0 hr0
 have HC0 := Gv.a0 hc0
 clear hr0 hc0
 have HB := Gv.a0 (Below.refl w.heap.size w)
 have H : (slices_Concat_byte_byte.l0 k l0 0 l0 (l0.length : Int) 0) = some r := h
 clear h
 have H' := Gv.a0 H
 clear H
 go_enter Try.func91, Try.ntmps91
 go_wp2
 go_loopg [3, 11] k (fun kq v3 v11 w' => ∃ (x3_1 : Int) (x11_1 : Int), v3 = .int .i64 x3_1 ∧ v11 = .int .i64 x11_1 ∧ Aside0 (slices_Concat_byte_byte.l0 kq l0 x3_1 l0 (l0.length : Int) x11_1 = some r) ∧ Aside0 (kq ≤ k) ∧ Aside0 (Below w.heap.size w w'))
 case atStart => exact ⟨(0), (0), Gv.rq, Gv.rq, H', ⟨Nat.le_refl _⟩, ⟨Gv.bw⟩⟩
 case round =>
  clear H'
  obtain ⟨x3_1, x11_1, rfl, rfl, HA, HK1, HB⟩ := hrel
  cases gk with
  | zero => exact absurd HA.out (by simp [slices_Concat_byte_byte.l0])
  | succ k1 =>
   have H := HA.out
   clear HA
   simp only [slices_Concat_byte_byte.l0] at H
   by_cases c2 : x11_1 < (l0.length : Int)
   ·rw [if_pos c2] at H
    have c2b0 : decide (x11_1 < (l0.length : Int)) = true := decide_eq_true c2
    clear c2
    by_cases c3 : 0 ≤ x11_1
    ·rw [if_pos c3] at H
     have c3b0 : decide (0 ≤ x11_1) = true := decide_eq_true c3
     clear c3
     by_cases c4 : x11_1 < (l0.length : Int)
     ·rw [if_pos c4] at H
      have c4b0 : decide (x11_1 < (l0.length : Int)) = true := decide_eq_true c4
      clear c4
      by_cases c5 : (wrap64 (x3_1 + ((rd_L12 l0 x11_1).length : Int))) < 0
      ·rw [if_pos c5] at H
       exact absurd H (by simp)
      ·rw [if_neg c5] at H
       have c5b0 : decide ((wrap64 (x3_1 + ((rd_L12 l0 x11_1).length : Int))) < 0) = false := decide_eq_false c5
       clear c5
       have H' := Gv.a0 H
       clear H
       have p329 : 0 ≤ (x11_1 : Int) := of_decide_eq_true (by first | (with_reducible assumption) | assumption)
       have q329 : x11_1 < (l0.length : Int) := of_decide_eq_true (by first | (with_reducible assumption) | assumption)
       obtain ⟨ad329, A329_0, c329_0, e329, hx329_0, hl329_0, hi329_0⟩ := at_L12 HR0.out x11_1 p329 q329
       cases e329
       replace hx329_0 := Gv.bx HB.out hx329_0
       have HR329_0 := Gv.a0 hi329_0
       have HC329_0 := Gv.a0 hl329_0
       clear hi329_0 hl329_0
       replace p329 := eq_true p329
       replace q329 := eq_true q329
       go_wp2
       go_roundg k1
       case measure => have := HK1.out; omega
       case rel => exact ⟨(wrap64 (x3_1 + ((rd_L12 l0 x11_1).length : Int))), (wrap64 (x11_1 + 1)), Gv.rq, Gv.rq, H', ⟨by have := HK1.out; omega⟩, ⟨Gv.bw⟩⟩
     ·rw [if_neg c4] at H
      exact absurd H (by simp)
    ·rw [if_neg c3] at H
     exact absurd H (by simp)
   ·rw [if_neg c2] at H
    have c2b0 : decide (x11_1 < (l0.length : Int)) = false := decide_eq_false c2
    clear c2
    replace H := Option.bind_eq_some_iff.mp H
    obtain ⟨t330, A60, H⟩ := H
    replace H : (slices_Concat_byte_byte.l1 k1 t330 l0 (l0.length : Int) 0) = some r := H
    have A6 := Gv.a0 A60
    clear A60
    have H' := Gv.a0 H
    clear H
    go_wp2_with (first | ((with_reducible refine gate_callee (f := 94) rfl ?_); refine goesL_ (some 24) rfl rfl Try.func94 (by kernel_rfl) rfl #[.slice none 0 0, .int .i64 x3_1] rfl Gv.lm ?_; (with_reducible refine (slices_Grow_byte_byte.calls x3_1 t330 _ A6.out).mono ?_); rintro e w7 ⟨v331, rfl, ho0, hb⟩; refine ⟨_, rfl, ?_⟩; have n0_ := Gv.a0 (Kd.R_lower ho0 (below_size Gv.bw)); have n1_ := Gv.a0 (below_step Gv.bw hb); clear HB; have HO332 := n0_; have HB := n1_; clear n0_ n1_; (try clear hb); (try clear hb2); (try clear hk); (try clear hi); (try clear ho0)))
    go_loopg [6, 27] k1 (fun kq v6 v27 w' => ∃ (x6_2 : List Int) (x27_2 : Int), v27 = .int .i64 x27_2 ∧ Aside0 (slices_Concat_byte_byte.l1 kq x6_2 l0 (l0.length : Int) x27_2 = some r) ∧ Aside0 (kq ≤ k1) ∧ Aside0 (Kd.R (Kd.int .u8) 5 w' w.heap.size (fun _ => True) v6 x6_2) ∧ Aside0 (Below w.heap.size w w'))
    case atStart => exact ⟨(t330), (0), Gv.rq, H', ⟨Nat.le_refl _⟩, ⟨Gv.kr HO332.out⟩, ⟨Gv.bw⟩⟩
    case round =>
     clear H'
     try clear c2
     try clear c2b0
     try clear p2
     try clear c3
     try clear c3b0
     try clear p3
     try clear q3
     try clear hx3
     try clear c4
     try clear c4b0
     try clear c5
     try clear c5b0
     try clear p6
     try clear hx329_0
     try clear p329
     try clear q329
     obtain ⟨x6_2, x27_2, rfl, HA, HK2, HO_6, HB⟩ := hrel
     cases gk with
     | zero => exact absurd HA.out (by simp [slices_Concat_byte_byte.l1])
     | succ k2 =>
      have H := HA.out
      clear HA
      simp only [slices_Concat_byte_byte.l1] at H
      by_cases c8 : x27_2 < (l0.length : Int)
      ·rw [if_pos c8] at H
       have c8b0 : decide (x27_2 < (l0.length : Int)) = true := decide_eq_true c8
       clear c8
       by_cases c9 : 0 ≤ x27_2
       ·rw [if_pos c9] at H
        have c9b0 : decide (0 ≤ x27_2) = true := decide_eq_true c9
        clear c9
        by_cases c10 : x27_2 < (l0.length : Int)
        ·rw [if_pos c10] at H
         have c10b0 : decide (x27_2 < (l0.length : Int)) = true := decide_eq_true c10
         clear c10
         by_cases c11 : x6_2.length + (rd_L12 l0 x27_2).length < 140737488355328
         ·rw [if_pos c11] at H
          have LMc11 := Gv.a0 c11
          clear c11
          obtain ⟨y334, hy334⟩ : ∃ y_ : List Int, y_ = (x6_2 ++ (rd_L12 l0 x27_2)) := ⟨_, rfl⟩
          replace H : (slices_Concat_byte_byte.l1 k2 y334 l0 (l0.length : Int) (wrap64 (x27_2 + 1))) = some r := by first | (rw [hy334]; with_reducible exact H) | (have H2_ := (Option.bind_some _ _).symm.trans H; rw [hy334]; with_reducible exact H2_) | (have H2_ := (Option.bind_some _ _).symm.trans H; with_reducible exact H2_) | with_reducible exact H | (rw [hy334]; exact H) | exact H
          have Ny334 := Gv.a0 hy334
          clear hy334
          have H' := Gv.a0 H
          clear H
          have p333 : 0 ≤ (x27_2 : Int) := of_decide_eq_true (by first | (with_reducible assumption) | assumption)
          have q333 : x27_2 < (l0.length : Int) := of_decide_eq_true (by first | (with_reducible assumption) | assumption)
          obtain ⟨ad333, A333_0, c333_0, e333, hx333_0, hl333_0, hi333_0⟩ := at_L12 HR0.out x27_2 p333 q333
          cases e333
          replace hx333_0 := Gv.bx HB.out hx333_0
          have HR333_0 := Gv.a0 hi333_0
          have HC333_0 := Gv.a0 hl333_0
          clear hi333_0 hl333_0
          replace p333 := eq_true p333
          replace q333 := eq_true q333
          go_wp2_with (first | ((with_reducible refine gate_builtin (b := .append) (xs := #[.tmp 31, .tmp 32]) rfl ?_); at_builtin; refine Kd.R_append_rows (Kd.int .u8) (w0 := w) w.heap.size rfl (.tmp 31) (.tmp 32) 62 5 (.int .u8 0) 1 rfl Try.underlying62 info5 rfl (by decide) (by omega) u6 x6_2 (rd_L12 l0 x27_2) _ _ _ (fun _ => True) (fun _ => False) rfl rfl ?aO ?aR (fun _ _ h => h) (fun _ h => h.elim) ?aF ?aB ?aS ?aL ?_; (case aR => repeat (first | exact (Kd.C_below HR333_0.out HB.out) | (with_reducible refine Kd.C_alloc ?_ _) | (with_reducible refine Kd.C_drewN ?_ _) | (with_reducible refine Kd.C_drew ?_))); (case aB => exact Gv.bw); (case aF => exact (fun _ _ => trivial)); (case aO => exact (Gv.kr HO_6.out)); (case aS => exact (below_size Gv.bw)); (case aL => have := LMc11.out; omega); intro v335 w12 ho hb hg hat; rw [← Ny334.out] at ho; have n0_ := Gv.a0 (hb); have n1_ := Gv.a0 (ho); clear HB; clear HO_6; have HB := n0_; have HO336 := n1_; clear n0_ n1_; clear ho hb hg hat))
          go_roundg k2
          case measure => have := HK1.out; have := HK2.out; omega
          case rel => exact ⟨(y334), (wrap64 (x27_2 + 1)), Gv.rq, H', ⟨by have := HK1.out; have := HK2.out; omega⟩, ⟨Gv.kr HO336.out⟩, ⟨Gv.bw⟩⟩
         ·rw [if_neg c11] at H
          exact absurd H (by simp)
        ·rw [if_neg c10] at H
         exact absurd H (by simp)
       ·rw [if_neg c9] at H
        exact absurd H (by simp)
      ·rw [if_neg c8] at H
       have c8b0 : decide (x27_2 < (l0.length : Int)) = false := decide_eq_false c8
       clear c8
       obtain rfl := Option.some.inj H
       go_wp2
       go_ret
       exact ⟨_, Gv.rt, Gv.kr HO_6.out, Gv.bw⟩

/-! ### impl_AddrBytes: function 86 -/
def impl_AddrBytes.f (k : Nat) (a0_0 : Int) (a0_1 : Int) (a0_2 : Int) (a0_3 : Int) (a0_4 : Int) : Option (List Int) := (impl_AddrOk.f a0_0 a0_1 a0_2 a0_3 a0_4).bind fun t338 => (if t338 = true then (if a0_0 = 4 then ((impl_Put32.f k a0_4).bind fun t339 => (some t339)) else ((impl_Put32.f k a0_1).bind fun t342 => ((impl_Put32.f k a0_2).bind fun t345 => ((impl_Put32.f k a0_3).bind fun t348 => ((impl_Put32.f k a0_4).bind fun t351 => ((slices_Concat_byte_byte.f k (([t342, t345, t348, t351] : List (List Int)))).bind fun t357 => (some t357))))))) else (some ([] : List Int)))
theorem impl_AddrBytes.mono : ∀ a0 a1 a2 a3 a4 k, LeO (impl_AddrBytes.f k a0 a1 a2 a3 a4) (impl_AddrBytes.f (k + 1) a0 a1 a2 a3 a4) := by
 intro a0 a1 a2 a3 a4 k
 unfold impl_AddrBytes.f
 repeat' first
   | (with_reducible exact impl_Put32.mono _ _)
   | (with_reducible exact slices_Concat_byte_byte.mono _ _)
   | (with_reducible exact LeO.refl _)
   | (with_reducible exact LeO.none _)
   | (with_reducible refine LeO.ite ?_ ?_)
   | (with_reducible refine LeO.bind ?_ (fun _ => ?_))
   | exact impl_Put32.mono _ _
   | exact slices_Concat_byte_byte.mono _ _
   | exact LeO.none _
   | refine LeO.ite ?_ ?_
   | refine LeO.bind ?_ (fun _ => ?_)
def impl_AddrBytes.T5 : Bool × List (List Nat × List Nat) := (true, [([], []), ([0], [0]), ([1], [1]), ([], []), ([3], [3]), ([4, 2], [4]), ([], []), ([6], [6]), ([7, 5], [7]), ([], []), ([9], [9]), ([10, 8], [10]), ([2, 5, 8, 11], [2, 5, 8, 11]), ([12, 11], [12]), ([13, 13, 0, 1, 2, 3, 4, 5, 6, 7, 8, 9, 10, 11, 12, 13], [13])])
def impl_AddrBytes.B5 : List Nat := [0, 1, 3, 0, 8, 31, 0, 64, 255, 0, 512, 2047, 4095, 8191, 16383]
theorem impl_AddrBytes.tab5 : rtab .any (opsOf Try.f86 5) = impl_AddrBytes.T5 := by kernel_rfl
theorem impl_AddrBytes.bits5 : waitsOk impl_AddrBytes.T5.2 impl_AddrBytes.B5 = true := by kernel_rfl
set_option maxHeartbeats 8000000 in
set_option maxRecDepth 100000 in
theorem impl_AddrBytes.calls (k : Nat) (a0_0 : Int) (a0_1 : Int) (a0_2 : Int) (a0_3 : Int) (a0_4 : Int) (r : List Int) (w : World) (h : impl_AddrBytes.f k a0_0 a0_1 a0_2 a0_3 a0_4 = some r) :
  Calls Try.prog 86 #[.agg #[.int .i64 a0_0, .int .i64 a0_1, .int .i64 a0_2, .int .i64 a0_3, .int .i64 a0_4]] w fun e w' => ∃ v0_ : Value, e = .returned (v0_) ∧ Kd.R (Kd.int .u8) 5 w' w.heap.size (fun _ => True) v0_ r ∧ Below w.heap.size w w' := by
 have hu26 := Try.underlying26
 have HB := Gv.a0 (Below.refl w.heap.size w)
 have H : ((impl_AddrOk.f a0_0 a0_1 a0_2 a0_3 a0_4).bind fun t338 => (if t338 = true then (if a0_0 = 4 then ((impl_Put32.f k a0_4).bind fun t339 => (some t339)) else ((impl_Put32.f k a0_1).bind fun t342 => ((impl_Put32.f k a0_2).bind fun t345 => ((impl_Put32.f k a0_3).bind fun t348 => ((impl_Put32.f k a0_4).bind fun t351 => ((slices_Concat_byte_byte.f k (([t342, t345, t348, t351] : List (List Int)))).bind fun t357 => (some t357))))))) else (some ([] : List Int)))) = some r := h
 clear h
 replace H := Option.bind_eq_some_iff.mp H
 obtain ⟨t338, A20, H⟩ := H
 replace H : (if t338 = true then (if a0_0 = 4 then ((impl_Put32.f k a0_4).bind fun t339 => (some t339)) else ((impl_Put32.f k a0_1).bind fun t342 => ((impl_Put32.f k a0_2).bind fun t345 => ((impl_Put32.f k a0_3).bind fun t348 => ((impl_Put32.f k a0_4).bind fun t351 => ((slices_Concat_byte_byte.f k (([t342, t345, t348, t351] : List (List Int)))).bind fun t357 => (some t357))))))) else (some ([] : List Int))) = some r := H
 have A2 := Gv.a0 A20
 clear A20
 by_cases c3 : t338 = true
 ·subst c3
  have H1 : (if a0_0 = 4 then ((impl_Put32.f k a0_4).bind fun t339 => (some t339)) else ((impl_Put32.f k a0_1).bind fun t342 => ((impl_Put32.f k a0_2).bind fun t345 => ((impl_Put32.f k a0_3).bind fun t348 => ((impl_Put32.f k a0_4).bind fun t351 => ((slices_Concat_byte_byte.f k (([t342, t345, t348, t351] : List (List Int)))).bind fun t357 => (some t357))))))) = some r := by rw [if_pos rfl] at H; exact H
  clear H
  have H := H1
  clear H1
  by_cases c4 : a0_0 = 4
  ·rw [if_pos c4] at H
   have c4b0 : (a0_0 == 4) = true := beq_iff_eq.mpr c4
   have c4b1 : (a0_0 != 4) = false := bne_eq_false_iff_eq.mpr c4
   clear c4
   replace H := Option.bind_eq_some_iff.mp H
   obtain ⟨t339, A50, H⟩ := H
   replace H : (some t339) = some r := H
   have A5 := Gv.a0 A50
   clear A50
   obtain rfl := Option.some.inj H
   go_enter Try.func86, Try.ntmps86
   go_wp2_with (first | ((with_reducible refine gate_dst (N := 1) rfl ?_); refine box_event ?hg (N := 1) ?hd (cs := #[.int .i64 a0_0, .int .i64 a0_1, .int .i64 a0_2, .int .i64 a0_3, .int .i64 a0_4]) (t := 26) ?hr ?_; (case hd => rfl); (case hg => rfl); (case hr => first | (go_simp; done) | (go_simp; rfl)); intro gb337 hg w6 hbox hb; have n0_ := Gv.a0 (below_step Gv.bw hb); have n1_ := Gv.a0 (hbox); have n2_ := Gv.a0 ((Gv.ble hg Gv.bw : w.heap.size ≤ gb337)); have n3_ := Gv.a0 ((Gv.ble hg Gv.bw : w.heap.size ≤ gb337)); clear HB; have HB := n0_; have BK337 := n1_; have GW337 := n2_; have GE337 := n3_; clear n0_ n1_ n2_ n3_; clear hb hbox hg; obtain ⟨hcz7_0, hcz7_1, hcz7_2, hcz7_3, hcz7_4⟩ := Gv.c5 BK337.out; obtain ⟨hfz7_0, hfz7_1, hfz7_2, hfz7_3, hfz7_4⟩ := Gv.f5 BK337.out) | ((with_reducible refine gate_callee (f := 67) rfl ?_); refine goesL_ (some 5) rfl rfl Try.func67 (by kernel_rfl) rfl #[.agg #[.int .i64 a0_0, .int .i64 a0_1, .int .i64 a0_2, .int .i64 a0_3, .int .i64 a0_4]] rfl Gv.lm ?_; (with_reducible refine (impl_AddrOk.calls a0_0 a0_1 a0_2 a0_3 a0_4 true _ A2.out).mono ?_); rintro e w8 ⟨rfl, hb⟩; refine ⟨_, rfl, ?_⟩; have n0_ := Gv.a0 (Gv.bb BK337.out hb); have n1_ := Gv.a0 (below_step Gv.bw hb); clear BK337; clear HB; have BK337 := n0_; have HB := n1_; clear n0_ n1_; (try clear hb); (try clear hb2); (try clear hk); (try clear hi); obtain ⟨hcz9_0, hcz9_1, hcz9_2, hcz9_3, hcz9_4⟩ := Gv.c5 BK337.out; obtain ⟨hfz9_0, hfz9_1, hfz9_2, hfz9_3, hfz9_4⟩ := Gv.f5 BK337.out) | ((with_reducible refine gate_callee (f := 90) rfl ?_); refine goesL_ (some 13) rfl rfl Try.func90 (by kernel_rfl) rfl #[.int .i64 a0_4] rfl Gv.lm ?_; (with_reducible refine (impl_Put32.calls k a0_4 t339 _ A5.out).mono ?_); rintro e w10 ⟨v340, rfl, ho0, hb⟩; refine ⟨_, rfl, ?_⟩; have n0_ := Gv.a0 (Kd.R_lower ho0 (below_size Gv.bw)); have n1_ := Gv.a0 (Gv.bb BK337.out hb); have n2_ := Gv.a0 (below_step Gv.bw hb); clear BK337; clear HB; have HO341 := n0_; have BK337 := n1_; have HB := n2_; clear n0_ n1_ n2_; (try clear hb); (try clear hb2); (try clear hk); (try clear hi); (try clear ho0)))
   go_ret
   exact ⟨_, Gv.rt, Gv.kr HO341.out, Gv.bw⟩
  ·rw [if_neg c4] at H
   have c4b0 : (a0_0 == 4) = false := beq_eq_false_iff_ne.mpr c4
   have c4b1 : (a0_0 != 4) = true := bne_iff_ne.mpr c4
   replace H := Option.bind_eq_some_iff.mp H
   obtain ⟨t342, A110, H⟩ := H
   replace H : ((impl_Put32.f k a0_2).bind fun t345 => ((impl_Put32.f k a0_3).bind fun t348 => ((impl_Put32.f k a0_4).bind fun t351 => ((slices_Concat_byte_byte.f k (([t342, t345, t348, t351] : List (List Int)))).bind fun t357 => (some t357))))) = some r := H
   have A11 := Gv.a0 A110
   clear A110
   replace H := Option.bind_eq_some_iff.mp H
   obtain ⟨t345, A120, H⟩ := H
   replace H : ((impl_Put32.f k a0_3).bind fun t348 => ((impl_Put32.f k a0_4).bind fun t351 => ((slices_Concat_byte_byte.f k (([t342, t345, t348, t351] : List (List Int)))).bind fun t357 => (some t357)))) = some r := H
   have A12 := Gv.a0 A120
   clear A120
   replace H := Option.bind_eq_some_iff.mp H
   obtain ⟨t348, A130, H⟩ := H
   replace H : ((impl_Put32.f k a0_4).bind fun t351 => ((slices_Concat_byte_byte.f k (([t342, t345, t348, t351] : List (List Int)))).bind fun t357 => (some t357))) = some r := H
   have A13 := Gv.a0 A130
   clear A130
   replace H := Option.bind_eq_some_iff.mp H
   obtain ⟨t351, A140, H⟩ := H
   replace H : ((slices_Concat_byte_byte.f k (([t342, t345, t348, t351] : List (List Int)))).bind fun t357 => (some t357)) = some r := H
   have A14 := Gv.a0 A140
   clear A140
   obtain ⟨y354, hy354⟩ : ∃ y_ : List (List Int), y_ = (([t342, t345, t348, t351] : List (List Int))) := ⟨_, rfl⟩
   replace H : ((slices_Concat_byte_byte.f k y354).bind fun t357 => (some t357)) = some r := by first | (rw [hy354]; with_reducible exact H) | (have H2_ := (Option.bind_some _ _).symm.trans H; rw [hy354]; with_reducible exact H2_) | (have H2_ := (Option.bind_some _ _).symm.trans H; with_reducible exact H2_) | with_reducible exact H | (rw [hy354]; exact H) | exact H
   have Ny354 := Gv.a0 hy354
   clear hy354
   replace H := Option.bind_eq_some_iff.mp H
   obtain ⟨t357, A150, H⟩ := H
   replace H : (some t357) = some r := H
   have A15 := Gv.a0 A150
   clear A150
   obtain rfl := Option.some.inj H
   go_enter Try.func86, Try.ntmps86
   try go_wp2_with (first | ((with_reducible refine gate_dst (N := 1) rfl ?_); refine box_event ?hg (N := 1) ?hd (cs := #[.int .i64 a0_0, .int .i64 a0_1, .int .i64 a0_2, .int .i64 a0_3, .int .i64 a0_4]) (t := 26) ?hr ?_; (case hd => rfl); (case hg => rfl); (case hr => first | (go_simp; done) | (go_simp; rfl)); intro gb337 hg w16 hbox hb; have n0_ := Gv.a0 (below_step Gv.bw hb); have n1_ := Gv.a0 (hbox); have n2_ := Gv.a0 ((Gv.ble hg Gv.bw : w.heap.size ≤ gb337)); have n3_ := Gv.a0 ((Gv.ble hg Gv.bw : w.heap.size ≤ gb337)); clear HB; have HB := n0_; have BK337 := n1_; have GW337 := n2_; have GE337 := n3_; clear n0_ n1_ n2_ n3_; clear hb hbox hg; obtain ⟨hcz17_0, hcz17_1, hcz17_2, hcz17_3, hcz17_4⟩ := Gv.c5 BK337.out; obtain ⟨hfz17_0, hfz17_1, hfz17_2, hfz17_3, hfz17_4⟩ := Gv.f5 BK337.out) | ((with_reducible refine gate_callee (f := 67) rfl ?_); refine goesL_ (some 5) rfl rfl Try.func67 (by kernel_rfl) rfl #[.agg #[.int .i64 a0_0, .int .i64 a0_1, .int .i64 a0_2, .int .i64 a0_3, .int .i64 a0_4]] rfl Gv.lm ?_; (with_reducible refine (impl_AddrOk.calls a0_0 a0_1 a0_2 a0_3 a0_4 true _ A2.out).mono ?_); rintro e w18 ⟨rfl, hb⟩; refine ⟨_, rfl, ?_⟩; have n0_ := Gv.a0 (Gv.bb BK337.out hb); have n1_ := Gv.a0 (below_step Gv.bw hb); clear BK337; clear HB; have BK337 := n0_; have HB := n1_; clear n0_ n1_; (try clear hb); (try clear hb2); (try clear hk); (try clear hi); obtain ⟨hcz19_0, hcz19_1, hcz19_2, hcz19_3, hcz19_4⟩ := Gv.c5 BK337.out; obtain ⟨hfz19_0, hfz19_1, hfz19_2, hfz19_3, hfz19_4⟩ := Gv.f5 BK337.out))
   have n0_ := Gv.a0 (blk_drew BK337.out)
   have n1_ := Gv.a0 (below_drew1 HB.out)
   clear BK337
   clear HB
   have BK337 := n0_
   have HB := n1_
   clear n0_ n1_
   refine start_ (n := 15) (S := fun w' => w'.cell? ⟨gb337, 0, none⟩ = some (.int .i64 a0_0) ∧ w'.cell? ⟨gb337, 1, none⟩ = some (.int .i64 a0_1) ∧ w'.cell? ⟨gb337, 2, none⟩ = some (.int .i64 a0_2) ∧ w'.cell? ⟨gb337, 3, none⟩ = some (.int .i64 a0_3) ∧ w'.cell? ⟨gb337, 4, none⟩ = some (.int .i64 a0_4)) (ds := []) #[false, false, false, false, false, false, false, false, false, false, false, false, false, false, false] (by kernel_rfl) rfl rfl ⟨(blk_cell BK337.out 0).trans rfl, (blk_cell BK337.out 1).trans rfl, (blk_cell BK337.out 2).trans rfl, (blk_cell BK337.out 3).trans rfl, (blk_cell BK337.out 4).trans rfl⟩ (fun hHeld => ?_); refine with_tabW impl_AddrBytes.tab5 impl_AddrBytes.bits5 (fun HT_ HW_ => ?_)
   generalize w18.drew = w20 at BK337 HB hHeld ⊢
   refine Gv.pu 0 (some 14) HT_ ?_
   refine Gv.pu 3 (some 17) HT_ ?_
   refine Gv.pu 6 (some 20) HT_ ?_
   refine Gv.pu 9 (some 23) HT_ ?_
   refine take_ (i := 1) (N := some 15) (v := ?_) (a' := ?_) #[true, true, false, true, false, false, true, false, false, true, false, false, false, false, false] rfl rfl (take_ofW HT_.out HW_.out (by kernel_rfl)) (fun _ _ _ h => h) (Or.inl ⟨by rfl, ?_⟩) hHeld ?_ ?_
   rotate_left
   ·rintro w' ⟨s0, s1, s2, s3, s4⟩
    go_simp
    with_reducible rfl
   rotate_left
   ·simp only [Act.put, List.setIfInBounds_toArray, List.set_cons_zero, List.set_cons_succ, i64_w, i32_w]
    rfl
   refine take_ (i := 4) (N := some 18) (v := ?_) (a' := ?_) #[true, true, false, true, true, false, true, false, false, true, false, false, false, false, false] rfl rfl (take_ofW HT_.out HW_.out (by kernel_rfl)) (fun _ _ _ h => h) (Or.inl ⟨by rfl, ?_⟩) hHeld ?_ ?_
   rotate_left
   ·rintro w' ⟨s0, s1, s2, s3, s4⟩
    go_simp
    with_reducible rfl
   rotate_left
   ·simp only [Act.put, List.setIfInBounds_toArray, List.set_cons_zero, List.set_cons_succ, i64_w, i32_w]
    rfl
   refine take_ (i := 7) (N := some 21) (v := ?_) (a' := ?_) #[true, true, false, true, true, false, true, true, false, true, false, false, false, false, false] rfl rfl (take_ofW HT_.out HW_.out (by kernel_rfl)) (fun _ _ _ h => h) (Or.inl ⟨by rfl, ?_⟩) hHeld ?_ ?_
   rotate_left
   ·rintro w' ⟨s0, s1, s2, s3, s4⟩
    go_simp
    with_reducible rfl
   rotate_left
   ·simp only [Act.put, List.setIfInBounds_toArray, List.set_cons_zero, List.set_cons_succ, i64_w, i32_w]
    rfl
   refine take_ (i := 10) (N := some 24) (v := ?_) (a' := ?_) #[true, true, false, true, true, false, true, true, false, true, true, false, false, false, false] rfl rfl (take_ofW HT_.out HW_.out (by kernel_rfl)) (fun _ _ _ h => h) (Or.inl ⟨by rfl, ?_⟩) hHeld ?_ ?_
   rotate_left
   ·rintro w' ⟨s0, s1, s2, s3, s4⟩
    go_simp
    with_reducible rfl
   rotate_left
   ·simp only [Act.put, List.setIfInBounds_toArray, List.set_cons_zero, List.set_cons_succ, i64_w, i32_w]
    rfl
   refine one_ (i := 2) (N := some 16) #[true, true, true, true, true, false, true, true, false, true, true, false, false, false, false] rfl rfl (one_of HT_.out (by kernel_rfl)) (by decide) (fun K hK => ?_)
   refine goes_ Try.func90 (by kernel_rfl) rfl #[.int .i64 a0_1] (by rfl) rfl rfl Gv.lm ?_
   with_reducible refine (impl_Put32.calls k a0_1 t342 _ A11.out).mono ?_
   rintro e w21 ⟨v343, rfl, ho0, hb⟩
   refine ⟨_, rfl, ?_⟩
   have n0_ := Gv.a0 (Kd.R_lower ho0 (below_size Gv.bw))
   have n1_ := Gv.a0 (Gv.bb BK337.out hb)
   have n2_ := Gv.a0 (below_step Gv.bw hb)
   clear BK337
   clear HB
   have HO344 := n0_
   have BK337 := n1_
   have HB := n2_
   clear n0_ n1_ n2_
   (try clear hb)
   (try clear hb2)
   (try clear hk)
   (try clear hi)
   (try clear ho0)
   refine hK.out _ _ ⟨(blk_cell BK337.out 0).trans rfl, (blk_cell BK337.out 1).trans rfl, (blk_cell BK337.out 2).trans rfl, (blk_cell BK337.out 3).trans rfl, (blk_cell BK337.out 4).trans rfl⟩ (fun hHeld => ?_)
   clear hK K
   refine norm_ (a' := ?_) ?_ ?_
   rotate_left
   ·show Act.put _ (some 16) _ = _
    simp only [Act.put, List.setIfInBounds_toArray, List.set_cons_zero, List.set_cons_succ, i64_w, i32_w]
    rfl
   refine one_ (i := 5) (N := some 19) #[true, true, true, true, true, true, true, true, false, true, true, false, false, false, false] rfl rfl (one_of HT_.out (by kernel_rfl)) (by decide) (fun K hK => ?_)
   refine goes_ Try.func90 (by kernel_rfl) rfl #[.int .i64 a0_2] (by rfl) rfl rfl Gv.lm ?_
   with_reducible refine (impl_Put32.calls k a0_2 t345 _ A12.out).mono ?_
   rintro e w22 ⟨v346, rfl, ho0, hb⟩
   refine ⟨_, rfl, ?_⟩
   have n0_ := Gv.a0 (Kd.R_elder' (Gv.kr HO344.out) (Kd.R_base ho0) hb)
   have n1_ := Gv.a0 (Kd.R_lower (Kd.R_new' ho0 (Kd.R_lt (Gv.kr HO344.out))) (below_size Gv.bw))
   have n2_ := Gv.a0 (Gv.bb BK337.out hb)
   have n3_ := Gv.a0 (below_step Gv.bw hb)
   clear HO344
   clear BK337
   clear HB
   have HO344 := n0_
   have HO347 := n1_
   have BK337 := n2_
   have HB := n3_
   clear n0_ n1_ n2_ n3_
   (try clear hb)
   (try clear hb2)
   (try clear hk)
   (try clear hi)
   (try clear ho0)
   refine hK.out _ _ ⟨(blk_cell BK337.out 0).trans rfl, (blk_cell BK337.out 1).trans rfl, (blk_cell BK337.out 2).trans rfl, (blk_cell BK337.out 3).trans rfl, (blk_cell BK337.out 4).trans rfl⟩ (fun hHeld => ?_)
   clear hK K
   refine norm_ (a' := ?_) ?_ ?_
   rotate_left
   ·show Act.put _ (some 19) _ = _
    simp only [Act.put, List.setIfInBounds_toArray, List.set_cons_zero, List.set_cons_succ, i64_w, i32_w]
    rfl
   refine one_ (i := 8) (N := some 22) #[true, true, true, true, true, true, true, true, true, true, true, false, false, false, false] rfl rfl (one_of HT_.out (by kernel_rfl)) (by decide) (fun K hK => ?_)
   refine goes_ Try.func90 (by kernel_rfl) rfl #[.int .i64 a0_3] (by rfl) rfl rfl Gv.lm ?_
   with_reducible refine (impl_Put32.calls k a0_3 t348 _ A13.out).mono ?_
   rintro e w23 ⟨v349, rfl, ho0, hb⟩
   refine ⟨_, rfl, ?_⟩
   have n0_ := Gv.a0 (Kd.R_elder' (Gv.kr HO344.out) (Kd.R_base ho0) hb)
   have n1_ := Gv.a0 (Kd.R_elder' (Gv.kr HO347.out) (Kd.R_base ho0) hb)
   have n2_ := Gv.a0 (Kd.R_lower (Kd.R_new' (Kd.R_new' ho0 (Kd.R_lt (Gv.kr HO344.out))) (Kd.R_lt (Gv.kr HO347.out))) (below_size Gv.bw))
   have n3_ := Gv.a0 (Gv.bb BK337.out hb)
   have n4_ := Gv.a0 (below_step Gv.bw hb)
   clear HO344
   clear HO347
   clear BK337
   clear HB
   have HO344 := n0_
   have HO347 := n1_
   have HO350 := n2_
   have BK337 := n3_
   have HB := n4_
   clear n0_ n1_ n2_ n3_ n4_
   (try clear hb)
   (try clear hb2)
   (try clear hk)
   (try clear hi)
   (try clear ho0)
   refine hK.out _ _ ⟨(blk_cell BK337.out 0).trans rfl, (blk_cell BK337.out 1).trans rfl, (blk_cell BK337.out 2).trans rfl, (blk_cell BK337.out 3).trans rfl, (blk_cell BK337.out 4).trans rfl⟩ (fun hHeld => ?_)
   clear hK K
   refine norm_ (a' := ?_) ?_ ?_
   rotate_left
   ·show Act.put _ (some 22) _ = _
    simp only [Act.put, List.setIfInBounds_toArray, List.set_cons_zero, List.set_cons_succ, i64_w, i32_w]
    rfl
   refine one_ (i := 11) (N := some 25) #[true, true, true, true, true, true, true, true, true, true, true, true, false, false, false] rfl rfl (one_of HT_.out (by kernel_rfl)) (by decide) (fun K hK => ?_)
   refine goes_ Try.func90 (by kernel_rfl) rfl #[.int .i64 a0_4] (by rfl) rfl rfl Gv.lm ?_
   with_reducible refine (impl_Put32.calls k a0_4 t351 _ A14.out).mono ?_
   rintro e w24 ⟨v352, rfl, ho0, hb⟩
   refine ⟨_, rfl, ?_⟩
   have n0_ := Gv.a0 (Kd.R_elder' (Gv.kr HO344.out) (Kd.R_base ho0) hb)
   have n1_ := Gv.a0 (Kd.R_elder' (Gv.kr HO347.out) (Kd.R_base ho0) hb)
   have n2_ := Gv.a0 (Kd.R_elder' (Gv.kr HO350.out) (Kd.R_base ho0) hb)
   have n3_ := Gv.a0 (Kd.R_lower (Kd.R_new' (Kd.R_new' (Kd.R_new' ho0 (Kd.R_lt (Gv.kr HO344.out))) (Kd.R_lt (Gv.kr HO347.out))) (Kd.R_lt (Gv.kr HO350.out))) (below_size Gv.bw))
   have n4_ := Gv.a0 (Gv.bb BK337.out hb)
   have n5_ := Gv.a0 (below_step Gv.bw hb)
   clear HO344
   clear HO347
   clear HO350
   clear BK337
   clear HB
   have HO344 := n0_
   have HO347 := n1_
   have HO350 := n2_
   have HO353 := n3_
   have BK337 := n4_
   have HB := n5_
   clear n0_ n1_ n2_ n3_ n4_ n5_
   (try clear hb)
   (try clear hb2)
   (try clear hk)
   (try clear hi)
   (try clear ho0)
   obtain ⟨Ao25, co25, eo25⟩ := Kd.R_slice HO344.out
   (first | subst eo25 | (injection eo25 with f1_ f2_ f3_; have f4_ := f1_.symm; have f5_ := f3_.symm; clear f1_ f2_ f3_; subst f4_; subst f5_))
   obtain ⟨Ao26, co26, eo26⟩ := Kd.R_slice HO347.out
   (first | subst eo26 | (injection eo26 with f1_ f2_ f3_; have f4_ := f1_.symm; have f5_ := f3_.symm; clear f1_ f2_ f3_; subst f4_; subst f5_))
   obtain ⟨Ao27, co27, eo27⟩ := Kd.R_slice HO350.out
   (first | subst eo27 | (injection eo27 with f1_ f2_ f3_; have f4_ := f1_.symm; have f5_ := f3_.symm; clear f1_ f2_ f3_; subst f4_; subst f5_))
   obtain ⟨Ao28, co28, eo28⟩ := Kd.R_slice HO353.out
   (first | subst eo28 | (injection eo28 with f1_ f2_ f3_; have f4_ := f1_.symm; have f5_ := f3_.symm; clear f1_ f2_ f3_; subst f4_; subst f5_))
   refine hK.out _ _ ⟨(blk_cell BK337.out 0).trans rfl, (blk_cell BK337.out 1).trans rfl, (blk_cell BK337.out 2).trans rfl, (blk_cell BK337.out 3).trans rfl, (blk_cell BK337.out 4).trans rfl⟩ (fun hHeld => ?_)
   clear hK K
   refine norm_ (a' := ?_) ?_ ?_
   rotate_left
   ·show Act.put _ (some 25) _ = _
    simp only [Act.put, List.setIfInBounds_toArray, List.set_cons_zero, List.set_cons_succ, i64_w, i32_w]
    rfl
   refine one_ (i := 12) (N := some 26) #[true, true, true, true, true, true, true, true, true, true, true, true, true, false, false] rfl rfl (one_of HT_.out (by kernel_rfl)) (by decide) (fun K hK => ?_)
   refine Kd.N_lit_step (Kd.slice 5 (Kd.int .u8)) _ 62 ?hg (N' := 26) ?hd (xs := ([t342, t345, t348, t351] : List (List Int))) (inner := [.slice Ao25 t342.length co25, .slice Ao26 t345.length co26, .slice Ao27 t348.length co27, .slice Ao28 t351.length co28]) (ok := (fun k_ => k_ ≠ gb337)) (okp := (fun k_ => k_ ≠ gb337)) ?hr ?hp (fun _ hk => hk) ((show ∀ k_, w24.heap.size ≤ k_ → (fun k_ => k_ ≠ gb337) k_ from fun k_ hk => Kd.freshB (g := gb337) (o := .cells #[.int .i64 a0_0, .int .i64 a0_1, .int .i64 a0_2, .int .i64 a0_3, .int .i64 a0_4] 26 (0, 0)) Gv.bk k_ hk) _ (Nat.le_refl _)) (Below.refl _ _) (Nat.le_refl _) (by simp) ?_; (case hd => rfl); (case hg => rfl); (case hr => first | (go_simp; done) | (go_simp; rfl)); (case hp => exact (Reps.one (show Kd.FK (Kd.slice 5 (Kd.int .u8)) _ _ t342 [.slice Ao25 t342.length co25] from (Kd.FK_slice_mk (Kd.R_reads' (Kd.R_mono (ok' := (fun k_ => k_ ≠ gb337)) (Kd.R_types (HO344.out) BK337.out (by decide)) (fun k_ hk => hk.2))).2.1 (Kd.R_F (Kd.R_mono (ok' := (fun k_ => k_ ≠ gb337)) (Kd.R_types (HO344.out) BK337.out (by decide)) (fun k_ hk => hk.2))))) (Reps.one (show Kd.FK (Kd.slice 5 (Kd.int .u8)) _ _ t345 [.slice Ao26 t345.length co26] from (Kd.FK_slice_mk (Kd.R_reads' (Kd.R_mono (ok' := (fun k_ => k_ ≠ gb337)) (Kd.R_types (HO347.out) BK337.out (by decide)) (fun k_ hk => hk.2))).2.1 (Kd.R_F (Kd.R_mono (ok' := (fun k_ => k_ ≠ gb337)) (Kd.R_types (HO347.out) BK337.out (by decide)) (fun k_ hk => hk.2))))) (Reps.one (show Kd.FK (Kd.slice 5 (Kd.int .u8)) _ _ t348 [.slice Ao27 t348.length co27] from (Kd.FK_slice_mk (Kd.R_reads' (Kd.R_mono (ok' := (fun k_ => k_ ≠ gb337)) (Kd.R_types (HO350.out) BK337.out (by decide)) (fun k_ hk => hk.2))).2.1 (Kd.R_F (Kd.R_mono (ok' := (fun k_ => k_ ≠ gb337)) (Kd.R_types (HO350.out) BK337.out (by decide)) (fun k_ hk => hk.2))))) (Reps.one (show Kd.FK (Kd.slice 5 (Kd.int .u8)) _ _ t351 [.slice Ao28 t351.length co28] from (Kd.FK_slice_mk (Kd.R_reads' (Kd.R_mono (ok' := (fun k_ => k_ ≠ gb337)) (Kd.R_types (HO353.out) BK337.out (by decide)) (fun k_ hk => hk.2))).2.1 (Kd.R_F (Kd.R_mono (ok' := (fun k_ => k_ ≠ gb337)) (Kd.R_types (HO353.out) BK337.out (by decide)) (fun k_ hk => hk.2))))) (Reps.none _ _))))))
   intro v355 w29 ho30 hb hg_ hnew_
   clear hg_ hnew_
   (first | rw [← Ny354.out] at ho30 | (simp only [Int.reduceToNat] at ho30; rw [← Ny354.out] at ho30))
   have n0_ := Gv.a0 (Kd.N_lower ho30 (below_size Gv.bw))
   have n1_ := Gv.a0 (Gv.bb BK337.out hb)
   have n2_ := Gv.a0 (below_step Gv.bw hb)
   clear BK337
   clear HB
   clear HO344
   clear HO347
   clear HO350
   clear HO353
   have HO356 := n0_
   have BK337 := n1_
   have HB := n2_
   clear n0_ n1_ n2_
   clear hb ho30
   obtain ⟨Ao31, co31, eo31⟩ := Kd.N_slice HO356.out
   (first | subst eo31 | (injection eo31 with f1_ f2_ f3_; have f4_ := f1_.symm; have f5_ := f3_.symm; clear f1_ f2_ f3_; subst f4_; subst f5_))
   refine hK.out _ _ ⟨(blk_cell BK337.out 0).trans rfl, (blk_cell BK337.out 1).trans rfl, (blk_cell BK337.out 2).trans rfl, (blk_cell BK337.out 3).trans rfl, (blk_cell BK337.out 4).trans rfl⟩ (fun hHeld => ?_)
   clear hK K
   refine norm_ (a' := ?_) ?_ ?_
   rotate_left
   ·show Act.put _ (some 26) _ = _
    simp only [Act.put, List.setIfInBounds_toArray, List.set_cons_zero, List.set_cons_succ, i64_w, i32_w]
    rfl
   refine one_ (i := 13) (N := some 27) #[true, true, true, true, true, true, true, true, true, true, true, true, true, true, false] rfl rfl (one_of HT_.out (by kernel_rfl)) (by decide) (fun K hK => ?_)
   refine goes_ Try.func91 (by kernel_rfl) rfl #[.slice Ao31 y354.length co31] (by rfl) rfl rfl Gv.lm ?_
   with_reducible refine (slices_Concat_byte_byte.calls k _ _ y354 t357 _ ?side1 ?side2 A15.out).mono ?_
   (case side1 => repeat (first | exact (Kd.N_reads' HO356.out).2.2 | (with_reducible refine Kd.C_alloc ?_ _) | (with_reducible refine Kd.C_drewN ?_ _) | (with_reducible refine Kd.C_drew ?_)))
   (case side2 => exact (Kd.N_reads' HO356.out).2.1)
   rintro e w32 ⟨v358, rfl, ho0, hb⟩
   refine ⟨_, rfl, ?_⟩
   have n0_ := Gv.a0 (Kd.N_elder' (by (with_reducible repeat (first | apply Kd.N_alloc | apply Kd.N_drewN | apply Kd.N_drew)); exact HO356.out) (Kd.R_base ho0) hb)
   have n1_ := Gv.a0 (Kd.R_lower ho0 (below_size Gv.bw))
   have n2_ := Gv.a0 (Gv.bb BK337.out hb)
   have n3_ := Gv.a0 (below_step Gv.bw hb)
   clear HO356
   clear BK337
   clear HB
   have HO356 := n0_
   have HO359 := n1_
   have BK337 := n2_
   have HB := n3_
   clear n0_ n1_ n2_ n3_
   (try clear hb)
   (try clear hb2)
   (try clear hk)
   (try clear hi)
   (try clear ho0)
   refine hK.out _ _ ⟨(blk_cell BK337.out 0).trans rfl, (blk_cell BK337.out 1).trans rfl, (blk_cell BK337.out 2).trans rfl, (blk_cell BK337.out 3).trans rfl, (blk_cell BK337.out 4).trans rfl⟩ (fun hHeld => ?_)
   clear hK K
   refine norm_ (a' := ?_) ?_ ?_
   rotate_left
   ·show Act.put _ (some 27) _ = _
    simp only [Act.put, List.setIfInBounds_toArray, List.set_cons_zero, List.set_cons_succ, i64_w, i32_w]
    rfl
   refine Gv.pu 14 (some 2) HT_ ?_
   refine done_ (done_of HT_.out (by kernel_rfl)) ?_
   try go_wp2
   go_ret
   exact ⟨_, Gv.rt, Gv.kr HO359.out, Gv.bw⟩
 ·replace c3 := Bool.eq_false_iff.mpr c3
  subst c3
  have H1 : (some ([] : List Int)) = some r := by rw [if_neg (show ¬ (false = true) by decide)] at H; exact H
  clear H
  have H := H1
  clear H1
  obtain rfl := Option.some.inj H
  go_enter Try.func86, Try.ntmps86
  go_wp2_with (first | ((with_reducible refine gate_dst (N := 1) rfl ?_); refine box_event ?hg (N := 1) ?hd (cs := #[.int .i64 a0_0, .int .i64 a0_1, .int .i64 a0_2, .int .i64 a0_3, .int .i64 a0_4]) (t := 26) ?hr ?_; (case hd => rfl); (case hg => rfl); (case hr => first | (go_simp; done) | (go_simp; rfl)); intro gb337 hg w33 hbox hb; have n0_ := Gv.a0 (below_step Gv.bw hb); have n1_ := Gv.a0 (hbox); have n2_ := Gv.a0 ((Gv.ble hg Gv.bw : w.heap.size ≤ gb337)); have n3_ := Gv.a0 ((Gv.ble hg Gv.bw : w.heap.size ≤ gb337)); clear HB; have HB := n0_; have BK337 := n1_; have GW337 := n2_; have GE337 := n3_; clear n0_ n1_ n2_ n3_; clear hb hbox hg; obtain ⟨hcz34_0, hcz34_1, hcz34_2, hcz34_3, hcz34_4⟩ := Gv.c5 BK337.out; obtain ⟨hfz34_0, hfz34_1, hfz34_2, hfz34_3, hfz34_4⟩ := Gv.f5 BK337.out) | ((with_reducible refine gate_callee (f := 67) rfl ?_); refine goesL_ (some 5) rfl rfl Try.func67 (by kernel_rfl) rfl #[.agg #[.int .i64 a0_0, .int .i64 a0_1, .int .i64 a0_2, .int .i64 a0_3, .int .i64 a0_4]] rfl Gv.lm ?_; (with_reducible refine (impl_AddrOk.calls a0_0 a0_1 a0_2 a0_3 a0_4 false _ A2.out).mono ?_); rintro e w35 ⟨rfl, hb⟩; refine ⟨_, rfl, ?_⟩; have n0_ := Gv.a0 (Gv.bb BK337.out hb); have n1_ := Gv.a0 (below_step Gv.bw hb); clear BK337; clear HB; have BK337 := n0_; have HB := n1_; clear n0_ n1_; (try clear hb); (try clear hb2); (try clear hk); (try clear hi)))
  go_ret
  exact ⟨_, Gv.rt, by first | exact Kd.R_nil _ _ _ _ _ | exact Kd.N_nil _ _ _ _ _ | exact Kd.V_nil _ _ _ _ _ | exact Kd.Q_nil _ _ _ _ _ | exact Kd.S_nil _ _ _ _ _, Gv.bw⟩

/-! ### impl_beOf: function 92 -/
def impl_beOf.l0 : Nat → Int → List Int → Int → Int → Option (Int)
 | 0, _, _, _, _ => none
 | k + 1, x3, x6, x7, x8 => if x8 < x7 then (if 0 ≤ x8 then (if x8 < (x6.length : Int) then (impl_beOf.l0 k (Go.bits .or .i64 (wrap64 (x3 * 256)) (wrap64 (rd x6 x8))) x6 x7 (wrap64 (x8 + 1))) else (none)) else (none)) else (some x3)
def impl_beOf.f (k : Nat) (l0 : List Int) : Option (Int) := impl_beOf.l0 k 0 l0 (l0.length : Int) 0
theorem impl_beOf.mono_l : ∀ k, (∀ y0 y1 y2 y3, LeO (impl_beOf.l0 k y0 y1 y2 y3) (impl_beOf.l0 (k + 1) y0 y1 y2 y3))
 | 0 => fun _ _ _ _ r h => by simp [impl_beOf.l0] at h
 | k + 1 => by
  have ih0 := impl_beOf.mono_l k
  ·intro y0 y1 y2 y3
   unfold impl_beOf.l0
   repeat' first
   | (with_reducible exact ih0 _ _ _ _)
   | (with_reducible exact LeO.refl _)
   | (with_reducible exact LeO.none _)
   | (with_reducible refine LeO.ite ?_ ?_)
   | (with_reducible refine LeO.bind ?_ (fun _ => ?_))
   | exact ih0 _ _ _ _
   | exact LeO.none _
   | refine LeO.ite ?_ ?_
   | refine LeO.bind ?_ (fun _ => ?_)
theorem impl_beOf.mono : ∀ a0 k, LeO (impl_beOf.f k a0) (impl_beOf.f (k + 1) a0) := by
 intro a0 k
 have ih0 := impl_beOf.mono_l k
 unfold impl_beOf.f
 repeat' first
   | (with_reducible exact ih0 _ _ _ _)
   | (with_reducible exact LeO.refl _)
   | (with_reducible exact LeO.none _)
   | (with_reducible refine LeO.ite ?_ ?_)
   | (with_reducible refine LeO.bind ?_ (fun _ => ?_))
   | exact ih0 _ _ _ _
   | exact LeO.none _
   | refine LeO.ite ?_ ?_
   | refine LeO.bind ?_ (fun _ => ?_)
set_option maxHeartbeats 8000000 in
set_option maxRecDepth 100000 in
theorem impl_beOf.calls (k : Nat) (A0 : Option Addr) (c0 : Nat) (l0 : List Int) (r : Int) (w : World) (hr0 : Kd.C (Kd.int .u8) w A0 l0.length l0) (hc0 : l0.length ≤ c0) (h : impl_beOf.f k l0 = some r) :
  Calls Try.prog 92 #[.slice A0 l0.length c0] w fun e w' => e = .returned (.int .i64 r) ∧ Drawn0 w w' := by
 have HR0 := Gv.a0 hr0
 have HC0 := Gv.a0 hc0
 clear hr0 hc0
 have H : (impl_beOf.l0 k 0 l0 (l0.length : Int) 0) = some r := h
 clear h
 have H' := Gv.a0 H
 clear H
 go_enter Try.func92, Try.ntmps92
 go_wp2
 go_loopg [3, 8] k (fun kq v3 v8 w' => ∃ (x3_1 : Int) (x8_1 : Int), v3 = .int .i64 x3_1 ∧ v8 = .int .i64 x8_1 ∧ Aside0 (impl_beOf.l0 kq x3_1 l0 (l0.length : Int) x8_1 = some r) ∧ Aside0 (kq ≤ k) ∧ Drawn0 w w')
 case atStart => exact ⟨(0), (0), Gv.rq, Gv.rq, H', ⟨Nat.le_refl _⟩, by repeat (first | exact Drawn0.refl _ | apply Drawn0.step)⟩
 case round =>
  clear H'
  obtain ⟨x3_1, x8_1, rfl, rfl, HA, HK1, ⟨m1, rfl⟩⟩ := hrel
  cases gk with
  | zero => exact absurd HA.out (by simp [impl_beOf.l0])
  | succ k1 =>
   have H := HA.out
   clear HA
   simp only [impl_beOf.l0] at H
   by_cases c2 : x8_1 < (l0.length : Int)
   ·rw [if_pos c2] at H
    have c2b0 : decide (x8_1 < (l0.length : Int)) = true := decide_eq_true c2
    clear c2
    by_cases c3 : 0 ≤ x8_1
    ·rw [if_pos c3] at H
     have c3b0 : decide (0 ≤ x8_1) = true := decide_eq_true c3
     clear c3
     by_cases c4 : x8_1 < (l0.length : Int)
     ·rw [if_pos c4] at H
      have c4b0 : decide (x8_1 < (l0.length : Int)) = true := decide_eq_true c4
      clear c4
      have H' := Gv.a0 H
      clear H
      have p360 : 0 ≤ (x8_1 : Int) := of_decide_eq_true (by first | (with_reducible assumption) | assumption)
      have q360 : x8_1 < (l0.length : Int) := of_decide_eq_true (by first | (with_reducible assumption) | assumption)
      obtain ⟨ad360, e360, hx360_0⟩ := Kd.at_int HR0.out x8_1 p360 q360
      cases e360
      replace p360 := eq_true p360
      replace q360 := eq_true q360
      go_wp2
      go_roundg k1
      case measure => have := HK1.out; omega
      case rel => exact ⟨(Go.bits .or .i64 (wrap64 (x3_1 * 256)) (wrap64 (rd l0 x8_1))), (wrap64 (x8_1 + 1)), Gv.rq, Gv.rq, H', ⟨by have := HK1.out; omega⟩, by repeat (first | exact Drawn0.refl _ | apply Drawn0.step)⟩
     ·rw [if_neg c4] at H
      exact absurd H (by simp)
    ·rw [if_neg c3] at H
     exact absurd H (by simp)
   ·rw [if_neg c2] at H
    have c2b0 : decide (x8_1 < (l0.length : Int)) = false := decide_eq_false c2
    clear c2
    obtain rfl := Option.some.inj H
    go_wp2
    go_ret
    exact ⟨by first | rfl | (simp; done) | (simp [Int.tdiv_eq_ediv_of_nonneg]; done) | (simp [*]; done), by repeat (first | exact Drawn0.refl _ | apply Drawn0.step)⟩

end Go.Proofs.Ytbpkmdghloapjaa.PCc
