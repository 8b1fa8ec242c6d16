/- Plain Lean functions of a law's Go functions, their contracts, by a program of this session (wip/pr.py over the kit's print). -/
import Derived.Test.YtfnpodebjejhpaaPTkx0
import Derived.Test.YtfnpodebjejhpaaPTkx1
import Derived.Test.YtfnpodebjejhpaaPTkx5
namespace Go.Proofs.Ytfnpodebjejhpaa.PTk
open Go.RowKit Go.Proofs.YtfnpodebjejhpaaW.PrintWords Go.Proofs.YtfnpodebjejhpaaW.PrintLast Go.Proofs.YtfnpodebjejhpaaW.PrintMore
attribute [local go_sem] max2_int min2_int max_two min_two max_three min_three max_four min_four   -- for this text's walks alone
set_option linter.unusedVariables false
set_option linter.unusedSimpArgs false

attribute [local go_sem high] eqA33
/-! ### impl_Table_used: function 57 -/
def impl_Table_used.l0 : Nat → Int → List (S75) → Int → Int → Option (Int)
 | 0, _, _, _, _ => none
 | k + 1, x3, x7, x8, x9 => if x9 < x8 then (if 0 ≤ x9 then (if x9 < (x7.length : Int) then (if (rd_T75 x7 x9).f0 = true then (impl_Table_used.l0 k (wrap64 (x3 + 1)) x7 x8 (wrap64 (x9 + 1))) else (impl_Table_used.l0 k x3 x7 x8 (wrap64 (x9 + 1)))) else (none)) else (none)) else (some x3)
def impl_Table_used.f (k : Nat) (a0_0 : Int) (l0_1 : List (S75)) : Option (Int) := impl_Table_used.l0 k 0 l0_1 (l0_1.length : Int) 0
theorem impl_Table_used.mono_l : ∀ k, (∀ y0 y1 y2 y3, LeO (impl_Table_used.l0 k y0 y1 y2 y3) (impl_Table_used.l0 (k + 1) y0 y1 y2 y3))
 | 0 => fun _ _ _ _ r h => by simp [impl_Table_used.l0] at h
 | k + 1 => by
  have ih0 := impl_Table_used.mono_l k
  ·intro y0 y1 y2 y3
   unfold impl_Table_used.l0
   repeat' first
   | (with_reducible exact ih0 _ _ _ _)
   | (with_reducible exact LeO.refl _)
   | (with_reducible exact LeO.none _)
   | (with_reducible refine LeO.ite ?_ ?_)
   | (with_reducible refine LeO.bind ?_ (fun _ => ?_))
   | exact ih0 _ _ _ _
   | exact LeO.none _
   | refine LeO.ite ?_ ?_
   | refine LeO.bind ?_ (fun _ => ?_)
theorem impl_Table_used.mono : ∀ a0 a1 k, LeO (impl_Table_used.f k a0 a1) (impl_Table_used.f (k + 1) a0 a1) := by
 intro a0 a1 k
 have ih0 := impl_Table_used.mono_l k
 unfold impl_Table_used.f
 repeat' first
   | (with_reducible exact ih0 _ _ _ _)
   | (with_reducible exact LeO.refl _)
   | (with_reducible exact LeO.none _)
   | (with_reducible refine LeO.ite ?_ ?_)
   | (with_reducible refine LeO.bind ?_ (fun _ => ?_))
   | exact ih0 _ _ _ _
   | exact LeO.none _
   | refine LeO.ite ?_ ?_
   | refine LeO.bind ?_ (fun _ => ?_)
set_option maxHeartbeats 8000000 in
set_option maxRecDepth 100000 in
theorem impl_Table_used.calls (k : Nat) (a0_0 : Int) (A0_1 : Option Addr) (c0_1 : Nat) (l0_1 : List (S75)) (r : Int) (w : World) (hr0_1 : Kd.C k75 w A0_1 l0_1.length l0_1) (hc0_1 : l0_1.length ≤ c0_1) (h : impl_Table_used.f k a0_0 l0_1 = some r) :
  Calls Try.prog 57 #[.agg #[.int .i64 a0_0, .slice A0_1 l0_1.length c0_1]] w fun e w' => e = .returned (.int .i64 r) ∧ Below w.heap.size w w' := by
 have hu40 := Try.underlying40
 have hu75 := Try.underlying75
 have HR0_1 := Gv.a0 hr0_1
 have HC0_1 := Gv.a0 hc0_1
 clear hr0_1 hc0_1
 have HB := Gv.a0 (Below.refl w.heap.size w)
 have H : (impl_Table_used.l0 k 0 l0_1 (l0_1.length : Int) 0) = some r := h
 clear h
 have H' := Gv.a0 H
 clear H
 go_enter Try.func57, Try.ntmps57
 go_wp2_with (first | ((with_reducible refine gate_dst (N := 1) rfl ?_); refine box_event ?hg (N := 1) ?hd (cs := #[.int .i64 a0_0, .slice A0_1 l0_1.length c0_1]) (t := 40) ?hr ?_; (case hd => rfl); (case hg => rfl); (case hr => first | (go_simp; done) | (go_simp; rfl)); intro gb347 hg w2 hbox hb; have n0_ := Gv.a0 (below_step Gv.bw hb); have n1_ := Gv.a0 (hbox); have n2_ := Gv.a0 ((Gv.ble hg Gv.bw : w.heap.size ≤ gb347)); have n3_ := Gv.a0 ((Gv.ble hg Gv.bw : w.heap.size ≤ gb347)); clear HB; have HB := n0_; have BK347 := n1_; have GW347 := n2_; have GE347 := n3_; clear n0_ n1_ n2_ n3_; clear hb hbox hg; have hcz3_0 : w2.cell? ⟨gb347, 0, none⟩ = some (.int .i64 a0_0) := (blk_cell BK347.out 0).trans rfl; have hcz3_1 : w2.cell? ⟨gb347, 1, none⟩ = some (.slice A0_1 l0_1.length c0_1) := (blk_cell BK347.out 1).trans rfl; have hfz3_0 := blk_frozen BK347.out 0; have hfz3_1 := blk_frozen BK347.out 1))
 go_loopg [3, 9] k (fun kq v3 v9 w' => ∃ (x3_1 : Int) (x9_1 : Int), v3 = .int .i64 x3_1 ∧ v9 = .int .i64 x9_1 ∧ Aside0 (impl_Table_used.l0 kq x3_1 l0_1 (l0_1.length : Int) x9_1 = some r) ∧ Aside0 (kq ≤ k) ∧ Aside0 (w'.heap[gb347]? = some (.cells #[.int .i64 a0_0, (.slice A0_1 l0_1.length c0_1)] 40 (0, 0))) ∧ Aside0 (Below w.heap.size w w'))
 case atStart => exact ⟨(0), (0), Gv.rq, Gv.rq, H', ⟨Nat.le_refl _⟩, ⟨by (with_reducible repeat (first | refine blk_drewN ?_ _ | refine blk_drew ?_ | refine blk_alloc ?_ _)); exact BK347.out⟩, ⟨Gv.bw⟩⟩
 case round =>
  clear H'
  try clear p2
  try clear hcz3_0 hcz3_1
  try clear hfz3_0 hfz3_1
  obtain ⟨x3_1, x9_1, rfl, rfl, HA, HK1, BK347, HB⟩ := hrel
  cases gk with
  | zero => exact absurd HA.out (by simp [impl_Table_used.l0])
  | succ k1 =>
   have H := HA.out
   clear HA
   simp only [impl_Table_used.l0] at H
   by_cases c4 : x9_1 < (l0_1.length : Int)
   ·rw [if_pos c4] at H
    have c4b0 : decide (x9_1 < (l0_1.length : Int)) = true := decide_eq_true c4
    clear c4
    by_cases c5 : 0 ≤ x9_1
    ·rw [if_pos c5] at H
     have c5b0 : decide (0 ≤ x9_1) = true := decide_eq_true c5
     clear c5
     by_cases c6 : x9_1 < (l0_1.length : Int)
     ·rw [if_pos c6] at H
      have c6b0 : decide (x9_1 < (l0_1.length : Int)) = true := decide_eq_true c6
      clear c6
      obtain ⟨bq7, hbq7⟩ : ∃ b_ : Bool, b_ = ((rd_T75 l0_1 x9_1).f0) := ⟨_, rfl⟩
      replace H : (if bq7 = true then (impl_Table_used.l0 k1 (wrap64 (x3_1 + 1)) l0_1 (l0_1.length : Int) (wrap64 (x9_1 + 1))) else (impl_Table_used.l0 k1 x3_1 l0_1 (l0_1.length : Int) (wrap64 (x9_1 + 1)))) = some r := by rw [← hbq7] at H; exact H
      have Nbq7 := Gv.a0 hbq7
      clear hbq7
      by_cases c8 : bq7 = true
      ·subst c8
       have H1 : (impl_Table_used.l0 k1 (wrap64 (x3_1 + 1)) l0_1 (l0_1.length : Int) (wrap64 (x9_1 + 1))) = some r := by rw [if_pos rfl] at H; exact H
       clear H
       have H := H1
       clear H1
       have H' := Gv.a0 H
       clear H
       have p348 : 0 ≤ (x9_1 : Int) := of_decide_eq_true (by first | (with_reducible assumption) | assumption)
       have q348 : x9_1 < (l0_1.length : Int) := of_decide_eq_true (by first | (with_reducible assumption) | assumption)
       obtain ⟨ad348, e348, hx348_0, hx348_1, hx348_2, hx348_3, hx348_4, hx348_5, hx348_6, hx348_7, hx348_8, hx348_9, hx348_10, hx348_11, hx348_12, hx348_13, hx348_14, hx348_15⟩ := at_T75 HR0_1.out x9_1 p348 q348
       (try rw [← Nbq7.out] at hx348_0)
       cases e348
       replace hx348_0 := Gv.bx HB.out hx348_0
       replace hx348_1 := Gv.bx HB.out hx348_1
       replace hx348_2 := Gv.bx HB.out hx348_2
       replace hx348_3 := Gv.bx HB.out hx348_3
       replace hx348_4 := Gv.bx HB.out hx348_4
       replace hx348_5 := Gv.bx HB.out hx348_5
       replace hx348_6 := Gv.bx HB.out hx348_6
       replace hx348_7 := Gv.bx HB.out hx348_7
       replace hx348_8 := Gv.bx HB.out hx348_8
       replace hx348_9 := Gv.bx HB.out hx348_9
       replace hx348_10 := Gv.bx HB.out hx348_10
       replace hx348_11 := Gv.bx HB.out hx348_11
       replace hx348_12 := Gv.bx HB.out hx348_12
       replace hx348_13 := Gv.bx HB.out hx348_13
       replace hx348_14 := Gv.bx HB.out hx348_14
       replace hx348_15 := Gv.bx HB.out hx348_15
       replace p348 := eq_true p348
       replace q348 := eq_true q348
       go_wp2_with (first | ((with_reducible refine gate_dst (N := 5) rfl ?_); refine box_event ?hg (N := 5) ?hd (cs := #[.bool false, .int .i64 0, .int .i64 0, .int .i64 0, .int .i64 0, .int .i64 0, .int .i64 0, .int .i64 0, .int .i64 0, .int .i64 0, .int .i64 0, .int .i64 0, .int .i64 0, .int .i64 0, .int .i64 0, .int .i64 0]) (t := 75) ?hr ?_; (case hd => rfl); (case hg => rfl); (case hr => first | (go_simp; done) | (go_simp; rfl)); intro gb349 hg w9 hbox hb; have n0_ := Gv.a0 (Gv.bb BK347.out hb); have n1_ := Gv.a0 (below_step Gv.bw hb); have n2_ := Gv.a0 (hbox); have n3_ := Gv.a0 ((Gv.ble hg Gv.bw : w.heap.size ≤ gb349)); have n4_ := Gv.a0 ((Gv.ble hg Gv.bw : w.heap.size ≤ gb349)); have n5_ := Gv.a0 ((Gv.nlt hg (Gv.kb BK347.out) : gb347 ≠ gb349)); have n6_ := Gv.a0 ((Gv.ngt hg (Gv.kb BK347.out) : gb349 ≠ gb347)); clear BK347; clear HB; have BK347 := n0_; have HB := n1_; have BK349 := n2_; have GW349 := n3_; have GE349 := n4_; have NB347_349 := n5_; have NB349_347 := n6_; clear n0_ n1_ n2_ n3_ n4_ n5_ n6_; clear hb hbox hg; have hnb10 := NB349_347.out; have hnc10 := NB347_349.out; obtain ⟨hcz11_0, hcz11_1, hcz11_2, hcz11_3, hcz11_4, hcz11_5, hcz11_6, hcz11_7, hcz11_8, hcz11_9, hcz11_10, hcz11_11, hcz11_12, hcz11_13, hcz11_14, hcz11_15⟩ := Gv.c16 BK349.out; obtain ⟨hfz11_0, hfz11_1, hfz11_2, hfz11_3, hfz11_4, hfz11_5, hfz11_6, hfz11_7, hfz11_8, hfz11_9, hfz11_10, hfz11_11, hfz11_12, hfz11_13, hfz11_14, hfz11_15⟩ := Gv.f16 BK349.out))
       go_roundg k1
       case measure => have := HK1.out; omega
       case rel => exact ⟨(wrap64 (x3_1 + 1)), (wrap64 (x9_1 + 1)), Gv.rq, Gv.rq, H', ⟨by have := HK1.out; omega⟩, ⟨by (with_reducible repeat (first | refine blk_drewN ?_ _ | refine blk_drew ?_ | refine blk_alloc ?_ _)); refine blk_far ?_ NB347_349.out _; (with_reducible repeat (first | refine blk_drewN ?_ _ | refine blk_drew ?_ | refine blk_alloc ?_ _)); refine blk_far ?_ NB347_349.out _; (with_reducible repeat (first | refine blk_drewN ?_ _ | refine blk_drew ?_ | refine blk_alloc ?_ _)); refine blk_far ?_ NB347_349.out _; (with_reducible repeat (first | refine blk_drewN ?_ _ | refine blk_drew ?_ | refine blk_alloc ?_ _)); refine blk_far ?_ NB347_349.out _; (with_reducible repeat (first | refine blk_drewN ?_ _ | refine blk_drew ?_ | refine blk_alloc ?_ _)); refine blk_far ?_ NB347_349.out _; (with_reducible repeat (first | refine blk_drewN ?_ _ | refine blk_drew ?_ | refine blk_alloc ?_ _)); refine blk_far ?_ NB347_349.out _; (with_reducible repeat (first | refine blk_drewN ?_ _ | refine blk_drew ?_ | refine blk_alloc ?_ _)); refine blk_far ?_ NB347_349.out _; (with_reducible repeat (first | refine blk_drewN ?_ _ | refine blk_drew ?_ | refine blk_alloc ?_ _)); refine blk_far ?_ NB347_349.out _; (with_reducible repeat (first | refine blk_drewN ?_ _ | refine blk_drew ?_ | refine blk_alloc ?_ _)); refine blk_far ?_ NB347_349.out _; (with_reducible repeat (first | refine blk_drewN ?_ _ | refine blk_drew ?_ | refine blk_alloc ?_ _)); refine blk_far ?_ NB347_349.out _; (with_reducible repeat (first | refine blk_drewN ?_ _ | refine blk_drew ?_ | refine blk_alloc ?_ _)); refine blk_far ?_ NB347_349.out _; (with_reducible repeat (first | refine blk_drewN ?_ _ | refine blk_drew ?_ | refine blk_alloc ?_ _)); refine blk_far ?_ NB347_349.out _; (with_reducible repeat (first | refine blk_drewN ?_ _ | refine blk_drew ?_ | refine blk_alloc ?_ _)); refine blk_far ?_ NB347_349.out _; (with_reducible repeat (first | refine blk_drewN ?_ _ | refine blk_drew ?_ | refine blk_alloc ?_ _)); refine blk_far ?_ NB347_349.out _; (with_reducible repeat (first | refine blk_drewN ?_ _ | refine blk_drew ?_ | refine blk_alloc ?_ _)); refine blk_far ?_ NB347_349.out _; (with_reducible repeat (first | refine blk_drewN ?_ _ | refine blk_drew ?_ | refine blk_alloc ?_ _)); refine blk_far ?_ NB347_349.out _; (with_reducible repeat (first | refine blk_drewN ?_ _ | refine blk_drew ?_ | refine blk_alloc ?_ _)); exact BK347.out⟩, ⟨Gv.bw⟩⟩
      ·replace c8 := Bool.eq_false_iff.mpr c8
       subst c8
       have H1 : (impl_Table_used.l0 k1 x3_1 l0_1 (l0_1.length : Int) (wrap64 (x9_1 + 1))) = some r := by rw [if_neg (show ¬ (false = true) by decide)] at H; exact H
       clear H
       have H := H1
       clear H1
       have H' := Gv.a0 H
       clear H
       have p348 : 0 ≤ (x9_1 : Int) := of_decide_eq_true (by first | (with_reducible assumption) | assumption)
       have q348 : x9_1 < (l0_1.length : Int) := of_decide_eq_true (by first | (with_reducible assumption) | assumption)
       obtain ⟨ad348, e348, hx348_0, hx348_1, hx348_2, hx348_3, hx348_4, hx348_5, hx348_6, hx348_7, hx348_8, hx348_9, hx348_10, hx348_11, hx348_12, hx348_13, hx348_14, hx348_15⟩ := at_T75 HR0_1.out x9_1 p348 q348
       (try rw [← Nbq7.out] at hx348_0)
       cases e348
       replace hx348_0 := Gv.bx HB.out hx348_0
       replace hx348_1 := Gv.bx HB.out hx348_1
       replace hx348_2 := Gv.bx HB.out hx348_2
       replace hx348_3 := Gv.bx HB.out hx348_3
       replace hx348_4 := Gv.bx HB.out hx348_4
       replace hx348_5 := Gv.bx HB.out hx348_5
       replace hx348_6 := Gv.bx HB.out hx348_6
       replace hx348_7 := Gv.bx HB.out hx348_7
       replace hx348_8 := Gv.bx HB.out hx348_8
       replace hx348_9 := Gv.bx HB.out hx348_9
       replace hx348_10 := Gv.bx HB.out hx348_10
       replace hx348_11 := Gv.bx HB.out hx348_11
       replace hx348_12 := Gv.bx HB.out hx348_12
       replace hx348_13 := Gv.bx HB.out hx348_13
       replace hx348_14 := Gv.bx HB.out hx348_14
       replace hx348_15 := Gv.bx HB.out hx348_15
       replace p348 := eq_true p348
       replace q348 := eq_true q348
       go_wp2_with (first | ((with_reducible refine gate_dst (N := 5) rfl ?_); refine box_event ?hg (N := 5) ?hd (cs := #[.bool false, .int .i64 0, .int .i64 0, .int .i64 0, .int .i64 0, .int .i64 0, .int .i64 0, .int .i64 0, .int .i64 0, .int .i64 0, .int .i64 0, .int .i64 0, .int .i64 0, .int .i64 0, .int .i64 0, .int .i64 0]) (t := 75) ?hr ?_; (case hd => rfl); (case hg => rfl); (case hr => first | (go_simp; done) | (go_simp; rfl)); intro gb349 hg w12 hbox hb; have n0_ := Gv.a0 (Gv.bb BK347.out hb); have n1_ := Gv.a0 (below_step Gv.bw hb); have n2_ := Gv.a0 (hbox); have n3_ := Gv.a0 ((Gv.ble hg Gv.bw : w.heap.size ≤ gb349)); have n4_ := Gv.a0 ((Gv.ble hg Gv.bw : w.heap.size ≤ gb349)); have n5_ := Gv.a0 ((Gv.nlt hg (Gv.kb BK347.out) : gb347 ≠ gb349)); have n6_ := Gv.a0 ((Gv.ngt hg (Gv.kb BK347.out) : gb349 ≠ gb347)); clear BK347; clear HB; have BK347 := n0_; have HB := n1_; have BK349 := n2_; have GW349 := n3_; have GE349 := n4_; have NB347_349 := n5_; have NB349_347 := n6_; clear n0_ n1_ n2_ n3_ n4_ n5_ n6_; clear hb hbox hg; have hnb13 := NB349_347.out; have hnc13 := NB347_349.out; obtain ⟨hcz14_0, hcz14_1, hcz14_2, hcz14_3, hcz14_4, hcz14_5, hcz14_6, hcz14_7, hcz14_8, hcz14_9, hcz14_10, hcz14_11, hcz14_12, hcz14_13, hcz14_14, hcz14_15⟩ := Gv.c16 BK349.out; obtain ⟨hfz14_0, hfz14_1, hfz14_2, hfz14_3, hfz14_4, hfz14_5, hfz14_6, hfz14_7, hfz14_8, hfz14_9, hfz14_10, hfz14_11, hfz14_12, hfz14_13, hfz14_14, hfz14_15⟩ := Gv.f16 BK349.out))
       go_roundg k1
       case measure => have := HK1.out; omega
       case rel => exact ⟨(x3_1), (wrap64 (x9_1 + 1)), Gv.rq, Gv.rq, H', ⟨by have := HK1.out; omega⟩, ⟨by (with_reducible repeat (first | refine blk_drewN ?_ _ | refine blk_drew ?_ | refine blk_alloc ?_ _)); refine blk_far ?_ NB347_349.out _; (with_reducible repeat (first | refine blk_drewN ?_ _ | refine blk_drew ?_ | refine blk_alloc ?_ _)); refine blk_far ?_ NB347_349.out _; (with_reducible repeat (first | refine blk_drewN ?_ _ | refine blk_drew ?_ | refine blk_alloc ?_ _)); refine blk_far ?_ NB347_349.out _; (with_reducible repeat (first | refine blk_drewN ?_ _ | refine blk_drew ?_ | refine blk_alloc ?_ _)); refine blk_far ?_ NB347_349.out _; (with_reducible repeat (first | refine blk_drewN ?_ _ | refine blk_drew ?_ | refine blk_alloc ?_ _)); refine blk_far ?_ NB347_349.out _; (with_reducible repeat (first | refine blk_drewN ?_ _ | refine blk_drew ?_ | refine blk_alloc ?_ _)); refine blk_far ?_ NB347_349.out _; (with_reducible repeat (first | refine blk_drewN ?_ _ | refine blk_drew ?_ | refine blk_alloc ?_ _)); refine blk_far ?_ NB347_349.out _; (with_reducible repeat (first | refine blk_drewN ?_ _ | refine blk_drew ?_ | refine blk_alloc ?_ _)); refine blk_far ?_ NB347_349.out _; (with_reducible repeat (first | refine blk_drewN ?_ _ | refine blk_drew ?_ | refine blk_alloc ?_ _)); refine blk_far ?_ NB347_349.out _; (with_reducible repeat (first | refine blk_drewN ?_ _ | refine blk_drew ?_ | refine blk_alloc ?_ _)); refine blk_far ?_ NB347_349.out _; (with_reducible repeat (first | refine blk_drewN ?_ _ | refine blk_drew ?_ | refine blk_alloc ?_ _)); refine blk_far ?_ NB347_349.out _; (with_reducible repeat (first | refine blk_drewN ?_ _ | refine blk_drew ?_ | refine blk_alloc ?_ _)); refine blk_far ?_ NB347_349.out _; (with_reducible repeat (first | refine blk_drewN ?_ _ | refine blk_drew ?_ | refine blk_alloc ?_ _)); refine blk_far ?_ NB347_349.out _; (with_reducible repeat (first | refine blk_drewN ?_ _ | refine blk_drew ?_ | refine blk_alloc ?_ _)); refine blk_far ?_ NB347_349.out _; (with_reducible repeat (first | refine blk_drewN ?_ _ | refine blk_drew ?_ | refine blk_alloc ?_ _)); refine blk_far ?_ NB347_349.out _; (with_reducible repeat (first | refine blk_drewN ?_ _ | refine blk_drew ?_ | refine blk_alloc ?_ _)); refine blk_far ?_ NB347_349.out _; (with_reducible repeat (first | refine blk_drewN ?_ _ | refine blk_drew ?_ | refine blk_alloc ?_ _)); exact BK347.out⟩, ⟨Gv.bw⟩⟩
     ·rw [if_neg c6] at H
      exact absurd H (by simp)
    ·rw [if_neg c5] at H
     exact absurd H (by simp)
   ·rw [if_neg c4] at H
    have c4b0 : decide (x9_1 < (l0_1.length : Int)) = false := decide_eq_false c4
    clear c4
    obtain rfl := Option.some.inj H
    go_wp2
    go_ret
    exact ⟨Gv.rt, Gv.bw⟩

/-! ### slices_Grow_byte_byte: function 85 -/
def slices_Grow_byte_byte.f (a0 : Int) : Option (List Int) := if 0 ≤ a0 ∧ a0 ≤ 1099511627776 then some ([] : List Int) else none
set_option maxHeartbeats 8000000 in
set_option maxRecDepth 100000 in
theorem slices_Grow_byte_byte.calls (a0 : Int) (r : List Int) (w : World) (h : slices_Grow_byte_byte.f a0 = some r) :
  Calls Try.prog 85 #[.slice none 0 0, .int .i64 a0] w fun e w' => ∃ v0_ : Value, e = .returned (v0_) ∧ Kd.R (Kd.int .u8) 5 w' w.heap.size (fun _ => True) v0_ r ∧ Below w.heap.size w w' := by
 unfold slices_Grow_byte_byte.f at h
 by_cases hn : 0 ≤ a0 ∧ a0 ≤ 1099511627776
 rotate_left
 ·rw [if_neg hn] at h
  cases h
 rw [if_pos hn] at h
 obtain rfl := Option.some.inj h
 clear h
 by_cases h0 : a0 = 0
 ·subst h0
  go_enter Try.func85, Try.ntmps85
  go_wp2
  go_ret
  exact ⟨_, rfl, Kd.R_nil _ _ _ _ _, Below.refl _ w⟩
 obtain ⟨n, rfl⟩ : ∃ n : Nat, a0 = n := ⟨a0.toNat, by omega⟩
 have hi := info5
 rw [Option.map_eq_some_iff] at hi
 obtain ⟨i, hi, hz⟩ := hi
 simp only [Prod.mk.injEq] at hz
 obtain ⟨hz, hs, hb⟩ := hz
 have hrz : ∀ ty, (Builtin.append_ #[68, 3] ty #[.slice none 0 0, .int .i64 (n : Int)]).run Try.prog w = _ := fun ty =>
  Lib.run_append_nil_zeros w 68 3 ty 5 i (.int .u8 0) .i64 .i64 Try.underlying68 Try.underlying3 hi hz n (by omega) (by omega) (by omega) (by rw [hb]; omega)
 have hG1 : n ≤ grownCap w n 0 5 := grownCap_ge w _ _ _
 have hG2 : grownCap w n 0 5 ≤ maxLen := grownCap_le_maxLen w n 0 5 (by unfold maxLen; omega)
 obtain ⟨G, hG⟩ : ∃ G, G = grownCap w n 0 5 := ⟨_, rfl⟩
 rw [← hG] at hrz hG1 hG2
 have h1 : ¬ ((n : Int) < 0) := by omega
 have h2 : wrap64 ((0 : Int) - 0) = 0 := by unfold wrap64; omega
 have h3 : wrap64 ((n : Int) - 0) = n := by unfold wrap64; omega
 have h4 : (n : Int) > 0 := by omega
 have hG63 : G ≤ 9223372036854775807 := by unfold maxLen at hG2; omega
 have hsz : (Builtin.zeroCells (Value.int .u8 0).cells n ++ Builtin.zeroCells (Value.int .u8 0).cells (G - n)).size = G * 1 := by
  rw [Array.size_append, size_zeroCells, size_zeroCells, show (Value.int .u8 0).cells.size = 1 from rfl]
  omega
 clear hG hz hs hb hi
 go_enter Try.func85, Try.ntmps85
 go_wp2_with (at_builtin; refine Lib.wpList_append_run _ rfl _ _ _ _ rfl _ _ rfl rfl _ _ (hrz _) ?_)
 go_ret
 refine ⟨_, rfl, ⟨fun _ _ => trivial, [], ⟨by simp, .inr ⟨w.heap.size, G, _, rfl, Nat.le_refl _, heap_alloc_new _ _, Nat.zero_le _, hG2, hsz, by simp⟩⟩, Reps.none _ _⟩, (below_alloc (below_drew1 (Below.refl _ w)) _)⟩

/-! ### slices_Concat_byte_byte: function 73 -/
mutual
def slices_Concat_byte_byte.l0 : Nat → List (List Int) → Int → List (List Int) → Int → Int → Option (List Int)
 | 0, _, _, _, _, _ => none
 | k + 1, x0, x3, x9, x10, x11 => if x11 < x10 then (if 0 ≤ x11 then (if x11 < (x9.length : Int) then (if (wrap64 (x3 + ((rd_L11 x9 x11).length : Int))) < 0 then (none) else (slices_Concat_byte_byte.l0 k x0 (wrap64 (x3 + ((rd_L11 x9 x11).length : Int))) x9 x10 (wrap64 (x11 + 1)))) else (none)) else (none)) else ((slices_Grow_byte_byte.f x3).bind fun t354 => (slices_Concat_byte_byte.l1 k t354 x0 (x0.length : Int) 0))
def slices_Concat_byte_byte.l1 : Nat → List Int → List (List Int) → Int → Int → Option (List Int)
 | 0, _, _, _, _ => none
 | k + 1, x6, x25, x26, x27 => if x27 < x26 then (if 0 ≤ x27 then (if x27 < (x25.length : Int) then (if x6.length + (rd_L11 x25 x27).length < 140737488355328 then (slices_Concat_byte_byte.l1 k (x6 ++ (rd_L11 x25 x27)) x25 x26 (wrap64 (x27 + 1))) else (none)) else (none)) else (none)) else (some x6)
end
def slices_Concat_byte_byte.f (k : Nat) (l0 : List (List Int)) : Option (List Int) := slices_Concat_byte_byte.l0 k l0 0 l0 (l0.length : Int) 0
theorem slices_Concat_byte_byte.mono_l : ∀ k, (∀ y0 y1 y2 y3 y4, LeO (slices_Concat_byte_byte.l0 k y0 y1 y2 y3 y4) (slices_Concat_byte_byte.l0 (k + 1) y0 y1 y2 y3 y4)) ∧ (∀ y0 y1 y2 y3, LeO (slices_Concat_byte_byte.l1 k y0 y1 y2 y3) (slices_Concat_byte_byte.l1 (k + 1) y0 y1 y2 y3))
 | 0 => ⟨fun _ _ _ _ _ r h => by simp [slices_Concat_byte_byte.l0] at h, fun _ _ _ _ r h => by simp [slices_Concat_byte_byte.l1] at h⟩
 | k + 1 => by
  obtain ⟨ih0, ih1⟩ := slices_Concat_byte_byte.mono_l k
  refine ⟨?_, ?_⟩
  ·intro y0 y1 y2 y3 y4
   unfold slices_Concat_byte_byte.l0
   repeat' first
   | (with_reducible exact ih0 _ _ _ _ _)
   | (with_reducible exact ih1 _ _ _ _)
   | (with_reducible exact LeO.refl _)
   | (with_reducible exact LeO.none _)
   | (with_reducible refine LeO.ite ?_ ?_)
   | (with_reducible refine LeO.bind ?_ (fun _ => ?_))
   | exact ih0 _ _ _ _ _
   | exact ih1 _ _ _ _
   | exact LeO.none _
   | refine LeO.ite ?_ ?_
   | refine LeO.bind ?_ (fun _ => ?_)
  ·intro y0 y1 y2 y3
   unfold slices_Concat_byte_byte.l1
   repeat' first
   | (with_reducible exact ih0 _ _ _ _ _)
   | (with_reducible exact ih1 _ _ _ _)
   | (with_reducible exact LeO.refl _)
   | (with_reducible exact LeO.none _)
   | (with_reducible refine LeO.ite ?_ ?_)
   | (with_reducible refine LeO.bind ?_ (fun _ => ?_))
   | exact ih0 _ _ _ _ _
   | exact ih1 _ _ _ _
   | exact LeO.none _
   | refine LeO.ite ?_ ?_
   | refine LeO.bind ?_ (fun _ => ?_)
theorem slices_Concat_byte_byte.mono : ∀ a0 k, LeO (slices_Concat_byte_byte.f k a0) (slices_Concat_byte_byte.f (k + 1) a0) := by
 intro a0 k
 obtain ⟨ih0, ih1⟩ := slices_Concat_byte_byte.mono_l k
 unfold slices_Concat_byte_byte.f
 repeat' first
   | (with_reducible exact ih0 _ _ _ _ _)
   | (with_reducible exact ih1 _ _ _ _)
   | (with_reducible exact LeO.refl _)
   | (with_reducible exact LeO.none _)
   | (with_reducible refine LeO.ite ?_ ?_)
   | (with_reducible refine LeO.bind ?_ (fun _ => ?_))
   | exact ih0 _ _ _ _ _
   | exact ih1 _ _ _ _
   | exact LeO.none _
   | refine LeO.ite ?_ ?_
   | refine LeO.bind ?_ (fun _ => ?_)
set_option maxHeartbeats 8000000 in
set_option maxRecDepth 100000 in
theorem slices_Concat_byte_byte.calls (k : Nat) (A0 : Option Addr) (c0 : Nat) (l0 : List (List Int)) (r : List Int) (w : World) (hr0 : Kd.C (Kd.slice 5 (Kd.int .u8)) w A0 l0.length l0) (hc0 : l0.length ≤ c0) (h : slices_Concat_byte_byte.f k l0 = some r) :
  Calls Try.prog 73 #[.slice A0 l0.length c0] w fun e w' => ∃ v0_ : Value, e = .returned (v0_) ∧ Kd.R (Kd.int .u8) 5 w' w.heap.size (fun _ => True) v0_ r ∧ Below w.heap.size w w' := by
 have HR0 := Gv.a0 hr0
 have HC0 := Gv.a0 hc0
 clear hr0 hc0
 have HB := Gv.a0 (Below.refl w.heap.size w)
 have H : (slices_Concat_byte_byte.l0 k l0 0 l0 (l0.length : Int) 0) = some r := h
 clear h
 have H' := Gv.a0 H
 clear H
 go_enter Try.func73, Try.ntmps73
 go_wp2
 go_loopg [3, 11] k (fun kq v3 v11 w' => ∃ (x3_1 : Int) (x11_1 : Int), v3 = .int .i64 x3_1 ∧ v11 = .int .i64 x11_1 ∧ Aside0 (slices_Concat_byte_byte.l0 kq l0 x3_1 l0 (l0.length : Int) x11_1 = some r) ∧ Aside0 (kq ≤ k) ∧ Aside0 (Below w.heap.size w w'))
 case atStart => exact ⟨(0), (0), Gv.rq, Gv.rq, H', ⟨Nat.le_refl _⟩, ⟨Gv.bw⟩⟩
 case round =>
  clear H'
  obtain ⟨x3_1, x11_1, rfl, rfl, HA, HK1, HB⟩ := hrel
  cases gk with
  | zero => exact absurd HA.out (by simp [slices_Concat_byte_byte.l0])
  | succ k1 =>
   have H := HA.out
   clear HA
   simp only [slices_Concat_byte_byte.l0] at H
   by_cases c2 : x11_1 < (l0.length : Int)
   ·rw [if_pos c2] at H
    have c2b0 : decide (x11_1 < (l0.length : Int)) = true := decide_eq_true c2
    clear c2
    by_cases c3 : 0 ≤ x11_1
    ·rw [if_pos c3] at H
     have c3b0 : decide (0 ≤ x11_1) = true := decide_eq_true c3
     clear c3
     by_cases c4 : x11_1 < (l0.length : Int)
     ·rw [if_pos c4] at H
      have c4b0 : decide (x11_1 < (l0.length : Int)) = true := decide_eq_true c4
      clear c4
      by_cases c5 : (wrap64 (x3_1 + ((rd_L11 l0 x11_1).length : Int))) < 0
      ·rw [if_pos c5] at H
       exact absurd H (by simp)
      ·rw [if_neg c5] at H
       have c5b0 : decide ((wrap64 (x3_1 + ((rd_L11 l0 x11_1).length : Int))) < 0) = false := decide_eq_false c5
       clear c5
       have H' := Gv.a0 H
       clear H
       have p353 : 0 ≤ (x11_1 : Int) := of_decide_eq_true (by first | (with_reducible assumption) | assumption)
       have q353 : x11_1 < (l0.length : Int) := of_decide_eq_true (by first | (with_reducible assumption) | assumption)
       obtain ⟨ad353, A353_0, c353_0, e353, hx353_0, hl353_0, hi353_0⟩ := at_L11 HR0.out x11_1 p353 q353
       cases e353
       replace hx353_0 := Gv.bx HB.out hx353_0
       have HR353_0 := Gv.a0 hi353_0
       have HC353_0 := Gv.a0 hl353_0
       clear hi353_0 hl353_0
       replace p353 := eq_true p353
       replace q353 := eq_true q353
       go_wp2
       go_roundg k1
       case measure => have := HK1.out; omega
       case rel => exact ⟨(wrap64 (x3_1 + ((rd_L11 l0 x11_1).length : Int))), (wrap64 (x11_1 + 1)), Gv.rq, Gv.rq, H', ⟨by have := HK1.out; omega⟩, ⟨Gv.bw⟩⟩
     ·rw [if_neg c4] at H
      exact absurd H (by simp)
    ·rw [if_neg c3] at H
     exact absurd H (by simp)
   ·rw [if_neg c2] at H
    have c2b0 : decide (x11_1 < (l0.length : Int)) = false := decide_eq_false c2
    clear c2
    replace H := Option.bind_eq_some_iff.mp H
    obtain ⟨t354, A60, H⟩ := H
    replace H : (slices_Concat_byte_byte.l1 k1 t354 l0 (l0.length : Int) 0) = some r := H
    have A6 := Gv.a0 A60
    clear A60
    have H' := Gv.a0 H
    clear H
    go_wp2_with (first | ((with_reducible refine gate_callee (f := 85) rfl ?_); refine goesL_ (some 24) rfl rfl Try.func85 (by kernel_rfl) rfl #[.slice none 0 0, .int .i64 x3_1] rfl Gv.lm ?_; (with_reducible refine (slices_Grow_byte_byte.calls x3_1 t354 _ A6.out).mono ?_); rintro e w7 ⟨v355, rfl, ho0, hb⟩; refine ⟨_, rfl, ?_⟩; have n0_ := Gv.a0 (Kd.R_lower ho0 (below_size Gv.bw)); have n1_ := Gv.a0 (below_step Gv.bw hb); clear HB; have HO356 := n0_; have HB := n1_; clear n0_ n1_; (try clear hb); (try clear hb2); (try clear hk); (try clear hi); (try clear ho0)))
    go_loopg [6, 27] k1 (fun kq v6 v27 w' => ∃ (x6_2 : List Int) (x27_2 : Int), v27 = .int .i64 x27_2 ∧ Aside0 (slices_Concat_byte_byte.l1 kq x6_2 l0 (l0.length : Int) x27_2 = some r) ∧ Aside0 (kq ≤ k1) ∧ Aside0 (Kd.R (Kd.int .u8) 5 w' w.heap.size (fun _ => True) v6 x6_2) ∧ Aside0 (Below w.heap.size w w'))
    case atStart => exact ⟨(t354), (0), Gv.rq, H', ⟨Nat.le_refl _⟩, ⟨Gv.kr HO356.out⟩, ⟨Gv.bw⟩⟩
    case round =>
     clear H'
     try clear c2
     try clear c2b0
     try clear p2
     try clear c3
     try clear c3b0
     try clear p3
     try clear q3
     try clear hx3
     try clear c4
     try clear c4b0
     try clear c5
     try clear c5b0
     try clear p6
     try clear c7
     try clear hx353_0
     try clear p353
     try clear q353
     obtain ⟨x6_2, x27_2, rfl, HA, HK2, HO_6, HB⟩ := hrel
     cases gk with
     | zero => exact absurd HA.out (by simp [slices_Concat_byte_byte.l1])
     | succ k2 =>
      have H := HA.out
      clear HA
      simp only [slices_Concat_byte_byte.l1] at H
      by_cases c8 : x27_2 < (l0.length : Int)
      ·rw [if_pos c8] at H
       have c8b0 : decide (x27_2 < (l0.length : Int)) = true := decide_eq_true c8
       clear c8
       by_cases c9 : 0 ≤ x27_2
       ·rw [if_pos c9] at H
        have c9b0 : decide (0 ≤ x27_2) = true := decide_eq_true c9
        clear c9
        by_cases c10 : x27_2 < (l0.length : Int)
        ·rw [if_pos c10] at H
         have c10b0 : decide (x27_2 < (l0.length : Int)) = true := decide_eq_true c10
         clear c10
         by_cases c11 : x6_2.length + (rd_L11 l0 x27_2).length < 140737488355328
         ·rw [if_pos c11] at H
          have LMc11 := Gv.a0 c11
          clear c11
          obtain ⟨y358, hy358⟩ : ∃ y_ : List Int, y_ = (x6_2 ++ (rd_L11 l0 x27_2)) := ⟨_, rfl⟩
          replace H : (slices_Concat_byte_byte.l1 k2 y358 l0 (l0.length : Int) (wrap64 (x27_2 + 1))) = some r := by first | (rw [hy358]; with_reducible exact H) | (have H2_ := (Option.bind_some _ _).symm.trans H; rw [hy358]; with_reducible exact H2_) | (have H2_ := (Option.bind_some _ _).symm.trans H; with_reducible exact H2_) | with_reducible exact H | (rw [hy358]; exact H) | exact H
          have Ny358 := Gv.a0 hy358
          clear hy358
          have H' := Gv.a0 H
          clear H
          have p357 : 0 ≤ (x27_2 : Int) := of_decide_eq_true (by first | (with_reducible assumption) | assumption)
          have q357 : x27_2 < (l0.length : Int) := of_decide_eq_true (by first | (with_reducible assumption) | assumption)
          obtain ⟨ad357, A357_0, c357_0, e357, hx357_0, hl357_0, hi357_0⟩ := at_L11 HR0.out x27_2 p357 q357
          cases e357
          replace hx357_0 := Gv.bx HB.out hx357_0
          have HR357_0 := Gv.a0 hi357_0
          have HC357_0 := Gv.a0 hl357_0
          clear hi357_0 hl357_0
          replace p357 := eq_true p357
          replace q357 := eq_true q357
          go_wp2_with (first | ((with_reducible refine gate_builtin (b := .append) (xs := #[.tmp 31, .tmp 32]) rfl ?_); at_builtin; refine Kd.R_append_rows (Kd.int .u8) (w0 := w) w.heap.size rfl (.tmp 31) (.tmp 32) 68 5 (.int .u8 0) 1 rfl Try.underlying68 info5 rfl (by decide) (by omega) u6 x6_2 (rd_L11 l0 x27_2) _ _ _ (fun _ => True) (fun _ => False) rfl rfl ?aO ?aR (fun _ _ h => h) (fun _ h => h.elim) ?aF ?aB ?aS ?aL ?_; (case aR => repeat (first | exact (Kd.C_below HR357_0.out HB.out) | (with_reducible refine Kd.C_alloc ?_ _) | (with_reducible refine Kd.C_drewN ?_ _) | (with_reducible refine Kd.C_drew ?_))); (case aB => exact Gv.bw); (case aF => exact (fun _ _ => trivial)); (case aO => exact (Gv.kr HO_6.out)); (case aS => exact (below_size Gv.bw)); (case aL => have := LMc11.out; omega); intro v359 w12 ho hb hg hat; rw [← Ny358.out] at ho; have n0_ := Gv.a0 (hb); have n1_ := Gv.a0 (ho); clear HB; clear HO_6; have HB := n0_; have HO360 := n1_; clear n0_ n1_; clear ho hb hg hat))
          go_roundg k2
          case measure => have := HK1.out; have := HK2.out; omega
          case rel => exact ⟨(y358), (wrap64 (x27_2 + 1)), Gv.rq, H', ⟨by have := HK1.out; have := HK2.out; omega⟩, ⟨Gv.kr HO360.out⟩, ⟨Gv.bw⟩⟩
         ·rw [if_neg c11] at H
          exact absurd H (by simp)
        ·rw [if_neg c10] at H
         exact absurd H (by simp)
       ·rw [if_neg c9] at H
        exact absurd H (by simp)
      ·rw [if_neg c8] at H
       have c8b0 : decide (x27_2 < (l0.length : Int)) = false := decide_eq_false c8
       clear c8
       obtain rfl := Option.some.inj H
       go_wp2
       go_ret
       exact ⟨_, Gv.rt, Gv.kr HO_6.out, Gv.bw⟩

/-! ### impl_put: function 87 -/
def impl_put.l0 : Nat → Int → Int → List Int → Int → Int → Option (List Int)
 | 0, _, _, _, _, _ => none
 | k + 1, x0, x1, x5, x10, x11 => if x11 < x10 then (if 0 ≤ (wrap64 (8 * (wrap64 ((wrap64 (x1 - 1)) - x11)))) then (if 0 ≤ x11 then (if x11 < (x5.length : Int) then (impl_put.l0 k x0 x1 (x5.set (x11 : Int).toNat ((shr .i64 x0 (wrap64 (8 * (wrap64 ((wrap64 (x1 - 1)) - x11))))) % 256)) x10 (wrap64 (x11 + 1))) else (none)) else (none)) else (none)) else (some x5)
def impl_put.f (k : Nat) (a0 : Int) (a1 : Int) : Option (List Int) := if 0 ≤ a1 then (if (a1 : Int).toNat ≤ 281474976710656 then ((some (List.replicate (a1 : Int).toNat 0 : List Int)).bind fun y361 => (impl_put.l0 k a0 a1 y361 (y361.length : Int) 0)) else (none)) else (none)
theorem impl_put.mono_l : ∀ k, (∀ y0 y1 y2 y3 y4, LeO (impl_put.l0 k y0 y1 y2 y3 y4) (impl_put.l0 (k + 1) y0 y1 y2 y3 y4))
 | 0 => fun _ _ _ _ _ r h => by simp [impl_put.l0] at h
 | k + 1 => by
  have ih0 := impl_put.mono_l k
  ·intro y0 y1 y2 y3 y4
   unfold impl_put.l0
   repeat' first
   | (with_reducible exact ih0 _ _ _ _ _)
   | (with_reducible exact LeO.refl _)
   | (with_reducible exact LeO.none _)
   | (with_reducible refine LeO.ite ?_ ?_)
   | (with_reducible refine LeO.bind ?_ (fun _ => ?_))
   | exact ih0 _ _ _ _ _
   | exact LeO.none _
   | refine LeO.ite ?_ ?_
   | refine LeO.bind ?_ (fun _ => ?_)
theorem impl_put.mono : ∀ a0 a1 k, LeO (impl_put.f k a0 a1) (impl_put.f (k + 1) a0 a1) := by
 intro a0 a1 k
 have ih0 := impl_put.mono_l k
 unfold impl_put.f
 repeat' first
   | (with_reducible exact ih0 _ _ _ _ _)
   | (with_reducible exact LeO.refl _)
   | (with_reducible exact LeO.none _)
   | (with_reducible refine LeO.ite ?_ ?_)
   | (with_reducible refine LeO.bind ?_ (fun _ => ?_))
   | exact ih0 _ _ _ _ _
   | exact LeO.none _
   | refine LeO.ite ?_ ?_
   | refine LeO.bind ?_ (fun _ => ?_)
set_option maxHeartbeats 8000000 in
set_option maxRecDepth 100000 in
theorem impl_put.calls (k : Nat) (a0 : Int) (a1 : Int) (r : List Int) (w : World) (h : impl_put.f k a0 a1 = some r) :
  Calls Try.prog 87 #[.int .i64 a0, .int .i64 a1] w fun e w' => ∃ v0_ : Value, e = .returned (v0_) ∧ Kd.R (Kd.int .u8) 5 w' w.heap.size (fun _ => True) v0_ r ∧ Below w.heap.size w w' := by
 have HB := Gv.a0 (Below.refl w.heap.size w)
 have H : (if 0 ≤ a1 then (if (a1 : Int).toNat ≤ 281474976710656 then ((some (List.replicate (a1 : Int).toNat 0 : List Int)).bind fun y361 => (impl_put.l0 k a0 a1 y361 (y361.length : Int) 0)) else (none)) else (none)) = some r := h
 clear h
 by_cases c3 : 0 ≤ a1
 ·rw [if_pos c3] at H
  have c3b0 := eq_true c3
  have c3b1 : decide (0 ≤ a1) = true := decide_eq_true c3
  clear c3
  by_cases c4 : (a1 : Int).toNat ≤ 281474976710656
  ·rw [if_pos c4] at H
   have c4b0 := eq_true c4
   have c4b1 : decide ((a1 : Int).toNat ≤ 281474976710656) = true := decide_eq_true c4
   clear c4
   obtain ⟨y361, hy361⟩ : ∃ y_ : List Int, y_ = (List.replicate (a1 : Int).toNat 0) := ⟨_, rfl⟩
   replace H : (impl_put.l0 k a0 a1 y361 (y361.length : Int) 0) = some r := by first | (rw [hy361]; with_reducible exact H) | (have H2_ := (Option.bind_some _ _).symm.trans H; rw [hy361]; with_reducible exact H2_) | (have H2_ := (Option.bind_some _ _).symm.trans H; with_reducible exact H2_) | with_reducible exact H | (rw [hy361]; exact H) | exact H
   have Ny361 := Gv.a0 hy361
   clear hy361
   have H' := Gv.a0 H
   clear H
   go_enter Try.func87, Try.ntmps87
   go_wp2_with (first | ((with_reducible refine gate_dst (N := 8) rfl ?_); refine Kd.R_make (Kd.int .u8) _ 5 rfl (N := 8) rfl 68 _ _ rfl a1 rfl rfl Try.underlying68 (.int .u8 0) 1 info5 rfl (by decide) (by omega) 0 (ok := fun _ => True) (okp := fun _ => True) rfl (fun _ hk => hk) trivial (of_decide_eq_true (by first | (with_reducible assumption) | assumption)) (Nat.le_trans (Nat.mul_le_mul_right _ (of_decide_eq_true (by first | (with_reducible assumption) | assumption) : a1.toNat ≤ 281474976710656)) (by omega)) (Below.refl _ _) (Nat.le_refl _) ?_; intro v362 w5 ho6 hb hg_ hnew_; clear hg_ hnew_; (first | rw [← Ny361.out] at ho6 | (simp only [Int.reduceToNat] at ho6; rw [← Ny361.out] at ho6)); have n0_ := Gv.a0 (Kd.R_lower ho6 (below_size Gv.bw)); have n1_ := Gv.a0 (below_step Gv.bw hb); clear HB; have HO363 := n0_; have HB := n1_; clear n0_ n1_; clear hb ho6; obtain ⟨Ao7, co7, eo7⟩ := Kd.R_slice HO363.out; subst eo7))
   go_loopg [11] k (fun kq v11 w' => ∃ (x5_1 : List Int) (x11_1 : Int), v11 = .int .i64 x11_1 ∧ Aside0 (impl_put.l0 kq a0 a1 x5_1 (y361.length : Int) x11_1 = some r) ∧ Aside0 (kq ≤ k) ∧ Aside0 (Kd.R (Kd.int .u8) 5 w' w.heap.size (fun _ => True) (.slice Ao7 y361.length co7) x5_1) ∧ Aside0 (Below w.heap.size w w'))
   case atStart => exact ⟨(y361), (0), Gv.rq, H', ⟨Nat.le_refl _⟩, ⟨Gv.kr HO363.out⟩, ⟨Gv.bw⟩⟩
   case round =>
    clear H'
    try clear p2
    try clear c3
    try clear c3b0
    try clear c3b1
    try clear c4
    try clear c4b0
    try clear c4b1
    obtain ⟨x5_1, x11_1, rfl, HA, HK1, HO_5, HB⟩ := hrel
    have hl5_1 := (Kd.R_reads' HO_5.out).1
    rw [hl5_1] at HO_5
    (try simp only [hl5_1])
    cases gk with
    | zero => exact absurd HA.out (by simp [impl_put.l0])
    | succ k1 =>
     have H := HA.out
     clear HA
     simp only [impl_put.l0] at H
     by_cases c8 : x11_1 < (y361.length : Int)
     ·rw [if_pos c8] at H
      have c8b0 : decide (x11_1 < (y361.length : Int)) = true := decide_eq_true c8
      (try (have c8b9 := c8b0; rw [hl5_1] at c8b9))
      (try (have c8b8 := c8b0; rw [← hl5_1] at c8b8))
      clear c8
      obtain ⟨ji9, hji9⟩ : ∃ j_ : Int, (wrap64 (8 * (wrap64 ((wrap64 (a1 - 1)) - x11_1)))) = j_ := ⟨_, rfl⟩
      replace H : (if 0 ≤ (ji9) then (if 0 ≤ x11_1 then (if x11_1 < (x5_1.length : Int) then (impl_put.l0 k1 a0 a1 (x5_1.set (x11_1 : Int).toNat ((shr .i64 a0 (ji9)) % 256)) (y361.length : Int) (wrap64 (x11_1 + 1))) else (none)) else (none)) else (none)) = some r := by first | (rw [hji9] at H; exact H) | (simp only [hji9] at H ⊢; exact H)
      have hji9w : (IntKind.i64.wrap (8 * (wrap64 ((wrap64 (a1 - 1)) - x11_1)))) = ji9 := (i64_w _).trans hji9
      by_cases c10 : 0 ≤ (ji9)
      ·rw [if_pos c10] at H
       have c10b0 := eq_true c10
       have c10b1 : decide (0 ≤ (ji9)) = true := decide_eq_true c10
       clear c10
       obtain ⟨ji11, hji11⟩ : ∃ j_ : Int, (shr .i64 a0 (ji9)) = j_ := ⟨_, rfl⟩
       replace H : (if 0 ≤ x11_1 then (if x11_1 < (x5_1.length : Int) then (impl_put.l0 k1 a0 a1 (x5_1.set (x11_1 : Int).toNat ((ji11) % 256)) (y361.length : Int) (wrap64 (x11_1 + 1))) else (none)) else (none)) = some r := by first | (rw [hji11] at H; exact H) | (simp only [hji11] at H ⊢; exact H)
       have hji11_ : (a0 / 2 ^ min (ji9).toNat 64) = ji11 := hji11
       have hji11z : (ji9) ≤ 64 → (a0 / 2 ^ (ji9).toNat) = ji11 := shr_small hji11
       by_cases c12 : 0 ≤ x11_1
       ·rw [if_pos c12] at H
        have c12b0 : decide (0 ≤ x11_1) = true := decide_eq_true c12
        clear c12
        by_cases c13 : x11_1 < (x5_1.length : Int)
        ·rw [if_pos c13] at H
         have c13b0 : decide (x11_1 < (x5_1.length : Int)) = true := decide_eq_true c13
         clear c13
         obtain ⟨y364, hy364⟩ : ∃ y_ : List Int, y_ = (x5_1.set (x11_1 : Int).toNat ((ji11) % 256)) := ⟨_, rfl⟩
         replace H : (impl_put.l0 k1 a0 a1 y364 (y361.length : Int) (wrap64 (x11_1 + 1))) = some r := by first | (rw [hy364]; with_reducible exact H) | (have H2_ := (Option.bind_some _ _).symm.trans H; rw [hy364]; with_reducible exact H2_) | (have H2_ := (Option.bind_some _ _).symm.trans H; with_reducible exact H2_) | with_reducible exact H | (rw [hy364]; exact H) | exact H
         have Ny364 := Gv.a0 hy364
         clear hy364
         have H' := Gv.a0 H
         clear H
         have p14 : 0 ≤ (x11_1 : Int) := of_decide_eq_true (by first | (with_reducible assumption) | assumption)
         have q14 : (x11_1 : Int) < ((x5_1.length : Int) : Int) := of_decide_eq_true (by first | (with_reducible assumption) | assumption)
         obtain ⟨go14, co14, eo14, gb14, gl14, cl14, HG14⟩ := Kd.R_form HO_5.out (by omega)
         (first | cases eo14 | (injection eo14 with ea_ en_ ec_; (first | subst ea_ | (injection ea_ with ea_; subst ea_)); subst ec_; clear en_))
         have GB14 := Gv.a0 gb14
         have GG14 := Gv.a0 HG14
         clear gb14 gl14 HG14
         obtain ⟨hx14_0, hf14_0⟩ := Kd.R_celln 0 HO_5.out (x11_1 : Int) p14 q14
         replace p14 := eq_true p14
         replace q14 := eq_true q14
         have HP15 := Kd.R_putg HO_5.out (x11_1 : Int) ((ji11) % 256)
         go_wp2_with (first | ((with_reducible refine gate_store (t := 5) (p := 24) rfl ?_); refine store_event (t := 5) (p := 24) (v := ?vo_w16) (w1 := (wr.setCell ⟨go14, (x11_1 : Int).toNat, none⟩ (.int .u8 ((ji11) % 256)))) ?hg ?ho ?hn ?hr ?_; (case ho => rfl); (case hg => rfl); (case hn => rfl); (case hr => first | (go_simp; done) | (go_simp; rfl)); intro w16 hw; have hg : wr.grownBy w16 (some go14) := (by rw [hw]; exact HP15.2); have hp_ : Kd.R (Kd.int .u8) 5 w16 w.heap.size (fun _ => True) (.slice (some ⟨go14, 0, none⟩) x5_1.length co7) y364 := (by rw [hw, Ny364.out]; exact HP15.1); clear HP15; have n0_ := Gv.a0 (hp_); have n1_ := Gv.a0 ((by rw [hw]; exact below_set (HB.out) GB14.out : Below w.heap.size w w16)); clear HO_5; clear HB; have HO_5 := n0_; have HB := n1_; clear n0_ n1_; clear hg hw hp_))
         (try simp only [← hl5_1])
         go_roundg k1
         case measure => have := HK1.out; omega
         case rel => exact ⟨(y364), (wrap64 (x11_1 + 1)), Gv.rq, H', ⟨by have := HK1.out; omega⟩, ⟨by (try simp only [hl5_1]); (with_reducible repeat (first | apply Kd.R_alloc | apply Kd.R_drewN | apply Kd.R_drew)); exact HO_5.out⟩, ⟨Gv.bw⟩⟩
        ·rw [if_neg c13] at H
         exact absurd H (by simp)
       ·rw [if_neg c12] at H
        exact absurd H (by simp)
      ·rw [if_neg c10] at H
       exact absurd H (by simp)
     ·rw [if_neg c8] at H
      have c8b0 : decide (x11_1 < (y361.length : Int)) = false := decide_eq_false c8
      (try (have c8b9 := c8b0; rw [hl5_1] at c8b9))
      (try (have c8b8 := c8b0; rw [← hl5_1] at c8b8))
      clear c8
      obtain rfl := Option.some.inj H
      go_wp2
      go_ret
      exact ⟨_, Gv.rt, Gv.kr HO_5.out, Gv.bw⟩
  ·rw [if_neg c4] at H
   exact absurd H (by simp)
 ·rw [if_neg c3] at H
  exact absurd H (by simp)

/-! ### impl_Put32: function 86 -/
def impl_Put32.f (k : Nat) (a0 : Int) : Option (List Int) := (impl_put.f k a0 4).bind fun t365 => (some t365)
theorem impl_Put32.mono : ∀ a0 k, LeO (impl_Put32.f k a0) (impl_Put32.f (k + 1) a0) := by
 intro a0 k
 unfold impl_Put32.f
 repeat' first
   | (with_reducible exact impl_put.mono _ _ _)
   | (with_reducible exact LeO.refl _)
   | (with_reducible exact LeO.none _)
   | (with_reducible refine LeO.ite ?_ ?_)
   | (with_reducible refine LeO.bind ?_ (fun _ => ?_))
   | exact impl_put.mono _ _ _
   | exact LeO.none _
   | refine LeO.ite ?_ ?_
   | refine LeO.bind ?_ (fun _ => ?_)
set_option maxHeartbeats 8000000 in
set_option maxRecDepth 100000 in
theorem impl_Put32.calls (k : Nat) (a0 : Int) (r : List Int) (w : World) (h : impl_Put32.f k a0 = some r) :
  Calls Try.prog 86 #[.int .i64 a0] w fun e w' => ∃ v0_ : Value, e = .returned (v0_) ∧ Kd.R (Kd.int .u8) 5 w' w.heap.size (fun _ => True) v0_ r ∧ Below w.heap.size w w' := by
 have HB := Gv.a0 (Below.refl w.heap.size w)
 have H : ((impl_put.f k a0 4).bind fun t365 => (some t365)) = some r := h
 clear h
 replace H := Option.bind_eq_some_iff.mp H
 obtain ⟨t365, A20, H⟩ := H
 replace H : (some t365) = some r := H
 have A2 := Gv.a0 A20
 clear A20
 obtain rfl := Option.some.inj H
 go_enter Try.func86, Try.ntmps86
 go_wp2_with (first | ((with_reducible refine gate_callee (f := 87) rfl ?_); refine goesL_ (some 4) rfl rfl Try.func87 (by kernel_rfl) rfl #[.int .i64 a0, .int .i64 4] rfl Gv.lm ?_; (with_reducible refine (impl_put.calls k a0 4 t365 _ A2.out).mono ?_); rintro e w3 ⟨v366, rfl, ho0, hb⟩; refine ⟨_, rfl, ?_⟩; have n0_ := Gv.a0 (Kd.R_lower ho0 (below_size Gv.bw)); have n1_ := Gv.a0 (below_step Gv.bw hb); clear HB; have HO367 := n0_; have HB := n1_; clear n0_ n1_; (try clear hb); (try clear hb2); (try clear hk); (try clear hi); (try clear ho0)))
 go_ret
 exact ⟨_, Gv.rt, Gv.kr HO367.out, Gv.bw⟩

/-! ### impl_AddrBytes: function 74 -/
def impl_AddrBytes.f (k : Nat) (a0_0 : Int) (a0_1 : Int) (a0_2 : Int) (a0_3 : Int) (a0_4 : Int) : Option (List Int) := (impl_AddrOk.f a0_0 a0_1 a0_2 a0_3 a0_4).bind fun t369 => (if t369 = true then (if a0_0 = 4 then ((impl_Put32.f k a0_4).bind fun t370 => (some t370)) else ((impl_Put32.f k a0_1).bind fun t373 => ((impl_Put32.f k a0_2).bind fun t376 => ((impl_Put32.f k a0_3).bind fun t379 => ((impl_Put32.f k a0_4).bind fun t382 => ((slices_Concat_byte_byte.f k (([t373, t376, t379, t382] : List (List Int)))).bind fun t388 => (some t388))))))) else (some ([] : List Int)))
theorem impl_AddrBytes.mono : ∀ a0 a1 a2 a3 a4 k, LeO (impl_AddrBytes.f k a0 a1 a2 a3 a4) (impl_AddrBytes.f (k + 1) a0 a1 a2 a3 a4) := by
 intro a0 a1 a2 a3 a4 k
 unfold impl_AddrBytes.f
 repeat' first
   | (with_reducible exact impl_Put32.mono _ _)
   | (with_reducible exact slices_Concat_byte_byte.mono _ _)
   | (with_reducible exact LeO.refl _)
   | (with_reducible exact LeO.none _)
   | (with_reducible refine LeO.ite ?_ ?_)
   | (with_reducible refine LeO.bind ?_ (fun _ => ?_))
   | exact impl_Put32.mono _ _
   | exact slices_Concat_byte_byte.mono _ _
   | exact LeO.none _
   | refine LeO.ite ?_ ?_
   | refine LeO.bind ?_ (fun _ => ?_)
def impl_AddrBytes.T5 : Bool × List (List Nat × List Nat) := (true, [([], []), ([0], [0]), ([1], [1]), ([], []), ([3], [3]), ([4, 2], [4]), ([], []), ([6], [6]), ([7, 5], [7]), ([], []), ([9], [9]), ([10, 8], [10]), ([2, 5, 8, 11], [2, 5, 8, 11]), ([12, 11], [12]), ([13, 13, 0, 1, 2, 3, 4, 5, 6, 7, 8, 9, 10, 11, 12, 13], [13])])
def impl_AddrBytes.B5 : List Nat := [0, 1, 3, 0, 8, 31, 0, 64, 255, 0, 512, 2047, 4095, 8191, 16383]
theorem impl_AddrBytes.tab5 : rtab .any (opsOf Try.f74 5) = impl_AddrBytes.T5 := by kernel_rfl
theorem impl_AddrBytes.bits5 : waitsOk impl_AddrBytes.T5.2 impl_AddrBytes.B5 = true := by kernel_rfl
set_option maxHeartbeats 8000000 in
set_option maxRecDepth 100000 in
theorem impl_AddrBytes.calls (k : Nat) (a0_0 : Int) (a0_1 : Int) (a0_2 : Int) (a0_3 : Int) (a0_4 : Int) (r : List Int) (w : World) (h : impl_AddrBytes.f k a0_0 a0_1 a0_2 a0_3 a0_4 = some r) :
  Calls Try.prog 74 #[.agg #[.int .i64 a0_0, .int .i64 a0_1, .int .i64 a0_2, .int .i64 a0_3, .int .i64 a0_4]] w fun e w' => ∃ v0_ : Value, e = .returned (v0_) ∧ Kd.R (Kd.int .u8) 5 w' w.heap.size (fun _ => True) v0_ r ∧ Below w.heap.size w w' := by
 have hu29 := Try.underlying29
 have HB := Gv.a0 (Below.refl w.heap.size w)
 have H : ((impl_AddrOk.f a0_0 a0_1 a0_2 a0_3 a0_4).bind fun t369 => (if t369 = true then (if a0_0 = 4 then ((impl_Put32.f k a0_4).bind fun t370 => (some t370)) else ((impl_Put32.f k a0_1).bind fun t373 => ((impl_Put32.f k a0_2).bind fun t376 => ((impl_Put32.f k a0_3).bind fun t379 => ((impl_Put32.f k a0_4).bind fun t382 => ((slices_Concat_byte_byte.f k (([t373, t376, t379, t382] : List (List Int)))).bind fun t388 => (some t388))))))) else (some ([] : List Int)))) = some r := h
 clear h
 replace H := Option.bind_eq_some_iff.mp H
 obtain ⟨t369, A20, H⟩ := H
 replace H : (if t369 = true then (if a0_0 = 4 then ((impl_Put32.f k a0_4).bind fun t370 => (some t370)) else ((impl_Put32.f k a0_1).bind fun t373 => ((impl_Put32.f k a0_2).bind fun t376 => ((impl_Put32.f k a0_3).bind fun t379 => ((impl_Put32.f k a0_4).bind fun t382 => ((slices_Concat_byte_byte.f k (([t373, t376, t379, t382] : List (List Int)))).bind fun t388 => (some t388))))))) else (some ([] : List Int))) = some r := H
 have A2 := Gv.a0 A20
 clear A20
 by_cases c3 : t369 = true
 ·subst c3
  have H1 : (if a0_0 = 4 then ((impl_Put32.f k a0_4).bind fun t370 => (some t370)) else ((impl_Put32.f k a0_1).bind fun t373 => ((impl_Put32.f k a0_2).bind fun t376 => ((impl_Put32.f k a0_3).bind fun t379 => ((impl_Put32.f k a0_4).bind fun t382 => ((slices_Concat_byte_byte.f k (([t373, t376, t379, t382] : List (List Int)))).bind fun t388 => (some t388))))))) = some r := by rw [if_pos rfl] at H; exact H
  clear H
  have H := H1
  clear H1
  by_cases c4 : a0_0 = 4
  ·rw [if_pos c4] at H
   have c4b0 : (a0_0 == 4) = true := beq_iff_eq.mpr c4
   have c4b1 : (a0_0 != 4) = false := bne_eq_false_iff_eq.mpr c4
   clear c4
   replace H := Option.bind_eq_some_iff.mp H
   obtain ⟨t370, A50, H⟩ := H
   replace H : (some t370) = some r := H
   have A5 := Gv.a0 A50
   clear A50
   obtain rfl := Option.some.inj H
   go_enter Try.func74, Try.ntmps74
   go_wp2_with (first | ((with_reducible refine gate_dst (N := 1) rfl ?_); refine box_event ?hg (N := 1) ?hd (cs := #[.int .i64 a0_0, .int .i64 a0_1, .int .i64 a0_2, .int .i64 a0_3, .int .i64 a0_4]) (t := 29) ?hr ?_; (case hd => rfl); (case hg => rfl); (case hr => first | (go_simp; done) | (go_simp; rfl)); intro gb368 hg w6 hbox hb; have n0_ := Gv.a0 (below_step Gv.bw hb); have n1_ := Gv.a0 (hbox); have n2_ := Gv.a0 ((Gv.ble hg Gv.bw : w.heap.size ≤ gb368)); have n3_ := Gv.a0 ((Gv.ble hg Gv.bw : w.heap.size ≤ gb368)); clear HB; have HB := n0_; have BK368 := n1_; have GW368 := n2_; have GE368 := n3_; clear n0_ n1_ n2_ n3_; clear hb hbox hg; obtain ⟨hcz7_0, hcz7_1, hcz7_2, hcz7_3, hcz7_4⟩ := Gv.c5 BK368.out; obtain ⟨hfz7_0, hfz7_1, hfz7_2, hfz7_3, hfz7_4⟩ := Gv.f5 BK368.out) | ((with_reducible refine gate_callee (f := 81) rfl ?_); refine goesL_ (some 5) rfl rfl Try.func81 (by kernel_rfl) rfl #[.agg #[.int .i64 a0_0, .int .i64 a0_1, .int .i64 a0_2, .int .i64 a0_3, .int .i64 a0_4]] rfl Gv.lm ?_; (with_reducible refine (impl_AddrOk.calls a0_0 a0_1 a0_2 a0_3 a0_4 true _ A2.out).mono ?_); rintro e w8 ⟨rfl, hb⟩; refine ⟨_, rfl, ?_⟩; have n0_ := Gv.a0 (Gv.bb BK368.out hb); have n1_ := Gv.a0 (below_step Gv.bw hb); clear BK368; clear HB; have BK368 := n0_; have HB := n1_; clear n0_ n1_; (try clear hb); (try clear hb2); (try clear hk); (try clear hi); obtain ⟨hcz9_0, hcz9_1, hcz9_2, hcz9_3, hcz9_4⟩ := Gv.c5 BK368.out; obtain ⟨hfz9_0, hfz9_1, hfz9_2, hfz9_3, hfz9_4⟩ := Gv.f5 BK368.out) | ((with_reducible refine gate_callee (f := 86) rfl ?_); refine goesL_ (some 13) rfl rfl Try.func86 (by kernel_rfl) rfl #[.int .i64 a0_4] rfl Gv.lm ?_; (with_reducible refine (impl_Put32.calls k a0_4 t370 _ A5.out).mono ?_); rintro e w10 ⟨v371, rfl, ho0, hb⟩; refine ⟨_, rfl, ?_⟩; have n0_ := Gv.a0 (Kd.R_lower ho0 (below_size Gv.bw)); have n1_ := Gv.a0 (Gv.bb BK368.out hb); have n2_ := Gv.a0 (below_step Gv.bw hb); clear BK368; clear HB; have HO372 := n0_; have BK368 := n1_; have HB := n2_; clear n0_ n1_ n2_; (try clear hb); (try clear hb2); (try clear hk); (try clear hi); (try clear ho0)))
   go_ret
   exact ⟨_, Gv.rt, Gv.kr HO372.out, Gv.bw⟩
  ·rw [if_neg c4] at H
   have c4b0 : (a0_0 == 4) = false := beq_eq_false_iff_ne.mpr c4
   have c4b1 : (a0_0 != 4) = true := bne_iff_ne.mpr c4
   replace H := Option.bind_eq_some_iff.mp H
   obtain ⟨t373, A110, H⟩ := H
   replace H : ((impl_Put32.f k a0_2).bind fun t376 => ((impl_Put32.f k a0_3).bind fun t379 => ((impl_Put32.f k a0_4).bind fun t382 => ((slices_Concat_byte_byte.f k (([t373, t376, t379, t382] : List (List Int)))).bind fun t388 => (some t388))))) = some r := H
   have A11 := Gv.a0 A110
   clear A110
   replace H := Option.bind_eq_some_iff.mp H
   obtain ⟨t376, A120, H⟩ := H
   replace H : ((impl_Put32.f k a0_3).bind fun t379 => ((impl_Put32.f k a0_4).bind fun t382 => ((slices_Concat_byte_byte.f k (([t373, t376, t379, t382] : List (List Int)))).bind fun t388 => (some t388)))) = some r := H
   have A12 := Gv.a0 A120
   clear A120
   replace H := Option.bind_eq_some_iff.mp H
   obtain ⟨t379, A130, H⟩ := H
   replace H : ((impl_Put32.f k a0_4).bind fun t382 => ((slices_Concat_byte_byte.f k (([t373, t376, t379, t382] : List (List Int)))).bind fun t388 => (some t388))) = some r := H
   have A13 := Gv.a0 A130
   clear A130
   replace H := Option.bind_eq_some_iff.mp H
   obtain ⟨t382, A140, H⟩ := H
   replace H : ((slices_Concat_byte_byte.f k (([t373, t376, t379, t382] : List (List Int)))).bind fun t388 => (some t388)) = some r := H
   have A14 := Gv.a0 A140
   clear A140
   obtain ⟨y385, hy385⟩ : ∃ y_ : List (List Int), y_ = (([t373, t376, t379, t382] : List (List Int))) := ⟨_, rfl⟩
   replace H : ((slices_Concat_byte_byte.f k y385).bind fun t388 => (some t388)) = some r := by first | (rw [hy385]; with_reducible exact H) | (have H2_ := (Option.bind_some _ _).symm.trans H; rw [hy385]; with_reducible exact H2_) | (have H2_ := (Option.bind_some _ _).symm.trans H; with_reducible exact H2_) | with_reducible exact H | (rw [hy385]; exact H) | exact H
   have Ny385 := Gv.a0 hy385
   clear hy385
   replace H := Option.bind_eq_some_iff.mp H
   obtain ⟨t388, A150, H⟩ := H
   replace H : (some t388) = some r := H
   have A15 := Gv.a0 A150
   clear A150
   obtain rfl := Option.some.inj H
   go_enter Try.func74, Try.ntmps74
   try go_wp2_with (first | ((with_reducible refine gate_dst (N := 1) rfl ?_); refine box_event ?hg (N := 1) ?hd (cs := #[.int .i64 a0_0, .int .i64 a0_1, .int .i64 a0_2, .int .i64 a0_3, .int .i64 a0_4]) (t := 29) ?hr ?_; (case hd => rfl); (case hg => rfl); (case hr => first | (go_simp; done) | (go_simp; rfl)); intro gb368 hg w16 hbox hb; have n0_ := Gv.a0 (below_step Gv.bw hb); have n1_ := Gv.a0 (hbox); have n2_ := Gv.a0 ((Gv.ble hg Gv.bw : w.heap.size ≤ gb368)); have n3_ := Gv.a0 ((Gv.ble hg Gv.bw : w.heap.size ≤ gb368)); clear HB; have HB := n0_; have BK368 := n1_; have GW368 := n2_; have GE368 := n3_; clear n0_ n1_ n2_ n3_; clear hb hbox hg; obtain ⟨hcz17_0, hcz17_1, hcz17_2, hcz17_3, hcz17_4⟩ := Gv.c5 BK368.out; obtain ⟨hfz17_0, hfz17_1, hfz17_2, hfz17_3, hfz17_4⟩ := Gv.f5 BK368.out) | ((with_reducible refine gate_callee (f := 81) rfl ?_); refine goesL_ (some 5) rfl rfl Try.func81 (by kernel_rfl) rfl #[.agg #[.int .i64 a0_0, .int .i64 a0_1, .int .i64 a0_2, .int .i64 a0_3, .int .i64 a0_4]] rfl Gv.lm ?_; (with_reducible refine (impl_AddrOk.calls a0_0 a0_1 a0_2 a0_3 a0_4 true _ A2.out).mono ?_); rintro e w18 ⟨rfl, hb⟩; refine ⟨_, rfl, ?_⟩; have n0_ := Gv.a0 (Gv.bb BK368.out hb); have n1_ := Gv.a0 (below_step Gv.bw hb); clear BK368; clear HB; have BK368 := n0_; have HB := n1_; clear n0_ n1_; (try clear hb); (try clear hb2); (try clear hk); (try clear hi); obtain ⟨hcz19_0, hcz19_1, hcz19_2, hcz19_3, hcz19_4⟩ := Gv.c5 BK368.out; obtain ⟨hfz19_0, hfz19_1, hfz19_2, hfz19_3, hfz19_4⟩ := Gv.f5 BK368.out))
   have n0_ := Gv.a0 (blk_drew BK368.out)
   have n1_ := Gv.a0 (below_drew1 HB.out)
   clear BK368
   clear HB
   have BK368 := n0_
   have HB := n1_
   clear n0_ n1_
   refine start_ (n := 15) (S := fun w' => w'.cell? ⟨gb368, 0, none⟩ = some (.int .i64 a0_0) ∧ w'.cell? ⟨gb368, 1, none⟩ = some (.int .i64 a0_1) ∧ w'.cell? ⟨gb368, 2, none⟩ = some (.int .i64 a0_2) ∧ w'.cell? ⟨gb368, 3, none⟩ = some (.int .i64 a0_3) ∧ w'.cell? ⟨gb368, 4, none⟩ = some (.int .i64 a0_4)) (ds := []) #[false, false, false, false, false, false, false, false, false, false, false, false, false, false, false] (by kernel_rfl) rfl rfl ⟨(blk_cell BK368.out 0).trans rfl, (blk_cell BK368.out 1).trans rfl, (blk_cell BK368.out 2).trans rfl, (blk_cell BK368.out 3).trans rfl, (blk_cell BK368.out 4).trans rfl⟩ (fun hHeld => ?_); refine with_tabW impl_AddrBytes.tab5 impl_AddrBytes.bits5 (fun HT_ HW_ => ?_)
   generalize w18.drew = w20 at BK368 HB hHeld ⊢
   refine Gv.pu 0 (some 14) HT_ ?_
   refine Gv.pu 3 (some 17) HT_ ?_
   refine Gv.pu 6 (some 20) HT_ ?_
   refine Gv.pu 9 (some 23) HT_ ?_
   refine take_ (i := 1) (N := some 15) (v := ?_) (a' := ?_) #[true, true, false, true, false, false, true, false, false, true, false, false, false, false, false] rfl rfl (take_ofW HT_.out HW_.out (by kernel_rfl)) (fun _ _ _ h => h) (Or.inl ⟨by rfl, ?_⟩) hHeld ?_ ?_
   rotate_left
   ·rintro w' ⟨s0, s1, s2, s3, s4⟩
    go_simp
    with_reducible rfl
   rotate_left
   ·simp only [Act.put, List.setIfInBounds_toArray, List.set_cons_zero, List.set_cons_succ, i64_w, i32_w]
    rfl
   refine take_ (i := 4) (N := some 18) (v := ?_) (a' := ?_) #[true, true, false, true, true, false, true, false, false, true, false, false, false, false, false] rfl rfl (take_ofW HT_.out HW_.out (by kernel_rfl)) (fun _ _ _ h => h) (Or.inl ⟨by rfl, ?_⟩) hHeld ?_ ?_
   rotate_left
   ·rintro w' ⟨s0, s1, s2, s3, s4⟩
    go_simp
    with_reducible rfl
   rotate_left
   ·simp only [Act.put, List.setIfInBounds_toArray, List.set_cons_zero, List.set_cons_succ, i64_w, i32_w]
    rfl
   refine take_ (i := 7) (N := some 21) (v := ?_) (a' := ?_) #[true, true, false, true, true, false, true, true, false, true, false, false, false, false, false] rfl rfl (take_ofW HT_.out HW_.out (by kernel_rfl)) (fun _ _ _ h => h) (Or.inl ⟨by rfl, ?_⟩) hHeld ?_ ?_
   rotate_left
   ·rintro w' ⟨s0, s1, s2, s3, s4⟩
    go_simp
    with_reducible rfl
   rotate_left
   ·simp only [Act.put, List.setIfInBounds_toArray, List.set_cons_zero, List.set_cons_succ, i64_w, i32_w]
    rfl
   refine take_ (i := 10) (N := some 24) (v := ?_) (a' := ?_) #[true, true, false, true, true, false, true, true, false, true, true, false, false, false, false] rfl rfl (take_ofW HT_.out HW_.out (by kernel_rfl)) (fun _ _ _ h => h) (Or.inl ⟨by rfl, ?_⟩) hHeld ?_ ?_
   rotate_left
   ·rintro w' ⟨s0, s1, s2, s3, s4⟩
    go_simp
    with_reducible rfl
   rotate_left
   ·simp only [Act.put, List.setIfInBounds_toArray, List.set_cons_zero, List.set_cons_succ, i64_w, i32_w]
    rfl
   refine one_ (i := 2) (N := some 16) #[true, true, true, true, true, false, true, true, false, true, true, false, false, false, false] rfl rfl (one_of HT_.out (by kernel_rfl)) (by decide) (fun K hK => ?_)
   refine goes_ Try.func86 (by kernel_rfl) rfl #[.int .i64 a0_1] (by rfl) rfl rfl Gv.lm ?_
   with_reducible refine (impl_Put32.calls k a0_1 t373 _ A11.out).mono ?_
   rintro e w21 ⟨v374, rfl, ho0, hb⟩
   refine ⟨_, rfl, ?_⟩
   have n0_ := Gv.a0 (Kd.R_lower ho0 (below_size Gv.bw))
   have n1_ := Gv.a0 (Gv.bb BK368.out hb)
   have n2_ := Gv.a0 (below_step Gv.bw hb)
   clear BK368
   clear HB
   have HO375 := n0_
   have BK368 := n1_
   have HB := n2_
   clear n0_ n1_ n2_
   (try clear hb)
   (try clear hb2)
   (try clear hk)
   (try clear hi)
   (try clear ho0)
   refine hK.out _ _ ⟨(blk_cell BK368.out 0).trans rfl, (blk_cell BK368.out 1).trans rfl, (blk_cell BK368.out 2).trans rfl, (blk_cell BK368.out 3).trans rfl, (blk_cell BK368.out 4).trans rfl⟩ (fun hHeld => ?_)
   clear hK K
   refine norm_ (a' := ?_) ?_ ?_
   rotate_left
   ·show Act.put _ (some 16) _ = _
    simp only [Act.put, List.setIfInBounds_toArray, List.set_cons_zero, List.set_cons_succ, i64_w, i32_w]
    rfl
   refine one_ (i := 5) (N := some 19) #[true, true, true, true, true, true, true, true, false, true, true, false, false, false, false] rfl rfl (one_of HT_.out (by kernel_rfl)) (by decide) (fun K hK => ?_)
   refine goes_ Try.func86 (by kernel_rfl) rfl #[.int .i64 a0_2] (by rfl) rfl rfl Gv.lm ?_
   with_reducible refine (impl_Put32.calls k a0_2 t376 _ A12.out).mono ?_
   rintro e w22 ⟨v377, rfl, ho0, hb⟩
   refine ⟨_, rfl, ?_⟩
   have n0_ := Gv.a0 (Kd.R_elder' (Gv.kr HO375.out) (Kd.R_base ho0) hb)
   have n1_ := Gv.a0 (Kd.R_lower (Kd.R_new' ho0 (Kd.R_lt (Gv.kr HO375.out))) (below_size Gv.bw))
   have n2_ := Gv.a0 (Gv.bb BK368.out hb)
   have n3_ := Gv.a0 (below_step Gv.bw hb)
   clear HO375
   clear BK368
   clear HB
   have HO375 := n0_
   have HO378 := n1_
   have BK368 := n2_
   have HB := n3_
   clear n0_ n1_ n2_ n3_
   (try clear hb)
   (try clear hb2)
   (try clear hk)
   (try clear hi)
   (try clear ho0)
   refine hK.out _ _ ⟨(blk_cell BK368.out 0).trans rfl, (blk_cell BK368.out 1).trans rfl, (blk_cell BK368.out 2).trans rfl, (blk_cell BK368.out 3).trans rfl, (blk_cell BK368.out 4).trans rfl⟩ (fun hHeld => ?_)
   clear hK K
   refine norm_ (a' := ?_) ?_ ?_
   rotate_left
   ·show Act.put _ (some 19) _ = _
    simp only [Act.put, List.setIfInBounds_toArray, List.set_cons_zero, List.set_cons_succ, i64_w, i32_w]
    rfl
   refine one_ (i := 8) (N := some 22) #[true, true, true, true, true, true, true, true, true, true, true, false, false, false, false] rfl rfl (one_of HT_.out (by kernel_rfl)) (by decide) (fun K hK => ?_)
   refine goes_ Try.func86 (by kernel_rfl) rfl #[.int .i64 a0_3] (by rfl) rfl rfl Gv.lm ?_
   with_reducible refine (impl_Put32.calls k a0_3 t379 _ A13.out).mono ?_
   rintro e w23 ⟨v380, rfl, ho0, hb⟩
   refine ⟨_, rfl, ?_⟩
   have n0_ := Gv.a0 (Kd.R_elder' (Gv.kr HO375.out) (Kd.R_base ho0) hb)
   have n1_ := Gv.a0 (Kd.R_elder' (Gv.kr HO378.out) (Kd.R_base ho0) hb)
   have n2_ := Gv.a0 (Kd.R_lower (Kd.R_new' (Kd.R_new' ho0 (Kd.R_lt (Gv.kr HO375.out))) (Kd.R_lt (Gv.kr HO378.out))) (below_size Gv.bw))
   have n3_ := Gv.a0 (Gv.bb BK368.out hb)
   have n4_ := Gv.a0 (below_step Gv.bw hb)
   clear HO375
   clear HO378
   clear BK368
   clear HB
   have HO375 := n0_
   have HO378 := n1_
   have HO381 := n2_
   have BK368 := n3_
   have HB := n4_
   clear n0_ n1_ n2_ n3_ n4_
   (try clear hb)
   (try clear hb2)
   (try clear hk)
   (try clear hi)
   (try clear ho0)
   refine hK.out _ _ ⟨(blk_cell BK368.out 0).trans rfl, (blk_cell BK368.out 1).trans rfl, (blk_cell BK368.out 2).trans rfl, (blk_cell BK368.out 3).trans rfl, (blk_cell BK368.out 4).trans rfl⟩ (fun hHeld => ?_)
   clear hK K
   refine norm_ (a' := ?_) ?_ ?_
   rotate_left
   ·show Act.put _ (some 22) _ = _
    simp only [Act.put, List.setIfInBounds_toArray, List.set_cons_zero, List.set_cons_succ, i64_w, i32_w]
    rfl
   refine one_ (i := 11) (N := some 25) #[true, true, true, true, true, true, true, true, true, true, true, true, false, false, false] rfl rfl (one_of HT_.out (by kernel_rfl)) (by decide) (fun K hK => ?_)
   refine goes_ Try.func86 (by kernel_rfl) rfl #[.int .i64 a0_4] (by rfl) rfl rfl Gv.lm ?_
   with_reducible refine (impl_Put32.calls k a0_4 t382 _ A14.out).mono ?_
   rintro e w24 ⟨v383, rfl, ho0, hb⟩
   refine ⟨_, rfl, ?_⟩
   have n0_ := Gv.a0 (Kd.R_elder' (Gv.kr HO375.out) (Kd.R_base ho0) hb)
   have n1_ := Gv.a0 (Kd.R_elder' (Gv.kr HO378.out) (Kd.R_base ho0) hb)
   have n2_ := Gv.a0 (Kd.R_elder' (Gv.kr HO381.out) (Kd.R_base ho0) hb)
   have n3_ := Gv.a0 (Kd.R_lower (Kd.R_new' (Kd.R_new' (Kd.R_new' ho0 (Kd.R_lt (Gv.kr HO375.out))) (Kd.R_lt (Gv.kr HO378.out))) (Kd.R_lt (Gv.kr HO381.out))) (below_size Gv.bw))
   have n4_ := Gv.a0 (Gv.bb BK368.out hb)
   have n5_ := Gv.a0 (below_step Gv.bw hb)
   clear HO375
   clear HO378
   clear HO381
   clear BK368
   clear HB
   have HO375 := n0_
   have HO378 := n1_
   have HO381 := n2_
   have HO384 := n3_
   have BK368 := n4_
   have HB := n5_
   clear n0_ n1_ n2_ n3_ n4_ n5_
   (try clear hb)
   (try clear hb2)
   (try clear hk)
   (try clear hi)
   (try clear ho0)
   obtain ⟨Ao25, co25, eo25⟩ := Kd.R_slice HO375.out
   (first | subst eo25 | (injection eo25 with f1_ f2_ f3_; have f4_ := f1_.symm; have f5_ := f3_.symm; clear f1_ f2_ f3_; subst f4_; subst f5_))
   obtain ⟨Ao26, co26, eo26⟩ := Kd.R_slice HO378.out
   (first | subst eo26 | (injection eo26 with f1_ f2_ f3_; have f4_ := f1_.symm; have f5_ := f3_.symm; clear f1_ f2_ f3_; subst f4_; subst f5_))
   obtain ⟨Ao27, co27, eo27⟩ := Kd.R_slice HO381.out
   (first | subst eo27 | (injection eo27 with f1_ f2_ f3_; have f4_ := f1_.symm; have f5_ := f3_.symm; clear f1_ f2_ f3_; subst f4_; subst f5_))
   obtain ⟨Ao28, co28, eo28⟩ := Kd.R_slice HO384.out
   (first | subst eo28 | (injection eo28 with f1_ f2_ f3_; have f4_ := f1_.symm; have f5_ := f3_.symm; clear f1_ f2_ f3_; subst f4_; subst f5_))
   refine hK.out _ _ ⟨(blk_cell BK368.out 0).trans rfl, (blk_cell BK368.out 1).trans rfl, (blk_cell BK368.out 2).trans rfl, (blk_cell BK368.out 3).trans rfl, (blk_cell BK368.out 4).trans rfl⟩ (fun hHeld => ?_)
   clear hK K
   refine norm_ (a' := ?_) ?_ ?_
   rotate_left
   ·show Act.put _ (some 25) _ = _
    simp only [Act.put, List.setIfInBounds_toArray, List.set_cons_zero, List.set_cons_succ, i64_w, i32_w]
    rfl
   refine one_ (i := 12) (N := some 26) #[true, true, true, true, true, true, true, true, true, true, true, true, true, false, false] rfl rfl (one_of HT_.out (by kernel_rfl)) (by decide) (fun K hK => ?_)
   refine Kd.N_lit_step (Kd.slice 5 (Kd.int .u8)) _ 68 ?hg (N' := 26) ?hd (xs := ([t373, t376, t379, t382] : List (List Int))) (inner := [.slice Ao25 t373.length co25, .slice Ao26 t376.length co26, .slice Ao27 t379.length co27, .slice Ao28 t382.length co28]) (ok := (fun k_ => k_ ≠ gb368)) (okp := (fun k_ => k_ ≠ gb368)) ?hr ?hp (fun _ hk => hk) ((show ∀ k_, w24.heap.size ≤ k_ → (fun k_ => k_ ≠ gb368) k_ from fun k_ hk => Kd.freshB (g := gb368) (o := .cells #[.int .i64 a0_0, .int .i64 a0_1, .int .i64 a0_2, .int .i64 a0_3, .int .i64 a0_4] 29 (0, 0)) Gv.bk k_ hk) _ (Nat.le_refl _)) (Below.refl _ _) (Nat.le_refl _) (by simp) ?_; (case hd => rfl); (case hg => rfl); (case hr => first | (go_simp; done) | (go_simp; rfl)); (case hp => exact (Reps.one (show Kd.FK (Kd.slice 5 (Kd.int .u8)) _ _ t373 [.slice Ao25 t373.length co25] from (Kd.FK_slice_mk (Kd.R_reads' (Kd.R_mono (ok' := (fun k_ => k_ ≠ gb368)) (Kd.R_types (HO375.out) BK368.out (by decide)) (fun k_ hk => hk.2))).2.1 (Kd.R_F (Kd.R_mono (ok' := (fun k_ => k_ ≠ gb368)) (Kd.R_types (HO375.out) BK368.out (by decide)) (fun k_ hk => hk.2))))) (Reps.one (show Kd.FK (Kd.slice 5 (Kd.int .u8)) _ _ t376 [.slice Ao26 t376.length co26] from (Kd.FK_slice_mk (Kd.R_reads' (Kd.R_mono (ok' := (fun k_ => k_ ≠ gb368)) (Kd.R_types (HO378.out) BK368.out (by decide)) (fun k_ hk => hk.2))).2.1 (Kd.R_F (Kd.R_mono (ok' := (fun k_ => k_ ≠ gb368)) (Kd.R_types (HO378.out) BK368.out (by decide)) (fun k_ hk => hk.2))))) (Reps.one (show Kd.FK (Kd.slice 5 (Kd.int .u8)) _ _ t379 [.slice Ao27 t379.length co27] from (Kd.FK_slice_mk (Kd.R_reads' (Kd.R_mono (ok' := (fun k_ => k_ ≠ gb368)) (Kd.R_types (HO381.out) BK368.out (by decide)) (fun k_ hk => hk.2))).2.1 (Kd.R_F (Kd.R_mono (ok' := (fun k_ => k_ ≠ gb368)) (Kd.R_types (HO381.out) BK368.out (by decide)) (fun k_ hk => hk.2))))) (Reps.one (show Kd.FK (Kd.slice 5 (Kd.int .u8)) _ _ t382 [.slice Ao28 t382.length co28] from (Kd.FK_slice_mk (Kd.R_reads' (Kd.R_mono (ok' := (fun k_ => k_ ≠ gb368)) (Kd.R_types (HO384.out) BK368.out (by decide)) (fun k_ hk => hk.2))).2.1 (Kd.R_F (Kd.R_mono (ok' := (fun k_ => k_ ≠ gb368)) (Kd.R_types (HO384.out) BK368.out (by decide)) (fun k_ hk => hk.2))))) (Reps.none _ _))))))
   intro v386 w29 ho30 hb hg_ hnew_
   clear hg_ hnew_
   (first | rw [← Ny385.out] at ho30 | (simp only [Int.reduceToNat] at ho30; rw [← Ny385.out] at ho30))
   have n0_ := Gv.a0 (Kd.N_lower ho30 (below_size Gv.bw))
   have n1_ := Gv.a0 (Gv.bb BK368.out hb)
   have n2_ := Gv.a0 (below_step Gv.bw hb)
   clear BK368
   clear HB
   clear HO375
   clear HO378
   clear HO381
   clear HO384
   have HO387 := n0_
   have BK368 := n1_
   have HB := n2_
   clear n0_ n1_ n2_
   clear hb ho30
   obtain ⟨Ao31, co31, eo31⟩ := Kd.N_slice HO387.out
   (first | subst eo31 | (injection eo31 with f1_ f2_ f3_; have f4_ := f1_.symm; have f5_ := f3_.symm; clear f1_ f2_ f3_; subst f4_; subst f5_))
   refine hK.out _ _ ⟨(blk_cell BK368.out 0).trans rfl, (blk_cell BK368.out 1).trans rfl, (blk_cell BK368.out 2).trans rfl, (blk_cell BK368.out 3).trans rfl, (blk_cell BK368.out 4).trans rfl⟩ (fun hHeld => ?_)
   clear hK K
   refine norm_ (a' := ?_) ?_ ?_
   rotate_left
   ·show Act.put _ (some 26) _ = _
    simp only [Act.put, List.setIfInBounds_toArray, List.set_cons_zero, List.set_cons_succ, i64_w, i32_w]
    rfl
   refine one_ (i := 13) (N := some 27) #[true, true, true, true, true, true, true, true, true, true, true, true, true, true, false] rfl rfl (one_of HT_.out (by kernel_rfl)) (by decide) (fun K hK => ?_)
   refine goes_ Try.func73 (by kernel_rfl) rfl #[.slice Ao31 y385.length co31] (by rfl) rfl rfl Gv.lm ?_
   with_reducible refine (slices_Concat_byte_byte.calls k _ _ y385 t388 _ ?side1 ?side2 A15.out).mono ?_
   (case side1 => repeat (first | exact (Kd.N_reads' HO387.out).2.2 | (with_reducible refine Kd.C_alloc ?_ _) | (with_reducible refine Kd.C_drewN ?_ _) | (with_reducible refine Kd.C_drew ?_)))
   (case side2 => exact (Kd.N_reads' HO387.out).2.1)
   rintro e w32 ⟨v389, rfl, ho0, hb⟩
   refine ⟨_, rfl, ?_⟩
   have n0_ := Gv.a0 (Kd.N_elder' (by (with_reducible repeat (first | apply Kd.N_alloc | apply Kd.N_drewN | apply Kd.N_drew)); exact HO387.out) (Kd.R_base ho0) hb)
   have n1_ := Gv.a0 (Kd.R_lower ho0 (below_size Gv.bw))
   have n2_ := Gv.a0 (Gv.bb BK368.out hb)
   have n3_ := Gv.a0 (below_step Gv.bw hb)
   clear HO387
   clear BK368
   clear HB
   have HO387 := n0_
   have HO390 := n1_
   have BK368 := n2_
   have HB := n3_
   clear n0_ n1_ n2_ n3_
   (try clear hb)
   (try clear hb2)
   (try clear hk)
   (try clear hi)
   (try clear ho0)
   refine hK.out _ _ ⟨(blk_cell BK368.out 0).trans rfl, (blk_cell BK368.out 1).trans rfl, (blk_cell BK368.out 2).trans rfl, (blk_cell BK368.out 3).trans rfl, (blk_cell BK368.out 4).trans rfl⟩ (fun hHeld => ?_)
   clear hK K
   refine norm_ (a' := ?_) ?_ ?_
   rotate_left
   ·show Act.put _ (some 27) _ = _
    simp only [Act.put, List.setIfInBounds_toArray, List.set_cons_zero, List.set_cons_succ, i64_w, i32_w]
    rfl
   refine Gv.pu 14 (some 2) HT_ ?_
   refine done_ (done_of HT_.out (by kernel_rfl)) ?_
   try go_wp2
   go_ret
   exact ⟨_, Gv.rt, Gv.kr HO390.out, Gv.bw⟩
 ·replace c3 := Bool.eq_false_iff.mpr c3
  subst c3
  have H1 : (some ([] : List Int)) = some r := by rw [if_neg (show ¬ (false = true) by decide)] at H; exact H
  clear H
  have H := H1
  clear H1
  obtain rfl := Option.some.inj H
  go_enter Try.func74, Try.ntmps74
  go_wp2_with (first | ((with_reducible refine gate_dst (N := 1) rfl ?_); refine box_event ?hg (N := 1) ?hd (cs := #[.int .i64 a0_0, .int .i64 a0_1, .int .i64 a0_2, .int .i64 a0_3, .int .i64 a0_4]) (t := 29) ?hr ?_; (case hd => rfl); (case hg => rfl); (case hr => first | (go_simp; done) | (go_simp; rfl)); intro gb368 hg w33 hbox hb; have n0_ := Gv.a0 (below_step Gv.bw hb); have n1_ := Gv.a0 (hbox); have n2_ := Gv.a0 ((Gv.ble hg Gv.bw : w.heap.size ≤ gb368)); have n3_ := Gv.a0 ((Gv.ble hg Gv.bw : w.heap.size ≤ gb368)); clear HB; have HB := n0_; have BK368 := n1_; have GW368 := n2_; have GE368 := n3_; clear n0_ n1_ n2_ n3_; clear hb hbox hg; obtain ⟨hcz34_0, hcz34_1, hcz34_2, hcz34_3, hcz34_4⟩ := Gv.c5 BK368.out; obtain ⟨hfz34_0, hfz34_1, hfz34_2, hfz34_3, hfz34_4⟩ := Gv.f5 BK368.out) | ((with_reducible refine gate_callee (f := 81) rfl ?_); refine goesL_ (some 5) rfl rfl Try.func81 (by kernel_rfl) rfl #[.agg #[.int .i64 a0_0, .int .i64 a0_1, .int .i64 a0_2, .int .i64 a0_3, .int .i64 a0_4]] rfl Gv.lm ?_; (with_reducible refine (impl_AddrOk.calls a0_0 a0_1 a0_2 a0_3 a0_4 false _ A2.out).mono ?_); rintro e w35 ⟨rfl, hb⟩; refine ⟨_, rfl, ?_⟩; have n0_ := Gv.a0 (Gv.bb BK368.out hb); have n1_ := Gv.a0 (below_step Gv.bw hb); clear BK368; clear HB; have BK368 := n0_; have HB := n1_; clear n0_ n1_; (try clear hb); (try clear hb2); (try clear hk); (try clear hi)))
  go_ret
  exact ⟨_, Gv.rt, by first | exact Kd.R_nil _ _ _ _ _ | exact Kd.N_nil _ _ _ _ _ | exact Kd.V_nil _ _ _ _ _ | exact Kd.Q_nil _ _ _ _ _ | exact Kd.S_nil _ _ _ _ _, Gv.bw⟩

/-! ### impl_Put16: function 75 -/
def impl_Put16.f (k : Nat) (a0 : Int) : Option (List Int) := (impl_put.f k a0 2).bind fun t391 => (some t391)
theorem impl_Put16.mono : ∀ a0 k, LeO (impl_Put16.f k a0) (impl_Put16.f (k + 1) a0) := by
 intro a0 k
 unfold impl_Put16.f
 repeat' first
   | (with_reducible exact impl_put.mono _ _ _)
   | (with_reducible exact LeO.refl _)
   | (with_reducible exact LeO.none _)
   | (with_reducible refine LeO.ite ?_ ?_)
   | (with_reducible refine LeO.bind ?_ (fun _ => ?_))
   | exact impl_put.mono _ _ _
   | exact LeO.none _
   | refine LeO.ite ?_ ?_
   | refine LeO.bind ?_ (fun _ => ?_)
set_option maxHeartbeats 8000000 in
set_option maxRecDepth 100000 in
theorem impl_Put16.calls (k : Nat) (a0 : Int) (r : List Int) (w : World) (h : impl_Put16.f k a0 = some r) :
  Calls Try.prog 75 #[.int .i64 a0] w fun e w' => ∃ v0_ : Value, e = .returned (v0_) ∧ Kd.R (Kd.int .u8) 5 w' w.heap.size (fun _ => True) v0_ r ∧ Below w.heap.size w w' := by
 have HB := Gv.a0 (Below.refl w.heap.size w)
 have H : ((impl_put.f k a0 2).bind fun t391 => (some t391)) = some r := h
 clear h
 replace H := Option.bind_eq_some_iff.mp H
 obtain ⟨t391, A20, H⟩ := H
 replace H : (some t391) = some r := H
 have A2 := Gv.a0 A20
 clear A20
 obtain rfl := Option.some.inj H
 go_enter Try.func75, Try.ntmps75
 go_wp2_with (first | ((with_reducible refine gate_callee (f := 87) rfl ?_); refine goesL_ (some 4) rfl rfl Try.func87 (by kernel_rfl) rfl #[.int .i64 a0, .int .i64 2] rfl Gv.lm ?_; (with_reducible refine (impl_put.calls k a0 2 t391 _ A2.out).mono ?_); rintro e w3 ⟨v392, rfl, ho0, hb⟩; refine ⟨_, rfl, ?_⟩; have n0_ := Gv.a0 (Kd.R_lower ho0 (below_size Gv.bw)); have n1_ := Gv.a0 (below_step Gv.bw hb); clear HB; have HO393 := n0_; have HB := n1_; clear n0_ n1_; (try clear hb); (try clear hb2); (try clear hk); (try clear hi); (try clear ho0)))
 go_ret
 exact ⟨_, Gv.rt, Gv.kr HO393.out, Gv.bw⟩

/-! ### impl_hashOf: function 47 -/
def impl_hashOf.l0 : Nat → Int → List Int → Int → Int → Option (Int)
 | 0, _, _, _, _ => none
 | k + 1, x6, x42, x43, x44 => if x44 < x43 then (if 0 ≤ x44 then (if x44 < (x42.length : Int) then (impl_hashOf.l0 k (Int.tmod (wrap64 ((Go.bits .xor .i64 x6 (wrap64 (rd x42 x44))) * 16777619)) 4294967296) x42 x43 (wrap64 (x44 + 1))) else (none)) else (none)) else (some (Go.bits .xor .i64 x6 (wrap64 (Int.tdiv x6 65536))))
def impl_hashOf.f (k : Nat) (a0 : Int) (a1_0 : Int) (a1_1 : Int) (a1_2 : Int) (a1_3 : Int) (a1_4 : Int) (a1_5 : Int) (a1_6 : Int) (a1_7 : Int) (a1_8 : Int) (a1_9 : Int) (a1_10 : Int) (a1_11 : Int) (a1_12 : Int) (a1_13 : Int) : Option (Int) := (impl_AddrBytes.f k a1_1 a1_2 a1_3 a1_4 a1_5).bind fun t398 => ((impl_AddrBytes.f k a1_6 a1_7 a1_8 a1_9 a1_10).bind fun t401 => ((impl_Put16.f k a1_12).bind fun t407 => ((impl_Put16.f k a1_13).bind fun t410 => ((slices_Concat_byte_byte.f k (([(([(a1_0) % 256, (a1_1) % 256] : List Int)), t398, t401, (([(a1_11) % 256] : List Int)), t407, t410] : List (List Int)))).bind fun t416 => (impl_hashOf.l0 k a0 t416 (t416.length : Int) 0)))))
theorem impl_hashOf.mono_l : ∀ k, (∀ y0 y1 y2 y3, LeO (impl_hashOf.l0 k y0 y1 y2 y3) (impl_hashOf.l0 (k + 1) y0 y1 y2 y3))
 | 0 => fun _ _ _ _ r h => by simp [impl_hashOf.l0] at h
 | k + 1 => by
  have ih0 := impl_hashOf.mono_l k
  ·intro y0 y1 y2 y3
   unfold impl_hashOf.l0
   repeat' first
   | (with_reducible exact ih0 _ _ _ _)
   | (with_reducible exact impl_AddrBytes.mono _ _ _ _ _ _)
   | (with_reducible exact impl_Put16.mono _ _)
   | (with_reducible exact slices_Concat_byte_byte.mono _ _)
   | (with_reducible exact LeO.refl _)
   | (with_reducible exact LeO.none _)
   | (with_reducible refine LeO.ite ?_ ?_)
   | (with_reducible refine LeO.bind ?_ (fun _ => ?_))
   | exact ih0 _ _ _ _
   | exact impl_AddrBytes.mono _ _ _ _ _ _
   | exact impl_Put16.mono _ _
   | exact slices_Concat_byte_byte.mono _ _
   | exact LeO.none _
   | refine LeO.ite ?_ ?_
   | refine LeO.bind ?_ (fun _ => ?_)
theorem impl_hashOf.mono : ∀ a0 a1 a2 a3 a4 a5 a6 a7 a8 a9 a10 a11 a12 a13 a14 k, LeO (impl_hashOf.f k a0 a1 a2 a3 a4 a5 a6 a7 a8 a9 a10 a11 a12 a13 a14) (impl_hashOf.f (k + 1) a0 a1 a2 a3 a4 a5 a6 a7 a8 a9 a10 a11 a12 a13 a14) := by
 intro a0 a1 a2 a3 a4 a5 a6 a7 a8 a9 a10 a11 a12 a13 a14 k
 have ih0 := impl_hashOf.mono_l k
 unfold impl_hashOf.f
 repeat' first
   | (with_reducible exact ih0 _ _ _ _)
   | (with_reducible exact impl_AddrBytes.mono _ _ _ _ _ _)
   | (with_reducible exact impl_Put16.mono _ _)
   | (with_reducible exact slices_Concat_byte_byte.mono _ _)
   | (with_reducible exact LeO.refl _)
   | (with_reducible exact LeO.none _)
   | (with_reducible refine LeO.ite ?_ ?_)
   | (with_reducible refine LeO.bind ?_ (fun _ => ?_))
   | exact ih0 _ _ _ _
   | exact impl_AddrBytes.mono _ _ _ _ _ _
   | exact impl_Put16.mono _ _
   | exact slices_Concat_byte_byte.mono _ _
   | exact LeO.none _
   | refine LeO.ite ?_ ?_
   | refine LeO.bind ?_ (fun _ => ?_)
def impl_hashOf.T1 : Bool × List (List Nat × List Nat) := (true, [([], []), ([0], [0]), ([1], [1]), ([], []), ([3], [3]), ([4], [4]), ([5], [5]), ([6], [6]), ([2, 7], [2, 7]), ([], []), ([9], [9]), ([10], [10]), ([11], [11]), ([], []), ([13], [13]), ([14], [14]), ([15, 12], [15]), ([], []), ([17], [17]), ([18], [18]), ([19], [19]), ([20], [20]), ([], []), ([22], [22]), ([23], [23]), ([24, 16], [24]), ([], []), ([26], [26]), ([27], [27]), ([28, 25], [28]), ([8, 12, 16, 21, 25, 29], [8, 12, 16, 21, 25, 29]), ([30, 29], [30]), ([31, 31, 0, 1, 2, 3, 4, 5, 6, 7, 8, 9, 10, 11, 12, 13, 14, 15, 16, 17, 18, 19, 20, 21, 22, 23, 24, 25, 26, 27, 28, 29, 30, 31], [31])])
def impl_hashOf.B1 : List Nat := [0, 1, 3, 0, 8, 24, 56, 120, 255, 0, 512, 1536, 3584, 0, 8192, 24576, 65024, 0, 131072, 393216, 917504, 1966080, 0, 4194304, 12582912, 29490688, 0, 67108864, 201326592, 532807168, 1073741823, 2147483647, 4294967295]
theorem impl_hashOf.tab1 : rtab .any (opsOf Try.f47 1) = impl_hashOf.T1 := by kernel_rfl
theorem impl_hashOf.bits1 : waitsOk impl_hashOf.T1.2 impl_hashOf.B1 = true := by kernel_rfl
set_option maxHeartbeats 8000000 in
set_option maxRecDepth 100000 in
theorem impl_hashOf.calls (k : Nat) (a0 : Int) (a1_0 : Int) (a1_1 : Int) (a1_2 : Int) (a1_3 : Int) (a1_4 : Int) (a1_5 : Int) (a1_6 : Int) (a1_7 : Int) (a1_8 : Int) (a1_9 : Int) (a1_10 : Int) (a1_11 : Int) (a1_12 : Int) (a1_13 : Int) (r : Int) (w : World) (h : impl_hashOf.f k a0 a1_0 a1_1 a1_2 a1_3 a1_4 a1_5 a1_6 a1_7 a1_8 a1_9 a1_10 a1_11 a1_12 a1_13 = some r) :
  Calls Try.prog 47 #[.int .i64 a0, .agg #[.int .i64 a1_0, .int .i64 a1_1, .int .i64 a1_2, .int .i64 a1_3, .int .i64 a1_4, .int .i64 a1_5, .int .i64 a1_6, .int .i64 a1_7, .int .i64 a1_8, .int .i64 a1_9, .int .i64 a1_10, .int .i64 a1_11, .int .i64 a1_12, .int .i64 a1_13]] w fun e w' => e = .returned (.int .i64 r) ∧ Below w.heap.size w w' := by
 have hu33 := Try.underlying33
 have hu29 := Try.underlying29
 have HB := Gv.a0 (Below.refl w.heap.size w)
 have H : ((impl_AddrBytes.f k a1_1 a1_2 a1_3 a1_4 a1_5).bind fun t398 => ((impl_AddrBytes.f k a1_6 a1_7 a1_8 a1_9 a1_10).bind fun t401 => ((impl_Put16.f k a1_12).bind fun t407 => ((impl_Put16.f k a1_13).bind fun t410 => ((slices_Concat_byte_byte.f k (([(([(a1_0) % 256, (a1_1) % 256] : List Int)), t398, t401, (([(a1_11) % 256] : List Int)), t407, t410] : List (List Int)))).bind fun t416 => (impl_hashOf.l0 k a0 t416 (t416.length : Int) 0)))))) = some r := h
 clear h
 obtain ⟨y395, hy395⟩ : ∃ y_ : List Int, y_ = (([(a1_0) % 256, (a1_1) % 256] : List Int)) := ⟨_, rfl⟩
 replace H : ((impl_AddrBytes.f k a1_1 a1_2 a1_3 a1_4 a1_5).bind fun t398 => ((impl_AddrBytes.f k a1_6 a1_7 a1_8 a1_9 a1_10).bind fun t401 => ((impl_Put16.f k a1_12).bind fun t407 => ((impl_Put16.f k a1_13).bind fun t410 => ((slices_Concat_byte_byte.f k (([y395, t398, t401, (([(a1_11) % 256] : List Int)), t407, t410] : List (List Int)))).bind fun t416 => (impl_hashOf.l0 k a0 t416 (t416.length : Int) 0)))))) = some r := by first | (rw [hy395]; with_reducible exact H) | (have H2_ := (Option.bind_some _ _).symm.trans H; rw [hy395]; with_reducible exact H2_) | (have H2_ := (Option.bind_some _ _).symm.trans H; with_reducible exact H2_) | with_reducible exact H | (rw [hy395]; exact H) | exact H
 have Ny395 := Gv.a0 hy395
 clear hy395
 replace H := Option.bind_eq_some_iff.mp H
 obtain ⟨t398, A30, H⟩ := H
 replace H : ((impl_AddrBytes.f k a1_6 a1_7 a1_8 a1_9 a1_10).bind fun t401 => ((impl_Put16.f k a1_12).bind fun t407 => ((impl_Put16.f k a1_13).bind fun t410 => ((slices_Concat_byte_byte.f k (([y395, t398, t401, (([(a1_11) % 256] : List Int)), t407, t410] : List (List Int)))).bind fun t416 => (impl_hashOf.l0 k a0 t416 (t416.length : Int) 0))))) = some r := H
 have A3 := Gv.a0 A30
 clear A30
 replace H := Option.bind_eq_some_iff.mp H
 obtain ⟨t401, A40, H⟩ := H
 replace H : ((impl_Put16.f k a1_12).bind fun t407 => ((impl_Put16.f k a1_13).bind fun t410 => ((slices_Concat_byte_byte.f k (([y395, t398, t401, (([(a1_11) % 256] : List Int)), t407, t410] : List (List Int)))).bind fun t416 => (impl_hashOf.l0 k a0 t416 (t416.length : Int) 0)))) = some r := H
 have A4 := Gv.a0 A40
 clear A40
 obtain ⟨y404, hy404⟩ : ∃ y_ : List Int, y_ = (([(a1_11) % 256] : List Int)) := ⟨_, rfl⟩
 replace H : ((impl_Put16.f k a1_12).bind fun t407 => ((impl_Put16.f k a1_13).bind fun t410 => ((slices_Concat_byte_byte.f k (([y395, t398, t401, y404, t407, t410] : List (List Int)))).bind fun t416 => (impl_hashOf.l0 k a0 t416 (t416.length : Int) 0)))) = some r := by first | (rw [hy404]; with_reducible exact H) | (have H2_ := (Option.bind_some _ _).symm.trans H; rw [hy404]; with_reducible exact H2_) | (have H2_ := (Option.bind_some _ _).symm.trans H; with_reducible exact H2_) | with_reducible exact H | (rw [hy404]; exact H) | exact H
 have Ny404 := Gv.a0 hy404
 clear hy404
 replace H := Option.bind_eq_some_iff.mp H
 obtain ⟨t407, A50, H⟩ := H
 replace H : ((impl_Put16.f k a1_13).bind fun t410 => ((slices_Concat_byte_byte.f k (([y395, t398, t401, y404, t407, t410] : List (List Int)))).bind fun t416 => (impl_hashOf.l0 k a0 t416 (t416.length : Int) 0))) = some r := H
 have A5 := Gv.a0 A50
 clear A50
 replace H := Option.bind_eq_some_iff.mp H
 obtain ⟨t410, A60, H⟩ := H
 replace H : ((slices_Concat_byte_byte.f k (([y395, t398, t401, y404, t407, t410] : List (List Int)))).bind fun t416 => (impl_hashOf.l0 k a0 t416 (t416.length : Int) 0)) = some r := H
 have A6 := Gv.a0 A60
 clear A60
 obtain ⟨y413, hy413⟩ : ∃ y_ : List (List Int), y_ = (([y395, t398, t401, y404, t407, t410] : List (List Int))) := ⟨_, rfl⟩
 replace H : ((slices_Concat_byte_byte.f k y413).bind fun t416 => (impl_hashOf.l0 k a0 t416 (t416.length : Int) 0)) = some r := by first | (rw [hy413]; with_reducible exact H) | (have H2_ := (Option.bind_some _ _).symm.trans H; rw [hy413]; with_reducible exact H2_) | (have H2_ := (Option.bind_some _ _).symm.trans H; with_reducible exact H2_) | with_reducible exact H | (rw [hy413]; exact H) | exact H
 have Ny413 := Gv.a0 hy413
 clear hy413
 replace H := Option.bind_eq_some_iff.mp H
 obtain ⟨t416, A70, H⟩ := H
 replace H : (impl_hashOf.l0 k a0 t416 (t416.length : Int) 0) = some r := H
 have A7 := Gv.a0 A70
 clear A70
 have H' := Gv.a0 H
 clear H
 go_enter Try.func47, Try.ntmps47
 try go_wp2_with (first | ((with_reducible refine gate_dst (N := 3) rfl ?_); refine box_event ?hg (N := 3) ?hd (cs := #[.int .i64 a1_0, .int .i64 a1_1, .int .i64 a1_2, .int .i64 a1_3, .int .i64 a1_4, .int .i64 a1_5, .int .i64 a1_6, .int .i64 a1_7, .int .i64 a1_8, .int .i64 a1_9, .int .i64 a1_10, .int .i64 a1_11, .int .i64 a1_12, .int .i64 a1_13]) (t := 33) ?hr ?_; (case hd => rfl); (case hg => rfl); (case hr => first | (go_simp; done) | (go_simp; rfl)); intro gb394 hg w8 hbox hb; have n0_ := Gv.a0 (below_step Gv.bw hb); have n1_ := Gv.a0 (hbox); have n2_ := Gv.a0 ((Gv.ble hg Gv.bw : w.heap.size ≤ gb394)); have n3_ := Gv.a0 ((Gv.ble hg Gv.bw : w.heap.size ≤ gb394)); clear HB; have HB := n0_; have BK394 := n1_; have GW394 := n2_; have GE394 := n3_; clear n0_ n1_ n2_ n3_; clear hb hbox hg))
 have n0_ := Gv.a0 (blk_drew BK394.out)
 have n1_ := Gv.a0 (below_drew1 HB.out)
 clear BK394
 clear HB
 have BK394 := n0_
 have HB := n1_
 clear n0_ n1_
 refine start_ (n := 33) (S := fun w' => True) (ds := []) #[false, false, false, false, false, false, false, false, false, false, false, false, false, false, false, false, false, false, false, false, false, false, false, false, false, false, false, false, false, false, false, false, false] (by kernel_rfl) rfl rfl trivial (fun hHeld => ?_); refine with_tabW impl_hashOf.tab1 impl_hashOf.bits1 (fun HT_ HW_ => ?_)
 generalize w8.drew = w9 at BK394 HB hHeld ⊢
 refine Gv.pu 0 (some 9) HT_ ?_
 refine Gv.pu 3 (some 12) HT_ ?_
 refine Gv.pu 4 (some 13) HT_ ?_
 refine Gv.pu 5 (some 14) HT_ ?_
 refine Gv.pu 9 (some 18) HT_ ?_
 refine Gv.pu 10 (some 19) HT_ ?_
 refine Gv.pu 13 (some 22) HT_ ?_
 refine Gv.pu 14 (some 23) HT_ ?_
 refine Gv.pu 17 (some 26) HT_ ?_
 refine Gv.pu 18 (some 27) HT_ ?_
 refine Gv.pu 22 (some 31) HT_ ?_
 refine Gv.pu 23 (some 32) HT_ ?_
 refine Gv.pu 26 (some 35) HT_ ?_
 refine Gv.pu 27 (some 36) HT_ ?_
 refine inv_at [1, 2, 6, 7, 8, 11, 12, 15, 16, 19, 20, 21, 24, 25, 28, 29, 30, 31, 32] (fun a0_ b a w' => ∃ (v396 : Value) (v399 : Value) (v402 : Value) (v405 : Value) (v408 : Value) (v411 : Value) (v414 : Value) (v417 : Value) (m32_ : Value), a = putSel a0_ b [(1, 10, .int .i64 a1_0), (2, 11, .int .u8 ((a1_0) % 256)), (6, 15, .int .i64 a1_1), (7, 16, .int .u8 ((a1_1) % 256)), (8, 17, v396), (11, 20, .agg #[.int .i64 a1_1, .int .i64 a1_2, .int .i64 a1_3, .int .i64 a1_4, .int .i64 a1_5]), (12, 21, v399), (15, 24, .agg #[.int .i64 a1_6, .int .i64 a1_7, .int .i64 a1_8, .int .i64 a1_9, .int .i64 a1_10]), (16, 25, v402), (19, 28, .int .i64 a1_11), (20, 29, .int .u8 ((a1_11) % 256)), (21, 30, v405), (24, 33, .int .i64 a1_12), (25, 34, v408), (28, 37, .int .i64 a1_13), (29, 38, v411), (30, 39, v414), (31, 40, v417), (32, 5, m32_)] ∧ (w'.heap[gb394]? = some (.cells #[.int .i64 a1_0, .int .i64 a1_1, .int .i64 a1_2, .int .i64 a1_3, .int .i64 a1_4, .int .i64 a1_5, .int .i64 a1_6, .int .i64 a1_7, .int .i64 a1_8, .int .i64 a1_9, .int .i64 a1_10, .int .i64 a1_11, .int .i64 a1_12, .int .i64 a1_13] 33 (0, 0))) ∧ (Below w.heap.size w w') ∧ (b 8 = true → b 30 = false → Kd.R (Kd.int .u8) 5 w' w.heap.size (fun _ => True) v396 y395) ∧ (b 12 = true → b 30 = false → Kd.R (Kd.int .u8) 5 w' w.heap.size (fun _ => True) v399 t398) ∧ (b 16 = true → b 30 = false → Kd.R (Kd.int .u8) 5 w' w.heap.size (fun _ => True) v402 t401) ∧ (b 21 = true → b 30 = false → Kd.R (Kd.int .u8) 5 w' w.heap.size (fun _ => True) v405 y404) ∧ (b 25 = true → b 30 = false → Kd.R (Kd.int .u8) 5 w' w.heap.size (fun _ => True) v408 t407) ∧ (b 29 = true → b 30 = false → Kd.R (Kd.int .u8) 5 w' w.heap.size (fun _ => True) v411 t410) ∧ (b 30 = true → Kd.N (Kd.slice 5 (Kd.int .u8)) 68 w' w.heap.size (fun k_ => k_ ≠ gb394) v414 y413) ∧ (b 31 = true → Kd.R (Kd.int .u8) 5 w' w.heap.size (fun _ => True) v417 t416) ∧ (b 32 = true → (m32_ : Value) = v417)) HT_.out HW_.out (by kernel_rfl) (by kernel_rfl) ?_ ?_ ?_
 ·exact ⟨.bool false, .bool false, .bool false, .bool false, .bool false, .bool false, .bool false, .bool false, .bool false, by simp only [putSel, Bool.false_eq_true, if_false], BK394.out, HB.out, fun h_ => absurd h_ (by decide), fun h_ => absurd h_ (by decide), fun h_ => absurd h_ (by decide), fun h_ => absurd h_ (by decide), fun h_ => absurd h_ (by decide), fun h_ => absurd h_ (by decide), fun h_ => absurd h_ (by decide), fun h_ => absurd h_ (by decide), fun h_ => absurd h_ (by decide)⟩
 ·skip
  clear BK394 HB
  refine steps_cons ?_ ?_
  ·rintro b a w' ⟨v396, v399, v402, v405, v408, v411, v414, v417, m32_, ha, Q_BK394, Q_HB, Q_HO397, Q_HO400, Q_HO403, Q_HO406, Q_HO409, Q_HO412, Q_HO415, Q_HO418, Q_X32_⟩ hb_ hon hoff
   refine ⟨_, rfl, fun K hK => ?_⟩
   have e9 : a.tmps[9]? = some (.pointer (some ⟨gb394, 0, none⟩)) := by rw [ha]; exact (putSel_off rfl).trans rfl
   replace ha := Gv.a0 ha
   have BK394 := Gv.a0 Q_BK394
   have HB := Gv.a0 Q_HB
   have hc0_ : w'.cell? ⟨gb394, 0, none⟩ = some (.int .i64 a1_0) := (blk_cell BK394.out 0).trans rfl
   have hc1_ : w'.cell? ⟨gb394, 1, none⟩ = some (.int .i64 a1_1) := (blk_cell BK394.out 1).trans rfl
   have hc2_ : w'.cell? ⟨gb394, 2, none⟩ = some (.int .i64 a1_2) := (blk_cell BK394.out 2).trans rfl
   have hc3_ : w'.cell? ⟨gb394, 3, none⟩ = some (.int .i64 a1_3) := (blk_cell BK394.out 3).trans rfl
   have hc4_ : w'.cell? ⟨gb394, 4, none⟩ = some (.int .i64 a1_4) := (blk_cell BK394.out 4).trans rfl
   have hc5_ : w'.cell? ⟨gb394, 5, none⟩ = some (.int .i64 a1_5) := (blk_cell BK394.out 5).trans rfl
   have hc6_ : w'.cell? ⟨gb394, 6, none⟩ = some (.int .i64 a1_6) := (blk_cell BK394.out 6).trans rfl
   have hc7_ : w'.cell? ⟨gb394, 7, none⟩ = some (.int .i64 a1_7) := (blk_cell BK394.out 7).trans rfl
   have hc8_ : w'.cell? ⟨gb394, 8, none⟩ = some (.int .i64 a1_8) := (blk_cell BK394.out 8).trans rfl
   have hc9_ : w'.cell? ⟨gb394, 9, none⟩ = some (.int .i64 a1_9) := (blk_cell BK394.out 9).trans rfl
   have hc10_ : w'.cell? ⟨gb394, 10, none⟩ = some (.int .i64 a1_10) := (blk_cell BK394.out 10).trans rfl
   have hc11_ : w'.cell? ⟨gb394, 11, none⟩ = some (.int .i64 a1_11) := (blk_cell BK394.out 11).trans rfl
   have hc12_ : w'.cell? ⟨gb394, 12, none⟩ = some (.int .i64 a1_12) := (blk_cell BK394.out 12).trans rfl
   have hc13_ : w'.cell? ⟨gb394, 13, none⟩ = some (.int .i64 a1_13) := (blk_cell BK394.out 13).trans rfl
   refine value_ (w1 := w') (v := .int .i64 a1_0) (by rfl) rfl ?_ ?_
   ·go_simp
    (try simp only [i64_w])
    try rfl
   refine hK.out _ _ ⟨v396, v399, v402, v405, v408, v411, v414, v417, m32_, (by rw [ha.out]; exact putSel_upk 0 hb_ rfl rfl rfl), Q_BK394, Q_HB, fun h0_ _ => absurd ((hoff 8 (by kernel_rfl)).symm.trans h0_) (by decide), Q_HO400, Q_HO403, Q_HO406, Q_HO409, Q_HO412, fun h0_ => absurd ((hoff 30 (by kernel_rfl)).symm.trans h0_) (by decide), fun h0_ => absurd ((hoff 31 (by kernel_rfl)).symm.trans h0_) (by decide), fun h0_ => absurd ((hoff 32 (by kernel_rfl)).symm.trans h0_) (by decide)⟩
  refine steps_cons ?_ ?_
  ·rintro b a w' ⟨v396, v399, v402, v405, v408, v411, v414, v417, m32_, ha, Q_BK394, Q_HB, Q_HO397, Q_HO400, Q_HO403, Q_HO406, Q_HO409, Q_HO412, Q_HO415, Q_HO418, Q_X32_⟩ hb_ hon hoff
   refine ⟨_, rfl, fun K hK => ?_⟩
   have e10 : a.tmps[10]? = some (.int .i64 a1_0) := by rw [ha]; exact putSel_on (e := (1, 10, .int .i64 a1_0)) 0 rfl rfl (hon 1 (by kernel_rfl)) rfl
   replace ha := Gv.a0 ha
   have BK394 := Gv.a0 Q_BK394
   have HB := Gv.a0 Q_HB
   refine value_ (w1 := w') (v := .int .u8 ((a1_0) % 256)) (by rfl) rfl ?_ ?_
   ·go_simp
    (try simp only [i64_w])
    try rfl
   refine hK.out _ _ ⟨v396, v399, v402, v405, v408, v411, v414, v417, m32_, (by rw [ha.out]; exact putSel_upk 1 hb_ rfl rfl rfl), Q_BK394, Q_HB, fun h0_ _ => absurd ((hoff 8 (by kernel_rfl)).symm.trans h0_) (by decide), Q_HO400, Q_HO403, Q_HO406, Q_HO409, Q_HO412, fun h0_ => absurd ((hoff 30 (by kernel_rfl)).symm.trans h0_) (by decide), fun h0_ => absurd ((hoff 31 (by kernel_rfl)).symm.trans h0_) (by decide), fun h0_ => absurd ((hoff 32 (by kernel_rfl)).symm.trans h0_) (by decide)⟩
  refine steps_cons ?_ ?_
  ·rintro b a w' ⟨v396, v399, v402, v405, v408, v411, v414, v417, m32_, ha, Q_BK394, Q_HB, Q_HO397, Q_HO400, Q_HO403, Q_HO406, Q_HO409, Q_HO412, Q_HO415, Q_HO418, Q_X32_⟩ hb_ hon hoff
   refine ⟨_, rfl, fun K hK => ?_⟩
   have e14 : a.tmps[14]? = some (.pointer (some ⟨gb394, 1, none⟩)) := by rw [ha]; exact (putSel_off rfl).trans rfl
   replace ha := Gv.a0 ha
   have BK394 := Gv.a0 Q_BK394
   have HB := Gv.a0 Q_HB
   have hc0_ : w'.cell? ⟨gb394, 0, none⟩ = some (.int .i64 a1_0) := (blk_cell BK394.out 0).trans rfl
   have hc1_ : w'.cell? ⟨gb394, 1, none⟩ = some (.int .i64 a1_1) := (blk_cell BK394.out 1).trans rfl
   have hc2_ : w'.cell? ⟨gb394, 2, none⟩ = some (.int .i64 a1_2) := (blk_cell BK394.out 2).trans rfl
   have hc3_ : w'.cell? ⟨gb394, 3, none⟩ = some (.int .i64 a1_3) := (blk_cell BK394.out 3).trans rfl
   have hc4_ : w'.cell? ⟨gb394, 4, none⟩ = some (.int .i64 a1_4) := (blk_cell BK394.out 4).trans rfl
   have hc5_ : w'.cell? ⟨gb394, 5, none⟩ = some (.int .i64 a1_5) := (blk_cell BK394.out 5).trans rfl
   have hc6_ : w'.cell? ⟨gb394, 6, none⟩ = some (.int .i64 a1_6) := (blk_cell BK394.out 6).trans rfl
   have hc7_ : w'.cell? ⟨gb394, 7, none⟩ = some (.int .i64 a1_7) := (blk_cell BK394.out 7).trans rfl
   have hc8_ : w'.cell? ⟨gb394, 8, none⟩ = some (.int .i64 a1_8) := (blk_cell BK394.out 8).trans rfl
   have hc9_ : w'.cell? ⟨gb394, 9, none⟩ = some (.int .i64 a1_9) := (blk_cell BK394.out 9).trans rfl
   have hc10_ : w'.cell? ⟨gb394, 10, none⟩ = some (.int .i64 a1_10) := (blk_cell BK394.out 10).trans rfl
   have hc11_ : w'.cell? ⟨gb394, 11, none⟩ = some (.int .i64 a1_11) := (blk_cell BK394.out 11).trans rfl
   have hc12_ : w'.cell? ⟨gb394, 12, none⟩ = some (.int .i64 a1_12) := (blk_cell BK394.out 12).trans rfl
   have hc13_ : w'.cell? ⟨gb394, 13, none⟩ = some (.int .i64 a1_13) := (blk_cell BK394.out 13).trans rfl
   refine value_ (w1 := w') (v := .int .i64 a1_1) (by rfl) rfl ?_ ?_
   ·go_simp
    (try simp only [i64_w])
    try rfl
   refine hK.out _ _ ⟨v396, v399, v402, v405, v408, v411, v414, v417, m32_, (by rw [ha.out]; exact putSel_upk 2 hb_ rfl rfl rfl), Q_BK394, Q_HB, fun h0_ _ => absurd ((hoff 8 (by kernel_rfl)).symm.trans h0_) (by decide), Q_HO400, Q_HO403, Q_HO406, Q_HO409, Q_HO412, fun h0_ => absurd ((hoff 30 (by kernel_rfl)).symm.trans h0_) (by decide), fun h0_ => absurd ((hoff 31 (by kernel_rfl)).symm.trans h0_) (by decide), fun h0_ => absurd ((hoff 32 (by kernel_rfl)).symm.trans h0_) (by decide)⟩
  refine steps_cons ?_ ?_
  ·rintro b a w' ⟨v396, v399, v402, v405, v408, v411, v414, v417, m32_, ha, Q_BK394, Q_HB, Q_HO397, Q_HO400, Q_HO403, Q_HO406, Q_HO409, Q_HO412, Q_HO415, Q_HO418, Q_X32_⟩ hb_ hon hoff
   refine ⟨_, rfl, fun K hK => ?_⟩
   have e15 : a.tmps[15]? = some (.int .i64 a1_1) := by rw [ha]; exact putSel_on (e := (6, 15, .int .i64 a1_1)) 2 rfl rfl (hon 6 (by kernel_rfl)) rfl
   replace ha := Gv.a0 ha
   have BK394 := Gv.a0 Q_BK394
   have HB := Gv.a0 Q_HB
   refine value_ (w1 := w') (v := .int .u8 ((a1_1) % 256)) (by rfl) rfl ?_ ?_
   ·go_simp
    (try simp only [i64_w])
    try rfl
   refine hK.out _ _ ⟨v396, v399, v402, v405, v408, v411, v414, v417, m32_, (by rw [ha.out]; exact putSel_upk 3 hb_ rfl rfl rfl), Q_BK394, Q_HB, fun h0_ _ => absurd ((hoff 8 (by kernel_rfl)).symm.trans h0_) (by decide), Q_HO400, Q_HO403, Q_HO406, Q_HO409, Q_HO412, fun h0_ => absurd ((hoff 30 (by kernel_rfl)).symm.trans h0_) (by decide), fun h0_ => absurd ((hoff 31 (by kernel_rfl)).symm.trans h0_) (by decide), fun h0_ => absurd ((hoff 32 (by kernel_rfl)).symm.trans h0_) (by decide)⟩
  refine steps_cons ?_ ?_
  ·rintro b a w' ⟨v396, v399, v402, v405, v408, v411, v414, v417, m32_, ha, Q_BK394, Q_HB, Q_HO397, Q_HO400, Q_HO403, Q_HO406, Q_HO409, Q_HO412, Q_HO415, Q_HO418, Q_X32_⟩ hb_ hon hoff
   refine ⟨_, rfl, fun K hK => ?_⟩
   have e11 : a.tmps[11]? = some (.int .u8 ((a1_0) % 256)) := by rw [ha]; exact putSel_on (e := (2, 11, .int .u8 ((a1_0) % 256))) 1 rfl rfl (hon 2 (by kernel_rfl)) rfl
   have e16 : a.tmps[16]? = some (.int .u8 ((a1_1) % 256)) := by rw [ha]; exact putSel_on (e := (7, 16, .int .u8 ((a1_1) % 256))) 3 rfl rfl (hon 7 (by kernel_rfl)) rfl
   replace ha := Gv.a0 ha
   have BK394 := Gv.a0 Q_BK394
   have HB := Gv.a0 Q_HB
   refine Kd.R_lit_step (Kd.int .u8) _ 5 ?hg (N := 17) ?hd (xs := ([(a1_0) % 256, (a1_1) % 256] : List Int)) (inner := [.int .u8 ((a1_0) % 256), .int .u8 ((a1_1) % 256)]) (ok := fun _ => True) (okp := fun _ => True) ?hr ?hp (fun _ hk => hk) trivial (Below.refl _ _) (Nat.le_refl _) (by simp) ?_; (case hd => rfl); (case hg => rfl); (case hr => first | (go_simp; done) | (go_simp; rfl)); (case hp => exact (Reps.one (show Kd.M (Kd.int .u8) _ _ _ ((a1_0) % 256) [.int .u8 ((a1_0) % 256)] from rfl) (Reps.one (show Kd.M (Kd.int .u8) _ _ _ ((a1_1) % 256) [.int .u8 ((a1_1) % 256)] from rfl) (Reps.none _ _))))
   intro v396 w10 ho11 hb hg_ hnew_
   clear hg_ hnew_
   (first | rw [← Ny395.out] at ho11 | (simp only [Int.reduceToNat] at ho11; rw [← Ny395.out] at ho11))
   have n0_ := Gv.a0 (Kd.R_lower ho11 (below_size Gv.bw))
   have n1_ := Gv.a0 (Gv.bb BK394.out hb)
   have n2_ := Gv.a0 (below_step Gv.bw hb)
   have z_HO400 := fun (h0_ : b 12 = true) (h1_ : b 30 = false) => (show Kd.R (Kd.int .u8) 5 w10 w.heap.size (fun _ => True) v399 t398 from by first | exact (Kd.R_elder' (by (with_reducible repeat (first | apply Kd.R_alloc | apply Kd.R_drewN | apply Kd.R_drew)); exact (Q_HO400 h0_ h1_)) (Kd.R_base ho11) hb) | exact Kd.R_mono (Kd.R_elder' (by (with_reducible repeat (first | apply Kd.R_alloc | apply Kd.R_drewN | apply Kd.R_drew)); exact (Q_HO400 h0_ h1_)) (Kd.R_base ho11) hb) (fun _ h_ => by first | trivial | exact h_ | exact h_.1))
   have z_HO403 := fun (h0_ : b 16 = true) (h1_ : b 30 = false) => (show Kd.R (Kd.int .u8) 5 w10 w.heap.size (fun _ => True) v402 t401 from by first | exact (Kd.R_elder' (by (with_reducible repeat (first | apply Kd.R_alloc | apply Kd.R_drewN | apply Kd.R_drew)); exact (Q_HO403 h0_ h1_)) (Kd.R_base ho11) hb) | exact Kd.R_mono (Kd.R_elder' (by (with_reducible repeat (first | apply Kd.R_alloc | apply Kd.R_drewN | apply Kd.R_drew)); exact (Q_HO403 h0_ h1_)) (Kd.R_base ho11) hb) (fun _ h_ => by first | trivial | exact h_ | exact h_.1))
   have z_HO406 := fun (h0_ : b 21 = true) (h1_ : b 30 = false) => (show Kd.R (Kd.int .u8) 5 w10 w.heap.size (fun _ => True) v405 y404 from by first | exact (Kd.R_elder' (by (with_reducible repeat (first | apply Kd.R_alloc | apply Kd.R_drewN | apply Kd.R_drew)); exact (Q_HO406 h0_ h1_)) (Kd.R_base ho11) hb) | exact Kd.R_mono (Kd.R_elder' (by (with_reducible repeat (first | apply Kd.R_alloc | apply Kd.R_drewN | apply Kd.R_drew)); exact (Q_HO406 h0_ h1_)) (Kd.R_base ho11) hb) (fun _ h_ => by first | trivial | exact h_ | exact h_.1))
   have z_HO409 := fun (h0_ : b 25 = true) (h1_ : b 30 = false) => (show Kd.R (Kd.int .u8) 5 w10 w.heap.size (fun _ => True) v408 t407 from by first | exact (Kd.R_elder' (by (with_reducible repeat (first | apply Kd.R_alloc | apply Kd.R_drewN | apply Kd.R_drew)); exact (Q_HO409 h0_ h1_)) (Kd.R_base ho11) hb) | exact Kd.R_mono (Kd.R_elder' (by (with_reducible repeat (first | apply Kd.R_alloc | apply Kd.R_drewN | apply Kd.R_drew)); exact (Q_HO409 h0_ h1_)) (Kd.R_base ho11) hb) (fun _ h_ => by first | trivial | exact h_ | exact h_.1))
   have z_HO412 := fun (h0_ : b 29 = true) (h1_ : b 30 = false) => (show Kd.R (Kd.int .u8) 5 w10 w.heap.size (fun _ => True) v411 t410 from by first | exact (Kd.R_elder' (by (with_reducible repeat (first | apply Kd.R_alloc | apply Kd.R_drewN | apply Kd.R_drew)); exact (Q_HO412 h0_ h1_)) (Kd.R_base ho11) hb) | exact Kd.R_mono (Kd.R_elder' (by (with_reducible repeat (first | apply Kd.R_alloc | apply Kd.R_drewN | apply Kd.R_drew)); exact (Q_HO412 h0_ h1_)) (Kd.R_base ho11) hb) (fun _ h_ => by first | trivial | exact h_ | exact h_.1))
   clear BK394
   clear HB
   have HO397 := n0_
   have BK394 := n1_
   have HB := n2_
   clear n0_ n1_ n2_
   clear hb ho11
   refine hK.out _ _ ⟨v396, v399, v402, v405, v408, v411, v414, v417, m32_, (by rw [ha.out]; exact putSel_upk 4 hb_ rfl rfl rfl), Gv.bk, Gv.bw, fun _ _ => (by (with_reducible repeat (first | apply Kd.R_alloc | apply Kd.R_drewN | apply Kd.R_drew)); first | exact HO397.out | exact Kd.R_mono HO397.out (fun _ hk => by first | exact hk.2 | trivial | exact ⟨hk.1.2, hk.2⟩ | exact ⟨trivial, hk.2⟩ | exact hk.1.2 | exact hk | exact ⟨trivial, hk⟩ | exact hk.1 | (simp only [true_and, and_true] at hk ⊢; first | exact hk | exact hk.2 | exact hk.1 | exact ⟨hk.2, hk.1⟩ | omega | (constructor <;> first | exact hk.1 | exact hk.2 | exact hk.1.1 | exact hk.1.2 | exact hk.2.1 | exact hk.2.2)))), z_HO400, z_HO403, z_HO406, z_HO409, z_HO412, fun h0_ => absurd ((hoff 30 (by kernel_rfl)).symm.trans h0_) (by decide), fun h0_ => absurd ((hoff 31 (by kernel_rfl)).symm.trans h0_) (by decide), fun h0_ => absurd ((hoff 32 (by kernel_rfl)).symm.trans h0_) (by decide)⟩
  refine steps_cons ?_ ?_
  ·rintro b a w' ⟨v396, v399, v402, v405, v408, v411, v414, v417, m32_, ha, Q_BK394, Q_HB, Q_HO397, Q_HO400, Q_HO403, Q_HO406, Q_HO409, Q_HO412, Q_HO415, Q_HO418, Q_X32_⟩ hb_ hon hoff
   refine ⟨_, rfl, fun K hK => ?_⟩
   have e19 : a.tmps[19]? = some (.pointer (some ⟨gb394, 1, none⟩)) := by rw [ha]; exact (putSel_off rfl).trans rfl
   replace ha := Gv.a0 ha
   have BK394 := Gv.a0 Q_BK394
   have HB := Gv.a0 Q_HB
   have hc0_ : w'.cell? ⟨gb394, 0, none⟩ = some (.int .i64 a1_0) := (blk_cell BK394.out 0).trans rfl
   have hc1_ : w'.cell? ⟨gb394, 1, none⟩ = some (.int .i64 a1_1) := (blk_cell BK394.out 1).trans rfl
   have hc2_ : w'.cell? ⟨gb394, 2, none⟩ = some (.int .i64 a1_2) := (blk_cell BK394.out 2).trans rfl
   have hc3_ : w'.cell? ⟨gb394, 3, none⟩ = some (.int .i64 a1_3) := (blk_cell BK394.out 3).trans rfl
   have hc4_ : w'.cell? ⟨gb394, 4, none⟩ = some (.int .i64 a1_4) := (blk_cell BK394.out 4).trans rfl
   have hc5_ : w'.cell? ⟨gb394, 5, none⟩ = some (.int .i64 a1_5) := (blk_cell BK394.out 5).trans rfl
   have hc6_ : w'.cell? ⟨gb394, 6, none⟩ = some (.int .i64 a1_6) := (blk_cell BK394.out 6).trans rfl
   have hc7_ : w'.cell? ⟨gb394, 7, none⟩ = some (.int .i64 a1_7) := (blk_cell BK394.out 7).trans rfl
   have hc8_ : w'.cell? ⟨gb394, 8, none⟩ = some (.int .i64 a1_8) := (blk_cell BK394.out 8).trans rfl
   have hc9_ : w'.cell? ⟨gb394, 9, none⟩ = some (.int .i64 a1_9) := (blk_cell BK394.out 9).trans rfl
   have hc10_ : w'.cell? ⟨gb394, 10, none⟩ = some (.int .i64 a1_10) := (blk_cell BK394.out 10).trans rfl
   have hc11_ : w'.cell? ⟨gb394, 11, none⟩ = some (.int .i64 a1_11) := (blk_cell BK394.out 11).trans rfl
   have hc12_ : w'.cell? ⟨gb394, 12, none⟩ = some (.int .i64 a1_12) := (blk_cell BK394.out 12).trans rfl
   have hc13_ : w'.cell? ⟨gb394, 13, none⟩ = some (.int .i64 a1_13) := (blk_cell BK394.out 13).trans rfl
   refine value_ (w1 := w') (v := .agg #[.int .i64 a1_1, .int .i64 a1_2, .int .i64 a1_3, .int .i64 a1_4, .int .i64 a1_5]) (by rfl) rfl ?_ ?_
   ·go_simp
    (try simp only [i64_w])
    try rfl
   refine hK.out _ _ ⟨v396, v399, v402, v405, v408, v411, v414, v417, m32_, (by rw [ha.out]; exact putSel_upk 5 hb_ rfl rfl rfl), Q_BK394, Q_HB, Q_HO397, fun h0_ _ => absurd ((hoff 12 (by kernel_rfl)).symm.trans h0_) (by decide), fun h0_ _ => absurd ((hoff 16 (by kernel_rfl)).symm.trans h0_) (by decide), Q_HO406, fun h0_ _ => absurd ((hoff 25 (by kernel_rfl)).symm.trans h0_) (by decide), fun h0_ _ => absurd ((hoff 29 (by kernel_rfl)).symm.trans h0_) (by decide), fun h0_ => absurd ((hoff 30 (by kernel_rfl)).symm.trans h0_) (by decide), fun h0_ => absurd ((hoff 31 (by kernel_rfl)).symm.trans h0_) (by decide), fun h0_ => absurd ((hoff 32 (by kernel_rfl)).symm.trans h0_) (by decide)⟩
  refine steps_cons ?_ ?_
  ·rintro b a w' ⟨v396, v399, v402, v405, v408, v411, v414, v417, m32_, ha, Q_BK394, Q_HB, Q_HO397, Q_HO400, Q_HO403, Q_HO406, Q_HO409, Q_HO412, Q_HO415, Q_HO418, Q_X32_⟩ hb_ hon hoff
   refine ⟨_, rfl, fun K hK => ?_⟩
   have e20 : a.tmps[20]? = some (.agg #[.int .i64 a1_1, .int .i64 a1_2, .int .i64 a1_3, .int .i64 a1_4, .int .i64 a1_5]) := by rw [ha]; exact putSel_on (e := (11, 20, .agg #[.int .i64 a1_1, .int .i64 a1_2, .int .i64 a1_3, .int .i64 a1_4, .int .i64 a1_5])) 5 rfl rfl (hon 11 (by kernel_rfl)) rfl
   replace ha := Gv.a0 ha
   have BK394 := Gv.a0 Q_BK394
   have HB := Gv.a0 Q_HB
   refine goes_ Try.func74 (by kernel_rfl) rfl #[.agg #[.int .i64 a1_1, .int .i64 a1_2, .int .i64 a1_3, .int .i64 a1_4, .int .i64 a1_5]] (by rfl) rfl rfl (by first | (simp only [List.map_toArray, List.map_cons, List.map_nil, Act.eval, Array.getD_eq_getD_getElem?, Option.getD_some, e20]; done) | (simp only [List.map_toArray, List.map_cons, List.map_nil, Act.eval, Array.getD_eq_getD_getElem?, Option.getD_some, e20]; rfl)) ?_
   with_reducible refine (impl_AddrBytes.calls k a1_1 a1_2 a1_3 a1_4 a1_5 t398 _ A3.out).mono ?_
   rintro e w10 ⟨v399, rfl, ho0, hb⟩
   refine ⟨_, rfl, ?_⟩
   have n0_ := Gv.a0 (Kd.R_lower ho0 (below_size Gv.bw))
   have n1_ := Gv.a0 (Gv.bb BK394.out hb)
   have n2_ := Gv.a0 (below_step Gv.bw hb)
   have z_HO397 := fun (h0_ : b 8 = true) (h1_ : b 30 = false) => (show Kd.R (Kd.int .u8) 5 w10 w.heap.size (fun _ => True) v396 y395 from by first | exact (Kd.R_elder' (by (with_reducible repeat (first | apply Kd.R_alloc | apply Kd.R_drewN | apply Kd.R_drew)); exact (Q_HO397 h0_ h1_)) (Kd.R_base ho0) hb) | exact Kd.R_mono (Kd.R_elder' (by (with_reducible repeat (first | apply Kd.R_alloc | apply Kd.R_drewN | apply Kd.R_drew)); exact (Q_HO397 h0_ h1_)) (Kd.R_base ho0) hb) (fun _ h_ => by first | trivial | exact h_ | exact h_.1))
   have z_HO406 := fun (h0_ : b 21 = true) (h1_ : b 30 = false) => (show Kd.R (Kd.int .u8) 5 w10 w.heap.size (fun _ => True) v405 y404 from by first | exact (Kd.R_elder' (by (with_reducible repeat (first | apply Kd.R_alloc | apply Kd.R_drewN | apply Kd.R_drew)); exact (Q_HO406 h0_ h1_)) (Kd.R_base ho0) hb) | exact Kd.R_mono (Kd.R_elder' (by (with_reducible repeat (first | apply Kd.R_alloc | apply Kd.R_drewN | apply Kd.R_drew)); exact (Q_HO406 h0_ h1_)) (Kd.R_base ho0) hb) (fun _ h_ => by first | trivial | exact h_ | exact h_.1))
   clear BK394
   clear HB
   have HO400 := n0_
   have BK394 := n1_
   have HB := n2_
   clear n0_ n1_ n2_
   (try clear hb)
   (try clear hb2)
   (try clear hk)
   (try clear hi)
   (try clear ho0)
   refine hK.out _ _ ⟨v396, v399, v402, v405, v408, v411, v414, v417, m32_, (by rw [ha.out]; exact putSel_upk 6 hb_ rfl rfl rfl), Gv.bk, Gv.bw, z_HO397, fun _ _ => (by (with_reducible repeat (first | apply Kd.R_alloc | apply Kd.R_drewN | apply Kd.R_drew)); first | exact HO400.out | exact Kd.R_mono HO400.out (fun _ hk => by first | exact hk.2 | trivial | exact ⟨hk.1.2, hk.2⟩ | exact ⟨trivial, hk.2⟩ | exact hk.1.2 | exact hk | exact ⟨trivial, hk⟩ | exact hk.1 | (simp only [true_and, and_true] at hk ⊢; first | exact hk | exact hk.2 | exact hk.1 | exact ⟨hk.2, hk.1⟩ | omega | (constructor <;> first | exact hk.1 | exact hk.2 | exact hk.1.1 | exact hk.1.2 | exact hk.2.1 | exact hk.2.2)))), fun h0_ _ => absurd ((hoff 16 (by kernel_rfl)).symm.trans h0_) (by decide), z_HO406, fun h0_ _ => absurd ((hoff 25 (by kernel_rfl)).symm.trans h0_) (by decide), fun h0_ _ => absurd ((hoff 29 (by kernel_rfl)).symm.trans h0_) (by decide), fun h0_ => absurd ((hoff 30 (by kernel_rfl)).symm.trans h0_) (by decide), fun h0_ => absurd ((hoff 31 (by kernel_rfl)).symm.trans h0_) (by decide), fun h0_ => absurd ((hoff 32 (by kernel_rfl)).symm.trans h0_) (by decide)⟩
  refine steps_cons ?_ ?_
  ·rintro b a w' ⟨v396, v399, v402, v405, v408, v411, v414, v417, m32_, ha, Q_BK394, Q_HB, Q_HO397, Q_HO400, Q_HO403, Q_HO406, Q_HO409, Q_HO412, Q_HO415, Q_HO418, Q_X32_⟩ hb_ hon hoff
   refine ⟨_, rfl, fun K hK => ?_⟩
   have e23 : a.tmps[23]? = some (.pointer (some ⟨gb394, 6, none⟩)) := by rw [ha]; exact (putSel_off rfl).trans rfl
   replace ha := Gv.a0 ha
   have BK394 := Gv.a0 Q_BK394
   have HB := Gv.a0 Q_HB
   have hc0_ : w'.cell? ⟨gb394, 0, none⟩ = some (.int .i64 a1_0) := (blk_cell BK394.out 0).trans rfl
   have hc1_ : w'.cell? ⟨gb394, 1, none⟩ = some (.int .i64 a1_1) := (blk_cell BK394.out 1).trans rfl
   have hc2_ : w'.cell? ⟨gb394, 2, none⟩ = some (.int .i64 a1_2) := (blk_cell BK394.out 2).trans rfl
   have hc3_ : w'.cell? ⟨gb394, 3, none⟩ = some (.int .i64 a1_3) := (blk_cell BK394.out 3).trans rfl
   have hc4_ : w'.cell? ⟨gb394, 4, none⟩ = some (.int .i64 a1_4) := (blk_cell BK394.out 4).trans rfl
   have hc5_ : w'.cell? ⟨gb394, 5, none⟩ = some (.int .i64 a1_5) := (blk_cell BK394.out 5).trans rfl
   have hc6_ : w'.cell? ⟨gb394, 6, none⟩ = some (.int .i64 a1_6) := (blk_cell BK394.out 6).trans rfl
   have hc7_ : w'.cell? ⟨gb394, 7, none⟩ = some (.int .i64 a1_7) := (blk_cell BK394.out 7).trans rfl
   have hc8_ : w'.cell? ⟨gb394, 8, none⟩ = some (.int .i64 a1_8) := (blk_cell BK394.out 8).trans rfl
   have hc9_ : w'.cell? ⟨gb394, 9, none⟩ = some (.int .i64 a1_9) := (blk_cell BK394.out 9).trans rfl
   have hc10_ : w'.cell? ⟨gb394, 10, none⟩ = some (.int .i64 a1_10) := (blk_cell BK394.out 10).trans rfl
   have hc11_ : w'.cell? ⟨gb394, 11, none⟩ = some (.int .i64 a1_11) := (blk_cell BK394.out 11).trans rfl
   have hc12_ : w'.cell? ⟨gb394, 12, none⟩ = some (.int .i64 a1_12) := (blk_cell BK394.out 12).trans rfl
   have hc13_ : w'.cell? ⟨gb394, 13, none⟩ = some (.int .i64 a1_13) := (blk_cell BK394.out 13).trans rfl
   refine value_ (w1 := w') (v := .agg #[.int .i64 a1_6, .int .i64 a1_7, .int .i64 a1_8, .int .i64 a1_9, .int .i64 a1_10]) (by rfl) rfl ?_ ?_
   ·go_simp
    (try simp only [i64_w])
    try rfl
   refine hK.out _ _ ⟨v396, v399, v402, v405, v408, v411, v414, v417, m32_, (by rw [ha.out]; exact putSel_upk 7 hb_ rfl rfl rfl), Q_BK394, Q_HB, Q_HO397, Q_HO400, fun h0_ _ => absurd ((hoff 16 (by kernel_rfl)).symm.trans h0_) (by decide), Q_HO406, fun h0_ _ => absurd ((hoff 25 (by kernel_rfl)).symm.trans h0_) (by decide), fun h0_ _ => absurd ((hoff 29 (by kernel_rfl)).symm.trans h0_) (by decide), fun h0_ => absurd ((hoff 30 (by kernel_rfl)).symm.trans h0_) (by decide), fun h0_ => absurd ((hoff 31 (by kernel_rfl)).symm.trans h0_) (by decide), fun h0_ => absurd ((hoff 32 (by kernel_rfl)).symm.trans h0_) (by decide)⟩
  refine steps_cons ?_ ?_
  ·rintro b a w' ⟨v396, v399, v402, v405, v408, v411, v414, v417, m32_, ha, Q_BK394, Q_HB, Q_HO397, Q_HO400, Q_HO403, Q_HO406, Q_HO409, Q_HO412, Q_HO415, Q_HO418, Q_X32_⟩ hb_ hon hoff
   refine ⟨_, rfl, fun K hK => ?_⟩
   have e24 : a.tmps[24]? = some (.agg #[.int .i64 a1_6, .int .i64 a1_7, .int .i64 a1_8, .int .i64 a1_9, .int .i64 a1_10]) := by rw [ha]; exact putSel_on (e := (15, 24, .agg #[.int .i64 a1_6, .int .i64 a1_7, .int .i64 a1_8, .int .i64 a1_9, .int .i64 a1_10])) 7 rfl rfl (hon 15 (by kernel_rfl)) rfl
   replace ha := Gv.a0 ha
   have BK394 := Gv.a0 Q_BK394
   have HB := Gv.a0 Q_HB
   have HO400 := Gv.a0 (Q_HO400 (hon 12 (by kernel_rfl)) (hoff 30 (by kernel_rfl)))
   refine goes_ Try.func74 (by kernel_rfl) rfl #[.agg #[.int .i64 a1_6, .int .i64 a1_7, .int .i64 a1_8, .int .i64 a1_9, .int .i64 a1_10]] (by rfl) rfl rfl (by first | (simp only [List.map_toArray, List.map_cons, List.map_nil, Act.eval, Array.getD_eq_getD_getElem?, Option.getD_some, e24]; done) | (simp only [List.map_toArray, List.map_cons, List.map_nil, Act.eval, Array.getD_eq_getD_getElem?, Option.getD_some, e24]; rfl)) ?_
   with_reducible refine (impl_AddrBytes.calls k a1_6 a1_7 a1_8 a1_9 a1_10 t401 _ A4.out).mono ?_
   rintro e w12 ⟨v402, rfl, ho0, hb⟩
   refine ⟨_, rfl, ?_⟩
   have n0_ := Gv.a0 (Kd.R_elder' (Gv.kr HO400.out) (Kd.R_base ho0) hb)
   have n1_ := Gv.a0 (Kd.R_lower (Kd.R_new' ho0 (Kd.R_lt (Gv.kr HO400.out))) (below_size Gv.bw))
   have n2_ := Gv.a0 (Gv.bb BK394.out hb)
   have n3_ := Gv.a0 (below_step Gv.bw hb)
   have z_HO397 := fun (h0_ : b 8 = true) (h1_ : b 30 = false) => (show Kd.R (Kd.int .u8) 5 w12 w.heap.size (fun _ => True) v396 y395 from by first | exact (Kd.R_elder' (by (with_reducible repeat (first | apply Kd.R_alloc | apply Kd.R_drewN | apply Kd.R_drew)); exact (Q_HO397 h0_ h1_)) (Kd.R_base ho0) hb) | exact Kd.R_mono (Kd.R_elder' (by (with_reducible repeat (first | apply Kd.R_alloc | apply Kd.R_drewN | apply Kd.R_drew)); exact (Q_HO397 h0_ h1_)) (Kd.R_base ho0) hb) (fun _ h_ => by first | trivial | exact h_ | exact h_.1))
   have z_HO406 := fun (h0_ : b 21 = true) (h1_ : b 30 = false) => (show Kd.R (Kd.int .u8) 5 w12 w.heap.size (fun _ => True) v405 y404 from by first | exact (Kd.R_elder' (by (with_reducible repeat (first | apply Kd.R_alloc | apply Kd.R_drewN | apply Kd.R_drew)); exact (Q_HO406 h0_ h1_)) (Kd.R_base ho0) hb) | exact Kd.R_mono (Kd.R_elder' (by (with_reducible repeat (first | apply Kd.R_alloc | apply Kd.R_drewN | apply Kd.R_drew)); exact (Q_HO406 h0_ h1_)) (Kd.R_base ho0) hb) (fun _ h_ => by first | trivial | exact h_ | exact h_.1))
   clear HO400
   clear BK394
   clear HB
   have HO400 := n0_
   have HO403 := n1_
   have BK394 := n2_
   have HB := n3_
   clear n0_ n1_ n2_ n3_
   (try clear hb)
   (try clear hb2)
   (try clear hk)
   (try clear hi)
   (try clear ho0)
   refine hK.out _ _ ⟨v396, v399, v402, v405, v408, v411, v414, v417, m32_, (by rw [ha.out]; exact putSel_upk 8 hb_ rfl rfl rfl), Gv.bk, Gv.bw, z_HO397, fun _ _ => (by (with_reducible repeat (first | apply Kd.R_alloc | apply Kd.R_drewN | apply Kd.R_drew)); exact Kd.R_mono HO400.out (fun _ hk => by first | exact hk.2 | trivial | exact ⟨hk.1.2, hk.2⟩ | exact ⟨trivial, hk.2⟩ | exact hk.1.2 | exact hk | exact ⟨trivial, hk⟩ | exact hk.1 | (simp only [true_and, and_true] at hk ⊢; first | exact hk | exact hk.2 | exact hk.1 | exact ⟨hk.2, hk.1⟩ | omega | (constructor <;> first | exact hk.1 | exact hk.2 | exact hk.1.1 | exact hk.1.2 | exact hk.2.1 | exact hk.2.2)))), fun _ _ => (by (with_reducible repeat (first | apply Kd.R_alloc | apply Kd.R_drewN | apply Kd.R_drew)); exact Kd.R_mono HO403.out (fun _ hk => by first | exact hk.2 | trivial | exact ⟨hk.1.2, hk.2⟩ | exact ⟨trivial, hk.2⟩ | exact hk.1.2 | exact hk | exact ⟨trivial, hk⟩ | exact hk.1 | (simp only [true_and, and_true] at hk ⊢; first | exact hk | exact hk.2 | exact hk.1 | exact ⟨hk.2, hk.1⟩ | omega | (constructor <;> first | exact hk.1 | exact hk.2 | exact hk.1.1 | exact hk.1.2 | exact hk.2.1 | exact hk.2.2)))), z_HO406, fun h0_ _ => absurd ((hoff 25 (by kernel_rfl)).symm.trans h0_) (by decide), fun h0_ _ => absurd ((hoff 29 (by kernel_rfl)).symm.trans h0_) (by decide), fun h0_ => absurd ((hoff 30 (by kernel_rfl)).symm.trans h0_) (by decide), fun h0_ => absurd ((hoff 31 (by kernel_rfl)).symm.trans h0_) (by decide), fun h0_ => absurd ((hoff 32 (by kernel_rfl)).symm.trans h0_) (by decide)⟩
  refine steps_cons ?_ ?_
  ·rintro b a w' ⟨v396, v399, v402, v405, v408, v411, v414, v417, m32_, ha, Q_BK394, Q_HB, Q_HO397, Q_HO400, Q_HO403, Q_HO406, Q_HO409, Q_HO412, Q_HO415, Q_HO418, Q_X32_⟩ hb_ hon hoff
   refine ⟨_, rfl, fun K hK => ?_⟩
   have e27 : a.tmps[27]? = some (.pointer (some ⟨gb394, 11, none⟩)) := by rw [ha]; exact (putSel_off rfl).trans rfl
   replace ha := Gv.a0 ha
   have BK394 := Gv.a0 Q_BK394
   have HB := Gv.a0 Q_HB
   have hc0_ : w'.cell? ⟨gb394, 0, none⟩ = some (.int .i64 a1_0) := (blk_cell BK394.out 0).trans rfl
   have hc1_ : w'.cell? ⟨gb394, 1, none⟩ = some (.int .i64 a1_1) := (blk_cell BK394.out 1).trans rfl
   have hc2_ : w'.cell? ⟨gb394, 2, none⟩ = some (.int .i64 a1_2) := (blk_cell BK394.out 2).trans rfl
   have hc3_ : w'.cell? ⟨gb394, 3, none⟩ = some (.int .i64 a1_3) := (blk_cell BK394.out 3).trans rfl
   have hc4_ : w'.cell? ⟨gb394, 4, none⟩ = some (.int .i64 a1_4) := (blk_cell BK394.out 4).trans rfl
   have hc5_ : w'.cell? ⟨gb394, 5, none⟩ = some (.int .i64 a1_5) := (blk_cell BK394.out 5).trans rfl
   have hc6_ : w'.cell? ⟨gb394, 6, none⟩ = some (.int .i64 a1_6) := (blk_cell BK394.out 6).trans rfl
   have hc7_ : w'.cell? ⟨gb394, 7, none⟩ = some (.int .i64 a1_7) := (blk_cell BK394.out 7).trans rfl
   have hc8_ : w'.cell? ⟨gb394, 8, none⟩ = some (.int .i64 a1_8) := (blk_cell BK394.out 8).trans rfl
   have hc9_ : w'.cell? ⟨gb394, 9, none⟩ = some (.int .i64 a1_9) := (blk_cell BK394.out 9).trans rfl
   have hc10_ : w'.cell? ⟨gb394, 10, none⟩ = some (.int .i64 a1_10) := (blk_cell BK394.out 10).trans rfl
   have hc11_ : w'.cell? ⟨gb394, 11, none⟩ = some (.int .i64 a1_11) := (blk_cell BK394.out 11).trans rfl
   have hc12_ : w'.cell? ⟨gb394, 12, none⟩ = some (.int .i64 a1_12) := (blk_cell BK394.out 12).trans rfl
   have hc13_ : w'.cell? ⟨gb394, 13, none⟩ = some (.int .i64 a1_13) := (blk_cell BK394.out 13).trans rfl
   refine value_ (w1 := w') (v := .int .i64 a1_11) (by rfl) rfl ?_ ?_
   ·go_simp
    (try simp only [i64_w])
    try rfl
   refine hK.out _ _ ⟨v396, v399, v402, v405, v408, v411, v414, v417, m32_, (by rw [ha.out]; exact putSel_upk 9 hb_ rfl rfl rfl), Q_BK394, Q_HB, Q_HO397, Q_HO400, Q_HO403, fun h0_ _ => absurd ((hoff 21 (by kernel_rfl)).symm.trans h0_) (by decide), Q_HO409, Q_HO412, fun h0_ => absurd ((hoff 30 (by kernel_rfl)).symm.trans h0_) (by decide), fun h0_ => absurd ((hoff 31 (by kernel_rfl)).symm.trans h0_) (by decide), fun h0_ => absurd ((hoff 32 (by kernel_rfl)).symm.trans h0_) (by decide)⟩
  refine steps_cons ?_ ?_
  ·rintro b a w' ⟨v396, v399, v402, v405, v408, v411, v414, v417, m32_, ha, Q_BK394, Q_HB, Q_HO397, Q_HO400, Q_HO403, Q_HO406, Q_HO409, Q_HO412, Q_HO415, Q_HO418, Q_X32_⟩ hb_ hon hoff
   refine ⟨_, rfl, fun K hK => ?_⟩
   have e28 : a.tmps[28]? = some (.int .i64 a1_11) := by rw [ha]; exact putSel_on (e := (19, 28, .int .i64 a1_11)) 9 rfl rfl (hon 19 (by kernel_rfl)) rfl
   replace ha := Gv.a0 ha
   have BK394 := Gv.a0 Q_BK394
   have HB := Gv.a0 Q_HB
   refine value_ (w1 := w') (v := .int .u8 ((a1_11) % 256)) (by rfl) rfl ?_ ?_
   ·go_simp
    (try simp only [i64_w])
    try rfl
   refine hK.out _ _ ⟨v396, v399, v402, v405, v408, v411, v414, v417, m32_, (by rw [ha.out]; exact putSel_upk 10 hb_ rfl rfl rfl), Q_BK394, Q_HB, Q_HO397, Q_HO400, Q_HO403, fun h0_ _ => absurd ((hoff 21 (by kernel_rfl)).symm.trans h0_) (by decide), Q_HO409, Q_HO412, fun h0_ => absurd ((hoff 30 (by kernel_rfl)).symm.trans h0_) (by decide), fun h0_ => absurd ((hoff 31 (by kernel_rfl)).symm.trans h0_) (by decide), fun h0_ => absurd ((hoff 32 (by kernel_rfl)).symm.trans h0_) (by decide)⟩
  refine steps_cons ?_ ?_
  ·rintro b a w' ⟨v396, v399, v402, v405, v408, v411, v414, v417, m32_, ha, Q_BK394, Q_HB, Q_HO397, Q_HO400, Q_HO403, Q_HO406, Q_HO409, Q_HO412, Q_HO415, Q_HO418, Q_X32_⟩ hb_ hon hoff
   refine ⟨_, rfl, fun K hK => ?_⟩
   have e29 : a.tmps[29]? = some (.int .u8 ((a1_11) % 256)) := by rw [ha]; exact putSel_on (e := (20, 29, .int .u8 ((a1_11) % 256))) 10 rfl rfl (hon 20 (by kernel_rfl)) rfl
   replace ha := Gv.a0 ha
   have BK394 := Gv.a0 Q_BK394
   have HB := Gv.a0 Q_HB
   refine Kd.R_lit_step (Kd.int .u8) _ 5 ?hg (N := 30) ?hd (xs := ([(a1_11) % 256] : List Int)) (inner := [.int .u8 ((a1_11) % 256)]) (ok := fun _ => True) (okp := fun _ => True) ?hr ?hp (fun _ hk => hk) trivial (Below.refl _ _) (Nat.le_refl _) (by simp) ?_; (case hd => rfl); (case hg => rfl); (case hr => first | (go_simp; done) | (go_simp; rfl)); (case hp => exact (Reps.one (show Kd.M (Kd.int .u8) _ _ _ ((a1_11) % 256) [.int .u8 ((a1_11) % 256)] from rfl) (Reps.none _ _)))
   intro v405 w10 ho11 hb hg_ hnew_
   clear hg_ hnew_
   (first | rw [← Ny404.out] at ho11 | (simp only [Int.reduceToNat] at ho11; rw [← Ny404.out] at ho11))
   have n0_ := Gv.a0 (Kd.R_lower ho11 (below_size Gv.bw))
   have n1_ := Gv.a0 (Gv.bb BK394.out hb)
   have n2_ := Gv.a0 (below_step Gv.bw hb)
   have z_HO397 := fun (h0_ : b 8 = true) (h1_ : b 30 = false) => (show Kd.R (Kd.int .u8) 5 w10 w.heap.size (fun _ => True) v396 y395 from by first | exact (Kd.R_elder' (by (with_reducible repeat (first | apply Kd.R_alloc | apply Kd.R_drewN | apply Kd.R_drew)); exact (Q_HO397 h0_ h1_)) (Kd.R_base ho11) hb) | exact Kd.R_mono (Kd.R_elder' (by (with_reducible repeat (first | apply Kd.R_alloc | apply Kd.R_drewN | apply Kd.R_drew)); exact (Q_HO397 h0_ h1_)) (Kd.R_base ho11) hb) (fun _ h_ => by first | trivial | exact h_ | exact h_.1))
   have z_HO400 := fun (h0_ : b 12 = true) (h1_ : b 30 = false) => (show Kd.R (Kd.int .u8) 5 w10 w.heap.size (fun _ => True) v399 t398 from by first | exact (Kd.R_elder' (by (with_reducible repeat (first | apply Kd.R_alloc | apply Kd.R_drewN | apply Kd.R_drew)); exact (Q_HO400 h0_ h1_)) (Kd.R_base ho11) hb) | exact Kd.R_mono (Kd.R_elder' (by (with_reducible repeat (first | apply Kd.R_alloc | apply Kd.R_drewN | apply Kd.R_drew)); exact (Q_HO400 h0_ h1_)) (Kd.R_base ho11) hb) (fun _ h_ => by first | trivial | exact h_ | exact h_.1))
   have z_HO403 := fun (h0_ : b 16 = true) (h1_ : b 30 = false) => (show Kd.R (Kd.int .u8) 5 w10 w.heap.size (fun _ => True) v402 t401 from by first | exact (Kd.R_elder' (by (with_reducible repeat (first | apply Kd.R_alloc | apply Kd.R_drewN | apply Kd.R_drew)); exact (Q_HO403 h0_ h1_)) (Kd.R_base ho11) hb) | exact Kd.R_mono (Kd.R_elder' (by (with_reducible repeat (first | apply Kd.R_alloc | apply Kd.R_drewN | apply Kd.R_drew)); exact (Q_HO403 h0_ h1_)) (Kd.R_base ho11) hb) (fun _ h_ => by first | trivial | exact h_ | exact h_.1))
   have z_HO409 := fun (h0_ : b 25 = true) (h1_ : b 30 = false) => (show Kd.R (Kd.int .u8) 5 w10 w.heap.size (fun _ => True) v408 t407 from by first | exact (Kd.R_elder' (by (with_reducible repeat (first | apply Kd.R_alloc | apply Kd.R_drewN | apply Kd.R_drew)); exact (Q_HO409 h0_ h1_)) (Kd.R_base ho11) hb) | exact Kd.R_mono (Kd.R_elder' (by (with_reducible repeat (first | apply Kd.R_alloc | apply Kd.R_drewN | apply Kd.R_drew)); exact (Q_HO409 h0_ h1_)) (Kd.R_base ho11) hb) (fun _ h_ => by first | trivial | exact h_ | exact h_.1))
   have z_HO412 := fun (h0_ : b 29 = true) (h1_ : b 30 = false) => (show Kd.R (Kd.int .u8) 5 w10 w.heap.size (fun _ => True) v411 t410 from by first | exact (Kd.R_elder' (by (with_reducible repeat (first | apply Kd.R_alloc | apply Kd.R_drewN | apply Kd.R_drew)); exact (Q_HO412 h0_ h1_)) (Kd.R_base ho11) hb) | exact Kd.R_mono (Kd.R_elder' (by (with_reducible repeat (first | apply Kd.R_alloc | apply Kd.R_drewN | apply Kd.R_drew)); exact (Q_HO412 h0_ h1_)) (Kd.R_base ho11) hb) (fun _ h_ => by first | trivial | exact h_ | exact h_.1))
   clear BK394
   clear HB
   have HO406 := n0_
   have BK394 := n1_
   have HB := n2_
   clear n0_ n1_ n2_
   clear hb ho11
   refine hK.out _ _ ⟨v396, v399, v402, v405, v408, v411, v414, v417, m32_, (by rw [ha.out]; exact putSel_upk 11 hb_ rfl rfl rfl), Gv.bk, Gv.bw, z_HO397, z_HO400, z_HO403, fun _ _ => (by (with_reducible repeat (first | apply Kd.R_alloc | apply Kd.R_drewN | apply Kd.R_drew)); first | exact HO406.out | exact Kd.R_mono HO406.out (fun _ hk => by first | exact hk.2 | trivial | exact ⟨hk.1.2, hk.2⟩ | exact ⟨trivial, hk.2⟩ | exact hk.1.2 | exact hk | exact ⟨trivial, hk⟩ | exact hk.1 | (simp only [true_and, and_true] at hk ⊢; first | exact hk | exact hk.2 | exact hk.1 | exact ⟨hk.2, hk.1⟩ | omega | (constructor <;> first | exact hk.1 | exact hk.2 | exact hk.1.1 | exact hk.1.2 | exact hk.2.1 | exact hk.2.2)))), z_HO409, z_HO412, fun h0_ => absurd ((hoff 30 (by kernel_rfl)).symm.trans h0_) (by decide), fun h0_ => absurd ((hoff 31 (by kernel_rfl)).symm.trans h0_) (by decide), fun h0_ => absurd ((hoff 32 (by kernel_rfl)).symm.trans h0_) (by decide)⟩
  refine steps_cons ?_ ?_
  ·rintro b a w' ⟨v396, v399, v402, v405, v408, v411, v414, v417, m32_, ha, Q_BK394, Q_HB, Q_HO397, Q_HO400, Q_HO403, Q_HO406, Q_HO409, Q_HO412, Q_HO415, Q_HO418, Q_X32_⟩ hb_ hon hoff
   refine ⟨_, rfl, fun K hK => ?_⟩
   have e32 : a.tmps[32]? = some (.pointer (some ⟨gb394, 12, none⟩)) := by rw [ha]; exact (putSel_off rfl).trans rfl
   replace ha := Gv.a0 ha
   have BK394 := Gv.a0 Q_BK394
   have HB := Gv.a0 Q_HB
   have hc0_ : w'.cell? ⟨gb394, 0, none⟩ = some (.int .i64 a1_0) := (blk_cell BK394.out 0).trans rfl
   have hc1_ : w'.cell? ⟨gb394, 1, none⟩ = some (.int .i64 a1_1) := (blk_cell BK394.out 1).trans rfl
   have hc2_ : w'.cell? ⟨gb394, 2, none⟩ = some (.int .i64 a1_2) := (blk_cell BK394.out 2).trans rfl
   have hc3_ : w'.cell? ⟨gb394, 3, none⟩ = some (.int .i64 a1_3) := (blk_cell BK394.out 3).trans rfl
   have hc4_ : w'.cell? ⟨gb394, 4, none⟩ = some (.int .i64 a1_4) := (blk_cell BK394.out 4).trans rfl
   have hc5_ : w'.cell? ⟨gb394, 5, none⟩ = some (.int .i64 a1_5) := (blk_cell BK394.out 5).trans rfl
   have hc6_ : w'.cell? ⟨gb394, 6, none⟩ = some (.int .i64 a1_6) := (blk_cell BK394.out 6).trans rfl
   have hc7_ : w'.cell? ⟨gb394, 7, none⟩ = some (.int .i64 a1_7) := (blk_cell BK394.out 7).trans rfl
   have hc8_ : w'.cell? ⟨gb394, 8, none⟩ = some (.int .i64 a1_8) := (blk_cell BK394.out 8).trans rfl
   have hc9_ : w'.cell? ⟨gb394, 9, none⟩ = some (.int .i64 a1_9) := (blk_cell BK394.out 9).trans rfl
   have hc10_ : w'.cell? ⟨gb394, 10, none⟩ = some (.int .i64 a1_10) := (blk_cell BK394.out 10).trans rfl
   have hc11_ : w'.cell? ⟨gb394, 11, none⟩ = some (.int .i64 a1_11) := (blk_cell BK394.out 11).trans rfl
   have hc12_ : w'.cell? ⟨gb394, 12, none⟩ = some (.int .i64 a1_12) := (blk_cell BK394.out 12).trans rfl
   have hc13_ : w'.cell? ⟨gb394, 13, none⟩ = some (.int .i64 a1_13) := (blk_cell BK394.out 13).trans rfl
   refine value_ (w1 := w') (v := .int .i64 a1_12) (by rfl) rfl ?_ ?_
   ·go_simp
    (try simp only [i64_w])
    try rfl
   refine hK.out _ _ ⟨v396, v399, v402, v405, v408, v411, v414, v417, m32_, (by rw [ha.out]; exact putSel_upk 12 hb_ rfl rfl rfl), Q_BK394, Q_HB, Q_HO397, Q_HO400, Q_HO403, Q_HO406, fun h0_ _ => absurd ((hoff 25 (by kernel_rfl)).symm.trans h0_) (by decide), fun h0_ _ => absurd ((hoff 29 (by kernel_rfl)).symm.trans h0_) (by decide), fun h0_ => absurd ((hoff 30 (by kernel_rfl)).symm.trans h0_) (by decide), fun h0_ => absurd ((hoff 31 (by kernel_rfl)).symm.trans h0_) (by decide), fun h0_ => absurd ((hoff 32 (by kernel_rfl)).symm.trans h0_) (by decide)⟩
  refine steps_cons ?_ ?_
  ·rintro b a w' ⟨v396, v399, v402, v405, v408, v411, v414, v417, m32_, ha, Q_BK394, Q_HB, Q_HO397, Q_HO400, Q_HO403, Q_HO406, Q_HO409, Q_HO412, Q_HO415, Q_HO418, Q_X32_⟩ hb_ hon hoff
   refine ⟨_, rfl, fun K hK => ?_⟩
   have e33 : a.tmps[33]? = some (.int .i64 a1_12) := by rw [ha]; exact putSel_on (e := (24, 33, .int .i64 a1_12)) 12 rfl rfl (hon 24 (by kernel_rfl)) rfl
   replace ha := Gv.a0 ha
   have BK394 := Gv.a0 Q_BK394
   have HB := Gv.a0 Q_HB
   have HO400 := Gv.a0 (Q_HO400 (hon 12 (by kernel_rfl)) (hoff 30 (by kernel_rfl)))
   have HO403 := Gv.a0 (Q_HO403 (hon 16 (by kernel_rfl)) (hoff 30 (by kernel_rfl)))
   refine goes_ Try.func75 (by kernel_rfl) rfl #[.int .i64 a1_12] (by rfl) rfl rfl (by first | (simp only [List.map_toArray, List.map_cons, List.map_nil, Act.eval, Array.getD_eq_getD_getElem?, Option.getD_some, e33]; done) | (simp only [List.map_toArray, List.map_cons, List.map_nil, Act.eval, Array.getD_eq_getD_getElem?, Option.getD_some, e33]; rfl)) ?_
   with_reducible refine (impl_Put16.calls k a1_12 t407 _ A5.out).mono ?_
   rintro e w13 ⟨v408, rfl, ho0, hb⟩
   refine ⟨_, rfl, ?_⟩
   have n0_ := Gv.a0 (Kd.R_elder' (Gv.kr HO400.out) (Kd.R_base ho0) hb)
   have n1_ := Gv.a0 (Kd.R_elder' (Gv.kr HO403.out) (Kd.R_base ho0) hb)
   have n2_ := Gv.a0 (Kd.R_lower (Kd.R_new' (Kd.R_new' ho0 (Kd.R_lt (Gv.kr HO400.out))) (Kd.R_lt (Gv.kr HO403.out))) (below_size Gv.bw))
   have n3_ := Gv.a0 (Gv.bb BK394.out hb)
   have n4_ := Gv.a0 (below_step Gv.bw hb)
   have z_HO397 := fun (h0_ : b 8 = true) (h1_ : b 30 = false) => (show Kd.R (Kd.int .u8) 5 w13 w.heap.size (fun _ => True) v396 y395 from by first | exact (Kd.R_elder' (by (with_reducible repeat (first | apply Kd.R_alloc | apply Kd.R_drewN | apply Kd.R_drew)); exact (Q_HO397 h0_ h1_)) (Kd.R_base ho0) hb) | exact Kd.R_mono (Kd.R_elder' (by (with_reducible repeat (first | apply Kd.R_alloc | apply Kd.R_drewN | apply Kd.R_drew)); exact (Q_HO397 h0_ h1_)) (Kd.R_base ho0) hb) (fun _ h_ => by first | trivial | exact h_ | exact h_.1))
   have z_HO406 := fun (h0_ : b 21 = true) (h1_ : b 30 = false) => (show Kd.R (Kd.int .u8) 5 w13 w.heap.size (fun _ => True) v405 y404 from by first | exact (Kd.R_elder' (by (with_reducible repeat (first | apply Kd.R_alloc | apply Kd.R_drewN | apply Kd.R_drew)); exact (Q_HO406 h0_ h1_)) (Kd.R_base ho0) hb) | exact Kd.R_mono (Kd.R_elder' (by (with_reducible repeat (first | apply Kd.R_alloc | apply Kd.R_drewN | apply Kd.R_drew)); exact (Q_HO406 h0_ h1_)) (Kd.R_base ho0) hb) (fun _ h_ => by first | trivial | exact h_ | exact h_.1))
   clear HO400
   clear HO403
   clear BK394
   clear HB
   have HO400 := n0_
   have HO403 := n1_
   have HO409 := n2_
   have BK394 := n3_
   have HB := n4_
   clear n0_ n1_ n2_ n3_ n4_
   (try clear hb)
   (try clear hb2)
   (try clear hk)
   (try clear hi)
   (try clear ho0)
   refine hK.out _ _ ⟨v396, v399, v402, v405, v408, v411, v414, v417, m32_, (by rw [ha.out]; exact putSel_upk 13 hb_ rfl rfl rfl), Gv.bk, Gv.bw, z_HO397, fun _ _ => (by (with_reducible repeat (first | apply Kd.R_alloc | apply Kd.R_drewN | apply Kd.R_drew)); first | exact HO400.out | exact Kd.R_mono HO400.out (fun _ hk => by first | exact hk.2 | trivial | exact ⟨hk.1.2, hk.2⟩ | exact ⟨trivial, hk.2⟩ | exact hk.1.2 | exact hk | exact ⟨trivial, hk⟩ | exact hk.1 | (simp only [true_and, and_true] at hk ⊢; first | exact hk | exact hk.2 | exact hk.1 | exact ⟨hk.2, hk.1⟩ | omega | (constructor <;> first | exact hk.1 | exact hk.2 | exact hk.1.1 | exact hk.1.2 | exact hk.2.1 | exact hk.2.2)))), fun _ _ => (by (with_reducible repeat (first | apply Kd.R_alloc | apply Kd.R_drewN | apply Kd.R_drew)); first | exact HO403.out | exact Kd.R_mono HO403.out (fun _ hk => by first | exact hk.2 | trivial | exact ⟨hk.1.2, hk.2⟩ | exact ⟨trivial, hk.2⟩ | exact hk.1.2 | exact hk | exact ⟨trivial, hk⟩ | exact hk.1 | (simp only [true_and, and_true] at hk ⊢; first | exact hk | exact hk.2 | exact hk.1 | exact ⟨hk.2, hk.1⟩ | omega | (constructor <;> first | exact hk.1 | exact hk.2 | exact hk.1.1 | exact hk.1.2 | exact hk.2.1 | exact hk.2.2)))), z_HO406, fun _ _ => (by (with_reducible repeat (first | apply Kd.R_alloc | apply Kd.R_drewN | apply Kd.R_drew)); exact Kd.R_mono HO409.out (fun _ hk => by first | exact hk.2 | trivial | exact ⟨hk.1.2, hk.2⟩ | exact ⟨trivial, hk.2⟩ | exact hk.1.2 | exact hk | exact ⟨trivial, hk⟩ | exact hk.1 | (simp only [true_and, and_true] at hk ⊢; first | exact hk | exact hk.2 | exact hk.1 | exact ⟨hk.2, hk.1⟩ | omega | (constructor <;> first | exact hk.1 | exact hk.2 | exact hk.1.1 | exact hk.1.2 | exact hk.2.1 | exact hk.2.2)))), fun h0_ _ => absurd ((hoff 29 (by kernel_rfl)).symm.trans h0_) (by decide), fun h0_ => absurd ((hoff 30 (by kernel_rfl)).symm.trans h0_) (by decide), fun h0_ => absurd ((hoff 31 (by kernel_rfl)).symm.trans h0_) (by decide), fun h0_ => absurd ((hoff 32 (by kernel_rfl)).symm.trans h0_) (by decide)⟩
  refine steps_cons ?_ ?_
  ·rintro b a w' ⟨v396, v399, v402, v405, v408, v411, v414, v417, m32_, ha, Q_BK394, Q_HB, Q_HO397, Q_HO400, Q_HO403, Q_HO406, Q_HO409, Q_HO412, Q_HO415, Q_HO418, Q_X32_⟩ hb_ hon hoff
   refine ⟨_, rfl, fun K hK => ?_⟩
   have e36 : a.tmps[36]? = some (.pointer (some ⟨gb394, 13, none⟩)) := by rw [ha]; exact (putSel_off rfl).trans rfl
   replace ha := Gv.a0 ha
   have BK394 := Gv.a0 Q_BK394
   have HB := Gv.a0 Q_HB
   have hc0_ : w'.cell? ⟨gb394, 0, none⟩ = some (.int .i64 a1_0) := (blk_cell BK394.out 0).trans rfl
   have hc1_ : w'.cell? ⟨gb394, 1, none⟩ = some (.int .i64 a1_1) := (blk_cell BK394.out 1).trans rfl
   have hc2_ : w'.cell? ⟨gb394, 2, none⟩ = some (.int .i64 a1_2) := (blk_cell BK394.out 2).trans rfl
   have hc3_ : w'.cell? ⟨gb394, 3, none⟩ = some (.int .i64 a1_3) := (blk_cell BK394.out 3).trans rfl
   have hc4_ : w'.cell? ⟨gb394, 4, none⟩ = some (.int .i64 a1_4) := (blk_cell BK394.out 4).trans rfl
   have hc5_ : w'.cell? ⟨gb394, 5, none⟩ = some (.int .i64 a1_5) := (blk_cell BK394.out 5).trans rfl
   have hc6_ : w'.cell? ⟨gb394, 6, none⟩ = some (.int .i64 a1_6) := (blk_cell BK394.out 6).trans rfl
   have hc7_ : w'.cell? ⟨gb394, 7, none⟩ = some (.int .i64 a1_7) := (blk_cell BK394.out 7).trans rfl
   have hc8_ : w'.cell? ⟨gb394, 8, none⟩ = some (.int .i64 a1_8) := (blk_cell BK394.out 8).trans rfl
   have hc9_ : w'.cell? ⟨gb394, 9, none⟩ = some (.int .i64 a1_9) := (blk_cell BK394.out 9).trans rfl
   have hc10_ : w'.cell? ⟨gb394, 10, none⟩ = some (.int .i64 a1_10) := (blk_cell BK394.out 10).trans rfl
   have hc11_ : w'.cell? ⟨gb394, 11, none⟩ = some (.int .i64 a1_11) := (blk_cell BK394.out 11).trans rfl
   have hc12_ : w'.cell? ⟨gb394, 12, none⟩ = some (.int .i64 a1_12) := (blk_cell BK394.out 12).trans rfl
   have hc13_ : w'.cell? ⟨gb394, 13, none⟩ = some (.int .i64 a1_13) := (blk_cell BK394.out 13).trans rfl
   refine value_ (w1 := w') (v := .int .i64 a1_13) (by rfl) rfl ?_ ?_
   ·go_simp
    (try simp only [i64_w])
    try rfl
   refine hK.out _ _ ⟨v396, v399, v402, v405, v408, v411, v414, v417, m32_, (by rw [ha.out]; exact putSel_upk 14 hb_ rfl rfl rfl), Q_BK394, Q_HB, Q_HO397, Q_HO400, Q_HO403, Q_HO406, Q_HO409, fun h0_ _ => absurd ((hoff 29 (by kernel_rfl)).symm.trans h0_) (by decide), fun h0_ => absurd ((hoff 30 (by kernel_rfl)).symm.trans h0_) (by decide), fun h0_ => absurd ((hoff 31 (by kernel_rfl)).symm.trans h0_) (by decide), fun h0_ => absurd ((hoff 32 (by kernel_rfl)).symm.trans h0_) (by decide)⟩
  refine steps_cons ?_ ?_
  ·rintro b a w' ⟨v396, v399, v402, v405, v408, v411, v414, v417, m32_, ha, Q_BK394, Q_HB, Q_HO397, Q_HO400, Q_HO403, Q_HO406, Q_HO409, Q_HO412, Q_HO415, Q_HO418, Q_X32_⟩ hb_ hon hoff
   refine ⟨_, rfl, fun K hK => ?_⟩
   have e37 : a.tmps[37]? = some (.int .i64 a1_13) := by rw [ha]; exact putSel_on (e := (28, 37, .int .i64 a1_13)) 14 rfl rfl (hon 28 (by kernel_rfl)) rfl
   replace ha := Gv.a0 ha
   have BK394 := Gv.a0 Q_BK394
   have HB := Gv.a0 Q_HB
   have HO400 := Gv.a0 (Q_HO400 (hon 12 (by kernel_rfl)) (hoff 30 (by kernel_rfl)))
   have HO403 := Gv.a0 (Q_HO403 (hon 16 (by kernel_rfl)) (hoff 30 (by kernel_rfl)))
   have HO409 := Gv.a0 (Q_HO409 (hon 25 (by kernel_rfl)) (hoff 30 (by kernel_rfl)))
   refine goes_ Try.func75 (by kernel_rfl) rfl #[.int .i64 a1_13] (by rfl) rfl rfl (by first | (simp only [List.map_toArray, List.map_cons, List.map_nil, Act.eval, Array.getD_eq_getD_getElem?, Option.getD_some, e37]; done) | (simp only [List.map_toArray, List.map_cons, List.map_nil, Act.eval, Array.getD_eq_getD_getElem?, Option.getD_some, e37]; rfl)) ?_
   with_reducible refine (impl_Put16.calls k a1_13 t410 _ A6.out).mono ?_
   rintro e w14 ⟨v411, rfl, ho0, hb⟩
   refine ⟨_, rfl, ?_⟩
   have n0_ := Gv.a0 (Kd.R_elder' (Gv.kr HO400.out) (Kd.R_base ho0) hb)
   have n1_ := Gv.a0 (Kd.R_elder' (Gv.kr HO403.out) (Kd.R_base ho0) hb)
   have n2_ := Gv.a0 (Kd.R_elder' (Gv.kr HO409.out) (Kd.R_base ho0) hb)
   have n3_ := Gv.a0 (Kd.R_lower (Kd.R_new' (Kd.R_new' (Kd.R_new' ho0 (Kd.R_lt (Gv.kr HO400.out))) (Kd.R_lt (Gv.kr HO403.out))) (Kd.R_lt (Gv.kr HO409.out))) (below_size Gv.bw))
   have n4_ := Gv.a0 (Gv.bb BK394.out hb)
   have n5_ := Gv.a0 (below_step Gv.bw hb)
   have z_HO397 := fun (h0_ : b 8 = true) (h1_ : b 30 = false) => (show Kd.R (Kd.int .u8) 5 w14 w.heap.size (fun _ => True) v396 y395 from by first | exact (Kd.R_elder' (by (with_reducible repeat (first | apply Kd.R_alloc | apply Kd.R_drewN | apply Kd.R_drew)); exact (Q_HO397 h0_ h1_)) (Kd.R_base ho0) hb) | exact Kd.R_mono (Kd.R_elder' (by (with_reducible repeat (first | apply Kd.R_alloc | apply Kd.R_drewN | apply Kd.R_drew)); exact (Q_HO397 h0_ h1_)) (Kd.R_base ho0) hb) (fun _ h_ => by first | trivial | exact h_ | exact h_.1))
   have z_HO406 := fun (h0_ : b 21 = true) (h1_ : b 30 = false) => (show Kd.R (Kd.int .u8) 5 w14 w.heap.size (fun _ => True) v405 y404 from by first | exact (Kd.R_elder' (by (with_reducible repeat (first | apply Kd.R_alloc | apply Kd.R_drewN | apply Kd.R_drew)); exact (Q_HO406 h0_ h1_)) (Kd.R_base ho0) hb) | exact Kd.R_mono (Kd.R_elder' (by (with_reducible repeat (first | apply Kd.R_alloc | apply Kd.R_drewN | apply Kd.R_drew)); exact (Q_HO406 h0_ h1_)) (Kd.R_base ho0) hb) (fun _ h_ => by first | trivial | exact h_ | exact h_.1))
   clear HO400
   clear HO403
   clear HO409
   clear BK394
   clear HB
   have HO400 := n0_
   have HO403 := n1_
   have HO409 := n2_
   have HO412 := n3_
   have BK394 := n4_
   have HB := n5_
   clear n0_ n1_ n2_ n3_ n4_ n5_
   (try clear hb)
   (try clear hb2)
   (try clear hk)
   (try clear hi)
   (try clear ho0)
   refine hK.out _ _ ⟨v396, v399, v402, v405, v408, v411, v414, v417, m32_, (by rw [ha.out]; exact putSel_upk 15 hb_ rfl rfl rfl), Gv.bk, Gv.bw, z_HO397, fun _ _ => (by (with_reducible repeat (first | apply Kd.R_alloc | apply Kd.R_drewN | apply Kd.R_drew)); exact Kd.R_mono HO400.out (fun _ hk => by first | exact hk.2 | trivial | exact ⟨hk.1.2, hk.2⟩ | exact ⟨trivial, hk.2⟩ | exact hk.1.2 | exact hk | exact ⟨trivial, hk⟩ | exact hk.1 | (simp only [true_and, and_true] at hk ⊢; first | exact hk | exact hk.2 | exact hk.1 | exact ⟨hk.2, hk.1⟩ | omega | (constructor <;> first | exact hk.1 | exact hk.2 | exact hk.1.1 | exact hk.1.2 | exact hk.2.1 | exact hk.2.2)))), fun _ _ => (by (with_reducible repeat (first | apply Kd.R_alloc | apply Kd.R_drewN | apply Kd.R_drew)); exact Kd.R_mono HO403.out (fun _ hk => by first | exact hk.2 | trivial | exact ⟨hk.1.2, hk.2⟩ | exact ⟨trivial, hk.2⟩ | exact hk.1.2 | exact hk | exact ⟨trivial, hk⟩ | exact hk.1 | (simp only [true_and, and_true] at hk ⊢; first | exact hk | exact hk.2 | exact hk.1 | exact ⟨hk.2, hk.1⟩ | omega | (constructor <;> first | exact hk.1 | exact hk.2 | exact hk.1.1 | exact hk.1.2 | exact hk.2.1 | exact hk.2.2)))), z_HO406, fun _ _ => (by (with_reducible repeat (first | apply Kd.R_alloc | apply Kd.R_drewN | apply Kd.R_drew)); exact Kd.R_mono HO409.out (fun _ hk => by first | exact hk.2 | trivial | exact ⟨hk.1.2, hk.2⟩ | exact ⟨trivial, hk.2⟩ | exact hk.1.2 | exact hk | exact ⟨trivial, hk⟩ | exact hk.1 | (simp only [true_and, and_true] at hk ⊢; first | exact hk | exact hk.2 | exact hk.1 | exact ⟨hk.2, hk.1⟩ | omega | (constructor <;> first | exact hk.1 | exact hk.2 | exact hk.1.1 | exact hk.1.2 | exact hk.2.1 | exact hk.2.2)))), fun _ _ => (by (with_reducible repeat (first | apply Kd.R_alloc | apply Kd.R_drewN | apply Kd.R_drew)); exact Kd.R_mono HO412.out (fun _ hk => by first | exact hk.2 | trivial | exact ⟨hk.1.2, hk.2⟩ | exact ⟨trivial, hk.2⟩ | exact hk.1.2 | exact hk | exact ⟨trivial, hk⟩ | exact hk.1 | (simp only [true_and, and_true] at hk ⊢; first | exact hk | exact hk.2 | exact hk.1 | exact ⟨hk.2, hk.1⟩ | omega | (constructor <;> first | exact hk.1 | exact hk.2 | exact hk.1.1 | exact hk.1.2 | exact hk.2.1 | exact hk.2.2)))), fun h0_ => absurd ((hoff 30 (by kernel_rfl)).symm.trans h0_) (by decide), fun h0_ => absurd ((hoff 31 (by kernel_rfl)).symm.trans h0_) (by decide), fun h0_ => absurd ((hoff 32 (by kernel_rfl)).symm.trans h0_) (by decide)⟩
  refine steps_cons ?_ ?_
  ·rintro b a w' ⟨v396, v399, v402, v405, v408, v411, v414, v417, m32_, ha, Q_BK394, Q_HB, Q_HO397, Q_HO400, Q_HO403, Q_HO406, Q_HO409, Q_HO412, Q_HO415, Q_HO418, Q_X32_⟩ hb_ hon hoff
   refine ⟨_, rfl, fun K hK => ?_⟩
   have e17 : a.tmps[17]? = some (v396) := by rw [ha]; exact putSel_on (e := (8, 17, v396)) 4 rfl rfl (hon 8 (by kernel_rfl)) rfl
   have e21 : a.tmps[21]? = some (v399) := by rw [ha]; exact putSel_on (e := (12, 21, v399)) 6 rfl rfl (hon 12 (by kernel_rfl)) rfl
   have e25 : a.tmps[25]? = some (v402) := by rw [ha]; exact putSel_on (e := (16, 25, v402)) 8 rfl rfl (hon 16 (by kernel_rfl)) rfl
   have e30 : a.tmps[30]? = some (v405) := by rw [ha]; exact putSel_on (e := (21, 30, v405)) 11 rfl rfl (hon 21 (by kernel_rfl)) rfl
   have e34 : a.tmps[34]? = some (v408) := by rw [ha]; exact putSel_on (e := (25, 34, v408)) 13 rfl rfl (hon 25 (by kernel_rfl)) rfl
   have e38 : a.tmps[38]? = some (v411) := by rw [ha]; exact putSel_on (e := (29, 38, v411)) 15 rfl rfl (hon 29 (by kernel_rfl)) rfl
   replace ha := Gv.a0 ha
   have BK394 := Gv.a0 Q_BK394
   have HB := Gv.a0 Q_HB
   have HO397 := Gv.a0 (Q_HO397 (hon 8 (by kernel_rfl)) hb_)
   have HO400 := Gv.a0 (Q_HO400 (hon 12 (by kernel_rfl)) hb_)
   have HO403 := Gv.a0 (Q_HO403 (hon 16 (by kernel_rfl)) hb_)
   have HO406 := Gv.a0 (Q_HO406 (hon 21 (by kernel_rfl)) hb_)
   have HO409 := Gv.a0 (Q_HO409 (hon 25 (by kernel_rfl)) hb_)
   have HO412 := Gv.a0 (Q_HO412 (hon 29 (by kernel_rfl)) hb_)
   obtain ⟨Ao19, co19, eo19⟩ := Kd.R_slice HO397.out
   (first | subst eo19 | (injection eo19 with f1_ f2_ f3_; have f4_ := f1_.symm; have f5_ := f3_.symm; clear f1_ f2_ f3_; subst f4_; subst f5_))
   obtain ⟨Ao20, co20, eo20⟩ := Kd.R_slice HO400.out
   (first | subst eo20 | (injection eo20 with f1_ f2_ f3_; have f4_ := f1_.symm; have f5_ := f3_.symm; clear f1_ f2_ f3_; subst f4_; subst f5_))
   obtain ⟨Ao21, co21, eo21⟩ := Kd.R_slice HO403.out
   (first | subst eo21 | (injection eo21 with f1_ f2_ f3_; have f4_ := f1_.symm; have f5_ := f3_.symm; clear f1_ f2_ f3_; subst f4_; subst f5_))
   obtain ⟨Ao22, co22, eo22⟩ := Kd.R_slice HO406.out
   (first | subst eo22 | (injection eo22 with f1_ f2_ f3_; have f4_ := f1_.symm; have f5_ := f3_.symm; clear f1_ f2_ f3_; subst f4_; subst f5_))
   obtain ⟨Ao23, co23, eo23⟩ := Kd.R_slice HO409.out
   (first | subst eo23 | (injection eo23 with f1_ f2_ f3_; have f4_ := f1_.symm; have f5_ := f3_.symm; clear f1_ f2_ f3_; subst f4_; subst f5_))
   obtain ⟨Ao24, co24, eo24⟩ := Kd.R_slice HO412.out
   (first | subst eo24 | (injection eo24 with f1_ f2_ f3_; have f4_ := f1_.symm; have f5_ := f3_.symm; clear f1_ f2_ f3_; subst f4_; subst f5_))
   refine Kd.N_lit_step (Kd.slice 5 (Kd.int .u8)) _ 68 ?hg (N' := 39) ?hd (xs := ([y395, t398, t401, y404, t407, t410] : List (List Int))) (inner := [.slice Ao19 y395.length co19, .slice Ao20 t398.length co20, .slice Ao21 t401.length co21, .slice Ao22 y404.length co22, .slice Ao23 t407.length co23, .slice Ao24 t410.length co24]) (ok := (fun k_ => k_ ≠ gb394)) (okp := (fun k_ => k_ ≠ gb394)) ?hr ?hp (fun _ hk => hk) ((show ∀ k_, w'.heap.size ≤ k_ → (fun k_ => k_ ≠ gb394) k_ from fun k_ hk => Kd.freshB (g := gb394) (o := .cells #[.int .i64 a1_0, .int .i64 a1_1, .int .i64 a1_2, .int .i64 a1_3, .int .i64 a1_4, .int .i64 a1_5, .int .i64 a1_6, .int .i64 a1_7, .int .i64 a1_8, .int .i64 a1_9, .int .i64 a1_10, .int .i64 a1_11, .int .i64 a1_12, .int .i64 a1_13] 33 (0, 0)) Gv.bk k_ hk) _ (Nat.le_refl _)) (Below.refl _ _) (Nat.le_refl _) (by simp) ?_; (case hd => rfl); (case hg => rfl); (case hr => first | (go_simp; done) | (go_simp; rfl)); (case hp => exact (Reps.one (show Kd.FK (Kd.slice 5 (Kd.int .u8)) _ _ y395 [.slice Ao19 y395.length co19] from (Kd.FK_slice_mk (Kd.R_reads' (Kd.R_mono (ok' := (fun k_ => k_ ≠ gb394)) (Kd.R_types (HO397.out) BK394.out (by decide)) (fun k_ hk => hk.2))).2.1 (Kd.R_F (Kd.R_mono (ok' := (fun k_ => k_ ≠ gb394)) (Kd.R_types (HO397.out) BK394.out (by decide)) (fun k_ hk => hk.2))))) (Reps.one (show Kd.FK (Kd.slice 5 (Kd.int .u8)) _ _ t398 [.slice Ao20 t398.length co20] from (Kd.FK_slice_mk (Kd.R_reads' (Kd.R_mono (ok' := (fun k_ => k_ ≠ gb394)) (Kd.R_types (HO400.out) BK394.out (by decide)) (fun k_ hk => hk.2))).2.1 (Kd.R_F (Kd.R_mono (ok' := (fun k_ => k_ ≠ gb394)) (Kd.R_types (HO400.out) BK394.out (by decide)) (fun k_ hk => hk.2))))) (Reps.one (show Kd.FK (Kd.slice 5 (Kd.int .u8)) _ _ t401 [.slice Ao21 t401.length co21] from (Kd.FK_slice_mk (Kd.R_reads' (Kd.R_mono (ok' := (fun k_ => k_ ≠ gb394)) (Kd.R_types (HO403.out) BK394.out (by decide)) (fun k_ hk => hk.2))).2.1 (Kd.R_F (Kd.R_mono (ok' := (fun k_ => k_ ≠ gb394)) (Kd.R_types (HO403.out) BK394.out (by decide)) (fun k_ hk => hk.2))))) (Reps.one (show Kd.FK (Kd.slice 5 (Kd.int .u8)) _ _ y404 [.slice Ao22 y404.length co22] from (Kd.FK_slice_mk (Kd.R_reads' (Kd.R_mono (ok' := (fun k_ => k_ ≠ gb394)) (Kd.R_types (HO406.out) BK394.out (by decide)) (fun k_ hk => hk.2))).2.1 (Kd.R_F (Kd.R_mono (ok' := (fun k_ => k_ ≠ gb394)) (Kd.R_types (HO406.out) BK394.out (by decide)) (fun k_ hk => hk.2))))) (Reps.one (show Kd.FK (Kd.slice 5 (Kd.int .u8)) _ _ t407 [.slice Ao23 t407.length co23] from (Kd.FK_slice_mk (Kd.R_reads' (Kd.R_mono (ok' := (fun k_ => k_ ≠ gb394)) (Kd.R_types (HO409.out) BK394.out (by decide)) (fun k_ hk => hk.2))).2.1 (Kd.R_F (Kd.R_mono (ok' := (fun k_ => k_ ≠ gb394)) (Kd.R_types (HO409.out) BK394.out (by decide)) (fun k_ hk => hk.2))))) (Reps.one (show Kd.FK (Kd.slice 5 (Kd.int .u8)) _ _ t410 [.slice Ao24 t410.length co24] from (Kd.FK_slice_mk (Kd.R_reads' (Kd.R_mono (ok' := (fun k_ => k_ ≠ gb394)) (Kd.R_types (HO412.out) BK394.out (by decide)) (fun k_ hk => hk.2))).2.1 (Kd.R_F (Kd.R_mono (ok' := (fun k_ => k_ ≠ gb394)) (Kd.R_types (HO412.out) BK394.out (by decide)) (fun k_ hk => hk.2))))) (Reps.none _ _))))))))
   intro v414 w25 ho26 hb hg_ hnew_
   clear hg_ hnew_
   (first | rw [← Ny413.out] at ho26 | (simp only [Int.reduceToNat] at ho26; rw [← Ny413.out] at ho26))
   have n0_ := Gv.a0 (Kd.N_lower ho26 (below_size Gv.bw))
   have n1_ := Gv.a0 (Gv.bb BK394.out hb)
   have n2_ := Gv.a0 (below_step Gv.bw hb)
   clear BK394
   clear HB
   clear HO397
   clear HO400
   clear HO403
   clear HO406
   clear HO409
   clear HO412
   have HO415 := n0_
   have BK394 := n1_
   have HB := n2_
   clear n0_ n1_ n2_
   clear hb ho26
   refine hK.out _ _ ⟨.slice Ao19 y395.length co19, .slice Ao20 t398.length co20, .slice Ao21 t401.length co21, .slice Ao22 y404.length co22, .slice Ao23 t407.length co23, .slice Ao24 t410.length co24, v414, v417, m32_, (by rw [ha.out]; exact putSel_upk 16 hb_ rfl rfl rfl), Gv.bk, Gv.bw, fun _ h1_ => absurd ((up_self b 30).symm.trans h1_) (by decide), fun _ h1_ => absurd ((up_self b 30).symm.trans h1_) (by decide), fun _ h1_ => absurd ((up_self b 30).symm.trans h1_) (by decide), fun _ h1_ => absurd ((up_self b 30).symm.trans h1_) (by decide), fun _ h1_ => absurd ((up_self b 30).symm.trans h1_) (by decide), fun _ h1_ => absurd ((up_self b 30).symm.trans h1_) (by decide), fun _ => (by (with_reducible repeat (first | apply Kd.N_alloc | apply Kd.N_drewN | apply Kd.N_drew)); first | exact HO415.out | exact Kd.R_mono HO415.out (fun _ hk => by first | exact hk.2 | trivial | exact ⟨hk.1.2, hk.2⟩ | exact ⟨trivial, hk.2⟩ | exact hk.1.2 | exact hk | exact ⟨trivial, hk⟩ | exact hk.1 | (simp only [true_and, and_true] at hk ⊢; first | exact hk | exact hk.2 | exact hk.1 | exact ⟨hk.2, hk.1⟩ | omega | (constructor <;> first | exact hk.1 | exact hk.2 | exact hk.1.1 | exact hk.1.2 | exact hk.2.1 | exact hk.2.2)))), fun h0_ => absurd ((hoff 31 (by kernel_rfl)).symm.trans h0_) (by decide), fun h0_ => absurd ((hoff 32 (by kernel_rfl)).symm.trans h0_) (by decide)⟩
  refine steps_cons ?_ ?_
  ·rintro b a w' ⟨v396, v399, v402, v405, v408, v411, v414, v417, m32_, ha, Q_BK394, Q_HB, Q_HO397, Q_HO400, Q_HO403, Q_HO406, Q_HO409, Q_HO412, Q_HO415, Q_HO418, Q_X32_⟩ hb_ hon hoff
   refine ⟨_, rfl, fun K hK => ?_⟩
   have e39 : a.tmps[39]? = some (v414) := by rw [ha]; exact putSel_on (e := (30, 39, v414)) 16 rfl rfl (hon 30 (by kernel_rfl)) rfl
   replace ha := Gv.a0 ha
   have BK394 := Gv.a0 Q_BK394
   have HB := Gv.a0 Q_HB
   have HO415 := Gv.a0 (Q_HO415 (hon 30 (by kernel_rfl)))
   obtain ⟨Ao27, co27, eo27⟩ := Kd.N_slice HO415.out
   (first | subst eo27 | (injection eo27 with f1_ f2_ f3_; have f4_ := f1_.symm; have f5_ := f3_.symm; clear f1_ f2_ f3_; subst f4_; subst f5_))
   refine goes_ Try.func73 (by kernel_rfl) rfl #[.slice Ao27 y413.length co27] (by rfl) rfl rfl (by first | (simp only [List.map_toArray, List.map_cons, List.map_nil, Act.eval, Array.getD_eq_getD_getElem?, Option.getD_some, e39]; done) | (simp only [List.map_toArray, List.map_cons, List.map_nil, Act.eval, Array.getD_eq_getD_getElem?, Option.getD_some, e39]; rfl)) ?_
   with_reducible refine (slices_Concat_byte_byte.calls k _ _ y413 t416 _ ?side1 ?side2 A7.out).mono ?_
   (case side1 => repeat (first | exact (Kd.N_reads' HO415.out).2.2 | (with_reducible refine Kd.C_alloc ?_ _) | (with_reducible refine Kd.C_drewN ?_ _) | (with_reducible refine Kd.C_drew ?_)))
   (case side2 => exact (Kd.N_reads' HO415.out).2.1)
   rintro e w28 ⟨v417, rfl, ho0, hb⟩
   refine ⟨_, rfl, ?_⟩
   have n0_ := Gv.a0 (Kd.N_elder' (by (with_reducible repeat (first | apply Kd.N_alloc | apply Kd.N_drewN | apply Kd.N_drew)); exact HO415.out) (Kd.R_base ho0) hb)
   have n1_ := Gv.a0 (Kd.R_lower ho0 (below_size Gv.bw))
   have n2_ := Gv.a0 (Gv.bb BK394.out hb)
   have n3_ := Gv.a0 (below_step Gv.bw hb)
   clear HO415
   clear BK394
   clear HB
   have HO415 := n0_
   have HO418 := n1_
   have BK394 := n2_
   have HB := n3_
   clear n0_ n1_ n2_ n3_
   (try clear hb)
   (try clear hb2)
   (try clear hk)
   (try clear hi)
   (try clear ho0)
   refine hK.out _ _ ⟨v396, v399, v402, v405, v408, v411, .slice Ao27 y413.length co27, v417, m32_, (by rw [ha.out]; exact putSel_upk 17 hb_ rfl rfl rfl), Gv.bk, Gv.bw, fun _ h1_ => absurd ((hon 30 (by kernel_rfl)).symm.trans h1_) (by decide), fun _ h1_ => absurd ((hon 30 (by kernel_rfl)).symm.trans h1_) (by decide), fun _ h1_ => absurd ((hon 30 (by kernel_rfl)).symm.trans h1_) (by decide), fun _ h1_ => absurd ((hon 30 (by kernel_rfl)).symm.trans h1_) (by decide), fun _ h1_ => absurd ((hon 30 (by kernel_rfl)).symm.trans h1_) (by decide), fun _ h1_ => absurd ((hon 30 (by kernel_rfl)).symm.trans h1_) (by decide), fun _ => (by (with_reducible repeat (first | apply Kd.N_alloc | apply Kd.N_drewN | apply Kd.N_drew)); exact Kd.N_mono HO415.out (fun _ hk => by first | exact hk.2 | trivial | exact ⟨hk.1.2, hk.2⟩ | exact ⟨trivial, hk.2⟩ | exact hk.1.2 | exact hk | exact ⟨trivial, hk⟩ | exact hk.1 | (simp only [true_and, and_true] at hk ⊢; first | exact hk | exact hk.2 | exact hk.1 | exact ⟨hk.2, hk.1⟩ | omega | (constructor <;> first | exact hk.1 | exact hk.2 | exact hk.1.1 | exact hk.1.2 | exact hk.2.1 | exact hk.2.2)))), fun _ => (by (with_reducible repeat (first | apply Kd.R_alloc | apply Kd.R_drewN | apply Kd.R_drew)); first | exact HO418.out | exact Kd.R_mono HO418.out (fun _ hk => by first | exact hk.2 | trivial | exact ⟨hk.1.2, hk.2⟩ | exact ⟨trivial, hk.2⟩ | exact hk.1.2 | exact hk | exact ⟨trivial, hk⟩ | exact hk.1 | (simp only [true_and, and_true] at hk ⊢; first | exact hk | exact hk.2 | exact hk.1 | exact ⟨hk.2, hk.1⟩ | omega | (constructor <;> first | exact hk.1 | exact hk.2 | exact hk.1.1 | exact hk.1.2 | exact hk.2.1 | exact hk.2.2)))), fun h0_ => absurd ((hoff 32 (by kernel_rfl)).symm.trans h0_) (by decide)⟩
  refine steps_cons ?_ ?_
  ·rintro b a w' ⟨v396, v399, v402, v405, v408, v411, v414, v417, m32_, ha, Q_BK394, Q_HB, Q_HO397, Q_HO400, Q_HO403, Q_HO406, Q_HO409, Q_HO412, Q_HO415, Q_HO418, Q_X32_⟩ hb_ hon hoff
   refine ⟨_, rfl, fun K hK => ?_⟩
   have e40 : a.tmps[40]? = some (v417) := by rw [ha]; exact putSel_on (e := (31, 40, v417)) 17 rfl rfl (hon 31 (by kernel_rfl)) rfl
   replace ha := Gv.a0 ha
   have BK394 := Gv.a0 Q_BK394
   have HB := Gv.a0 Q_HB
   have HO415 := Gv.a0 (Q_HO415 (hon 30 (by kernel_rfl)))
   have HO418 := Gv.a0 (Q_HO418 (hon 31 (by kernel_rfl)))
   refine value_ (w1 := w') (v := v417) (by rfl) rfl ?_ ?_
   ·go_simp
    (try simp only [i64_w])
    try rfl
   refine hK.out _ _ ⟨v396, v399, v402, v405, v408, v411, v414, v417, (v417), (by rw [ha.out]; exact putSel_upk 18 hb_ rfl rfl rfl), Q_BK394, Q_HB, fun _ h1_ => absurd ((hon 30 (by kernel_rfl)).symm.trans h1_) (by decide), fun _ h1_ => absurd ((hon 30 (by kernel_rfl)).symm.trans h1_) (by decide), fun _ h1_ => absurd ((hon 30 (by kernel_rfl)).symm.trans h1_) (by decide), fun _ h1_ => absurd ((hon 30 (by kernel_rfl)).symm.trans h1_) (by decide), fun _ h1_ => absurd ((hon 30 (by kernel_rfl)).symm.trans h1_) (by decide), fun _ h1_ => absurd ((hon 30 (by kernel_rfl)).symm.trans h1_) (by decide), Q_HO415, Q_HO418, fun _ => rfl⟩
  exact steps_nil
 rintro b a w28 hall ⟨v396, v399, v402, v405, v408, v411, v414, v417, m32_, ha, Q_BK394, Q_HB, Q_HO397, Q_HO400, Q_HO403, Q_HO406, Q_HO409, Q_HO412, Q_HO415, Q_HO418, Q_X32_⟩
 clear BK394 HB
 have hb1_ := hall 1 (by kernel_rfl)
 have hb2_ := hall 2 (by kernel_rfl)
 have hb6_ := hall 6 (by kernel_rfl)
 have hb7_ := hall 7 (by kernel_rfl)
 have hb8_ := hall 8 (by kernel_rfl)
 have hb11_ := hall 11 (by kernel_rfl)
 have hb12_ := hall 12 (by kernel_rfl)
 have hb15_ := hall 15 (by kernel_rfl)
 have hb16_ := hall 16 (by kernel_rfl)
 have hb19_ := hall 19 (by kernel_rfl)
 have hb20_ := hall 20 (by kernel_rfl)
 have hb21_ := hall 21 (by kernel_rfl)
 have hb24_ := hall 24 (by kernel_rfl)
 have hb25_ := hall 25 (by kernel_rfl)
 have hb28_ := hall 28 (by kernel_rfl)
 have hb29_ := hall 29 (by kernel_rfl)
 have hb30_ := hall 30 (by kernel_rfl)
 have hb31_ := hall 31 (by kernel_rfl)
 have hb32_ := hall 32 (by kernel_rfl)
 subst ha
 obtain rfl := Q_X32_ hb32_
 simp only [putSel, hb1_, hb2_, hb6_, hb7_, hb8_, hb11_, hb12_, hb15_, hb16_, hb19_, hb20_, hb21_, hb24_, hb25_, hb28_, hb29_, hb30_, hb31_, hb32_, if_true, Act.put, List.setIfInBounds_toArray, List.set_cons_zero, List.set_cons_succ]
 have BK394 := Gv.a0 Q_BK394
 clear Q_BK394
 have HB := Gv.a0 Q_HB
 clear Q_HB
 clear Q_HO397
 clear Q_HO400
 clear Q_HO403
 clear Q_HO406
 clear Q_HO409
 clear Q_HO412
 have HO415 := Gv.a0 (Q_HO415 hb30_)
 clear Q_HO415
 have HO418 := Gv.a0 (Q_HO418 hb31_)
 clear Q_HO418
 clear hall hb1_ hb2_ hb6_ hb7_ hb8_ hb11_ hb12_ hb15_ hb16_ hb19_ hb20_ hb21_ hb24_ hb25_ hb28_ hb29_ hb30_ hb31_ hb32_
 obtain ⟨Ao29, co29, eo29⟩ := Kd.R_slice HO418.out
 subst eo29
 try go_wp2
 go_loopg [6, 44] k (fun kq v6 v44 w' => ∃ (x6_1 : Int) (x44_1 : Int), v6 = .int .i64 x6_1 ∧ v44 = .int .i64 x44_1 ∧ Aside0 (impl_hashOf.l0 kq x6_1 t416 (t416.length : Int) x44_1 = some r) ∧ Aside0 (kq ≤ k) ∧ Aside0 (Kd.R (Kd.int .u8) 5 w' w.heap.size (fun _ => True) (.slice Ao29 t416.length co29) t416) ∧ Aside0 (w'.heap[gb394]? = some (.cells #[.int .i64 a1_0, .int .i64 a1_1, .int .i64 a1_2, .int .i64 a1_3, .int .i64 a1_4, .int .i64 a1_5, .int .i64 a1_6, .int .i64 a1_7, .int .i64 a1_8, .int .i64 a1_9, .int .i64 a1_10, .int .i64 a1_11, .int .i64 a1_12, .int .i64 a1_13] 33 (0, 0))) ∧ Aside0 (Below w.heap.size w w'))
 case atStart => exact ⟨(a0), (0), Gv.rq, Gv.rq, H', ⟨Nat.le_refl _⟩, ⟨Gv.kr HO418.out⟩, ⟨by (with_reducible repeat (first | refine blk_drewN ?_ _ | refine blk_drew ?_ | refine blk_alloc ?_ _)); exact BK394.out⟩, ⟨Gv.bw⟩⟩
 case round =>
  clear H'
  try clear c1
  try clear c2
  try clear p2
  try clear c3
  try clear c4
  try clear c5
  try clear c6
  try clear c7
  try clear c8
  try clear c9
  try clear c10
  try clear c11
  try clear c12
  try clear c13
  obtain ⟨x6_1, x44_1, rfl, rfl, HA, HK1, HO_42, BK394, HB⟩ := hrel
  cases gk with
  | zero => exact absurd HA.out (by simp [impl_hashOf.l0])
  | succ k1 =>
   have H := HA.out
   clear HA
   simp only [impl_hashOf.l0] at H
   by_cases c30 : x44_1 < (t416.length : Int)
   ·rw [if_pos c30] at H
    have c30b0 : decide (x44_1 < (t416.length : Int)) = true := decide_eq_true c30
    clear c30
    by_cases c31 : 0 ≤ x44_1
    ·rw [if_pos c31] at H
     have c31b0 : decide (0 ≤ x44_1) = true := decide_eq_true c31
     clear c31
     by_cases c32 : x44_1 < (t416.length : Int)
     ·rw [if_pos c32] at H
      have c32b0 : decide (x44_1 < (t416.length : Int)) = true := decide_eq_true c32
      clear c32
      have H' := Gv.a0 H
      clear H
      have p419 : 0 ≤ (x44_1 : Int) := of_decide_eq_true (by first | (with_reducible assumption) | assumption)
      have q419 : x44_1 < (t416.length : Int) := of_decide_eq_true (by first | (with_reducible assumption) | assumption)
      obtain ⟨ad419, e419, hx419_0⟩ := Kd.at_int (Kd.R_reads' HO_42.out).2.2 x44_1 p419 q419
      cases e419
      replace p419 := eq_true p419
      replace q419 := eq_true q419
      go_wp2
      go_roundg k1
      case measure => have := HK1.out; omega
      case rel => exact ⟨(Int.tmod (wrap64 ((Go.bits .xor .i64 x6_1 (wrap64 (rd t416 x44_1))) * 16777619)) 4294967296), (wrap64 (x44_1 + 1)), Gv.rq, Gv.rq, H', ⟨by have := HK1.out; omega⟩, ⟨Gv.kr HO_42.out⟩, ⟨by (with_reducible repeat (first | refine blk_drewN ?_ _ | refine blk_drew ?_ | refine blk_alloc ?_ _)); exact BK394.out⟩, ⟨Gv.bw⟩⟩
     ·rw [if_neg c32] at H
      exact absurd H (by simp)
    ·rw [if_neg c31] at H
     exact absurd H (by simp)
   ·rw [if_neg c30] at H
    have c30b0 : decide (x44_1 < (t416.length : Int)) = false := decide_eq_false c30
    clear c30
    obtain rfl := Option.some.inj H
    go_wp2
    go_ret
    exact ⟨Gv.rt, Gv.bw⟩

/-! ### impl_Table_probe: function 58 -/
def impl_Table_probe.l0 : Nat → Int → Int → Int → Int → Int → List (S75) → Int → Int → Int → Int → Int → Int → Int → Int → Int → Int → Int → Int → Int → Int → Option (Int)
 | 0, _, _, _, _, _, _, _, _, _, _, _, _, _, _, _, _, _, _, _, _ => none
 | k + 1, x5, x6, x18, x19, x421000, x421001, x422000, x422001, x422002, x422003, x422004, x422005, x422006, x422007, x422008, x422009, x422010, x422011, x422012, x422013 => if x19 < x18 then (if x5 = 0 then (none) else (if 0 ≤ (Int.tmod (wrap64 (x6 + x19)) x5) then (if (Int.tmod (wrap64 (x6 + x19)) x5) < (x421001.length : Int) then (if ((rd_T75 x421001 (Int.tmod (wrap64 (x6 + x19)) x5)).f0 = true) then (if (((rd_T75 x421001 (Int.tmod (wrap64 (x6 + x19)) x5)).f1.f0) == x422000 && (((((rd_T75 x421001 (Int.tmod (wrap64 (x6 + x19)) x5)).f1.f1.f0.f0) == x422001 && (((rd_T75 x421001 (Int.tmod (wrap64 (x6 + x19)) x5)).f1.f1.f0.f1) == x422002 && (((rd_T75 x421001 (Int.tmod (wrap64 (x6 + x19)) x5)).f1.f1.f0.f2) == x422003 && (((rd_T75 x421001 (Int.tmod (wrap64 (x6 + x19)) x5)).f1.f1.f0.f3) == x422004 && (((rd_T75 x421001 (Int.tmod (wrap64 (x6 + x19)) x5)).f1.f1.f0.f4) == x422005))))) && ((((rd_T75 x421001 (Int.tmod (wrap64 (x6 + x19)) x5)).f1.f1.f1.f0) == x422006 && (((rd_T75 x421001 (Int.tmod (wrap64 (x6 + x19)) x5)).f1.f1.f1.f1) == x422007 && (((rd_T75 x421001 (Int.tmod (wrap64 (x6 + x19)) x5)).f1.f1.f1.f2) == x422008 && (((rd_T75 x421001 (Int.tmod (wrap64 (x6 + x19)) x5)).f1.f1.f1.f3) == x422009 && (((rd_T75 x421001 (Int.tmod (wrap64 (x6 + x19)) x5)).f1.f1.f1.f4) == x422010))))) && (((rd_T75 x421001 (Int.tmod (wrap64 (x6 + x19)) x5)).f1.f1.f2) == x422011 && (((rd_T75 x421001 (Int.tmod (wrap64 (x6 + x19)) x5)).f1.f1.f3) == x422012 && (((rd_T75 x421001 (Int.tmod (wrap64 (x6 + x19)) x5)).f1.f1.f4) == x422013))))))) = true then (some (Int.tmod (wrap64 (x6 + x19)) x5)) else (impl_Table_probe.l0 k x5 x6 x18 (wrap64 (x19 + 1)) x421000 x421001 x422000 x422001 x422002 x422003 x422004 x422005 x422006 x422007 x422008 x422009 x422010 x422011 x422012 x422013)) else (some (Int.tmod (wrap64 (x6 + x19)) x5))) else (none)) else (none))) else (some (-1))
def impl_Table_probe.f (k : Nat) (a0_0 : Int) (l0_1 : List (S75)) (a1_0 : Int) (a1_1 : Int) (a1_2 : Int) (a1_3 : Int) (a1_4 : Int) (a1_5 : Int) (a1_6 : Int) (a1_7 : Int) (a1_8 : Int) (a1_9 : Int) (a1_10 : Int) (a1_11 : Int) (a1_12 : Int) (a1_13 : Int) : Option (Int) := (impl_hashOf.f k a0_0 a1_0 a1_1 a1_2 a1_3 a1_4 a1_5 a1_6 a1_7 a1_8 a1_9 a1_10 a1_11 a1_12 a1_13).bind fun t422 => (if (l0_1.length : Int) = 0 then (none) else (impl_Table_probe.l0 k (l0_1.length : Int) (Int.tmod t422 (l0_1.length : Int)) (l0_1.length : Int) 0 a0_0 l0_1 a1_0 a1_1 a1_2 a1_3 a1_4 a1_5 a1_6 a1_7 a1_8 a1_9 a1_10 a1_11 a1_12 a1_13))
theorem impl_Table_probe.mono_l : ∀ k, (∀ y0 y1 y2 y3 y4 y5 y6 y7 y8 y9 y10 y11 y12 y13 y14 y15 y16 y17 y18 y19, LeO (impl_Table_probe.l0 k y0 y1 y2 y3 y4 y5 y6 y7 y8 y9 y10 y11 y12 y13 y14 y15 y16 y17 y18 y19) (impl_Table_probe.l0 (k + 1) y0 y1 y2 y3 y4 y5 y6 y7 y8 y9 y10 y11 y12 y13 y14 y15 y16 y17 y18 y19))
 | 0 => fun _ _ _ _ _ _ _ _ _ _ _ _ _ _ _ _ _ _ _ _ r h => by simp [impl_Table_probe.l0] at h
 | k + 1 => by
  have ih0 := impl_Table_probe.mono_l k
  ·intro y0 y1 y2 y3 y4 y5 y6 y7 y8 y9 y10 y11 y12 y13 y14 y15 y16 y17 y18 y19
   unfold impl_Table_probe.l0
   repeat' first
   | (with_reducible exact ih0 _ _ _ _ _ _ _ _ _ _ _ _ _ _ _ _ _ _ _ _)
   | (with_reducible exact impl_hashOf.mono _ _ _ _ _ _ _ _ _ _ _ _ _ _ _ _)
   | (with_reducible exact LeO.refl _)
   | (with_reducible exact LeO.none _)
   | (with_reducible refine LeO.ite ?_ ?_)
   | (with_reducible refine LeO.bind ?_ (fun _ => ?_))
   | exact ih0 _ _ _ _ _ _ _ _ _ _ _ _ _ _ _ _ _ _ _ _
   | exact impl_hashOf.mono _ _ _ _ _ _ _ _ _ _ _ _ _ _ _ _
   | exact LeO.none _
   | refine LeO.ite ?_ ?_
   | refine LeO.bind ?_ (fun _ => ?_)
theorem impl_Table_probe.mono : ∀ a0 a1 a2 a3 a4 a5 a6 a7 a8 a9 a10 a11 a12 a13 a14 a15 k, LeO (impl_Table_probe.f k a0 a1 a2 a3 a4 a5 a6 a7 a8 a9 a10 a11 a12 a13 a14 a15) (impl_Table_probe.f (k + 1) a0 a1 a2 a3 a4 a5 a6 a7 a8 a9 a10 a11 a12 a13 a14 a15) := by
 intro a0 a1 a2 a3 a4 a5 a6 a7 a8 a9 a10 a11 a12 a13 a14 a15 k
 have ih0 := impl_Table_probe.mono_l k
 unfold impl_Table_probe.f
 repeat' first
   | (with_reducible exact ih0 _ _ _ _ _ _ _ _ _ _ _ _ _ _ _ _ _ _ _ _)
   | (with_reducible exact impl_hashOf.mono _ _ _ _ _ _ _ _ _ _ _ _ _ _ _ _)
   | (with_reducible exact LeO.refl _)
   | (with_reducible exact LeO.none _)
   | (with_reducible refine LeO.ite ?_ ?_)
   | (with_reducible refine LeO.bind ?_ (fun _ => ?_))
   | exact ih0 _ _ _ _ _ _ _ _ _ _ _ _ _ _ _ _ _ _ _ _
   | exact impl_hashOf.mono _ _ _ _ _ _ _ _ _ _ _ _ _ _ _ _
   | exact LeO.none _
   | refine LeO.ite ?_ ?_
   | refine LeO.bind ?_ (fun _ => ?_)
set_option maxHeartbeats 8000000 in
set_option maxRecDepth 100000 in
theorem impl_Table_probe.calls (k : Nat) (a0_0 : Int) (A0_1 : Option Addr) (c0_1 : Nat) (l0_1 : List (S75)) (a1_0 : Int) (a1_1 : Int) (a1_2 : Int) (a1_3 : Int) (a1_4 : Int) (a1_5 : Int) (a1_6 : Int) (a1_7 : Int) (a1_8 : Int) (a1_9 : Int) (a1_10 : Int) (a1_11 : Int) (a1_12 : Int) (a1_13 : Int) (r : Int) (w : World) (hr0_1 : Kd.C k75 w A0_1 l0_1.length l0_1) (hc0_1 : l0_1.length ≤ c0_1) (h : impl_Table_probe.f k a0_0 l0_1 a1_0 a1_1 a1_2 a1_3 a1_4 a1_5 a1_6 a1_7 a1_8 a1_9 a1_10 a1_11 a1_12 a1_13 = some r) :
  Calls Try.prog 58 #[.agg #[.int .i64 a0_0, .slice A0_1 l0_1.length c0_1], .agg #[.int .i64 a1_0, .int .i64 a1_1, .int .i64 a1_2, .int .i64 a1_3, .int .i64 a1_4, .int .i64 a1_5, .int .i64 a1_6, .int .i64 a1_7, .int .i64 a1_8, .int .i64 a1_9, .int .i64 a1_10, .int .i64 a1_11, .int .i64 a1_12, .int .i64 a1_13]] w fun e w' => e = .returned (.int .i64 r) ∧ Below w.heap.size w w' := by
 have hu40 := Try.underlying40
 have hu33 := Try.underlying33
 have HR0_1 := Gv.a0 hr0_1
 have HC0_1 := Gv.a0 hc0_1
 clear hr0_1 hc0_1
 have HB := Gv.a0 (Below.refl w.heap.size w)
 have H : ((impl_hashOf.f k a0_0 a1_0 a1_1 a1_2 a1_3 a1_4 a1_5 a1_6 a1_7 a1_8 a1_9 a1_10 a1_11 a1_12 a1_13).bind fun t422 => (if (l0_1.length : Int) = 0 then (none) else (impl_Table_probe.l0 k (l0_1.length : Int) (Int.tmod t422 (l0_1.length : Int)) (l0_1.length : Int) 0 a0_0 l0_1 a1_0 a1_1 a1_2 a1_3 a1_4 a1_5 a1_6 a1_7 a1_8 a1_9 a1_10 a1_11 a1_12 a1_13))) = some r := h
 clear h
 replace H := Option.bind_eq_some_iff.mp H
 obtain ⟨t422, A30, H⟩ := H
 replace H : (if (l0_1.length : Int) = 0 then (none) else (impl_Table_probe.l0 k (l0_1.length : Int) (Int.tmod t422 (l0_1.length : Int)) (l0_1.length : Int) 0 a0_0 l0_1 a1_0 a1_1 a1_2 a1_3 a1_4 a1_5 a1_6 a1_7 a1_8 a1_9 a1_10 a1_11 a1_12 a1_13)) = some r := H
 have A3 := Gv.a0 A30
 clear A30
 by_cases c4 : (l0_1.length : Int) = 0
 ·rw [if_pos c4] at H
  exact absurd H (by simp)
 ·rw [if_neg c4] at H
  have c4b0 : ((l0_1.length : Int) == 0) = false := beq_eq_false_iff_ne.mpr c4
  have c4b1 : ((l0_1.length : Int) != 0) = true := bne_iff_ne.mpr c4
  have c4b2 : ¬ (l0_1 = []) := fun h_ => c4 (by rw [h_]; rfl)
  have H' := Gv.a0 H
  clear H
  go_enter Try.func58, Try.ntmps58
  go_wp2_with (first | ((with_reducible refine gate_dst (N := 2) rfl ?_); refine box_event ?hg (N := 2) ?hd (cs := #[.int .i64 a0_0, .slice A0_1 l0_1.length c0_1]) (t := 40) ?hr ?_; (case hd => rfl); (case hg => rfl); (case hr => first | (go_simp; done) | (go_simp; rfl)); intro gb420 hg w5 hbox hb; have n0_ := Gv.a0 (below_step Gv.bw hb); have n1_ := Gv.a0 (hbox); have n2_ := Gv.a0 ((Gv.ble hg Gv.bw : w.heap.size ≤ gb420)); have n3_ := Gv.a0 ((Gv.ble hg Gv.bw : w.heap.size ≤ gb420)); clear HB; have HB := n0_; have BK420 := n1_; have GW420 := n2_; have GE420 := n3_; clear n0_ n1_ n2_ n3_; clear hb hbox hg) | ((with_reducible refine gate_dst (N := 3) rfl ?_); refine box_event ?hg (N := 3) ?hd (cs := #[.int .i64 a1_0, .int .i64 a1_1, .int .i64 a1_2, .int .i64 a1_3, .int .i64 a1_4, .int .i64 a1_5, .int .i64 a1_6, .int .i64 a1_7, .int .i64 a1_8, .int .i64 a1_9, .int .i64 a1_10, .int .i64 a1_11, .int .i64 a1_12, .int .i64 a1_13]) (t := 33) ?hr ?_; (case hd => rfl); (case hg => rfl); (case hr => first | (go_simp; done) | (go_simp; rfl)); intro gb421 hg w6 hbox hb; have n0_ := Gv.a0 (Gv.bb BK420.out hb); have n1_ := Gv.a0 (below_step Gv.bw hb); have n2_ := Gv.a0 (hbox); have n3_ := Gv.a0 ((Gv.ble hg Gv.bw : w.heap.size ≤ gb421)); have n4_ := Gv.a0 ((Gv.ble hg Gv.bw : w.heap.size ≤ gb421)); have n5_ := Gv.a0 ((Gv.nlt hg (Gv.kb BK420.out) : gb420 ≠ gb421)); have n6_ := Gv.a0 ((Gv.ngt hg (Gv.kb BK420.out) : gb421 ≠ gb420)); clear BK420; clear HB; have BK420 := n0_; have HB := n1_; have BK421 := n2_; have GW421 := n3_; have GE421 := n4_; have NB420_421 := n5_; have NB421_420 := n6_; clear n0_ n1_ n2_ n3_ n4_ n5_ n6_; clear hb hbox hg; have hnb7 := NB420_421.out; have hnc7 := NB421_420.out; have hcz8_0 : w6.cell? ⟨gb420, 0, none⟩ = some (.int .i64 a0_0) := (blk_cell BK420.out 0).trans rfl; have hcz8_1 : w6.cell? ⟨gb420, 1, none⟩ = some (.slice A0_1 l0_1.length c0_1) := (blk_cell BK420.out 1).trans rfl; have hfz8_0 := blk_frozen BK420.out 0; have hfz8_1 := blk_frozen BK420.out 1; obtain ⟨hcz9_0, hcz9_1, hcz9_2, hcz9_3, hcz9_4, hcz9_5, hcz9_6, hcz9_7, hcz9_8, hcz9_9, hcz9_10, hcz9_11, hcz9_12, hcz9_13⟩ := Gv.c14 BK421.out; obtain ⟨hfz9_0, hfz9_1, hfz9_2, hfz9_3, hfz9_4, hfz9_5, hfz9_6, hfz9_7, hfz9_8, hfz9_9, hfz9_10, hfz9_11, hfz9_12, hfz9_13⟩ := Gv.f14 BK421.out) | (go_at_call 47; (with_reducible refine (impl_hashOf.calls k a0_0 a1_0 a1_1 a1_2 a1_3 a1_4 a1_5 a1_6 a1_7 a1_8 a1_9 a1_10 a1_11 a1_12 a1_13 t422 _ A3.out).mono ?_); rintro e w10 ⟨rfl, hb⟩; have n0_ := Gv.a0 (Gv.bb BK420.out hb); have n1_ := Gv.a0 (Gv.bb BK421.out hb); have n2_ := Gv.a0 (below_step Gv.bw hb); clear BK420; clear BK421; clear HB; have BK420 := n0_; have BK421 := n1_; have HB := n2_; clear n0_ n1_ n2_; (try clear hb); (try clear hb2); (try clear hk); (try clear hi)))
  repeat (go_quiet (first | ((with_reducible refine gate_dst (N := 2) rfl ?_); refine box_event ?hg (N := 2) ?hd (cs := #[.int .i64 a0_0, .slice A0_1 l0_1.length c0_1]) (t := 40) ?hr ?_; (case hd => rfl); (case hg => rfl); (case hr => first | (go_simp; done) | (go_simp; rfl)); intro gb420 hg w5 hbox hb; have n0_ := Gv.a0 (below_step Gv.bw hb); have n1_ := Gv.a0 (hbox); have n2_ := Gv.a0 ((Gv.ble hg Gv.bw : w.heap.size ≤ gb420)); have n3_ := Gv.a0 ((Gv.ble hg Gv.bw : w.heap.size ≤ gb420)); clear HB; have HB := n0_; have BK420 := n1_; have GW420 := n2_; have GE420 := n3_; clear n0_ n1_ n2_ n3_; clear hb hbox hg) | ((with_reducible refine gate_dst (N := 3) rfl ?_); refine box_event ?hg (N := 3) ?hd (cs := #[.int .i64 a1_0, .int .i64 a1_1, .int .i64 a1_2, .int .i64 a1_3, .int .i64 a1_4, .int .i64 a1_5, .int .i64 a1_6, .int .i64 a1_7, .int .i64 a1_8, .int .i64 a1_9, .int .i64 a1_10, .int .i64 a1_11, .int .i64 a1_12, .int .i64 a1_13]) (t := 33) ?hr ?_; (case hd => rfl); (case hg => rfl); (case hr => first | (go_simp; done) | (go_simp; rfl)); intro gb421 hg w6 hbox hb; have n0_ := Gv.a0 (Gv.bb BK420.out hb); have n1_ := Gv.a0 (below_step Gv.bw hb); have n2_ := Gv.a0 (hbox); have n3_ := Gv.a0 ((Gv.ble hg Gv.bw : w.heap.size ≤ gb421)); have n4_ := Gv.a0 ((Gv.ble hg Gv.bw : w.heap.size ≤ gb421)); have n5_ := Gv.a0 ((Gv.nlt hg (Gv.kb BK420.out) : gb420 ≠ gb421)); have n6_ := Gv.a0 ((Gv.ngt hg (Gv.kb BK420.out) : gb421 ≠ gb420)); clear BK420; clear HB; have BK420 := n0_; have HB := n1_; have BK421 := n2_; have GW421 := n3_; have GE421 := n4_; have NB420_421 := n5_; have NB421_420 := n6_; clear n0_ n1_ n2_ n3_ n4_ n5_ n6_; clear hb hbox hg; have hnb7 := NB420_421.out; have hnc7 := NB421_420.out; have hcz8_0 : w6.cell? ⟨gb420, 0, none⟩ = some (.int .i64 a0_0) := (blk_cell BK420.out 0).trans rfl; have hcz8_1 : w6.cell? ⟨gb420, 1, none⟩ = some (.slice A0_1 l0_1.length c0_1) := (blk_cell BK420.out 1).trans rfl; have hfz8_0 := blk_frozen BK420.out 0; have hfz8_1 := blk_frozen BK420.out 1; obtain ⟨hcz9_0, hcz9_1, hcz9_2, hcz9_3, hcz9_4, hcz9_5, hcz9_6, hcz9_7, hcz9_8, hcz9_9, hcz9_10, hcz9_11, hcz9_12, hcz9_13⟩ := Gv.c14 BK421.out; obtain ⟨hfz9_0, hfz9_1, hfz9_2, hfz9_3, hfz9_4, hfz9_5, hfz9_6, hfz9_7, hfz9_8, hfz9_9, hfz9_10, hfz9_11, hfz9_12, hfz9_13⟩ := Gv.f14 BK421.out) | (go_at_call 47; (with_reducible refine (impl_hashOf.calls k a0_0 a1_0 a1_1 a1_2 a1_3 a1_4 a1_5 a1_6 a1_7 a1_8 a1_9 a1_10 a1_11 a1_12 a1_13 t422 _ A3.out).mono ?_); rintro e w10 ⟨rfl, hb⟩; have n0_ := Gv.a0 (Gv.bb BK420.out hb); have n1_ := Gv.a0 (Gv.bb BK421.out hb); have n2_ := Gv.a0 (below_step Gv.bw hb); clear BK420; clear BK421; clear HB; have BK420 := n0_; have BK421 := n1_; have HB := n2_; clear n0_ n1_ n2_; (try clear hb); (try clear hb2); (try clear hk); (try clear hi))); try go_wp2_with (first | ((with_reducible refine gate_dst (N := 2) rfl ?_); refine box_event ?hg (N := 2) ?hd (cs := #[.int .i64 a0_0, .slice A0_1 l0_1.length c0_1]) (t := 40) ?hr ?_; (case hd => rfl); (case hg => rfl); (case hr => first | (go_simp; done) | (go_simp; rfl)); intro gb420 hg w5 hbox hb; have n0_ := Gv.a0 (below_step Gv.bw hb); have n1_ := Gv.a0 (hbox); have n2_ := Gv.a0 ((Gv.ble hg Gv.bw : w.heap.size ≤ gb420)); have n3_ := Gv.a0 ((Gv.ble hg Gv.bw : w.heap.size ≤ gb420)); clear HB; have HB := n0_; have BK420 := n1_; have GW420 := n2_; have GE420 := n3_; clear n0_ n1_ n2_ n3_; clear hb hbox hg) | ((with_reducible refine gate_dst (N := 3) rfl ?_); refine box_event ?hg (N := 3) ?hd (cs := #[.int .i64 a1_0, .int .i64 a1_1, .int .i64 a1_2, .int .i64 a1_3, .int .i64 a1_4, .int .i64 a1_5, .int .i64 a1_6, .int .i64 a1_7, .int .i64 a1_8, .int .i64 a1_9, .int .i64 a1_10, .int .i64 a1_11, .int .i64 a1_12, .int .i64 a1_13]) (t := 33) ?hr ?_; (case hd => rfl); (case hg => rfl); (case hr => first | (go_simp; done) | (go_simp; rfl)); intro gb421 hg w6 hbox hb; have n0_ := Gv.a0 (Gv.bb BK420.out hb); have n1_ := Gv.a0 (below_step Gv.bw hb); have n2_ := Gv.a0 (hbox); have n3_ := Gv.a0 ((Gv.ble hg Gv.bw : w.heap.size ≤ gb421)); have n4_ := Gv.a0 ((Gv.ble hg Gv.bw : w.heap.size ≤ gb421)); have n5_ := Gv.a0 ((Gv.nlt hg (Gv.kb BK420.out) : gb420 ≠ gb421)); have n6_ := Gv.a0 ((Gv.ngt hg (Gv.kb BK420.out) : gb421 ≠ gb420)); clear BK420; clear HB; have BK420 := n0_; have HB := n1_; have BK421 := n2_; have GW421 := n3_; have GE421 := n4_; have NB420_421 := n5_; have NB421_420 := n6_; clear n0_ n1_ n2_ n3_ n4_ n5_ n6_; clear hb hbox hg; have hnb7 := NB420_421.out; have hnc7 := NB421_420.out; have hcz8_0 : w6.cell? ⟨gb420, 0, none⟩ = some (.int .i64 a0_0) := (blk_cell BK420.out 0).trans rfl; have hcz8_1 : w6.cell? ⟨gb420, 1, none⟩ = some (.slice A0_1 l0_1.length c0_1) := (blk_cell BK420.out 1).trans rfl; have hfz8_0 := blk_frozen BK420.out 0; have hfz8_1 := blk_frozen BK420.out 1; obtain ⟨hcz9_0, hcz9_1, hcz9_2, hcz9_3, hcz9_4, hcz9_5, hcz9_6, hcz9_7, hcz9_8, hcz9_9, hcz9_10, hcz9_11, hcz9_12, hcz9_13⟩ := Gv.c14 BK421.out; obtain ⟨hfz9_0, hfz9_1, hfz9_2, hfz9_3, hfz9_4, hfz9_5, hfz9_6, hfz9_7, hfz9_8, hfz9_9, hfz9_10, hfz9_11, hfz9_12, hfz9_13⟩ := Gv.f14 BK421.out) | (go_at_call 47; (with_reducible refine (impl_hashOf.calls k a0_0 a1_0 a1_1 a1_2 a1_3 a1_4 a1_5 a1_6 a1_7 a1_8 a1_9 a1_10 a1_11 a1_12 a1_13 t422 _ A3.out).mono ?_); rintro e w10 ⟨rfl, hb⟩; have n0_ := Gv.a0 (Gv.bb BK420.out hb); have n1_ := Gv.a0 (Gv.bb BK421.out hb); have n2_ := Gv.a0 (below_step Gv.bw hb); clear BK420; clear BK421; clear HB; have BK420 := n0_; have BK421 := n1_; have HB := n2_; clear n0_ n1_ n2_; (try clear hb); (try clear hb2); (try clear hk); (try clear hi))))
  go_loopg [19] k (fun kq v19 w' => ∃ (x19_1 : Int), v19 = .int .i64 x19_1 ∧ Aside0 (impl_Table_probe.l0 kq (l0_1.length : Int) (Int.tmod t422 (l0_1.length : Int)) (l0_1.length : Int) x19_1 a0_0 l0_1 a1_0 a1_1 a1_2 a1_3 a1_4 a1_5 a1_6 a1_7 a1_8 a1_9 a1_10 a1_11 a1_12 a1_13 = some r) ∧ Aside0 (kq ≤ k) ∧ Aside0 (w'.heap[gb420]? = some (.cells #[.int .i64 a0_0, (.slice A0_1 l0_1.length c0_1)] 40 (0, 0))) ∧ Aside0 (w'.heap[gb421]? = some (.cells #[.int .i64 a1_0, .int .i64 a1_1, .int .i64 a1_2, .int .i64 a1_3, .int .i64 a1_4, .int .i64 a1_5, .int .i64 a1_6, .int .i64 a1_7, .int .i64 a1_8, .int .i64 a1_9, .int .i64 a1_10, .int .i64 a1_11, .int .i64 a1_12, .int .i64 a1_13] 33 (0, 0))) ∧ Aside0 (Below w.heap.size w w'))
  case atStart => exact ⟨(0), Gv.rq, H', ⟨Nat.le_refl _⟩, ⟨by (with_reducible repeat (first | refine blk_drewN ?_ _ | refine blk_drew ?_ | refine blk_alloc ?_ _)); exact BK420.out⟩, ⟨by (with_reducible repeat (first | refine blk_drewN ?_ _ | refine blk_drew ?_ | refine blk_alloc ?_ _)); exact BK421.out⟩, ⟨Gv.bw⟩⟩
  case round =>
   clear H'
   try clear p2
   try clear c4
   try clear c4b0
   try clear c4b1
   try clear c4b2
   try clear c5
   try clear c7
   try clear hcz8_0 hcz8_1
   try clear hcz9_0 hcz9_1
   try clear hcz9_10 hcz9_11 hcz9_12 hcz9_13
   try clear hcz9_2 hcz9_3 hcz9_4 hcz9_5 hcz9_6 hcz9_7 hcz9_8 hcz9_9
   try clear hfz8_0 hfz8_1
   try clear hfz9_0 hfz9_1
   try clear hfz9_10 hfz9_11 hfz9_12 hfz9_13
   try clear hfz9_2 hfz9_3 hfz9_4 hfz9_5 hfz9_6 hfz9_7 hfz9_8 hfz9_9
   obtain ⟨x19_1, rfl, HA, HK1, BK420, BK421, HB⟩ := hrel
   cases gk with
   | zero => exact absurd HA.out (by simp [impl_Table_probe.l0])
   | succ k1 =>
    have H := HA.out
    clear HA
    simp only [impl_Table_probe.l0] at H
    by_cases c11 : x19_1 < (l0_1.length : Int)
    ·rw [if_pos c11] at H
     have c11b0 : decide (x19_1 < (l0_1.length : Int)) = true := decide_eq_true c11
     clear c11
     by_cases c12 : (l0_1.length : Int) = 0
     ·rw [if_pos c12] at H
      exact absurd H (by simp)
     ·rw [if_neg c12] at H
      have c12b0 : ((l0_1.length : Int) == 0) = false := beq_eq_false_iff_ne.mpr c12
      have c12b1 : ((l0_1.length : Int) != 0) = true := bne_iff_ne.mpr c12
      have c12b2 : ¬ (l0_1 = []) := fun h_ => c12 (by rw [h_]; rfl)
      obtain ⟨ji13, hji13⟩ : ∃ j_ : Int, (Int.tmod (wrap64 ((Int.tmod t422 (l0_1.length : Int)) + x19_1)) (l0_1.length : Int)) = j_ := ⟨_, rfl⟩
      replace H : (if 0 ≤ (ji13) then (if (ji13) < (l0_1.length : Int) then (if ((rd_T75 l0_1 (ji13)).f0 = true) then (if (((rd_T75 l0_1 (ji13)).f1.f0) == a1_0 && (((((rd_T75 l0_1 (ji13)).f1.f1.f0.f0) == a1_1 && (((rd_T75 l0_1 (ji13)).f1.f1.f0.f1) == a1_2 && (((rd_T75 l0_1 (ji13)).f1.f1.f0.f2) == a1_3 && (((rd_T75 l0_1 (ji13)).f1.f1.f0.f3) == a1_4 && (((rd_T75 l0_1 (ji13)).f1.f1.f0.f4) == a1_5))))) && ((((rd_T75 l0_1 (ji13)).f1.f1.f1.f0) == a1_6 && (((rd_T75 l0_1 (ji13)).f1.f1.f1.f1) == a1_7 && (((rd_T75 l0_1 (ji13)).f1.f1.f1.f2) == a1_8 && (((rd_T75 l0_1 (ji13)).f1.f1.f1.f3) == a1_9 && (((rd_T75 l0_1 (ji13)).f1.f1.f1.f4) == a1_10))))) && (((rd_T75 l0_1 (ji13)).f1.f1.f2) == a1_11 && (((rd_T75 l0_1 (ji13)).f1.f1.f3) == a1_12 && (((rd_T75 l0_1 (ji13)).f1.f1.f4) == a1_13))))))) = true then (some ji13) else (impl_Table_probe.l0 k1 (l0_1.length : Int) (Int.tmod t422 (l0_1.length : Int)) (l0_1.length : Int) (wrap64 (x19_1 + 1)) a0_0 l0_1 a1_0 a1_1 a1_2 a1_3 a1_4 a1_5 a1_6 a1_7 a1_8 a1_9 a1_10 a1_11 a1_12 a1_13)) else (some ji13)) else (none)) else (none)) = some r := by first | (rw [hji13] at H; exact H) | (simp only [hji13] at H ⊢; exact H)
      by_cases c14 : 0 ≤ (ji13)
      ·rw [if_pos c14] at H
       have c14b0 : decide (0 ≤ (ji13)) = true := decide_eq_true c14
       clear c14
       by_cases c15 : (ji13) < (l0_1.length : Int)
       ·rw [if_pos c15] at H
        have c15b0 : decide ((ji13) < (l0_1.length : Int)) = true := decide_eq_true c15
        clear c15
        obtain ⟨bq16, hbq16⟩ : ∃ b_ : Bool, b_ = ((rd_T75 l0_1 (ji13)).f0) := ⟨_, rfl⟩
        replace H : (if (bq16 = true) then (if (((rd_T75 l0_1 (ji13)).f1.f0) == a1_0 && (((((rd_T75 l0_1 (ji13)).f1.f1.f0.f0) == a1_1 && (((rd_T75 l0_1 (ji13)).f1.f1.f0.f1) == a1_2 && (((rd_T75 l0_1 (ji13)).f1.f1.f0.f2) == a1_3 && (((rd_T75 l0_1 (ji13)).f1.f1.f0.f3) == a1_4 && (((rd_T75 l0_1 (ji13)).f1.f1.f0.f4) == a1_5))))) && ((((rd_T75 l0_1 (ji13)).f1.f1.f1.f0) == a1_6 && (((rd_T75 l0_1 (ji13)).f1.f1.f1.f1) == a1_7 && (((rd_T75 l0_1 (ji13)).f1.f1.f1.f2) == a1_8 && (((rd_T75 l0_1 (ji13)).f1.f1.f1.f3) == a1_9 && (((rd_T75 l0_1 (ji13)).f1.f1.f1.f4) == a1_10))))) && (((rd_T75 l0_1 (ji13)).f1.f1.f2) == a1_11 && (((rd_T75 l0_1 (ji13)).f1.f1.f3) == a1_12 && (((rd_T75 l0_1 (ji13)).f1.f1.f4) == a1_13))))))) = true then (some ji13) else (impl_Table_probe.l0 k1 (l0_1.length : Int) (Int.tmod t422 (l0_1.length : Int)) (l0_1.length : Int) (wrap64 (x19_1 + 1)) a0_0 l0_1 a1_0 a1_1 a1_2 a1_3 a1_4 a1_5 a1_6 a1_7 a1_8 a1_9 a1_10 a1_11 a1_12 a1_13)) else (some ji13)) = some r := by rw [← hbq16] at H; exact H
        have Nbq16 := Gv.a0 hbq16
        clear hbq16
        by_cases c17 : (bq16 = true)
        ·subst c17
         have H1 : (if (((rd_T75 l0_1 (ji13)).f1.f0) == a1_0 && (((((rd_T75 l0_1 (ji13)).f1.f1.f0.f0) == a1_1 && (((rd_T75 l0_1 (ji13)).f1.f1.f0.f1) == a1_2 && (((rd_T75 l0_1 (ji13)).f1.f1.f0.f2) == a1_3 && (((rd_T75 l0_1 (ji13)).f1.f1.f0.f3) == a1_4 && (((rd_T75 l0_1 (ji13)).f1.f1.f0.f4) == a1_5))))) && ((((rd_T75 l0_1 (ji13)).f1.f1.f1.f0) == a1_6 && (((rd_T75 l0_1 (ji13)).f1.f1.f1.f1) == a1_7 && (((rd_T75 l0_1 (ji13)).f1.f1.f1.f2) == a1_8 && (((rd_T75 l0_1 (ji13)).f1.f1.f1.f3) == a1_9 && (((rd_T75 l0_1 (ji13)).f1.f1.f1.f4) == a1_10))))) && (((rd_T75 l0_1 (ji13)).f1.f1.f2) == a1_11 && (((rd_T75 l0_1 (ji13)).f1.f1.f3) == a1_12 && (((rd_T75 l0_1 (ji13)).f1.f1.f4) == a1_13))))))) = true then (some ji13) else (impl_Table_probe.l0 k1 (l0_1.length : Int) (Int.tmod t422 (l0_1.length : Int)) (l0_1.length : Int) (wrap64 (x19_1 + 1)) a0_0 l0_1 a1_0 a1_1 a1_2 a1_3 a1_4 a1_5 a1_6 a1_7 a1_8 a1_9 a1_10 a1_11 a1_12 a1_13)) = some r := by rw [if_pos rfl] at H; exact H
         clear H
         have H := H1
         clear H1
         by_cases c18 : (((rd_T75 l0_1 (ji13)).f1.f0) == a1_0 && (((((rd_T75 l0_1 (ji13)).f1.f1.f0.f0) == a1_1 && (((rd_T75 l0_1 (ji13)).f1.f1.f0.f1) == a1_2 && (((rd_T75 l0_1 (ji13)).f1.f1.f0.f2) == a1_3 && (((rd_T75 l0_1 (ji13)).f1.f1.f0.f3) == a1_4 && (((rd_T75 l0_1 (ji13)).f1.f1.f0.f4) == a1_5))))) && ((((rd_T75 l0_1 (ji13)).f1.f1.f1.f0) == a1_6 && (((rd_T75 l0_1 (ji13)).f1.f1.f1.f1) == a1_7 && (((rd_T75 l0_1 (ji13)).f1.f1.f1.f2) == a1_8 && (((rd_T75 l0_1 (ji13)).f1.f1.f1.f3) == a1_9 && (((rd_T75 l0_1 (ji13)).f1.f1.f1.f4) == a1_10))))) && (((rd_T75 l0_1 (ji13)).f1.f1.f2) == a1_11 && (((rd_T75 l0_1 (ji13)).f1.f1.f3) == a1_12 && (((rd_T75 l0_1 (ji13)).f1.f1.f4) == a1_13))))))) = true
         ·rw [if_pos c18] at H
          have c18b0 : (((rd_T75 l0_1 (ji13)).f1.f0) == a1_0 && (((((rd_T75 l0_1 (ji13)).f1.f1.f0.f0) == a1_1 && (((rd_T75 l0_1 (ji13)).f1.f1.f0.f1) == a1_2 && (((rd_T75 l0_1 (ji13)).f1.f1.f0.f2) == a1_3 && (((rd_T75 l0_1 (ji13)).f1.f1.f0.f3) == a1_4 && (((rd_T75 l0_1 (ji13)).f1.f1.f0.f4) == a1_5))))) && ((((rd_T75 l0_1 (ji13)).f1.f1.f1.f0) == a1_6 && (((rd_T75 l0_1 (ji13)).f1.f1.f1.f1) == a1_7 && (((rd_T75 l0_1 (ji13)).f1.f1.f1.f2) == a1_8 && (((rd_T75 l0_1 (ji13)).f1.f1.f1.f3) == a1_9 && (((rd_T75 l0_1 (ji13)).f1.f1.f1.f4) == a1_10))))) && (((rd_T75 l0_1 (ji13)).f1.f1.f2) == a1_11 && (((rd_T75 l0_1 (ji13)).f1.f1.f3) == a1_12 && (((rd_T75 l0_1 (ji13)).f1.f1.f4) == a1_13))))))) = true := c18
          (try (have c18b1 : decide (((rd_T75 l0_1 (ji13)).f1.f0) = a1_0 && (((((rd_T75 l0_1 (ji13)).f1.f1.f0.f0) == a1_1 && (((rd_T75 l0_1 (ji13)).f1.f1.f0.f1) == a1_2 && (((rd_T75 l0_1 (ji13)).f1.f1.f0.f2) == a1_3 && (((rd_T75 l0_1 (ji13)).f1.f1.f0.f3) == a1_4 && (((rd_T75 l0_1 (ji13)).f1.f1.f0.f4) == a1_5))))) && ((((rd_T75 l0_1 (ji13)).f1.f1.f1.f0) == a1_6 && (((rd_T75 l0_1 (ji13)).f1.f1.f1.f1) == a1_7 && (((rd_T75 l0_1 (ji13)).f1.f1.f1.f2) == a1_8 && (((rd_T75 l0_1 (ji13)).f1.f1.f1.f3) == a1_9 && (((rd_T75 l0_1 (ji13)).f1.f1.f1.f4) == a1_10))))) && (((rd_T75 l0_1 (ji13)).f1.f1.f2) == a1_11 && (((rd_T75 l0_1 (ji13)).f1.f1.f3) == a1_12 && (((rd_T75 l0_1 (ji13)).f1.f1.f4) == a1_13))))))) = true := by simpa using c18))
          (try (have c18b2 : (((rd_T75 l0_1 (ji13)).f1.f0) == a1_0 && (((((rd_T75 l0_1 (ji13)).f1.f1.f0.f0) == a1_1 && (((rd_T75 l0_1 (ji13)).f1.f1.f0.f1) == a1_2 && (((rd_T75 l0_1 (ji13)).f1.f1.f0.f2) == a1_3 && (((rd_T75 l0_1 (ji13)).f1.f1.f0.f3) == a1_4 && (((rd_T75 l0_1 (ji13)).f1.f1.f0.f4) == a1_5))))) && ((((rd_T75 l0_1 (ji13)).f1.f1.f1.f0) == a1_6 && (((rd_T75 l0_1 (ji13)).f1.f1.f1.f1) == a1_7 && (((rd_T75 l0_1 (ji13)).f1.f1.f1.f2) == a1_8 && (((rd_T75 l0_1 (ji13)).f1.f1.f1.f3) == a1_9 && (((rd_T75 l0_1 (ji13)).f1.f1.f1.f4) == a1_10))))) && (((rd_T75 l0_1 (ji13)).f1.f1.f2) == a1_11 && (((rd_T75 l0_1 (ji13)).f1.f1.f3) == a1_12 && (((rd_T75 l0_1 (ji13)).f1.f1.f4) == a1_13))))))) = true := by simpa using c18))
          clear c18
          obtain rfl := Option.some.inj H
          have hnb19 := NB420_421.out
          have hnc19 := NB421_420.out
          have hcz20_0 : wr.cell? ⟨gb420, 0, none⟩ = some (.int .i64 a0_0) := (blk_cell BK420.out 0).trans rfl
          have hcz20_1 : wr.cell? ⟨gb420, 1, none⟩ = some (.slice A0_1 l0_1.length c0_1) := (blk_cell BK420.out 1).trans rfl
          have hfz20_0 := blk_frozen BK420.out 0
          have hfz20_1 := blk_frozen BK420.out 1
          have p423 : 0 ≤ ((ji13) : Int) := of_decide_eq_true (by first | (with_reducible assumption) | assumption)
          have q423 : (ji13) < (l0_1.length : Int) := of_decide_eq_true (by first | (with_reducible assumption) | assumption)
          obtain ⟨ad423, e423, hx423_0, _, _, _, _, _, _, _, _, _, _, _, _, _, _, _⟩ := at_T75 HR0_1.out (ji13) p423 q423
          (try rw [← Nbq16.out] at hx423_0)
          cases e423
          replace hx423_0 := Gv.bx HB.out hx423_0
          replace p423 := eq_true p423
          replace q423 := eq_true q423
          have p424 : 0 ≤ ((ji13) : Int) := of_decide_eq_true (by first | (with_reducible assumption) | assumption)
          have q424 : (ji13) < (l0_1.length : Int) := of_decide_eq_true (by first | (with_reducible assumption) | assumption)
          obtain ⟨ad424, e424, hx424_0, hx424_1, hx424_2, hx424_3, hx424_4, hx424_5, hx424_6, hx424_7, hx424_8, hx424_9, hx424_10, hx424_11, hx424_12, hx424_13, hx424_14, _⟩ := at_T75 HR0_1.out (ji13) p424 q424
          (try rw [← Nbq16.out] at hx424_0)
          obtain rfl : ad423 = ad424 := (by injection e424)
          replace hx424_0 := Gv.bx HB.out hx424_0
          replace hx424_1 := Gv.bx HB.out hx424_1
          replace hx424_2 := Gv.bx HB.out hx424_2
          replace hx424_3 := Gv.bx HB.out hx424_3
          replace hx424_4 := Gv.bx HB.out hx424_4
          replace hx424_5 := Gv.bx HB.out hx424_5
          replace hx424_6 := Gv.bx HB.out hx424_6
          replace hx424_7 := Gv.bx HB.out hx424_7
          replace hx424_8 := Gv.bx HB.out hx424_8
          replace hx424_9 := Gv.bx HB.out hx424_9
          replace hx424_10 := Gv.bx HB.out hx424_10
          replace hx424_11 := Gv.bx HB.out hx424_11
          replace hx424_12 := Gv.bx HB.out hx424_12
          replace hx424_13 := Gv.bx HB.out hx424_13
          replace hx424_14 := Gv.bx HB.out hx424_14
          replace p424 := eq_true p424
          replace q424 := eq_true q424
          obtain ⟨hcz21_0, hcz21_1, hcz21_2, hcz21_3, hcz21_4, hcz21_5, hcz21_6, hcz21_7, hcz21_8, hcz21_9, hcz21_10, hcz21_11, hcz21_12, hcz21_13⟩ := Gv.c14 BK421.out
          obtain ⟨hfz21_0, hfz21_1, hfz21_2, hfz21_3, hfz21_4, hfz21_5, hfz21_6, hfz21_7, hfz21_8, hfz21_9, hfz21_10, hfz21_11, hfz21_12, hfz21_13⟩ := Gv.f14 BK421.out
          go_wp2
          repeat (go_quiet (fail); try go_wp2)
          go_ret
          exact ⟨by first | rfl | (simp [errW_none, errW_some] <;> rfl) | (simp only [← hji13]; first | rfl | (simp [errW_none, errW_some] <;> rfl)) | (simp [*, errW_none, errW_some] <;> rfl), Gv.bw⟩
         ·rw [if_neg c18] at H
          have c18b0 : (((rd_T75 l0_1 (ji13)).f1.f0) == a1_0 && (((((rd_T75 l0_1 (ji13)).f1.f1.f0.f0) == a1_1 && (((rd_T75 l0_1 (ji13)).f1.f1.f0.f1) == a1_2 && (((rd_T75 l0_1 (ji13)).f1.f1.f0.f2) == a1_3 && (((rd_T75 l0_1 (ji13)).f1.f1.f0.f3) == a1_4 && (((rd_T75 l0_1 (ji13)).f1.f1.f0.f4) == a1_5))))) && ((((rd_T75 l0_1 (ji13)).f1.f1.f1.f0) == a1_6 && (((rd_T75 l0_1 (ji13)).f1.f1.f1.f1) == a1_7 && (((rd_T75 l0_1 (ji13)).f1.f1.f1.f2) == a1_8 && (((rd_T75 l0_1 (ji13)).f1.f1.f1.f3) == a1_9 && (((rd_T75 l0_1 (ji13)).f1.f1.f1.f4) == a1_10))))) && (((rd_T75 l0_1 (ji13)).f1.f1.f2) == a1_11 && (((rd_T75 l0_1 (ji13)).f1.f1.f3) == a1_12 && (((rd_T75 l0_1 (ji13)).f1.f1.f4) == a1_13))))))) = false := by simpa using c18
          (try (have c18b1 : decide (((rd_T75 l0_1 (ji13)).f1.f0) = a1_0 && (((((rd_T75 l0_1 (ji13)).f1.f1.f0.f0) == a1_1 && (((rd_T75 l0_1 (ji13)).f1.f1.f0.f1) == a1_2 && (((rd_T75 l0_1 (ji13)).f1.f1.f0.f2) == a1_3 && (((rd_T75 l0_1 (ji13)).f1.f1.f0.f3) == a1_4 && (((rd_T75 l0_1 (ji13)).f1.f1.f0.f4) == a1_5))))) && ((((rd_T75 l0_1 (ji13)).f1.f1.f1.f0) == a1_6 && (((rd_T75 l0_1 (ji13)).f1.f1.f1.f1) == a1_7 && (((rd_T75 l0_1 (ji13)).f1.f1.f1.f2) == a1_8 && (((rd_T75 l0_1 (ji13)).f1.f1.f1.f3) == a1_9 && (((rd_T75 l0_1 (ji13)).f1.f1.f1.f4) == a1_10))))) && (((rd_T75 l0_1 (ji13)).f1.f1.f2) == a1_11 && (((rd_T75 l0_1 (ji13)).f1.f1.f3) == a1_12 && (((rd_T75 l0_1 (ji13)).f1.f1.f4) == a1_13))))))) = false := by simpa using c18))
          (try (have c18b2 : (((rd_T75 l0_1 (ji13)).f1.f0) == a1_0 && (((((rd_T75 l0_1 (ji13)).f1.f1.f0.f0) == a1_1 && (((rd_T75 l0_1 (ji13)).f1.f1.f0.f1) == a1_2 && (((rd_T75 l0_1 (ji13)).f1.f1.f0.f2) == a1_3 && (((rd_T75 l0_1 (ji13)).f1.f1.f0.f3) == a1_4 && (((rd_T75 l0_1 (ji13)).f1.f1.f0.f4) == a1_5))))) && ((((rd_T75 l0_1 (ji13)).f1.f1.f1.f0) == a1_6 && (((rd_T75 l0_1 (ji13)).f1.f1.f1.f1) == a1_7 && (((rd_T75 l0_1 (ji13)).f1.f1.f1.f2) == a1_8 && (((rd_T75 l0_1 (ji13)).f1.f1.f1.f3) == a1_9 && (((rd_T75 l0_1 (ji13)).f1.f1.f1.f4) == a1_10))))) && (((rd_T75 l0_1 (ji13)).f1.f1.f2) == a1_11 && (((rd_T75 l0_1 (ji13)).f1.f1.f3) == a1_12 && (((rd_T75 l0_1 (ji13)).f1.f1.f4) == a1_13))))))) = false := by simpa using c18))
          (try (have c18b3 : ¬ (((rd_T75 l0_1 (ji13)).f1.f0) = a1_0 && (((((rd_T75 l0_1 (ji13)).f1.f1.f0.f0) == a1_1 && (((rd_T75 l0_1 (ji13)).f1.f1.f0.f1) == a1_2 && (((rd_T75 l0_1 (ji13)).f1.f1.f0.f2) == a1_3 && (((rd_T75 l0_1 (ji13)).f1.f1.f0.f3) == a1_4 && (((rd_T75 l0_1 (ji13)).f1.f1.f0.f4) == a1_5))))) && ((((rd_T75 l0_1 (ji13)).f1.f1.f1.f0) == a1_6 && (((rd_T75 l0_1 (ji13)).f1.f1.f1.f1) == a1_7 && (((rd_T75 l0_1 (ji13)).f1.f1.f1.f2) == a1_8 && (((rd_T75 l0_1 (ji13)).f1.f1.f1.f3) == a1_9 && (((rd_T75 l0_1 (ji13)).f1.f1.f1.f4) == a1_10))))) && (((rd_T75 l0_1 (ji13)).f1.f1.f2) == a1_11 && (((rd_T75 l0_1 (ji13)).f1.f1.f3) == a1_12 && (((rd_T75 l0_1 (ji13)).f1.f1.f4) == a1_13))))))) := by simpa using c18))
          clear c18
          have H' := Gv.a0 H
          clear H
          have hnb22 := NB420_421.out
          have hnc22 := NB421_420.out
          have hcz23_0 : wr.cell? ⟨gb420, 0, none⟩ = some (.int .i64 a0_0) := (blk_cell BK420.out 0).trans rfl
          have hcz23_1 : wr.cell? ⟨gb420, 1, none⟩ = some (.slice A0_1 l0_1.length c0_1) := (blk_cell BK420.out 1).trans rfl
          have hfz23_0 := blk_frozen BK420.out 0
          have hfz23_1 := blk_frozen BK420.out 1
          have p423 : 0 ≤ ((ji13) : Int) := of_decide_eq_true (by first | (with_reducible assumption) | assumption)
          have q423 : (ji13) < (l0_1.length : Int) := of_decide_eq_true (by first | (with_reducible assumption) | assumption)
          obtain ⟨ad423, e423, hx423_0, _, _, _, _, _, _, _, _, _, _, _, _, _, _, _⟩ := at_T75 HR0_1.out (ji13) p423 q423
          (try rw [← Nbq16.out] at hx423_0)
          cases e423
          replace hx423_0 := Gv.bx HB.out hx423_0
          replace p423 := eq_true p423
          replace q423 := eq_true q423
          have p424 : 0 ≤ ((ji13) : Int) := of_decide_eq_true (by first | (with_reducible assumption) | assumption)
          have q424 : (ji13) < (l0_1.length : Int) := of_decide_eq_true (by first | (with_reducible assumption) | assumption)
          obtain ⟨ad424, e424, hx424_0, hx424_1, hx424_2, hx424_3, hx424_4, hx424_5, hx424_6, hx424_7, hx424_8, hx424_9, hx424_10, hx424_11, hx424_12, hx424_13, hx424_14, _⟩ := at_T75 HR0_1.out (ji13) p424 q424
          (try rw [← Nbq16.out] at hx424_0)
          obtain rfl : ad423 = ad424 := (by injection e424)
          replace hx424_0 := Gv.bx HB.out hx424_0
          replace hx424_1 := Gv.bx HB.out hx424_1
          replace hx424_2 := Gv.bx HB.out hx424_2
          replace hx424_3 := Gv.bx HB.out hx424_3
          replace hx424_4 := Gv.bx HB.out hx424_4
          replace hx424_5 := Gv.bx HB.out hx424_5
          replace hx424_6 := Gv.bx HB.out hx424_6
          replace hx424_7 := Gv.bx HB.out hx424_7
          replace hx424_8 := Gv.bx HB.out hx424_8
          replace hx424_9 := Gv.bx HB.out hx424_9
          replace hx424_10 := Gv.bx HB.out hx424_10
          replace hx424_11 := Gv.bx HB.out hx424_11
          replace hx424_12 := Gv.bx HB.out hx424_12
          replace hx424_13 := Gv.bx HB.out hx424_13
          replace hx424_14 := Gv.bx HB.out hx424_14
          replace p424 := eq_true p424
          replace q424 := eq_true q424
          obtain ⟨hcz24_0, hcz24_1, hcz24_2, hcz24_3, hcz24_4, hcz24_5, hcz24_6, hcz24_7, hcz24_8, hcz24_9, hcz24_10, hcz24_11, hcz24_12, hcz24_13⟩ := Gv.c14 BK421.out
          obtain ⟨hfz24_0, hfz24_1, hfz24_2, hfz24_3, hfz24_4, hfz24_5, hfz24_6, hfz24_7, hfz24_8, hfz24_9, hfz24_10, hfz24_11, hfz24_12, hfz24_13⟩ := Gv.f14 BK421.out
          go_wp2
          repeat (go_quiet (fail); try go_wp2)
          go_roundg k1
          case measure => have := HK1.out; omega
          case rel => exact ⟨(wrap64 (x19_1 + 1)), Gv.rq, H', ⟨by have := HK1.out; omega⟩, ⟨by (with_reducible repeat (first | refine blk_drewN ?_ _ | refine blk_drew ?_ | refine blk_alloc ?_ _)); exact BK420.out⟩, ⟨by (with_reducible repeat (first | refine blk_drewN ?_ _ | refine blk_drew ?_ | refine blk_alloc ?_ _)); exact BK421.out⟩, ⟨Gv.bw⟩⟩
        ·replace c17 := Bool.eq_false_iff.mpr c17
         subst c17
         have H1 : (some ji13) = some r := by rw [if_neg (show ¬ (false = true) by decide)] at H; exact H
         clear H
         have H := H1
         clear H1
         obtain rfl := Option.some.inj H
         have hnb25 := NB420_421.out
         have hnc25 := NB421_420.out
         have hcz26_0 : wr.cell? ⟨gb420, 0, none⟩ = some (.int .i64 a0_0) := (blk_cell BK420.out 0).trans rfl
         have hcz26_1 : wr.cell? ⟨gb420, 1, none⟩ = some (.slice A0_1 l0_1.length c0_1) := (blk_cell BK420.out 1).trans rfl
         have hfz26_0 := blk_frozen BK420.out 0
         have hfz26_1 := blk_frozen BK420.out 1
         have p423 : 0 ≤ ((ji13) : Int) := of_decide_eq_true (by first | (with_reducible assumption) | assumption)
         have q423 : (ji13) < (l0_1.length : Int) := of_decide_eq_true (by first | (with_reducible assumption) | assumption)
         obtain ⟨ad423, e423, hx423_0, _, _, _, _, _, _, _, _, _, _, _, _, _, _, _⟩ := at_T75 HR0_1.out (ji13) p423 q423
         (try rw [← Nbq16.out] at hx423_0)
         cases e423
         replace hx423_0 := Gv.bx HB.out hx423_0
         replace p423 := eq_true p423
         replace q423 := eq_true q423
         go_wp2
         repeat (go_quiet (fail); try go_wp2)
         go_ret
         exact ⟨by first | rfl | (simp [errW_none, errW_some] <;> rfl) | (simp only [← hji13]; first | rfl | (simp [errW_none, errW_some] <;> rfl)) | (simp [*, errW_none, errW_some] <;> rfl), Gv.bw⟩
       ·rw [if_neg c15] at H
        exact absurd H (by simp)
      ·rw [if_neg c14] at H
       exact absurd H (by simp)
    ·rw [if_neg c11] at H
     have c11b0 : decide (x19_1 < (l0_1.length : Int)) = false := decide_eq_false c11
     clear c11
     obtain rfl := Option.some.inj H
     go_wp2
     repeat (go_quiet (fail); try go_wp2)
     go_ret
     exact ⟨Gv.rt, Gv.bw⟩

end Go.Proofs.Ytfnpodebjejhpaa.PTk
