/- Plain Lean functions of a law's Go functions, their contracts, by a program of this session (wip/pr.py over the kit's print). -/
import Derived.Test.YtfnpodebjejhpaaPTpx0
import Derived.Test.YtfnpodebjejhpaaPTpx2
import Derived.Test.YtfnpodebjejhpaaPTpx3
import Derived.Test.YtfnpodebjejhpaaPTpx4
namespace Go.Proofs.Ytfnpodebjejhpaa.PTp
open Go.RowKit Go.Proofs.YtfnpodebjejhpaaW.PrintWords Go.Proofs.YtfnpodebjejhpaaW.PrintLast Go.Proofs.YtfnpodebjejhpaaW.PrintMore
attribute [local go_sem] max2_int min2_int max_two min_two max_three min_three max_four min_four   -- for this text's walks alone
set_option linter.unusedVariables false
set_option linter.unusedSimpArgs false

attribute [local go_sem high] eqA75
/-! ### spec_TableOk: function 24 -/
mutual
def spec_TableOk.j0 : Nat → Int → Bool → Int → List (S75) → Option (Bool)
 | 0, _, _, _, _ => none
 | k + 1, x3, x37, x307000, x307001 => if x37 = true then (some false) else ((spec_l11Count.f k x307000 x307001).bind fun t307 => (if (wrap64 (4 * t307)) > (wrap64 (3 * x3)) then (some false) else (spec_TableOk.l0 k x3 0 x307000 x307001)))
def spec_TableOk.l0 : Nat → Int → Int → Int → List (S75) → Option (Bool)
 | 0, _, _, _, _ => none
 | k + 1, x3, x4, x307000, x307001 => if x4 < x3 then (if 0 ≤ x4 then (if x4 < (x307001.length : Int) then (if ((rd_T75 x307001 x4).f0 = true) then ((spec_FlowKeyOk.f ((rd_T75 x307001 x4).f1.f0) ((rd_T75 x307001 x4).f1.f1.f0.f0) ((rd_T75 x307001 x4).f1.f1.f0.f1) ((rd_T75 x307001 x4).f1.f1.f0.f2) ((rd_T75 x307001 x4).f1.f1.f0.f3) ((rd_T75 x307001 x4).f1.f1.f0.f4) ((rd_T75 x307001 x4).f1.f1.f1.f0) ((rd_T75 x307001 x4).f1.f1.f1.f1) ((rd_T75 x307001 x4).f1.f1.f1.f2) ((rd_T75 x307001 x4).f1.f1.f1.f3) ((rd_T75 x307001 x4).f1.f1.f1.f4) ((rd_T75 x307001 x4).f1.f1.f2) ((rd_T75 x307001 x4).f1.f1.f3) ((rd_T75 x307001 x4).f1.f1.f4)).bind fun t310 => (if t310 = true then (if ((rd_T75 x307001 x4).f2) < 0 then (spec_TableOk.j2 k x3 x4 true x307000 x307001 ((rd_T75 x307001 x4).f0) ((rd_T75 x307001 x4).f1.f0) ((rd_T75 x307001 x4).f1.f1.f0.f0) ((rd_T75 x307001 x4).f1.f1.f0.f1) ((rd_T75 x307001 x4).f1.f1.f0.f2) ((rd_T75 x307001 x4).f1.f1.f0.f3) ((rd_T75 x307001 x4).f1.f1.f0.f4) ((rd_T75 x307001 x4).f1.f1.f1.f0) ((rd_T75 x307001 x4).f1.f1.f1.f1) ((rd_T75 x307001 x4).f1.f1.f1.f2) ((rd_T75 x307001 x4).f1.f1.f1.f3) ((rd_T75 x307001 x4).f1.f1.f1.f4) ((rd_T75 x307001 x4).f1.f1.f2) ((rd_T75 x307001 x4).f1.f1.f3) ((rd_T75 x307001 x4).f1.f1.f4) ((rd_T75 x307001 x4).f2)) else (if ((rd_T75 x307001 x4).f2) > 1000000000000 then (spec_TableOk.j2 k x3 x4 true x307000 x307001 ((rd_T75 x307001 x4).f0) ((rd_T75 x307001 x4).f1.f0) ((rd_T75 x307001 x4).f1.f1.f0.f0) ((rd_T75 x307001 x4).f1.f1.f0.f1) ((rd_T75 x307001 x4).f1.f1.f0.f2) ((rd_T75 x307001 x4).f1.f1.f0.f3) ((rd_T75 x307001 x4).f1.f1.f0.f4) ((rd_T75 x307001 x4).f1.f1.f1.f0) ((rd_T75 x307001 x4).f1.f1.f1.f1) ((rd_T75 x307001 x4).f1.f1.f1.f2) ((rd_T75 x307001 x4).f1.f1.f1.f3) ((rd_T75 x307001 x4).f1.f1.f1.f4) ((rd_T75 x307001 x4).f1.f1.f2) ((rd_T75 x307001 x4).f1.f1.f3) ((rd_T75 x307001 x4).f1.f1.f4) ((rd_T75 x307001 x4).f2)) else ((spec_l11Place.f k x307000 x307001 ((rd_T75 x307001 x4).f1.f0) ((rd_T75 x307001 x4).f1.f1.f0.f0) ((rd_T75 x307001 x4).f1.f1.f0.f1) ((rd_T75 x307001 x4).f1.f1.f0.f2) ((rd_T75 x307001 x4).f1.f1.f0.f3) ((rd_T75 x307001 x4).f1.f1.f0.f4) ((rd_T75 x307001 x4).f1.f1.f1.f0) ((rd_T75 x307001 x4).f1.f1.f1.f1) ((rd_T75 x307001 x4).f1.f1.f1.f2) ((rd_T75 x307001 x4).f1.f1.f1.f3) ((rd_T75 x307001 x4).f1.f1.f1.f4) ((rd_T75 x307001 x4).f1.f1.f2) ((rd_T75 x307001 x4).f1.f1.f3) ((rd_T75 x307001 x4).f1.f1.f4)).bind fun t311 => (spec_TableOk.j2 k x3 x4 (t311 != x4) x307000 x307001 ((rd_T75 x307001 x4).f0) ((rd_T75 x307001 x4).f1.f0) ((rd_T75 x307001 x4).f1.f1.f0.f0) ((rd_T75 x307001 x4).f1.f1.f0.f1) ((rd_T75 x307001 x4).f1.f1.f0.f2) ((rd_T75 x307001 x4).f1.f1.f0.f3) ((rd_T75 x307001 x4).f1.f1.f0.f4) ((rd_T75 x307001 x4).f1.f1.f1.f0) ((rd_T75 x307001 x4).f1.f1.f1.f1) ((rd_T75 x307001 x4).f1.f1.f1.f2) ((rd_T75 x307001 x4).f1.f1.f1.f3) ((rd_T75 x307001 x4).f1.f1.f1.f4) ((rd_T75 x307001 x4).f1.f1.f2) ((rd_T75 x307001 x4).f1.f1.f3) ((rd_T75 x307001 x4).f1.f1.f4) ((rd_T75 x307001 x4).f2))))) else (spec_TableOk.j2 k x3 x4 true x307000 x307001 ((rd_T75 x307001 x4).f0) ((rd_T75 x307001 x4).f1.f0) ((rd_T75 x307001 x4).f1.f1.f0.f0) ((rd_T75 x307001 x4).f1.f1.f0.f1) ((rd_T75 x307001 x4).f1.f1.f0.f2) ((rd_T75 x307001 x4).f1.f1.f0.f3) ((rd_T75 x307001 x4).f1.f1.f0.f4) ((rd_T75 x307001 x4).f1.f1.f1.f0) ((rd_T75 x307001 x4).f1.f1.f1.f1) ((rd_T75 x307001 x4).f1.f1.f1.f2) ((rd_T75 x307001 x4).f1.f1.f1.f3) ((rd_T75 x307001 x4).f1.f1.f1.f4) ((rd_T75 x307001 x4).f1.f1.f2) ((rd_T75 x307001 x4).f1.f1.f3) ((rd_T75 x307001 x4).f1.f1.f4) ((rd_T75 x307001 x4).f2)))) else (if (((rd_T75 x307001 x4).f0) || ((!(((rd_T75 x307001 x4).f1.f0) == 0) || (((!(((rd_T75 x307001 x4).f1.f1.f0.f0) == 0) || (!(((rd_T75 x307001 x4).f1.f1.f0.f1) == 0) || (!(((rd_T75 x307001 x4).f1.f1.f0.f2) == 0) || (!(((rd_T75 x307001 x4).f1.f1.f0.f3) == 0) || (!(((rd_T75 x307001 x4).f1.f1.f0.f4) == 0)))))) || ((!(((rd_T75 x307001 x4).f1.f1.f1.f0) == 0) || (!(((rd_T75 x307001 x4).f1.f1.f1.f1) == 0) || (!(((rd_T75 x307001 x4).f1.f1.f1.f2) == 0) || (!(((rd_T75 x307001 x4).f1.f1.f1.f3) == 0) || (!(((rd_T75 x307001 x4).f1.f1.f1.f4) == 0)))))) || (!(((rd_T75 x307001 x4).f1.f1.f2) == 0) || (!(((rd_T75 x307001 x4).f1.f1.f3) == 0) || (!(((rd_T75 x307001 x4).f1.f1.f4) == 0)))))))) || (!(((rd_T75 x307001 x4).f2) == 0)))) = true then (some false) else (spec_TableOk.l0 k x3 (wrap64 (x4 + 1)) x307000 x307001))) else (none)) else (none)) else (some true)
def spec_TableOk.j2 : Nat → Int → Int → Bool → Int → List (S75) → Bool → Int → Int → Int → Int → Int → Int → Int → Int → Int → Int → Int → Int → Int → Int → Int → Option (Bool)
 | 0, _, _, _, _, _, _, _, _, _, _, _, _, _, _, _, _, _, _, _, _, _ => none
 | k + 1, x3, x4, x81, x307000, x307001, x310000, x310001, x310002, x310003, x310004, x310005, x310006, x310007, x310008, x310009, x310010, x310011, x310012, x310013, x310014, x310015 => if x81 = true then (some false) else ((spec_l11Home.f k x307000 x307001 x310001 x310002 x310003 x310004 x310005 x310006 x310007 x310008 x310009 x310010 x310011 x310012 x310013 x310014).bind fun t312 => (spec_TableOk.l1 k x3 x4 t312 x307000 x307001))
def spec_TableOk.l1 : Nat → Int → Int → Int → Int → List (S75) → Option (Bool)
 | 0, _, _, _, _, _ => none
 | k + 1, x3, x4, x6, x307000, x307001 => if x6 = x4 then (spec_TableOk.l0 k x3 (wrap64 (x4 + 1)) x307000 x307001) else (if 0 ≤ x6 then (if x6 < (x307001.length : Int) then (if ((rd_T75 x307001 x6).f0 = true) then (if x3 = 0 then (none) else (spec_TableOk.l1 k x3 x4 (Int.tmod (wrap64 (x6 + 1)) x3) x307000 x307001)) else (some false)) else (none)) else (none))
end
def spec_TableOk.f (k : Nat) (a0_0 : Int) (l0_1 : List (S75)) : Option (Bool) := if a0_0 < 0 then (spec_TableOk.j0 k (l0_1.length : Int) true a0_0 l0_1) else (if a0_0 > 4294967295 then (spec_TableOk.j0 k (l0_1.length : Int) true a0_0 l0_1) else (if (l0_1.length : Int) = 4 then (spec_TableOk.j0 k (l0_1.length : Int) false a0_0 l0_1) else (if (l0_1.length : Int) = 8 then (spec_TableOk.j0 k (l0_1.length : Int) false a0_0 l0_1) else (if (l0_1.length : Int) = 16 then (spec_TableOk.j0 k (l0_1.length : Int) false a0_0 l0_1) else (if (l0_1.length : Int) = 32 then (spec_TableOk.j0 k (l0_1.length : Int) false a0_0 l0_1) else (spec_TableOk.j0 k (l0_1.length : Int) ((l0_1.length : Int) != 64) a0_0 l0_1))))))
set_option maxHeartbeats 8000000 in
set_option maxRecDepth 100000 in
theorem spec_TableOk.calls (k : Nat) (a0_0 : Int) (A0_1 : Option Addr) (c0_1 : Nat) (l0_1 : List (S75)) (r : Bool) (w : World) (hr0_1 : Kd.C k75 w A0_1 l0_1.length l0_1) (hc0_1 : l0_1.length ≤ c0_1) (h : spec_TableOk.f k a0_0 l0_1 = some r) :
  Calls Try.prog 24 #[.agg #[.int .i64 a0_0, .slice A0_1 l0_1.length c0_1]] w fun e w' => e = .returned (.bool r) ∧ Below w.heap.size w w' := by
 have hu40 := Try.underlying40
 have hu75 := Try.underlying75
 have hu33 := Try.underlying33
 have HR0_1 := Gv.a0 hr0_1
 have HC0_1 := Gv.a0 hc0_1
 clear hr0_1 hc0_1
 have HB := Gv.a0 (Below.refl w.heap.size w)
 have H : (if a0_0 < 0 then (spec_TableOk.j0 k (l0_1.length : Int) true a0_0 l0_1) else (if a0_0 > 4294967295 then (spec_TableOk.j0 k (l0_1.length : Int) true a0_0 l0_1) else (if (l0_1.length : Int) = 4 then (spec_TableOk.j0 k (l0_1.length : Int) false a0_0 l0_1) else (if (l0_1.length : Int) = 8 then (spec_TableOk.j0 k (l0_1.length : Int) false a0_0 l0_1) else (if (l0_1.length : Int) = 16 then (spec_TableOk.j0 k (l0_1.length : Int) false a0_0 l0_1) else (if (l0_1.length : Int) = 32 then (spec_TableOk.j0 k (l0_1.length : Int) false a0_0 l0_1) else (spec_TableOk.j0 k (l0_1.length : Int) ((l0_1.length : Int) != 64) a0_0 l0_1))))))) = some r := h
 clear h
 have HC2 := Gv.a0 H
 clear H
 go_enter Try.func24, Try.ntmps24
 go_upto_region 2 with (first | ((with_reducible refine gate_dst (N := 1) rfl ?_); refine Gv.bev 1 40 #[.int .i64 a0_0, .slice A0_1 l0_1.length c0_1] ?_; intro gb306 hg w3 hbox hb; have BK306 := Gv.a0 (hbox); have GW306 := Gv.a0 ((Gv.ble hg Gv.bw : w.heap.size ≤ gb306)); have GE306 := Gv.a0 ((Gv.ble hg Gv.bw : w.heap.size ≤ gb306)); replace HB := Gv.a0 (below_step Gv.bw hb); clear hb hbox hg; have hcz4_0 : w3.cell? ⟨gb306, 0, none⟩ = some (.int .i64 a0_0) := (blk_cell BK306.out 0).trans rfl; have hcz4_1 : w3.cell? ⟨gb306, 1, none⟩ = some (.slice A0_1 l0_1.length c0_1) := (blk_cell BK306.out 1).trans rfl; have hfz4_0 := blk_frozen BK306.out 0; have hfz4_1 := blk_frozen BK306.out 1) | ((with_reducible refine gate_store (t := 40) (p := 1) rfl ?_); refine Gv.store_event rfl rfl rfl rfl rfl (Gv.kb BK306.out) (by kernel_rfl) rfl (by simp; and_intros <;> rfl) ?_; intro w3s hbox hoth hbel; replace BK306 := Gv.a0 (hbox); replace HB := Gv.a0 (hbel w Gv.bw GE306.out); clear hbox hoth hbel; (try clear hcz4_0 hcz4_1 hfz4_0 hfz4_1); have hcz4_0 : w3s.cell? ⟨gb306, 0, none⟩ = some (.int .i64 a0_0) := (blk_cell BK306.out 0).trans rfl; have hcz4_1 : w3s.cell? ⟨gb306, 1, none⟩ = some (.slice A0_1 l0_1.length c0_1) := (blk_cell BK306.out 1).trans rfl; have hfz4_0 := blk_frozen BK306.out 0; have hfz4_1 := blk_frozen BK306.out 1) | ((with_reducible refine Gv.gate_load (t := 75) rfl ?_); (try (refine gate_guard (by rfl) ?_; dsimp only)); refine wpList_load_row rfl 75 _ rfl gb309 rfl 75 _ _ _ (by first | exact Gv.kb0 BK309.out | exact Gv.kb1 (Gv.kb0 BK309.out)) Try.underlying75 rfl (by kernel_rfl) ?_))
 (try simp only [Act.put, List.setIfInBounds_toArray, List.set_cons_zero, List.set_cons_succ])
 go_cut [37] (fun v37 wc => ∃ (kq : Nat) (x37_1 : Bool), v37 = .bool x37_1 ∧ Aside0 (spec_TableOk.j0 kq (l0_1.length : Int) x37_1 a0_0 l0_1 = some r) ∧ Aside0 (kq ≤ k) ∧ Aside0 (wc.heap[gb306]? = some (.cells #[.int .i64 a0_0, (.slice A0_1 l0_1.length c0_1)] 40 (0, 0))) ∧ Aside0 (Below w.heap.size w wc))
 case first =>
  have H := HC2.out
  clear HC2
  by_cases c5 : a0_0 < 0
  ·rw [if_pos c5] at H
   have c5b0 : decide (a0_0 < 0) = true := decide_eq_true c5
   clear c5
   (first | rw [c5b0] | (simp only [i64_w, i32_w]; rw [c5b0]) | skip)
   have H' := Gv.a0 H
   clear H
   have hcz6_0 : w3.cell? ⟨gb306, 0, none⟩ = some (.int .i64 a0_0) := (blk_cell BK306.out 0).trans rfl
   have hcz6_1 : w3.cell? ⟨gb306, 1, none⟩ = some (.slice A0_1 l0_1.length c0_1) := (blk_cell BK306.out 1).trans rfl
   have hfz6_0 := blk_frozen BK306.out 0
   have hfz6_1 := blk_frozen BK306.out 1
   go_wp2_with (first | ((with_reducible refine Gv.gate_load (t := 75) rfl ?_); (try (refine gate_guard (by rfl) ?_; dsimp only)); refine wpList_load_row rfl 75 _ rfl gb309 rfl 75 _ _ _ (by first | exact Gv.kb0 BK309.out | exact Gv.kb1 (Gv.kb0 BK309.out)) Try.underlying75 rfl (by kernel_rfl) ?_))
   go_meet
   case rel => exact ⟨_, (true), Gv.rq, H', ⟨by first | omega | exact Nat.le_refl _⟩, ⟨by (with_reducible repeat (first | refine blk_drewN ?_ _ | refine blk_drew ?_ | refine blk_alloc ?_ _)); exact BK306.out⟩, ⟨Gv.bw⟩⟩
  ·rw [if_neg c5] at H
   have c5b0 : decide (a0_0 < 0) = false := decide_eq_false c5
   clear c5
   (first | rw [c5b0] | (simp only [i64_w, i32_w]; rw [c5b0]) | skip)
   by_cases c7 : a0_0 > 4294967295
   ·rw [if_pos c7] at H
    have c7b0 : decide (4294967295 < a0_0) = true := decide_eq_true c7
    clear c7
    have H' := Gv.a0 H
    clear H
    have hcz8_0 : w3.cell? ⟨gb306, 0, none⟩ = some (.int .i64 a0_0) := (blk_cell BK306.out 0).trans rfl
    have hcz8_1 : w3.cell? ⟨gb306, 1, none⟩ = some (.slice A0_1 l0_1.length c0_1) := (blk_cell BK306.out 1).trans rfl
    have hfz8_0 := blk_frozen BK306.out 0
    have hfz8_1 := blk_frozen BK306.out 1
    go_wp2_with (first | ((with_reducible refine Gv.gate_load (t := 75) rfl ?_); (try (refine gate_guard (by rfl) ?_; dsimp only)); refine wpList_load_row rfl 75 _ rfl gb309 rfl 75 _ _ _ (by first | exact Gv.kb0 BK309.out | exact Gv.kb1 (Gv.kb0 BK309.out)) Try.underlying75 rfl (by kernel_rfl) ?_))
    go_meet
    case rel => exact ⟨_, (true), Gv.rq, H', ⟨by first | omega | exact Nat.le_refl _⟩, ⟨by (with_reducible repeat (first | refine blk_drewN ?_ _ | refine blk_drew ?_ | refine blk_alloc ?_ _)); exact BK306.out⟩, ⟨Gv.bw⟩⟩
   ·rw [if_neg c7] at H
    have c7b0 : decide (4294967295 < a0_0) = false := decide_eq_false c7
    clear c7
    by_cases c9 : (l0_1.length : Int) = 4
    ·rw [if_pos c9] at H
     have c9b0 : ((l0_1.length : Int) == 4) = true := beq_iff_eq.mpr c9
     have c9b1 : ((l0_1.length : Int) != 4) = false := bne_eq_false_iff_eq.mpr c9
     clear c9
     have H' := Gv.a0 H
     clear H
     have hcz10_0 : w3.cell? ⟨gb306, 0, none⟩ = some (.int .i64 a0_0) := (blk_cell BK306.out 0).trans rfl
     have hcz10_1 : w3.cell? ⟨gb306, 1, none⟩ = some (.slice A0_1 l0_1.length c0_1) := (blk_cell BK306.out 1).trans rfl
     have hfz10_0 := blk_frozen BK306.out 0
     have hfz10_1 := blk_frozen BK306.out 1
     go_wp2_with (first | ((with_reducible refine Gv.gate_load (t := 75) rfl ?_); (try (refine gate_guard (by rfl) ?_; dsimp only)); refine wpList_load_row rfl 75 _ rfl gb309 rfl 75 _ _ _ (by first | exact Gv.kb0 BK309.out | exact Gv.kb1 (Gv.kb0 BK309.out)) Try.underlying75 rfl (by kernel_rfl) ?_))
     go_meet
     case rel => exact ⟨_, (false), Gv.rq, H', ⟨by first | omega | exact Nat.le_refl _⟩, ⟨by (with_reducible repeat (first | refine blk_drewN ?_ _ | refine blk_drew ?_ | refine blk_alloc ?_ _)); exact BK306.out⟩, ⟨Gv.bw⟩⟩
    ·rw [if_neg c9] at H
     have c9b0 : ((l0_1.length : Int) == 4) = false := beq_eq_false_iff_ne.mpr c9
     have c9b1 : ((l0_1.length : Int) != 4) = true := bne_iff_ne.mpr c9
     by_cases c11 : (l0_1.length : Int) = 8
     ·rw [if_pos c11] at H
      have c11b0 : ((l0_1.length : Int) == 8) = true := beq_iff_eq.mpr c11
      have c11b1 : ((l0_1.length : Int) != 8) = false := bne_eq_false_iff_eq.mpr c11
      clear c11
      have H' := Gv.a0 H
      clear H
      have hcz12_0 : w3.cell? ⟨gb306, 0, none⟩ = some (.int .i64 a0_0) := (blk_cell BK306.out 0).trans rfl
      have hcz12_1 : w3.cell? ⟨gb306, 1, none⟩ = some (.slice A0_1 l0_1.length c0_1) := (blk_cell BK306.out 1).trans rfl
      have hfz12_0 := blk_frozen BK306.out 0
      have hfz12_1 := blk_frozen BK306.out 1
      go_wp2_with (first | ((with_reducible refine Gv.gate_load (t := 75) rfl ?_); (try (refine gate_guard (by rfl) ?_; dsimp only)); refine wpList_load_row rfl 75 _ rfl gb309 rfl 75 _ _ _ (by first | exact Gv.kb0 BK309.out | exact Gv.kb1 (Gv.kb0 BK309.out)) Try.underlying75 rfl (by kernel_rfl) ?_))
      go_meet
      case rel => exact ⟨_, (false), Gv.rq, H', ⟨by first | omega | exact Nat.le_refl _⟩, ⟨by (with_reducible repeat (first | refine blk_drewN ?_ _ | refine blk_drew ?_ | refine blk_alloc ?_ _)); exact BK306.out⟩, ⟨Gv.bw⟩⟩
     ·rw [if_neg c11] at H
      have c11b0 : ((l0_1.length : Int) == 8) = false := beq_eq_false_iff_ne.mpr c11
      have c11b1 : ((l0_1.length : Int) != 8) = true := bne_iff_ne.mpr c11
      by_cases c13 : (l0_1.length : Int) = 16
      ·rw [if_pos c13] at H
       have c13b0 : ((l0_1.length : Int) == 16) = true := beq_iff_eq.mpr c13
       have c13b1 : ((l0_1.length : Int) != 16) = false := bne_eq_false_iff_eq.mpr c13
       clear c13
       have H' := Gv.a0 H
       clear H
       have hcz14_0 : w3.cell? ⟨gb306, 0, none⟩ = some (.int .i64 a0_0) := (blk_cell BK306.out 0).trans rfl
       have hcz14_1 : w3.cell? ⟨gb306, 1, none⟩ = some (.slice A0_1 l0_1.length c0_1) := (blk_cell BK306.out 1).trans rfl
       have hfz14_0 := blk_frozen BK306.out 0
       have hfz14_1 := blk_frozen BK306.out 1
       go_wp2_with (first | ((with_reducible refine Gv.gate_load (t := 75) rfl ?_); (try (refine gate_guard (by rfl) ?_; dsimp only)); refine wpList_load_row rfl 75 _ rfl gb309 rfl 75 _ _ _ (by first | exact Gv.kb0 BK309.out | exact Gv.kb1 (Gv.kb0 BK309.out)) Try.underlying75 rfl (by kernel_rfl) ?_))
       go_meet
       case rel => exact ⟨_, (false), Gv.rq, H', ⟨by first | omega | exact Nat.le_refl _⟩, ⟨by (with_reducible repeat (first | refine blk_drewN ?_ _ | refine blk_drew ?_ | refine blk_alloc ?_ _)); exact BK306.out⟩, ⟨Gv.bw⟩⟩
      ·rw [if_neg c13] at H
       have c13b0 : ((l0_1.length : Int) == 16) = false := beq_eq_false_iff_ne.mpr c13
       have c13b1 : ((l0_1.length : Int) != 16) = true := bne_iff_ne.mpr c13
       by_cases c15 : (l0_1.length : Int) = 32
       ·rw [if_pos c15] at H
        have c15b0 : ((l0_1.length : Int) == 32) = true := beq_iff_eq.mpr c15
        have c15b1 : ((l0_1.length : Int) != 32) = false := bne_eq_false_iff_eq.mpr c15
        clear c15
        have H' := Gv.a0 H
        clear H
        have hcz16_0 : w3.cell? ⟨gb306, 0, none⟩ = some (.int .i64 a0_0) := (blk_cell BK306.out 0).trans rfl
        have hcz16_1 : w3.cell? ⟨gb306, 1, none⟩ = some (.slice A0_1 l0_1.length c0_1) := (blk_cell BK306.out 1).trans rfl
        have hfz16_0 := blk_frozen BK306.out 0
        have hfz16_1 := blk_frozen BK306.out 1
        go_wp2_with (first | ((with_reducible refine Gv.gate_load (t := 75) rfl ?_); (try (refine gate_guard (by rfl) ?_; dsimp only)); refine wpList_load_row rfl 75 _ rfl gb309 rfl 75 _ _ _ (by first | exact Gv.kb0 BK309.out | exact Gv.kb1 (Gv.kb0 BK309.out)) Try.underlying75 rfl (by kernel_rfl) ?_))
        go_meet
        case rel => exact ⟨_, (false), Gv.rq, H', ⟨by first | omega | exact Nat.le_refl _⟩, ⟨by (with_reducible repeat (first | refine blk_drewN ?_ _ | refine blk_drew ?_ | refine blk_alloc ?_ _)); exact BK306.out⟩, ⟨Gv.bw⟩⟩
       ·rw [if_neg c15] at H
        have c15b0 : ((l0_1.length : Int) == 32) = false := beq_eq_false_iff_ne.mpr c15
        have c15b1 : ((l0_1.length : Int) != 32) = true := bne_iff_ne.mpr c15
        have H' := Gv.a0 H
        clear H
        have hcz17_0 : w3.cell? ⟨gb306, 0, none⟩ = some (.int .i64 a0_0) := (blk_cell BK306.out 0).trans rfl
        have hcz17_1 : w3.cell? ⟨gb306, 1, none⟩ = some (.slice A0_1 l0_1.length c0_1) := (blk_cell BK306.out 1).trans rfl
        have hfz17_0 := blk_frozen BK306.out 0
        have hfz17_1 := blk_frozen BK306.out 1
        go_wp2_with (first | ((with_reducible refine Gv.gate_load (t := 75) rfl ?_); (try (refine gate_guard (by rfl) ?_; dsimp only)); refine wpList_load_row rfl 75 _ rfl gb309 rfl 75 _ _ _ (by first | exact Gv.kb0 BK309.out | exact Gv.kb1 (Gv.kb0 BK309.out)) Try.underlying75 rfl (by kernel_rfl) ?_))
        go_meet
        case rel => exact ⟨_, (((l0_1.length : Int) != 64)), Gv.rq, H', ⟨by first | omega | exact Nat.le_refl _⟩, ⟨by (with_reducible repeat (first | refine blk_drewN ?_ _ | refine blk_drew ?_ | refine blk_alloc ?_ _)); exact BK306.out⟩, ⟨Gv.bw⟩⟩
 case rest =>
  clear HC2
  try clear c1
  try clear c2
  try clear p2
  try clear c5
  try clear c5b0
  try clear c7
  try clear c7b0
  try clear c9
  try clear c9b0
  try clear c9b1
  try clear c11
  try clear c11b0
  try clear c11b1
  try clear c13
  try clear c13b0
  try clear c13b1
  try clear c15
  try clear c15b0
  try clear c15b1
  try clear hcz10_0 hcz10_1
  try clear hcz12_0 hcz12_1
  try clear hcz14_0 hcz14_1
  try clear hcz16_0 hcz16_1
  try clear hcz17_0 hcz17_1
  try clear hcz4_0 hcz4_1
  try clear hcz6_0 hcz6_1
  try clear hcz8_0 hcz8_1
  try clear hfz10_0 hfz10_1
  try clear hfz12_0 hfz12_1
  try clear hfz14_0 hfz14_1
  try clear hfz16_0 hfz16_1
  try clear hfz17_0 hfz17_1
  try clear hfz4_0 hfz4_1
  try clear hfz6_0 hfz6_1
  try clear hfz8_0 hfz8_1
  obtain ⟨kq, x37_1, rfl, HA, HJ1, BK306, HB⟩ := hcut
  cases kq with
  | zero => exact absurd HA.out (by simp [spec_TableOk.j0])
  | succ kj1 =>
   have H := HA.out
   clear HA
   simp only [spec_TableOk.j0] at H
   by_cases c18 : x37_1 = true
   ·subst c18
    rw [if_pos rfl] at H
    (try dsimp only at H)
    obtain rfl := Option.some.inj H
    go_wp2_with (first | ((with_reducible refine Gv.gate_load (t := 75) rfl ?_); (try (refine gate_guard (by rfl) ?_; dsimp only)); refine wpList_load_row rfl 75 _ rfl gb309 rfl 75 _ _ _ (by first | exact Gv.kb0 BK309.out | exact Gv.kb1 (Gv.kb0 BK309.out)) Try.underlying75 rfl (by kernel_rfl) ?_))
    go_ret
    exact ⟨Gv.rt, Gv.bw⟩
   ·replace c18 := Bool.eq_false_iff.mpr c18
    subst c18
    rw [if_neg (show ¬ (false = true) by decide)] at H
    (try dsimp only at H)
    replace H := Option.bind_eq_some_iff.mp H
    obtain ⟨t307, A190, H⟩ := H
    (try dsimp only at H)
    have A19 := Gv.a0 A190
    clear A190
    by_cases c20 : (wrap64 (4 * t307)) > (wrap64 (3 * (l0_1.length : Int)))
    ·rw [if_pos c20] at H
     have c20b0 : decide ((wrap64 (3 * (l0_1.length : Int))) < (wrap64 (4 * t307))) = true := decide_eq_true c20
     clear c20
     obtain rfl := Option.some.inj H
     have hcz21_0 : wc.cell? ⟨gb306, 0, none⟩ = some (.int .i64 a0_0) := (blk_cell BK306.out 0).trans rfl
     have hcz21_1 : wc.cell? ⟨gb306, 1, none⟩ = some (.slice A0_1 l0_1.length c0_1) := (blk_cell BK306.out 1).trans rfl
     have hfz21_0 := blk_frozen BK306.out 0
     have hfz21_1 := blk_frozen BK306.out 1
     go_wp2_with (first | ((with_reducible refine gate_callee (f := 53) rfl ?_); refine goesL_ (some 39) rfl rfl Try.func53 (by kernel_rfl) rfl #[.agg #[.int .i64 a0_0, .slice A0_1 l0_1.length c0_1]] rfl Gv.lm ?_; (with_reducible refine (spec_l11Count.calls kj1 a0_0 _ _ l0_1 t307 _ ?side1 ?side2 A19.out).mono ?_); (case side1 => exact Gv.sd (Kd.C_below HR0_1.out HB.out)); (case side2 => exact HC0_1.out); rintro e w22 ⟨rfl, hb⟩; refine ⟨_, rfl, ?_⟩; replace BK306 := Gv.b1 BK306 hb; replace HB := Gv.a0 (below_step Gv.bw hb); clear hb) | ((with_reducible refine Gv.gate_load (t := 75) rfl ?_); (try (refine gate_guard (by rfl) ?_; dsimp only)); refine wpList_load_row rfl 75 _ rfl gb309 rfl 75 _ _ _ (by first | exact Gv.kb0 BK309.out | exact Gv.kb1 (Gv.kb0 BK309.out)) Try.underlying75 rfl (by kernel_rfl) ?_))
     go_ret
     exact ⟨Gv.rt, Gv.bw⟩
    ·rw [if_neg c20] at H
     have c20b0 : decide ((wrap64 (3 * (l0_1.length : Int))) < (wrap64 (4 * t307))) = false := decide_eq_false c20
     clear c20
     have H' := Gv.a0 H
     clear H
     have hcz23_0 : wc.cell? ⟨gb306, 0, none⟩ = some (.int .i64 a0_0) := (blk_cell BK306.out 0).trans rfl
     have hcz23_1 : wc.cell? ⟨gb306, 1, none⟩ = some (.slice A0_1 l0_1.length c0_1) := (blk_cell BK306.out 1).trans rfl
     have hfz23_0 := blk_frozen BK306.out 0
     have hfz23_1 := blk_frozen BK306.out 1
     go_wp2_with (first | ((with_reducible refine gate_callee (f := 53) rfl ?_); refine goesL_ (some 39) rfl rfl Try.func53 (by kernel_rfl) rfl #[.agg #[.int .i64 a0_0, .slice A0_1 l0_1.length c0_1]] rfl Gv.lm ?_; (with_reducible refine (spec_l11Count.calls kj1 a0_0 _ _ l0_1 t307 _ ?side1 ?side2 A19.out).mono ?_); (case side1 => exact Gv.sd (Kd.C_below HR0_1.out HB.out)); (case side2 => exact HC0_1.out); rintro e w24 ⟨rfl, hb⟩; refine ⟨_, rfl, ?_⟩; replace BK306 := Gv.b1 BK306 hb; replace HB := Gv.a0 (below_step Gv.bw hb); clear hb) | ((with_reducible refine Gv.gate_load (t := 75) rfl ?_); (try (refine gate_guard (by rfl) ?_; dsimp only)); refine wpList_load_row rfl 75 _ rfl gb309 rfl 75 _ _ _ (by first | exact Gv.kb0 BK309.out | exact Gv.kb1 (Gv.kb0 BK309.out)) Try.underlying75 rfl (by kernel_rfl) ?_))
     go_loopg [4] kj1 (fun kq v4 w' => ∃ (x4_2 : Int), v4 = .int .i64 x4_2 ∧ Aside0 (spec_TableOk.l0 kq (l0_1.length : Int) x4_2 a0_0 l0_1 = some r) ∧ Aside0 (kq ≤ kj1) ∧ Aside0 (w'.heap[gb306]? = some (.cells #[.int .i64 a0_0, (.slice A0_1 l0_1.length c0_1)] 40 (0, 0))) ∧ Aside0 (Below w.heap.size w w'))
     case atStart => exact ⟨(0), Gv.rq, H', ⟨Nat.le_refl _⟩, ⟨by (with_reducible repeat (first | refine blk_drewN ?_ _ | refine blk_drew ?_ | refine blk_alloc ?_ _)); exact BK306.out⟩, ⟨Gv.bw⟩⟩
     case round =>
      clear H'
      try clear c1
      try clear c2
      try clear p2
      try clear c5
      try clear c5b0
      try clear p6
      try clear c7
      try clear c7b0
      try clear c9
      try clear c9b0
      try clear c9b1
      try clear c11
      try clear c11b0
      try clear c11b1
      try clear c13
      try clear c13b0
      try clear c13b1
      try clear c15
      try clear c15b0
      try clear c15b1
      try clear c18
      try clear c20
      try clear c20b0
      try clear c24
      try clear hcz10_0 hcz10_1
      try clear hcz12_0 hcz12_1
      try clear hcz14_0 hcz14_1
      try clear hcz16_0 hcz16_1
      try clear hcz17_0 hcz17_1
      try clear hcz21_0 hcz21_1
      try clear hcz23_0 hcz23_1
      try clear hcz4_0 hcz4_1
      try clear hcz6_0 hcz6_1
      try clear hcz8_0 hcz8_1
      try clear hfz10_0 hfz10_1
      try clear hfz12_0 hfz12_1
      try clear hfz14_0 hfz14_1
      try clear hfz16_0 hfz16_1
      try clear hfz17_0 hfz17_1
      try clear hfz21_0 hfz21_1
      try clear hfz23_0 hfz23_1
      try clear hfz4_0 hfz4_1
      try clear hfz6_0 hfz6_1
      try clear hfz8_0 hfz8_1
      try clear p2
      obtain ⟨x4_2, rfl, HA, HK2, BK306, HB⟩ := hrel
      cases gk with
      | zero => exact absurd HA.out (by simp [spec_TableOk.l0])
      | succ k2 =>
       have H := HA.out
       clear HA
       simp only [spec_TableOk.l0] at H
       by_cases c25 : x4_2 < (l0_1.length : Int)
       rotate_left
       ·rw [if_neg c25] at H
        have c25b0 : decide (x4_2 < (l0_1.length : Int)) = false := decide_eq_false c25
        clear c25
        obtain rfl := Option.some.inj H
        go_wp2_with (first | ((with_reducible refine Gv.gate_load (t := 75) rfl ?_); (try (refine gate_guard (by rfl) ?_; dsimp only)); refine wpList_load_row rfl 75 _ rfl gb309 rfl 75 _ _ _ (by first | exact Gv.kb0 BK309.out | exact Gv.kb1 (Gv.kb0 BK309.out)) Try.underlying75 rfl (by kernel_rfl) ?_))
        go_ret
        exact ⟨Gv.rt, Gv.bw⟩

       rw [if_pos c25] at H
       have c25b0 : decide (x4_2 < (l0_1.length : Int)) = true := decide_eq_true c25
       clear c25
       by_cases c26 : 0 ≤ x4_2
       rotate_left
       ·rw [if_neg c26] at H
        exact absurd H (by simp)
       rw [if_pos c26] at H
       have c26b0 : decide (0 ≤ x4_2) = true := decide_eq_true c26
       clear c26
       by_cases c27 : x4_2 < (l0_1.length : Int)
       rotate_left
       ·rw [if_neg c27] at H
        exact absurd H (by simp)
       rw [if_pos c27] at H
       have c27b0 : decide (x4_2 < (l0_1.length : Int)) = true := decide_eq_true c27
       clear c27
       obtain ⟨bq28, hbq28⟩ : ∃ b_ : Bool, b_ = ((rd_T75 l0_1 x4_2).f0) := ⟨_, rfl⟩
       replace H : (if (bq28 = true) then ((spec_FlowKeyOk.f ((rd_T75 l0_1 x4_2).f1.f0) ((rd_T75 l0_1 x4_2).f1.f1.f0.f0) ((rd_T75 l0_1 x4_2).f1.f1.f0.f1) ((rd_T75 l0_1 x4_2).f1.f1.f0.f2) ((rd_T75 l0_1 x4_2).f1.f1.f0.f3) ((rd_T75 l0_1 x4_2).f1.f1.f0.f4) ((rd_T75 l0_1 x4_2).f1.f1.f1.f0) ((rd_T75 l0_1 x4_2).f1.f1.f1.f1) ((rd_T75 l0_1 x4_2).f1.f1.f1.f2) ((rd_T75 l0_1 x4_2).f1.f1.f1.f3) ((rd_T75 l0_1 x4_2).f1.f1.f1.f4) ((rd_T75 l0_1 x4_2).f1.f1.f2) ((rd_T75 l0_1 x4_2).f1.f1.f3) ((rd_T75 l0_1 x4_2).f1.f1.f4)).bind fun t310 => (if t310 = true then (if ((rd_T75 l0_1 x4_2).f2) < 0 then (spec_TableOk.j2 k2 (l0_1.length : Int) x4_2 true a0_0 l0_1 bq28 ((rd_T75 l0_1 x4_2).f1.f0) ((rd_T75 l0_1 x4_2).f1.f1.f0.f0) ((rd_T75 l0_1 x4_2).f1.f1.f0.f1) ((rd_T75 l0_1 x4_2).f1.f1.f0.f2) ((rd_T75 l0_1 x4_2).f1.f1.f0.f3) ((rd_T75 l0_1 x4_2).f1.f1.f0.f4) ((rd_T75 l0_1 x4_2).f1.f1.f1.f0) ((rd_T75 l0_1 x4_2).f1.f1.f1.f1) ((rd_T75 l0_1 x4_2).f1.f1.f1.f2) ((rd_T75 l0_1 x4_2).f1.f1.f1.f3) ((rd_T75 l0_1 x4_2).f1.f1.f1.f4) ((rd_T75 l0_1 x4_2).f1.f1.f2) ((rd_T75 l0_1 x4_2).f1.f1.f3) ((rd_T75 l0_1 x4_2).f1.f1.f4) ((rd_T75 l0_1 x4_2).f2)) else (if ((rd_T75 l0_1 x4_2).f2) > 1000000000000 then (spec_TableOk.j2 k2 (l0_1.length : Int) x4_2 true a0_0 l0_1 bq28 ((rd_T75 l0_1 x4_2).f1.f0) ((rd_T75 l0_1 x4_2).f1.f1.f0.f0) ((rd_T75 l0_1 x4_2).f1.f1.f0.f1) ((rd_T75 l0_1 x4_2).f1.f1.f0.f2) ((rd_T75 l0_1 x4_2).f1.f1.f0.f3) ((rd_T75 l0_1 x4_2).f1.f1.f0.f4) ((rd_T75 l0_1 x4_2).f1.f1.f1.f0) ((rd_T75 l0_1 x4_2).f1.f1.f1.f1) ((rd_T75 l0_1 x4_2).f1.f1.f1.f2) ((rd_T75 l0_1 x4_2).f1.f1.f1.f3) ((rd_T75 l0_1 x4_2).f1.f1.f1.f4) ((rd_T75 l0_1 x4_2).f1.f1.f2) ((rd_T75 l0_1 x4_2).f1.f1.f3) ((rd_T75 l0_1 x4_2).f1.f1.f4) ((rd_T75 l0_1 x4_2).f2)) else ((spec_l11Place.f k2 a0_0 l0_1 ((rd_T75 l0_1 x4_2).f1.f0) ((rd_T75 l0_1 x4_2).f1.f1.f0.f0) ((rd_T75 l0_1 x4_2).f1.f1.f0.f1) ((rd_T75 l0_1 x4_2).f1.f1.f0.f2) ((rd_T75 l0_1 x4_2).f1.f1.f0.f3) ((rd_T75 l0_1 x4_2).f1.f1.f0.f4) ((rd_T75 l0_1 x4_2).f1.f1.f1.f0) ((rd_T75 l0_1 x4_2).f1.f1.f1.f1) ((rd_T75 l0_1 x4_2).f1.f1.f1.f2) ((rd_T75 l0_1 x4_2).f1.f1.f1.f3) ((rd_T75 l0_1 x4_2).f1.f1.f1.f4) ((rd_T75 l0_1 x4_2).f1.f1.f2) ((rd_T75 l0_1 x4_2).f1.f1.f3) ((rd_T75 l0_1 x4_2).f1.f1.f4)).bind fun t311 => (spec_TableOk.j2 k2 (l0_1.length : Int) x4_2 (t311 != x4_2) a0_0 l0_1 bq28 ((rd_T75 l0_1 x4_2).f1.f0) ((rd_T75 l0_1 x4_2).f1.f1.f0.f0) ((rd_T75 l0_1 x4_2).f1.f1.f0.f1) ((rd_T75 l0_1 x4_2).f1.f1.f0.f2) ((rd_T75 l0_1 x4_2).f1.f1.f0.f3) ((rd_T75 l0_1 x4_2).f1.f1.f0.f4) ((rd_T75 l0_1 x4_2).f1.f1.f1.f0) ((rd_T75 l0_1 x4_2).f1.f1.f1.f1) ((rd_T75 l0_1 x4_2).f1.f1.f1.f2) ((rd_T75 l0_1 x4_2).f1.f1.f1.f3) ((rd_T75 l0_1 x4_2).f1.f1.f1.f4) ((rd_T75 l0_1 x4_2).f1.f1.f2) ((rd_T75 l0_1 x4_2).f1.f1.f3) ((rd_T75 l0_1 x4_2).f1.f1.f4) ((rd_T75 l0_1 x4_2).f2))))) else (spec_TableOk.j2 k2 (l0_1.length : Int) x4_2 true a0_0 l0_1 bq28 ((rd_T75 l0_1 x4_2).f1.f0) ((rd_T75 l0_1 x4_2).f1.f1.f0.f0) ((rd_T75 l0_1 x4_2).f1.f1.f0.f1) ((rd_T75 l0_1 x4_2).f1.f1.f0.f2) ((rd_T75 l0_1 x4_2).f1.f1.f0.f3) ((rd_T75 l0_1 x4_2).f1.f1.f0.f4) ((rd_T75 l0_1 x4_2).f1.f1.f1.f0) ((rd_T75 l0_1 x4_2).f1.f1.f1.f1) ((rd_T75 l0_1 x4_2).f1.f1.f1.f2) ((rd_T75 l0_1 x4_2).f1.f1.f1.f3) ((rd_T75 l0_1 x4_2).f1.f1.f1.f4) ((rd_T75 l0_1 x4_2).f1.f1.f2) ((rd_T75 l0_1 x4_2).f1.f1.f3) ((rd_T75 l0_1 x4_2).f1.f1.f4) ((rd_T75 l0_1 x4_2).f2)))) else (if ((bq28) || ((!(((rd_T75 l0_1 x4_2).f1.f0) == 0) || (((!(((rd_T75 l0_1 x4_2).f1.f1.f0.f0) == 0) || (!(((rd_T75 l0_1 x4_2).f1.f1.f0.f1) == 0) || (!(((rd_T75 l0_1 x4_2).f1.f1.f0.f2) == 0) || (!(((rd_T75 l0_1 x4_2).f1.f1.f0.f3) == 0) || (!(((rd_T75 l0_1 x4_2).f1.f1.f0.f4) == 0)))))) || ((!(((rd_T75 l0_1 x4_2).f1.f1.f1.f0) == 0) || (!(((rd_T75 l0_1 x4_2).f1.f1.f1.f1) == 0) || (!(((rd_T75 l0_1 x4_2).f1.f1.f1.f2) == 0) || (!(((rd_T75 l0_1 x4_2).f1.f1.f1.f3) == 0) || (!(((rd_T75 l0_1 x4_2).f1.f1.f1.f4) == 0)))))) || (!(((rd_T75 l0_1 x4_2).f1.f1.f2) == 0) || (!(((rd_T75 l0_1 x4_2).f1.f1.f3) == 0) || (!(((rd_T75 l0_1 x4_2).f1.f1.f4) == 0)))))))) || (!(((rd_T75 l0_1 x4_2).f2) == 0)))) = true then (some false) else (spec_TableOk.l0 k2 (l0_1.length : Int) (wrap64 (x4_2 + 1)) a0_0 l0_1))) = some r := by rw [← hbq28] at H; exact H
       have Nbq28 := Gv.a0 hbq28
       clear hbq28
       by_cases c29 : (bq28 = true)
       ·subst c29
        rw [if_pos rfl] at H
        (try dsimp only at H)
        have HC30 := Gv.a0 H
        clear H
        have hcz31_0 : wr.cell? ⟨gb306, 0, none⟩ = some (.int .i64 a0_0) := (blk_cell BK306.out 0).trans rfl
        have hcz31_1 : wr.cell? ⟨gb306, 1, none⟩ = some (.slice A0_1 l0_1.length c0_1) := (blk_cell BK306.out 1).trans rfl
        have hfz31_0 := blk_frozen BK306.out 0
        have hfz31_1 := blk_frozen BK306.out 1
        have p308 : 0 ≤ (x4_2 : Int) := of_decide_eq_true (by first | (with_reducible assumption) | assumption)
        have q308 : x4_2 < (l0_1.length : Int) := of_decide_eq_true (by first | (with_reducible assumption) | assumption)
        obtain ⟨ad308, e308, hx308_0, hx308_1, hx308_2, hx308_3, hx308_4, hx308_5, hx308_6, hx308_7, hx308_8, hx308_9, hx308_10, hx308_11, hx308_12, hx308_13, hx308_14, hx308_15⟩ := at_T75 HR0_1.out x4_2 p308 q308
        (try rw [← Nbq28.out] at hx308_0)
        cases e308
        replace hx308_0 := Gv.bx HB.out hx308_0
        replace hx308_1 := Gv.bx HB.out hx308_1
        replace hx308_2 := Gv.bx HB.out hx308_2
        replace hx308_3 := Gv.bx HB.out hx308_3
        replace hx308_4 := Gv.bx HB.out hx308_4
        replace hx308_5 := Gv.bx HB.out hx308_5
        replace hx308_6 := Gv.bx HB.out hx308_6
        replace hx308_7 := Gv.bx HB.out hx308_7
        replace hx308_8 := Gv.bx HB.out hx308_8
        replace hx308_9 := Gv.bx HB.out hx308_9
        replace hx308_10 := Gv.bx HB.out hx308_10
        replace hx308_11 := Gv.bx HB.out hx308_11
        replace hx308_12 := Gv.bx HB.out hx308_12
        replace hx308_13 := Gv.bx HB.out hx308_13
        replace hx308_14 := Gv.bx HB.out hx308_14
        replace hx308_15 := Gv.bx HB.out hx308_15
        replace p308 := eq_true p308
        replace q308 := eq_true q308
        go_upto_region 13 with (first | ((with_reducible refine gate_dst (N := 5) rfl ?_); refine Gv.bev 5 75 #[.bool false, .int .i64 0, .int .i64 0, .int .i64 0, .int .i64 0, .int .i64 0, .int .i64 0, .int .i64 0, .int .i64 0, .int .i64 0, .int .i64 0, .int .i64 0, .int .i64 0, .int .i64 0, .int .i64 0, .int .i64 0] ?_; intro gb309 hg w32 hbox hb; have BK309 := Gv.a0 (hbox); have GW309 := Gv.a0 ((Gv.ble hg Gv.bw : w.heap.size ≤ gb309)); have GE309 := Gv.a0 ((Gv.ble hg Gv.bw : w.heap.size ≤ gb309)); replace HB := Gv.a0 (below_step Gv.bw hb); have NB306_309 := Gv.a0 ((Gv.nlt hg (Gv.kb BK306.out) : gb306 ≠ gb309)); have NB309_306 := Gv.a0 ((Gv.ngt hg (Gv.kb BK306.out) : gb309 ≠ gb306)); replace BK306 := Gv.b1 BK306 hb; clear hb hbox hg; have hnb33 := NB309_306.out; have hnc33 := NB306_309.out; obtain ⟨hcz34_0, hcz34_1, hcz34_2, hcz34_3, hcz34_4, hcz34_5, hcz34_6, hcz34_7, hcz34_8, hcz34_9, hcz34_10, hcz34_11, hcz34_12, hcz34_13, hcz34_14, hcz34_15⟩ := Gv.c16 BK309.out) | ((with_reducible refine gate_store (t := 75) (p := 5) rfl ?_); refine Gv.store_event rfl rfl rfl rfl rfl (Gv.kb BK309.out) (by kernel_rfl) rfl (by simp; and_intros <;> rfl) ?_; intro w32s hbox hoth hbel; replace BK309 := Gv.a0 (hbox); replace HB := Gv.a0 (hbel w Gv.bw GE309.out); replace BK306 := Gv.a0 ((hoth gb306 NB306_309.out).trans (Gv.kb BK306.out)); clear hbox hoth hbel; (try clear hcz34_0 hcz34_1 hcz34_2 hcz34_3 hcz34_4 hcz34_5 hcz34_6 hcz34_7 hcz34_8 hcz34_9 hcz34_10 hcz34_11 hcz34_12 hcz34_13 hcz34_14 hcz34_15 hfz34_0 hfz34_1 hfz34_2 hfz34_3 hfz34_4 hfz34_5 hfz34_6 hfz34_7 hfz34_8 hfz34_9 hfz34_10 hfz34_11 hfz34_12 hfz34_13 hfz34_14 hfz34_15); obtain ⟨hcz34_0, hcz34_1, hcz34_2, hcz34_3, hcz34_4, hcz34_5, hcz34_6, hcz34_7, hcz34_8, hcz34_9, hcz34_10, hcz34_11, hcz34_12, hcz34_13, hcz34_14, hcz34_15⟩ := Gv.c16 BK309.out) | ((with_reducible refine Gv.gate_load (t := 75) rfl ?_); (try (refine gate_guard (by rfl) ?_; dsimp only)); refine wpList_load_row rfl 75 _ rfl gb309 rfl 75 _ _ _ (by first | exact Gv.kb0 BK309.out | exact Gv.kb1 (Gv.kb0 BK309.out)) Try.underlying75 rfl (by kernel_rfl) ?_) | ((with_reducible refine Gv.gate_load (t := 75) rfl ?_); refine Gv.load_event (cs := [_, _, _, _, _, _, _, _, _, _, _, _, _, _, _, _]) rfl rfl rfl ⟨hx308_0, hx308_1, hx308_2, hx308_3, hx308_4, hx308_5, hx308_6, hx308_7, hx308_8, hx308_9, hx308_10, hx308_11, hx308_12, hx308_13, hx308_14, hx308_15, trivial⟩ Try.underlying75 rfl (by kernel_rfl) ?_))
        (try simp only [Act.put, List.setIfInBounds_toArray, List.set_cons_zero, List.set_cons_succ])
        go_cut [81] (fun v81 wc => ∃ (kq : Nat) (x81_29 : Bool), v81 = .bool x81_29 ∧ Aside0 (spec_TableOk.j2 kq (l0_1.length : Int) x4_2 x81_29 a0_0 l0_1 true ((rd_T75 l0_1 x4_2).f1.f0) ((rd_T75 l0_1 x4_2).f1.f1.f0.f0) ((rd_T75 l0_1 x4_2).f1.f1.f0.f1) ((rd_T75 l0_1 x4_2).f1.f1.f0.f2) ((rd_T75 l0_1 x4_2).f1.f1.f0.f3) ((rd_T75 l0_1 x4_2).f1.f1.f0.f4) ((rd_T75 l0_1 x4_2).f1.f1.f1.f0) ((rd_T75 l0_1 x4_2).f1.f1.f1.f1) ((rd_T75 l0_1 x4_2).f1.f1.f1.f2) ((rd_T75 l0_1 x4_2).f1.f1.f1.f3) ((rd_T75 l0_1 x4_2).f1.f1.f1.f4) ((rd_T75 l0_1 x4_2).f1.f1.f2) ((rd_T75 l0_1 x4_2).f1.f1.f3) ((rd_T75 l0_1 x4_2).f1.f1.f4) ((rd_T75 l0_1 x4_2).f2) = some r) ∧ Aside0 (kq ≤ k2) ∧ Aside0 (wc.heap[gb306]? = some (.cells #[.int .i64 a0_0, (.slice (some ad308) l0_1.length c0_1)] 40 (0, 0))) ∧ Aside0 (wc.heap[gb309]? = some (.cells #[.bool true, .int .i64 ((rd_T75 l0_1 x4_2).f1.f0), .int .i64 ((rd_T75 l0_1 x4_2).f1.f1.f0.f0), .int .i64 ((rd_T75 l0_1 x4_2).f1.f1.f0.f1), .int .i64 ((rd_T75 l0_1 x4_2).f1.f1.f0.f2), .int .i64 ((rd_T75 l0_1 x4_2).f1.f1.f0.f3), .int .i64 ((rd_T75 l0_1 x4_2).f1.f1.f0.f4), .int .i64 ((rd_T75 l0_1 x4_2).f1.f1.f1.f0), .int .i64 ((rd_T75 l0_1 x4_2).f1.f1.f1.f1), .int .i64 ((rd_T75 l0_1 x4_2).f1.f1.f1.f2), .int .i64 ((rd_T75 l0_1 x4_2).f1.f1.f1.f3), .int .i64 ((rd_T75 l0_1 x4_2).f1.f1.f1.f4), .int .i64 ((rd_T75 l0_1 x4_2).f1.f1.f2), .int .i64 ((rd_T75 l0_1 x4_2).f1.f1.f3), .int .i64 ((rd_T75 l0_1 x4_2).f1.f1.f4), .int .i64 ((rd_T75 l0_1 x4_2).f2)] 75 (0, 0))) ∧ Aside0 (Below w.heap.size w wc))
        case first =>
         have H := HC30.out
         clear HC30
         replace H := Option.bind_eq_some_iff.mp H
         obtain ⟨t310, A350, H⟩ := H
         (try dsimp only at H)
         have A35 := Gv.a0 A350
         clear A350
         by_cases c36 : t310 = true
         rotate_left
         ·replace c36 := Bool.eq_false_iff.mpr c36
          subst c36
          rw [if_neg (show ¬ (false = true) by decide)] at H
          (try dsimp only at H)
          have H' := Gv.a0 H
          clear H
          have hnb54 := NB309_306.out
          have hnc54 := NB306_309.out
          obtain ⟨hcz55_0, hcz55_1, hcz55_2, hcz55_3, hcz55_4, hcz55_5, hcz55_6, hcz55_7, hcz55_8, hcz55_9, hcz55_10, hcz55_11, hcz55_12, hcz55_13, hcz55_14, hcz55_15⟩ := Gv.c16 BK309.out
          go_wp2_with (first | ((with_reducible refine gate_callee (f := 13) rfl ?_); refine goesL_ (some 62) rfl rfl Try.func13 (by kernel_rfl) rfl #[.agg #[.int .i64 ((rd_T75 l0_1 x4_2).f1.f0), .int .i64 ((rd_T75 l0_1 x4_2).f1.f1.f0.f0), .int .i64 ((rd_T75 l0_1 x4_2).f1.f1.f0.f1), .int .i64 ((rd_T75 l0_1 x4_2).f1.f1.f0.f2), .int .i64 ((rd_T75 l0_1 x4_2).f1.f1.f0.f3), .int .i64 ((rd_T75 l0_1 x4_2).f1.f1.f0.f4), .int .i64 ((rd_T75 l0_1 x4_2).f1.f1.f1.f0), .int .i64 ((rd_T75 l0_1 x4_2).f1.f1.f1.f1), .int .i64 ((rd_T75 l0_1 x4_2).f1.f1.f1.f2), .int .i64 ((rd_T75 l0_1 x4_2).f1.f1.f1.f3), .int .i64 ((rd_T75 l0_1 x4_2).f1.f1.f1.f4), .int .i64 ((rd_T75 l0_1 x4_2).f1.f1.f2), .int .i64 ((rd_T75 l0_1 x4_2).f1.f1.f3), .int .i64 ((rd_T75 l0_1 x4_2).f1.f1.f4)]] rfl Gv.lm ?_; (with_reducible refine (spec_FlowKeyOk.calls _ _ _ _ _ _ _ _ _ _ _ _ _ _ false _ A35.out).mono ?_); rintro e w56 ⟨rfl, hb⟩; refine ⟨_, rfl, ?_⟩; replace BK306 := Gv.a0 (blk_below (g := gb306) (o := .cells #[.int .i64 a0_0, .slice (some ad308) l0_1.length c0_1] 40 (0, 0)) Gv.bkf hb); replace BK309 := Gv.a0 (blk_below (g := gb309) (o := .cells #[.bool true, .int .i64 ((rd_T75 l0_1 x4_2).f1.f0), .int .i64 ((rd_T75 l0_1 x4_2).f1.f1.f0.f0), .int .i64 ((rd_T75 l0_1 x4_2).f1.f1.f0.f1), .int .i64 ((rd_T75 l0_1 x4_2).f1.f1.f0.f2), .int .i64 ((rd_T75 l0_1 x4_2).f1.f1.f0.f3), .int .i64 ((rd_T75 l0_1 x4_2).f1.f1.f0.f4), .int .i64 ((rd_T75 l0_1 x4_2).f1.f1.f1.f0), .int .i64 ((rd_T75 l0_1 x4_2).f1.f1.f1.f1), .int .i64 ((rd_T75 l0_1 x4_2).f1.f1.f1.f2), .int .i64 ((rd_T75 l0_1 x4_2).f1.f1.f1.f3), .int .i64 ((rd_T75 l0_1 x4_2).f1.f1.f1.f4), .int .i64 ((rd_T75 l0_1 x4_2).f1.f1.f2), .int .i64 ((rd_T75 l0_1 x4_2).f1.f1.f3), .int .i64 ((rd_T75 l0_1 x4_2).f1.f1.f4), .int .i64 ((rd_T75 l0_1 x4_2).f2)] 75 (0, 0)) (by (with_reducible repeat (first | refine blk_drewN ?_ _ | refine blk_drew ?_ | refine blk_alloc ?_ _)); exact BK309.out) hb); replace HB := Gv.a0 (below_step Gv.bw hb); clear hb) | ((with_reducible refine Gv.gate_load (t := 75) rfl ?_); (try (refine gate_guard (by rfl) ?_; dsimp only)); refine wpList_load_row rfl 75 _ rfl gb309 rfl 75 _ _ _ (by first | exact Gv.kb0 BK309.out | exact Gv.kb1 (Gv.kb0 BK309.out)) Try.underlying75 rfl (by kernel_rfl) ?_))
          go_meet
          case rel => exact ⟨_, (true), Gv.rq, H', ⟨by have := HJ1.out; have := HK2.out; first | omega | exact Nat.le_refl _⟩, ⟨by (with_reducible repeat (first | refine blk_drewN ?_ _ | refine blk_drew ?_ | refine blk_alloc ?_ _)); exact BK306.out⟩, ⟨by (with_reducible repeat (first | refine blk_drewN ?_ _ | refine blk_drew ?_ | refine blk_alloc ?_ _)); exact BK309.out⟩, ⟨Gv.bw⟩⟩
         subst c36
         rw [if_pos rfl] at H
         (try dsimp only at H)
         by_cases c37 : ((rd_T75 l0_1 x4_2).f2) < 0
         ·rw [if_pos c37] at H
          have c37b0 : decide (((rd_T75 l0_1 x4_2).f2) < 0) = true := decide_eq_true c37
          clear c37
          (first | rw [c37b0] | (simp only [i64_w, i32_w]; rw [c37b0]) | skip)
          have H' := Gv.a0 H
          clear H
          have hnb38 := NB309_306.out
          have hnc38 := NB306_309.out
          obtain ⟨hcz39_0, hcz39_1, hcz39_2, hcz39_3, hcz39_4, hcz39_5, hcz39_6, hcz39_7, hcz39_8, hcz39_9, hcz39_10, hcz39_11, hcz39_12, hcz39_13, hcz39_14, hcz39_15⟩ := Gv.c16 BK309.out
          go_wp2_with (first | ((with_reducible refine gate_callee (f := 13) rfl ?_); refine goesL_ (some 62) rfl rfl Try.func13 (by kernel_rfl) rfl #[.agg #[.int .i64 ((rd_T75 l0_1 x4_2).f1.f0), .int .i64 ((rd_T75 l0_1 x4_2).f1.f1.f0.f0), .int .i64 ((rd_T75 l0_1 x4_2).f1.f1.f0.f1), .int .i64 ((rd_T75 l0_1 x4_2).f1.f1.f0.f2), .int .i64 ((rd_T75 l0_1 x4_2).f1.f1.f0.f3), .int .i64 ((rd_T75 l0_1 x4_2).f1.f1.f0.f4), .int .i64 ((rd_T75 l0_1 x4_2).f1.f1.f1.f0), .int .i64 ((rd_T75 l0_1 x4_2).f1.f1.f1.f1), .int .i64 ((rd_T75 l0_1 x4_2).f1.f1.f1.f2), .int .i64 ((rd_T75 l0_1 x4_2).f1.f1.f1.f3), .int .i64 ((rd_T75 l0_1 x4_2).f1.f1.f1.f4), .int .i64 ((rd_T75 l0_1 x4_2).f1.f1.f2), .int .i64 ((rd_T75 l0_1 x4_2).f1.f1.f3), .int .i64 ((rd_T75 l0_1 x4_2).f1.f1.f4)]] rfl Gv.lm ?_; (with_reducible refine (spec_FlowKeyOk.calls _ _ _ _ _ _ _ _ _ _ _ _ _ _ true _ A35.out).mono ?_); rintro e w40 ⟨rfl, hb⟩; refine ⟨_, rfl, ?_⟩; replace BK306 := Gv.a0 (blk_below (g := gb306) (o := .cells #[.int .i64 a0_0, .slice (some ad308) l0_1.length c0_1] 40 (0, 0)) Gv.bkf hb); replace BK309 := Gv.a0 (blk_below (g := gb309) (o := .cells #[.bool true, .int .i64 ((rd_T75 l0_1 x4_2).f1.f0), .int .i64 ((rd_T75 l0_1 x4_2).f1.f1.f0.f0), .int .i64 ((rd_T75 l0_1 x4_2).f1.f1.f0.f1), .int .i64 ((rd_T75 l0_1 x4_2).f1.f1.f0.f2), .int .i64 ((rd_T75 l0_1 x4_2).f1.f1.f0.f3), .int .i64 ((rd_T75 l0_1 x4_2).f1.f1.f0.f4), .int .i64 ((rd_T75 l0_1 x4_2).f1.f1.f1.f0), .int .i64 ((rd_T75 l0_1 x4_2).f1.f1.f1.f1), .int .i64 ((rd_T75 l0_1 x4_2).f1.f1.f1.f2), .int .i64 ((rd_T75 l0_1 x4_2).f1.f1.f1.f3), .int .i64 ((rd_T75 l0_1 x4_2).f1.f1.f1.f4), .int .i64 ((rd_T75 l0_1 x4_2).f1.f1.f2), .int .i64 ((rd_T75 l0_1 x4_2).f1.f1.f3), .int .i64 ((rd_T75 l0_1 x4_2).f1.f1.f4), .int .i64 ((rd_T75 l0_1 x4_2).f2)] 75 (0, 0)) (by (with_reducible repeat (first | refine blk_drewN ?_ _ | refine blk_drew ?_ | refine blk_alloc ?_ _)); exact BK309.out) hb); replace HB := Gv.a0 (below_step Gv.bw hb); clear hb; obtain ⟨hcz41_0, hcz41_1, hcz41_2, hcz41_3, hcz41_4, hcz41_5, hcz41_6, hcz41_7, hcz41_8, hcz41_9, hcz41_10, hcz41_11, hcz41_12, hcz41_13, hcz41_14, hcz41_15⟩ := Gv.c16 BK309.out) | ((with_reducible refine Gv.gate_load (t := 75) rfl ?_); (try (refine gate_guard (by rfl) ?_; dsimp only)); refine wpList_load_row rfl 75 _ rfl gb309 rfl 75 _ _ _ (by first | exact Gv.kb0 BK309.out | exact Gv.kb1 (Gv.kb0 BK309.out)) Try.underlying75 rfl (by kernel_rfl) ?_))
          go_meet
          case rel => exact ⟨_, (true), Gv.rq, H', ⟨by have := HJ1.out; have := HK2.out; first | omega | exact Nat.le_refl _⟩, ⟨by (with_reducible repeat (first | refine blk_drewN ?_ _ | refine blk_drew ?_ | refine blk_alloc ?_ _)); exact BK306.out⟩, ⟨by (with_reducible repeat (first | refine blk_drewN ?_ _ | refine blk_drew ?_ | refine blk_alloc ?_ _)); exact BK309.out⟩, ⟨Gv.bw⟩⟩
         ·rw [if_neg c37] at H
          have c37b0 : decide (((rd_T75 l0_1 x4_2).f2) < 0) = false := decide_eq_false c37
          clear c37
          (first | rw [c37b0] | (simp only [i64_w, i32_w]; rw [c37b0]) | skip)
          by_cases c42 : ((rd_T75 l0_1 x4_2).f2) > 1000000000000
          ·rw [if_pos c42] at H
           have c42b0 : decide (1000000000000 < ((rd_T75 l0_1 x4_2).f2)) = true := decide_eq_true c42
           clear c42
           have H' := Gv.a0 H
           clear H
           have hnb43 := NB309_306.out
           have hnc43 := NB306_309.out
           obtain ⟨hcz44_0, hcz44_1, hcz44_2, hcz44_3, hcz44_4, hcz44_5, hcz44_6, hcz44_7, hcz44_8, hcz44_9, hcz44_10, hcz44_11, hcz44_12, hcz44_13, hcz44_14, hcz44_15⟩ := Gv.c16 BK309.out
           go_wp2_with (first | ((with_reducible refine gate_callee (f := 13) rfl ?_); refine goesL_ (some 62) rfl rfl Try.func13 (by kernel_rfl) rfl #[.agg #[.int .i64 ((rd_T75 l0_1 x4_2).f1.f0), .int .i64 ((rd_T75 l0_1 x4_2).f1.f1.f0.f0), .int .i64 ((rd_T75 l0_1 x4_2).f1.f1.f0.f1), .int .i64 ((rd_T75 l0_1 x4_2).f1.f1.f0.f2), .int .i64 ((rd_T75 l0_1 x4_2).f1.f1.f0.f3), .int .i64 ((rd_T75 l0_1 x4_2).f1.f1.f0.f4), .int .i64 ((rd_T75 l0_1 x4_2).f1.f1.f1.f0), .int .i64 ((rd_T75 l0_1 x4_2).f1.f1.f1.f1), .int .i64 ((rd_T75 l0_1 x4_2).f1.f1.f1.f2), .int .i64 ((rd_T75 l0_1 x4_2).f1.f1.f1.f3), .int .i64 ((rd_T75 l0_1 x4_2).f1.f1.f1.f4), .int .i64 ((rd_T75 l0_1 x4_2).f1.f1.f2), .int .i64 ((rd_T75 l0_1 x4_2).f1.f1.f3), .int .i64 ((rd_T75 l0_1 x4_2).f1.f1.f4)]] rfl Gv.lm ?_; (with_reducible refine (spec_FlowKeyOk.calls _ _ _ _ _ _ _ _ _ _ _ _ _ _ true _ A35.out).mono ?_); rintro e w45 ⟨rfl, hb⟩; refine ⟨_, rfl, ?_⟩; replace BK306 := Gv.a0 (blk_below (g := gb306) (o := .cells #[.int .i64 a0_0, .slice (some ad308) l0_1.length c0_1] 40 (0, 0)) Gv.bkf hb); replace BK309 := Gv.a0 (blk_below (g := gb309) (o := .cells #[.bool true, .int .i64 ((rd_T75 l0_1 x4_2).f1.f0), .int .i64 ((rd_T75 l0_1 x4_2).f1.f1.f0.f0), .int .i64 ((rd_T75 l0_1 x4_2).f1.f1.f0.f1), .int .i64 ((rd_T75 l0_1 x4_2).f1.f1.f0.f2), .int .i64 ((rd_T75 l0_1 x4_2).f1.f1.f0.f3), .int .i64 ((rd_T75 l0_1 x4_2).f1.f1.f0.f4), .int .i64 ((rd_T75 l0_1 x4_2).f1.f1.f1.f0), .int .i64 ((rd_T75 l0_1 x4_2).f1.f1.f1.f1), .int .i64 ((rd_T75 l0_1 x4_2).f1.f1.f1.f2), .int .i64 ((rd_T75 l0_1 x4_2).f1.f1.f1.f3), .int .i64 ((rd_T75 l0_1 x4_2).f1.f1.f1.f4), .int .i64 ((rd_T75 l0_1 x4_2).f1.f1.f2), .int .i64 ((rd_T75 l0_1 x4_2).f1.f1.f3), .int .i64 ((rd_T75 l0_1 x4_2).f1.f1.f4), .int .i64 ((rd_T75 l0_1 x4_2).f2)] 75 (0, 0)) (by (with_reducible repeat (first | refine blk_drewN ?_ _ | refine blk_drew ?_ | refine blk_alloc ?_ _)); exact BK309.out) hb); replace HB := Gv.a0 (below_step Gv.bw hb); clear hb; obtain ⟨hcz46_0, hcz46_1, hcz46_2, hcz46_3, hcz46_4, hcz46_5, hcz46_6, hcz46_7, hcz46_8, hcz46_9, hcz46_10, hcz46_11, hcz46_12, hcz46_13, hcz46_14, hcz46_15⟩ := Gv.c16 BK309.out) | ((with_reducible refine Gv.gate_load (t := 75) rfl ?_); (try (refine gate_guard (by rfl) ?_; dsimp only)); refine wpList_load_row rfl 75 _ rfl gb309 rfl 75 _ _ _ (by first | exact Gv.kb0 BK309.out | exact Gv.kb1 (Gv.kb0 BK309.out)) Try.underlying75 rfl (by kernel_rfl) ?_))
           go_meet
           case rel => exact ⟨_, (true), Gv.rq, H', ⟨by have := HJ1.out; have := HK2.out; first | omega | exact Nat.le_refl _⟩, ⟨by (with_reducible repeat (first | refine blk_drewN ?_ _ | refine blk_drew ?_ | refine blk_alloc ?_ _)); exact BK306.out⟩, ⟨by (with_reducible repeat (first | refine blk_drewN ?_ _ | refine blk_drew ?_ | refine blk_alloc ?_ _)); exact BK309.out⟩, ⟨Gv.bw⟩⟩
          ·rw [if_neg c42] at H
           have c42b0 : decide (1000000000000 < ((rd_T75 l0_1 x4_2).f2)) = false := decide_eq_false c42
           clear c42
           replace H := Option.bind_eq_some_iff.mp H
           obtain ⟨t311, A470, H⟩ := H
           (try dsimp only at H)
           have A47 := Gv.a0 A470
           clear A470
           have H' := Gv.a0 H
           clear H
           have hnb48 := NB309_306.out
           have hnc48 := NB306_309.out
           obtain ⟨hcz49_0, hcz49_1, hcz49_2, hcz49_3, hcz49_4, hcz49_5, hcz49_6, hcz49_7, hcz49_8, hcz49_9, hcz49_10, hcz49_11, hcz49_12, hcz49_13, hcz49_14, hcz49_15⟩ := Gv.c16 BK309.out
           go_wp2_with (first | ((with_reducible refine gate_callee (f := 13) rfl ?_); refine goesL_ (some 62) rfl rfl Try.func13 (by kernel_rfl) rfl #[.agg #[.int .i64 ((rd_T75 l0_1 x4_2).f1.f0), .int .i64 ((rd_T75 l0_1 x4_2).f1.f1.f0.f0), .int .i64 ((rd_T75 l0_1 x4_2).f1.f1.f0.f1), .int .i64 ((rd_T75 l0_1 x4_2).f1.f1.f0.f2), .int .i64 ((rd_T75 l0_1 x4_2).f1.f1.f0.f3), .int .i64 ((rd_T75 l0_1 x4_2).f1.f1.f0.f4), .int .i64 ((rd_T75 l0_1 x4_2).f1.f1.f1.f0), .int .i64 ((rd_T75 l0_1 x4_2).f1.f1.f1.f1), .int .i64 ((rd_T75 l0_1 x4_2).f1.f1.f1.f2), .int .i64 ((rd_T75 l0_1 x4_2).f1.f1.f1.f3), .int .i64 ((rd_T75 l0_1 x4_2).f1.f1.f1.f4), .int .i64 ((rd_T75 l0_1 x4_2).f1.f1.f2), .int .i64 ((rd_T75 l0_1 x4_2).f1.f1.f3), .int .i64 ((rd_T75 l0_1 x4_2).f1.f1.f4)]] rfl Gv.lm ?_; (with_reducible refine (spec_FlowKeyOk.calls _ _ _ _ _ _ _ _ _ _ _ _ _ _ true _ A35.out).mono ?_); rintro e w50 ⟨rfl, hb⟩; refine ⟨_, rfl, ?_⟩; replace BK306 := Gv.a0 (blk_below (g := gb306) (o := .cells #[.int .i64 a0_0, .slice (some ad308) l0_1.length c0_1] 40 (0, 0)) Gv.bkf hb); replace BK309 := Gv.a0 (blk_below (g := gb309) (o := .cells #[.bool true, .int .i64 ((rd_T75 l0_1 x4_2).f1.f0), .int .i64 ((rd_T75 l0_1 x4_2).f1.f1.f0.f0), .int .i64 ((rd_T75 l0_1 x4_2).f1.f1.f0.f1), .int .i64 ((rd_T75 l0_1 x4_2).f1.f1.f0.f2), .int .i64 ((rd_T75 l0_1 x4_2).f1.f1.f0.f3), .int .i64 ((rd_T75 l0_1 x4_2).f1.f1.f0.f4), .int .i64 ((rd_T75 l0_1 x4_2).f1.f1.f1.f0), .int .i64 ((rd_T75 l0_1 x4_2).f1.f1.f1.f1), .int .i64 ((rd_T75 l0_1 x4_2).f1.f1.f1.f2), .int .i64 ((rd_T75 l0_1 x4_2).f1.f1.f1.f3), .int .i64 ((rd_T75 l0_1 x4_2).f1.f1.f1.f4), .int .i64 ((rd_T75 l0_1 x4_2).f1.f1.f2), .int .i64 ((rd_T75 l0_1 x4_2).f1.f1.f3), .int .i64 ((rd_T75 l0_1 x4_2).f1.f1.f4), .int .i64 ((rd_T75 l0_1 x4_2).f2)] 75 (0, 0)) (by (with_reducible repeat (first | refine blk_drewN ?_ _ | refine blk_drew ?_ | refine blk_alloc ?_ _)); exact BK309.out) hb); replace HB := Gv.a0 (below_step Gv.bw hb); clear hb; obtain ⟨hcz51_0, hcz51_1, hcz51_2, hcz51_3, hcz51_4, hcz51_5, hcz51_6, hcz51_7, hcz51_8, hcz51_9, hcz51_10, hcz51_11, hcz51_12, hcz51_13, hcz51_14, hcz51_15⟩ := Gv.c16 BK309.out; have hcz52_0 : w50.cell? ⟨gb306, 0, none⟩ = some (.int .i64 a0_0) := (blk_cell BK306.out 0).trans rfl; have hcz52_1 : w50.cell? ⟨gb306, 1, none⟩ = some (.slice (some ad308) l0_1.length c0_1) := (blk_cell BK306.out 1).trans rfl; have hfz52_0 := blk_frozen BK306.out 0; have hfz52_1 := blk_frozen BK306.out 1) | (go_at_call 54; (with_reducible refine (spec_l11Place.calls k2 a0_0 _ _ l0_1 _ _ _ _ _ _ _ _ _ _ _ _ _ _ t311 _ ?side1 ?side2 A47.out).mono ?_); (case side1 => exact Gv.sd (Kd.C_below HR0_1.out HB.out)); (case side2 => exact HC0_1.out); rintro e w53 ⟨rfl, hb⟩; replace BK306 := Gv.b1 BK306 hb; replace BK309 := Gv.b1 BK309 hb; replace HB := Gv.a0 (below_step Gv.bw hb); clear hb) | ((with_reducible refine Gv.gate_load (t := 75) rfl ?_); (try (refine gate_guard (by rfl) ?_; dsimp only)); refine wpList_load_row rfl 75 _ rfl gb309 rfl 75 _ _ _ (by first | exact Gv.kb0 BK309.out | exact Gv.kb1 (Gv.kb0 BK309.out)) Try.underlying75 rfl (by kernel_rfl) ?_))
           go_meet
           case rel => exact ⟨_, ((t311 != x4_2)), Gv.rq, H', ⟨by have := HJ1.out; have := HK2.out; first | omega | exact Nat.le_refl _⟩, ⟨by (with_reducible repeat (first | refine blk_drewN ?_ _ | refine blk_drew ?_ | refine blk_alloc ?_ _)); exact BK306.out⟩, ⟨by (with_reducible repeat (first | refine blk_drewN ?_ _ | refine blk_drew ?_ | refine blk_alloc ?_ _)); exact BK309.out⟩, ⟨Gv.bw⟩⟩
        case rest =>
         clear HC30
         try clear c1
         try clear c2
         try clear p2
         try clear q2
         try clear c3
         try clear p3
         try clear q3
         try clear hx3
         try clear c4
         try clear c5
         try clear c5b0
         try clear p6
         try clear c7
         try clear c7b0
         try clear c9
         try clear c9b0
         try clear c9b1
         try clear c11
         try clear c11b0
         try clear c11b1
         try clear c13
         try clear c13b0
         try clear c13b1
         try clear c15
         try clear c15b0
         try clear c15b1
         try clear c18
         try clear c20
         try clear c20b0
         try clear c24
         try clear c25
         try clear c25b0
         try clear c26
         try clear c26b0
         try clear c27
         try clear c27b0
         try clear q28
         try clear c29
         try clear p30
         try clear q30
         try clear hx30
         try clear c33
         try clear c36
         try clear c37
         try clear c37b0
         try clear c38
         try clear c42
         try clear c42b0
         try clear c43
         try clear c48
         try clear c53
         try clear c54
         try clear hcz10_0 hcz10_1
         try clear hcz12_0 hcz12_1
         try clear hcz14_0 hcz14_1
         try clear hcz16_0 hcz16_1
         try clear hcz17_0 hcz17_1
         try clear hcz21_0 hcz21_1
         try clear hcz23_0 hcz23_1
         try clear hcz31_0 hcz31_1
         try clear hcz34_0 hcz34_1
         try clear hcz34_10 hcz34_11 hcz34_12 hcz34_13 hcz34_14 hcz34_15
         try clear hcz34_2 hcz34_3 hcz34_4 hcz34_5 hcz34_6 hcz34_7 hcz34_8 hcz34_9
         try clear hcz39_0 hcz39_1
         try clear hcz39_10 hcz39_11 hcz39_12 hcz39_13 hcz39_14 hcz39_15
         try clear hcz39_2 hcz39_3 hcz39_4 hcz39_5 hcz39_6 hcz39_7 hcz39_8 hcz39_9
         try clear hcz41_0 hcz41_1
         try clear hcz41_10 hcz41_11 hcz41_12 hcz41_13 hcz41_14 hcz41_15
         try clear hcz41_2 hcz41_3 hcz41_4 hcz41_5 hcz41_6 hcz41_7 hcz41_8 hcz41_9
         try clear hcz44_0 hcz44_1
         try clear hcz44_10 hcz44_11 hcz44_12 hcz44_13 hcz44_14 hcz44_15
         try clear hcz44_2 hcz44_3 hcz44_4 hcz44_5 hcz44_6 hcz44_7 hcz44_8 hcz44_9
         try clear hcz46_0 hcz46_1
         try clear hcz46_10 hcz46_11 hcz46_12 hcz46_13 hcz46_14 hcz46_15
         try clear hcz46_2 hcz46_3 hcz46_4 hcz46_5 hcz46_6 hcz46_7 hcz46_8 hcz46_9
         try clear hcz49_0 hcz49_1
         try clear hcz49_10 hcz49_11 hcz49_12 hcz49_13 hcz49_14 hcz49_15
         try clear hcz49_2 hcz49_3 hcz49_4 hcz49_5 hcz49_6 hcz49_7 hcz49_8 hcz49_9
         try clear hcz4_0 hcz4_1
         try clear hcz51_0 hcz51_1
         try clear hcz51_10 hcz51_11 hcz51_12 hcz51_13 hcz51_14 hcz51_15
         try clear hcz51_2 hcz51_3 hcz51_4 hcz51_5 hcz51_6 hcz51_7 hcz51_8 hcz51_9
         try clear hcz52_0 hcz52_1
         try clear hcz55_0 hcz55_1
         try clear hcz55_10 hcz55_11 hcz55_12 hcz55_13 hcz55_14 hcz55_15
         try clear hcz55_2 hcz55_3 hcz55_4 hcz55_5 hcz55_6 hcz55_7 hcz55_8 hcz55_9
         try clear hcz6_0 hcz6_1
         try clear hcz8_0 hcz8_1
         try clear hfz10_0 hfz10_1
         try clear hfz12_0 hfz12_1
         try clear hfz14_0 hfz14_1
         try clear hfz16_0 hfz16_1
         try clear hfz17_0 hfz17_1
         try clear hfz21_0 hfz21_1
         try clear hfz23_0 hfz23_1
         try clear hfz31_0 hfz31_1
         try clear hfz34_0 hfz34_1
         try clear hfz34_10 hfz34_11 hfz34_12 hfz34_13 hfz34_14 hfz34_15
         try clear hfz34_2 hfz34_3 hfz34_4 hfz34_5 hfz34_6 hfz34_7 hfz34_8 hfz34_9
         try clear hfz39_0 hfz39_1
         try clear hfz39_10 hfz39_11 hfz39_12 hfz39_13 hfz39_14 hfz39_15
         try clear hfz39_2 hfz39_3 hfz39_4 hfz39_5 hfz39_6 hfz39_7 hfz39_8 hfz39_9
         try clear hfz41_0 hfz41_1
         try clear hfz41_10 hfz41_11 hfz41_12 hfz41_13 hfz41_14 hfz41_15
         try clear hfz41_2 hfz41_3 hfz41_4 hfz41_5 hfz41_6 hfz41_7 hfz41_8 hfz41_9
         try clear hfz44_0 hfz44_1
         try clear hfz44_10 hfz44_11 hfz44_12 hfz44_13 hfz44_14 hfz44_15
         try clear hfz44_2 hfz44_3 hfz44_4 hfz44_5 hfz44_6 hfz44_7 hfz44_8 hfz44_9
         try clear hfz46_0 hfz46_1
         try clear hfz46_10 hfz46_11 hfz46_12 hfz46_13 hfz46_14 hfz46_15
         try clear hfz46_2 hfz46_3 hfz46_4 hfz46_5 hfz46_6 hfz46_7 hfz46_8 hfz46_9
         try clear hfz49_0 hfz49_1
         try clear hfz49_10 hfz49_11 hfz49_12 hfz49_13 hfz49_14 hfz49_15
         try clear hfz49_2 hfz49_3 hfz49_4 hfz49_5 hfz49_6 hfz49_7 hfz49_8 hfz49_9
         try clear hfz4_0 hfz4_1
         try clear hfz51_0 hfz51_1
         try clear hfz51_10 hfz51_11 hfz51_12 hfz51_13 hfz51_14 hfz51_15
         try clear hfz51_2 hfz51_3 hfz51_4 hfz51_5 hfz51_6 hfz51_7 hfz51_8 hfz51_9
         try clear hfz52_0 hfz52_1
         try clear hfz55_0 hfz55_1
         try clear hfz55_10 hfz55_11 hfz55_12 hfz55_13 hfz55_14 hfz55_15
         try clear hfz55_2 hfz55_3 hfz55_4 hfz55_5 hfz55_6 hfz55_7 hfz55_8 hfz55_9
         try clear hfz6_0 hfz6_1
         try clear hfz8_0 hfz8_1
         try clear hx308_0
         try clear hx308_1
         try clear hx308_10
         try clear hx308_11
         try clear hx308_12
         try clear hx308_13
         try clear hx308_14
         try clear hx308_15
         try clear hx308_2
         try clear hx308_3
         try clear hx308_4
         try clear hx308_5
         try clear hx308_6
         try clear hx308_7
         try clear hx308_8
         try clear hx308_9
         try clear p2
         try clear p308
         try clear p6
         try clear q308
         obtain ⟨kq, x81_29, rfl, HA, HJ29, BK306, BK309, HB⟩ := hcut
         cases kq with
         | zero => exact absurd HA.out (by simp [spec_TableOk.j2])
         | succ kj29 =>
          have H := HA.out
          clear HA
          simp only [spec_TableOk.j2] at H
          by_cases c57 : x81_29 = true
          ·subst c57
           rw [if_pos rfl] at H
           (try dsimp only at H)
           obtain rfl := Option.some.inj H
           go_wp2_with (first | ((with_reducible refine Gv.gate_load (t := 75) rfl ?_); (try (refine gate_guard (by rfl) ?_; dsimp only)); refine wpList_load_row rfl 75 _ rfl gb309 rfl 75 _ _ _ (by first | exact Gv.kb0 BK309.out | exact Gv.kb1 (Gv.kb0 BK309.out)) Try.underlying75 rfl (by kernel_rfl) ?_))
           go_ret
           exact ⟨Gv.rt, Gv.bw⟩
          ·replace c57 := Bool.eq_false_iff.mpr c57
           subst c57
           rw [if_neg (show ¬ (false = true) by decide)] at H
           (try dsimp only at H)
           replace H := Option.bind_eq_some_iff.mp H
           obtain ⟨t312, A580, H⟩ := H
           (try dsimp only at H)
           have A58 := Gv.a0 A580
           clear A580
           have H' := Gv.a0 H
           clear H
           have hnb59 := NB306_309.out
           have hnc59 := NB309_306.out
           have hcz60_0 : wc.cell? ⟨gb306, 0, none⟩ = some (.int .i64 a0_0) := (blk_cell BK306.out 0).trans rfl
           have hcz60_1 : wc.cell? ⟨gb306, 1, none⟩ = some (.slice (some ad308) l0_1.length c0_1) := (blk_cell BK306.out 1).trans rfl
           have hfz60_0 := blk_frozen BK306.out 0
           have hfz60_1 := blk_frozen BK306.out 1
           obtain ⟨hcz61_0, hcz61_1, hcz61_2, hcz61_3, hcz61_4, hcz61_5, hcz61_6, hcz61_7, hcz61_8, hcz61_9, hcz61_10, hcz61_11, hcz61_12, hcz61_13, hcz61_14, hcz61_15⟩ := Gv.c16 BK309.out
           go_wp2_with (first | ((with_reducible refine gate_callee (f := 55) rfl ?_); refine goesL_ (some 85) rfl rfl Try.func55 (by kernel_rfl) rfl #[.agg #[.int .i64 a0_0, .slice (some ad308) l0_1.length c0_1], .agg #[.int .i64 ((rd_T75 l0_1 x4_2).f1.f0), .int .i64 ((rd_T75 l0_1 x4_2).f1.f1.f0.f0), .int .i64 ((rd_T75 l0_1 x4_2).f1.f1.f0.f1), .int .i64 ((rd_T75 l0_1 x4_2).f1.f1.f0.f2), .int .i64 ((rd_T75 l0_1 x4_2).f1.f1.f0.f3), .int .i64 ((rd_T75 l0_1 x4_2).f1.f1.f0.f4), .int .i64 ((rd_T75 l0_1 x4_2).f1.f1.f1.f0), .int .i64 ((rd_T75 l0_1 x4_2).f1.f1.f1.f1), .int .i64 ((rd_T75 l0_1 x4_2).f1.f1.f1.f2), .int .i64 ((rd_T75 l0_1 x4_2).f1.f1.f1.f3), .int .i64 ((rd_T75 l0_1 x4_2).f1.f1.f1.f4), .int .i64 ((rd_T75 l0_1 x4_2).f1.f1.f2), .int .i64 ((rd_T75 l0_1 x4_2).f1.f1.f3), .int .i64 ((rd_T75 l0_1 x4_2).f1.f1.f4)]] rfl Gv.lm ?_; (with_reducible refine (spec_l11Home.calls kj29 a0_0 _ _ l0_1 _ _ _ _ _ _ _ _ _ _ _ _ _ _ t312 _ ?side1 ?side2 A58.out).mono ?_); (case side1 => exact Gv.sd (Kd.C_below HR0_1.out HB.out)); (case side2 => exact HC0_1.out); rintro e w62 ⟨rfl, hb⟩; refine ⟨_, rfl, ?_⟩; replace BK306 := Gv.b1 BK306 hb; replace BK309 := Gv.b1 BK309 hb; replace HB := Gv.a0 (below_step Gv.bw hb); clear hb) | ((with_reducible refine Gv.gate_load (t := 75) rfl ?_); (try (refine gate_guard (by rfl) ?_; dsimp only)); refine wpList_load_row rfl 75 _ rfl gb309 rfl 75 _ _ _ (by first | exact Gv.kb0 BK309.out | exact Gv.kb1 (Gv.kb0 BK309.out)) Try.underlying75 rfl (by kernel_rfl) ?_))
           go_loopg [6] kj29 (fun kq v6 w' => ∃ (x6_4 : Int), v6 = .int .i64 x6_4 ∧ Aside0 (spec_TableOk.l1 kq (l0_1.length : Int) x4_2 x6_4 a0_0 l0_1 = some r) ∧ Aside0 (kq ≤ kj29) ∧ Aside0 (w'.heap[gb306]? = some (.cells #[.int .i64 a0_0, (.slice (some ad308) l0_1.length c0_1)] 40 (0, 0))) ∧ Aside0 (w'.heap[gb309]? = some (.cells #[.bool true, .int .i64 ((rd_T75 l0_1 x4_2).f1.f0), .int .i64 ((rd_T75 l0_1 x4_2).f1.f1.f0.f0), .int .i64 ((rd_T75 l0_1 x4_2).f1.f1.f0.f1), .int .i64 ((rd_T75 l0_1 x4_2).f1.f1.f0.f2), .int .i64 ((rd_T75 l0_1 x4_2).f1.f1.f0.f3), .int .i64 ((rd_T75 l0_1 x4_2).f1.f1.f0.f4), .int .i64 ((rd_T75 l0_1 x4_2).f1.f1.f1.f0), .int .i64 ((rd_T75 l0_1 x4_2).f1.f1.f1.f1), .int .i64 ((rd_T75 l0_1 x4_2).f1.f1.f1.f2), .int .i64 ((rd_T75 l0_1 x4_2).f1.f1.f1.f3), .int .i64 ((rd_T75 l0_1 x4_2).f1.f1.f1.f4), .int .i64 ((rd_T75 l0_1 x4_2).f1.f1.f2), .int .i64 ((rd_T75 l0_1 x4_2).f1.f1.f3), .int .i64 ((rd_T75 l0_1 x4_2).f1.f1.f4), .int .i64 ((rd_T75 l0_1 x4_2).f2)] 75 (0, 0))) ∧ Aside0 (Below w.heap.size w w'))
           case atStart => exact ⟨(t312), Gv.rq, H', ⟨Nat.le_refl _⟩, ⟨by (with_reducible repeat (first | refine blk_drewN ?_ _ | refine blk_drew ?_ | refine blk_alloc ?_ _)); exact BK306.out⟩, ⟨by (with_reducible repeat (first | refine blk_drewN ?_ _ | refine blk_drew ?_ | refine blk_alloc ?_ _)); exact BK309.out⟩, ⟨Gv.bw⟩⟩
           case round =>
            clear H'
            try clear c1
            try clear c2
            try clear p2
            try clear q2
            try clear c3
            try clear p3
            try clear q3
            try clear hx3
            try clear c4
            try clear c5
            try clear c5b0
            try clear p6
            try clear c7
            try clear c7b0
            try clear c9
            try clear c9b0
            try clear c9b1
            try clear c11
            try clear c11b0
            try clear c11b1
            try clear c13
            try clear c13b0
            try clear c13b1
            try clear c15
            try clear c15b0
            try clear c15b1
            try clear c18
            try clear c20
            try clear c20b0
            try clear c24
            try clear c25
            try clear c25b0
            try clear c26
            try clear c26b0
            try clear c27
            try clear c27b0
            try clear q28
            try clear c29
            try clear p30
            try clear q30
            try clear hx30
            try clear c33
            try clear c36
            try clear c37
            try clear c37b0
            try clear c38
            try clear c42
            try clear c42b0
            try clear c43
            try clear c48
            try clear c53
            try clear c54
            try clear c55
            try clear c57
            try clear c59
            try clear hcz10_0 hcz10_1
            try clear hcz12_0 hcz12_1
            try clear hcz14_0 hcz14_1
            try clear hcz16_0 hcz16_1
            try clear hcz17_0 hcz17_1
            try clear hcz21_0 hcz21_1
            try clear hcz23_0 hcz23_1
            try clear hcz31_0 hcz31_1
            try clear hcz34_0 hcz34_1
            try clear hcz34_10 hcz34_11 hcz34_12 hcz34_13 hcz34_14 hcz34_15
            try clear hcz34_2 hcz34_3 hcz34_4 hcz34_5 hcz34_6 hcz34_7 hcz34_8 hcz34_9
            try clear hcz39_0 hcz39_1
            try clear hcz39_10 hcz39_11 hcz39_12 hcz39_13 hcz39_14 hcz39_15
            try clear hcz39_2 hcz39_3 hcz39_4 hcz39_5 hcz39_6 hcz39_7 hcz39_8 hcz39_9
            try clear hcz41_0 hcz41_1
            try clear hcz41_10 hcz41_11 hcz41_12 hcz41_13 hcz41_14 hcz41_15
            try clear hcz41_2 hcz41_3 hcz41_4 hcz41_5 hcz41_6 hcz41_7 hcz41_8 hcz41_9
            try clear hcz44_0 hcz44_1
            try clear hcz44_10 hcz44_11 hcz44_12 hcz44_13 hcz44_14 hcz44_15
            try clear hcz44_2 hcz44_3 hcz44_4 hcz44_5 hcz44_6 hcz44_7 hcz44_8 hcz44_9
            try clear hcz46_0 hcz46_1
            try clear hcz46_10 hcz46_11 hcz46_12 hcz46_13 hcz46_14 hcz46_15
            try clear hcz46_2 hcz46_3 hcz46_4 hcz46_5 hcz46_6 hcz46_7 hcz46_8 hcz46_9
            try clear hcz49_0 hcz49_1
            try clear hcz49_10 hcz49_11 hcz49_12 hcz49_13 hcz49_14 hcz49_15
            try clear hcz49_2 hcz49_3 hcz49_4 hcz49_5 hcz49_6 hcz49_7 hcz49_8 hcz49_9
            try clear hcz4_0 hcz4_1
            try clear hcz51_0 hcz51_1
            try clear hcz51_10 hcz51_11 hcz51_12 hcz51_13 hcz51_14 hcz51_15
            try clear hcz51_2 hcz51_3 hcz51_4 hcz51_5 hcz51_6 hcz51_7 hcz51_8 hcz51_9
            try clear hcz52_0 hcz52_1
            try clear hcz55_0 hcz55_1
            try clear hcz55_10 hcz55_11 hcz55_12 hcz55_13 hcz55_14 hcz55_15
            try clear hcz55_2 hcz55_3 hcz55_4 hcz55_5 hcz55_6 hcz55_7 hcz55_8 hcz55_9
            try clear hcz60_0 hcz60_1
            try clear hcz61_0 hcz61_1
            try clear hcz61_10 hcz61_11 hcz61_12 hcz61_13 hcz61_14 hcz61_15
            try clear hcz61_2 hcz61_3 hcz61_4 hcz61_5 hcz61_6 hcz61_7 hcz61_8 hcz61_9
            try clear hcz6_0 hcz6_1
            try clear hcz8_0 hcz8_1
            try clear hfz10_0 hfz10_1
            try clear hfz12_0 hfz12_1
            try clear hfz14_0 hfz14_1
            try clear hfz16_0 hfz16_1
            try clear hfz17_0 hfz17_1
            try clear hfz21_0 hfz21_1
            try clear hfz23_0 hfz23_1
            try clear hfz31_0 hfz31_1
            try clear hfz34_0 hfz34_1
            try clear hfz34_10 hfz34_11 hfz34_12 hfz34_13 hfz34_14 hfz34_15
            try clear hfz34_2 hfz34_3 hfz34_4 hfz34_5 hfz34_6 hfz34_7 hfz34_8 hfz34_9
            try clear hfz39_0 hfz39_1
            try clear hfz39_10 hfz39_11 hfz39_12 hfz39_13 hfz39_14 hfz39_15
            try clear hfz39_2 hfz39_3 hfz39_4 hfz39_5 hfz39_6 hfz39_7 hfz39_8 hfz39_9
            try clear hfz41_0 hfz41_1
            try clear hfz41_10 hfz41_11 hfz41_12 hfz41_13 hfz41_14 hfz41_15
            try clear hfz41_2 hfz41_3 hfz41_4 hfz41_5 hfz41_6 hfz41_7 hfz41_8 hfz41_9
            try clear hfz44_0 hfz44_1
            try clear hfz44_10 hfz44_11 hfz44_12 hfz44_13 hfz44_14 hfz44_15
            try clear hfz44_2 hfz44_3 hfz44_4 hfz44_5 hfz44_6 hfz44_7 hfz44_8 hfz44_9
            try clear hfz46_0 hfz46_1
            try clear hfz46_10 hfz46_11 hfz46_12 hfz46_13 hfz46_14 hfz46_15
            try clear hfz46_2 hfz46_3 hfz46_4 hfz46_5 hfz46_6 hfz46_7 hfz46_8 hfz46_9
            try clear hfz49_0 hfz49_1
            try clear hfz49_10 hfz49_11 hfz49_12 hfz49_13 hfz49_14 hfz49_15
            try clear hfz49_2 hfz49_3 hfz49_4 hfz49_5 hfz49_6 hfz49_7 hfz49_8 hfz49_9
            try clear hfz4_0 hfz4_1
            try clear hfz51_0 hfz51_1
            try clear hfz51_10 hfz51_11 hfz51_12 hfz51_13 hfz51_14 hfz51_15
            try clear hfz51_2 hfz51_3 hfz51_4 hfz51_5 hfz51_6 hfz51_7 hfz51_8 hfz51_9
            try clear hfz52_0 hfz52_1
            try clear hfz55_0 hfz55_1
            try clear hfz55_10 hfz55_11 hfz55_12 hfz55_13 hfz55_14 hfz55_15
            try clear hfz55_2 hfz55_3 hfz55_4 hfz55_5 hfz55_6 hfz55_7 hfz55_8 hfz55_9
            try clear hfz60_0 hfz60_1
            try clear hfz61_0 hfz61_1
            try clear hfz61_10 hfz61_11 hfz61_12 hfz61_13 hfz61_14 hfz61_15
            try clear hfz61_2 hfz61_3 hfz61_4 hfz61_5 hfz61_6 hfz61_7 hfz61_8 hfz61_9
            try clear hfz6_0 hfz6_1
            try clear hfz8_0 hfz8_1
            try clear hx308_0
            try clear hx308_1
            try clear hx308_10
            try clear hx308_11
            try clear hx308_12
            try clear hx308_13
            try clear hx308_14
            try clear hx308_15
            try clear hx308_2
            try clear hx308_3
            try clear hx308_4
            try clear hx308_5
            try clear hx308_6
            try clear hx308_7
            try clear hx308_8
            try clear hx308_9
            try clear p2
            try clear p3
            try clear p30
            try clear p308
            try clear p6
            try clear q2
            try clear q28
            try clear q3
            try clear q30
            try clear q308
            obtain ⟨x6_4, rfl, HA, HK4, BK306, BK309, HB⟩ := hrel
            cases gk with
            | zero => exact absurd HA.out (by simp [spec_TableOk.l1])
            | succ k4 =>
             have H := HA.out
             clear HA
             simp only [spec_TableOk.l1] at H
             by_cases c63 : x6_4 = x4_2
             ·rw [if_pos c63] at H
              have c63b0 : (x6_4 == x4_2) = true := beq_iff_eq.mpr c63
              have c63b1 : (x6_4 != x4_2) = false := bne_eq_false_iff_eq.mpr c63
              clear c63
              have H' := Gv.a0 H
              clear H
              go_wp2_with (first | ((with_reducible refine Gv.gate_load (t := 75) rfl ?_); (try (refine gate_guard (by rfl) ?_; dsimp only)); refine wpList_load_row rfl 75 _ rfl gb309 rfl 75 _ _ _ (by first | exact Gv.kb0 BK309.out | exact Gv.kb1 (Gv.kb0 BK309.out)) Try.underlying75 rfl (by kernel_rfl) ?_))
              go_roundg k4
              case measure => have := HJ1.out; have := HK2.out; have := HJ29.out; have := HK4.out; omega
              case rel => exact ⟨(wrap64 (x4_2 + 1)), Gv.rq, H', ⟨by have := HJ1.out; have := HK2.out; have := HJ29.out; have := HK4.out; omega⟩, ⟨by (with_reducible repeat (first | refine blk_drewN ?_ _ | refine blk_drew ?_ | refine blk_alloc ?_ _)); exact BK306.out⟩, ⟨Gv.bw⟩⟩
             ·rw [if_neg c63] at H
              have c63b0 : (x6_4 == x4_2) = false := beq_eq_false_iff_ne.mpr c63
              have c63b1 : (x6_4 != x4_2) = true := bne_iff_ne.mpr c63
              by_cases c64 : 0 ≤ x6_4
              rotate_left
              ·rw [if_neg c64] at H
               exact absurd H (by simp)
              rw [if_pos c64] at H
              have c64b0 : decide (0 ≤ x6_4) = true := decide_eq_true c64
              clear c64
              by_cases c65 : x6_4 < (l0_1.length : Int)
              rotate_left
              ·rw [if_neg c65] at H
               exact absurd H (by simp)
              rw [if_pos c65] at H
              have c65b0 : decide (x6_4 < (l0_1.length : Int)) = true := decide_eq_true c65
              clear c65
              obtain ⟨bq66, hbq66⟩ : ∃ b_ : Bool, b_ = ((rd_T75 l0_1 x6_4).f0) := ⟨_, rfl⟩
              replace H : (if (bq66 = true) then (if (l0_1.length : Int) = 0 then (none) else (spec_TableOk.l1 k4 (l0_1.length : Int) x4_2 (Int.tmod (wrap64 (x6_4 + 1)) (l0_1.length : Int)) a0_0 l0_1)) else (some false)) = some r := by rw [← hbq66] at H; exact H
              have Nbq66 := Gv.a0 hbq66
              clear hbq66
              by_cases c67 : (bq66 = true)
              ·subst c67
               rw [if_pos rfl] at H
               (try dsimp only at H)
               by_cases c68 : (l0_1.length : Int) = 0
               ·rw [if_pos c68] at H
                exact absurd H (by simp)
               ·rw [if_neg c68] at H
                have c68b0 : ((l0_1.length : Int) == 0) = false := beq_eq_false_iff_ne.mpr c68
                have c68b1 : ((l0_1.length : Int) != 0) = true := bne_iff_ne.mpr c68
                have c68b2 : ¬ (l0_1 = []) := fun h_ => c68 (by rw [h_]; rfl)
                have H' := Gv.a0 H
                clear H
                have hnb69 := NB306_309.out
                have hnc69 := NB309_306.out
                have hcz70_0 : wr.cell? ⟨gb306, 0, none⟩ = some (.int .i64 a0_0) := (blk_cell BK306.out 0).trans rfl
                have hcz70_1 : wr.cell? ⟨gb306, 1, none⟩ = some (.slice (some ad308) l0_1.length c0_1) := (blk_cell BK306.out 1).trans rfl
                have hfz70_0 := blk_frozen BK306.out 0
                have hfz70_1 := blk_frozen BK306.out 1
                have p313 : 0 ≤ (x6_4 : Int) := of_decide_eq_true (by first | (with_reducible assumption) | assumption)
                have q313 : x6_4 < (l0_1.length : Int) := of_decide_eq_true (by first | (with_reducible assumption) | assumption)
                obtain ⟨ad313, e313, hx313_0, _, _, _, _, _, _, _, _, _, _, _, _, _, _, _⟩ := at_T75 HR0_1.out x6_4 p313 q313
                (try rw [← Nbq28.out] at hx313_0)
                (try rw [← Nbq66.out] at hx313_0)
                obtain rfl : ad308 = ad313 := (by injection e313)
                replace hx313_0 := Gv.bx HB.out hx313_0
                replace p313 := eq_true p313
                replace q313 := eq_true q313
                go_wp2_with (first | ((with_reducible refine Gv.gate_load (t := 75) rfl ?_); (try (refine gate_guard (by rfl) ?_; dsimp only)); refine wpList_load_row rfl 75 _ rfl gb309 rfl 75 _ _ _ (by first | exact Gv.kb0 BK309.out | exact Gv.kb1 (Gv.kb0 BK309.out)) Try.underlying75 rfl (by kernel_rfl) ?_))
                go_roundg k4
                case measure => have := HJ1.out; have := HK2.out; have := HJ29.out; have := HK4.out; omega
                case rel => exact ⟨(Int.tmod (wrap64 (x6_4 + 1)) (l0_1.length : Int)), Gv.rq, H', ⟨by have := HJ1.out; have := HK2.out; have := HJ29.out; have := HK4.out; omega⟩, ⟨by (with_reducible repeat (first | refine blk_drewN ?_ _ | refine blk_drew ?_ | refine blk_alloc ?_ _)); exact BK306.out⟩, ⟨by (with_reducible repeat (first | refine blk_drewN ?_ _ | refine blk_drew ?_ | refine blk_alloc ?_ _)); exact BK309.out⟩, ⟨Gv.bw⟩⟩
              ·replace c67 := Bool.eq_false_iff.mpr c67
               subst c67
               rw [if_neg (show ¬ (false = true) by decide)] at H
               (try dsimp only at H)
               obtain rfl := Option.some.inj H
               have hnb71 := NB306_309.out
               have hnc71 := NB309_306.out
               have hcz72_0 : wr.cell? ⟨gb306, 0, none⟩ = some (.int .i64 a0_0) := (blk_cell BK306.out 0).trans rfl
               have hcz72_1 : wr.cell? ⟨gb306, 1, none⟩ = some (.slice (some ad308) l0_1.length c0_1) := (blk_cell BK306.out 1).trans rfl
               have hfz72_0 := blk_frozen BK306.out 0
               have hfz72_1 := blk_frozen BK306.out 1
               have p313 : 0 ≤ (x6_4 : Int) := of_decide_eq_true (by first | (with_reducible assumption) | assumption)
               have q313 : x6_4 < (l0_1.length : Int) := of_decide_eq_true (by first | (with_reducible assumption) | assumption)
               obtain ⟨ad313, e313, hx313_0, _, _, _, _, _, _, _, _, _, _, _, _, _, _, _⟩ := at_T75 HR0_1.out x6_4 p313 q313
               (try rw [← Nbq28.out] at hx313_0)
               (try rw [← Nbq66.out] at hx313_0)
               obtain rfl : ad308 = ad313 := (by injection e313)
               replace hx313_0 := Gv.bx HB.out hx313_0
               replace p313 := eq_true p313
               replace q313 := eq_true q313
               go_wp2_with (first | ((with_reducible refine Gv.gate_load (t := 75) rfl ?_); (try (refine gate_guard (by rfl) ?_; dsimp only)); refine wpList_load_row rfl 75 _ rfl gb309 rfl 75 _ _ _ (by first | exact Gv.kb0 BK309.out | exact Gv.kb1 (Gv.kb0 BK309.out)) Try.underlying75 rfl (by kernel_rfl) ?_))
               go_ret
               exact ⟨Gv.rt, Gv.bw⟩
       ·replace c29 := Bool.eq_false_iff.mpr c29
        subst c29
        rw [if_neg (show ¬ (false = true) by decide)] at H
        (try simp only [Bool.false_or, Bool.true_and] at H)
        by_cases c73 : (((!(((rd_T75 l0_1 x4_2).f1.f0) == 0) || (((!(((rd_T75 l0_1 x4_2).f1.f1.f0.f0) == 0) || (!(((rd_T75 l0_1 x4_2).f1.f1.f0.f1) == 0) || (!(((rd_T75 l0_1 x4_2).f1.f1.f0.f2) == 0) || (!(((rd_T75 l0_1 x4_2).f1.f1.f0.f3) == 0) || (!(((rd_T75 l0_1 x4_2).f1.f1.f0.f4) == 0)))))) || ((!(((rd_T75 l0_1 x4_2).f1.f1.f1.f0) == 0) || (!(((rd_T75 l0_1 x4_2).f1.f1.f1.f1) == 0) || (!(((rd_T75 l0_1 x4_2).f1.f1.f1.f2) == 0) || (!(((rd_T75 l0_1 x4_2).f1.f1.f1.f3) == 0) || (!(((rd_T75 l0_1 x4_2).f1.f1.f1.f4) == 0)))))) || (!(((rd_T75 l0_1 x4_2).f1.f1.f2) == 0) || (!(((rd_T75 l0_1 x4_2).f1.f1.f3) == 0) || (!(((rd_T75 l0_1 x4_2).f1.f1.f4) == 0)))))))) || (!(((rd_T75 l0_1 x4_2).f2) == 0)))) = true
        ·rw [if_pos c73] at H
         have c73b0 : (((!(((rd_T75 l0_1 x4_2).f1.f0) == 0) || (((!(((rd_T75 l0_1 x4_2).f1.f1.f0.f0) == 0) || (!(((rd_T75 l0_1 x4_2).f1.f1.f0.f1) == 0) || (!(((rd_T75 l0_1 x4_2).f1.f1.f0.f2) == 0) || (!(((rd_T75 l0_1 x4_2).f1.f1.f0.f3) == 0) || (!(((rd_T75 l0_1 x4_2).f1.f1.f0.f4) == 0)))))) || ((!(((rd_T75 l0_1 x4_2).f1.f1.f1.f0) == 0) || (!(((rd_T75 l0_1 x4_2).f1.f1.f1.f1) == 0) || (!(((rd_T75 l0_1 x4_2).f1.f1.f1.f2) == 0) || (!(((rd_T75 l0_1 x4_2).f1.f1.f1.f3) == 0) || (!(((rd_T75 l0_1 x4_2).f1.f1.f1.f4) == 0)))))) || (!(((rd_T75 l0_1 x4_2).f1.f1.f2) == 0) || (!(((rd_T75 l0_1 x4_2).f1.f1.f3) == 0) || (!(((rd_T75 l0_1 x4_2).f1.f1.f4) == 0)))))))) || (!(((rd_T75 l0_1 x4_2).f2) == 0)))) = true := c73
         clear c73
         obtain rfl := Option.some.inj H
         have hcz74_0 : wr.cell? ⟨gb306, 0, none⟩ = some (.int .i64 a0_0) := (blk_cell BK306.out 0).trans rfl
         have hcz74_1 : wr.cell? ⟨gb306, 1, none⟩ = some (.slice A0_1 l0_1.length c0_1) := (blk_cell BK306.out 1).trans rfl
         have hfz74_0 := blk_frozen BK306.out 0
         have hfz74_1 := blk_frozen BK306.out 1
         have p308 : 0 ≤ (x4_2 : Int) := of_decide_eq_true (by first | (with_reducible assumption) | assumption)
         have q308 : x4_2 < (l0_1.length : Int) := of_decide_eq_true (by first | (with_reducible assumption) | assumption)
         obtain ⟨ad308, e308, hx308_0, hx308_1, hx308_2, hx308_3, hx308_4, hx308_5, hx308_6, hx308_7, hx308_8, hx308_9, hx308_10, hx308_11, hx308_12, hx308_13, hx308_14, hx308_15⟩ := at_T75 HR0_1.out x4_2 p308 q308
         (try rw [← Nbq28.out] at hx308_0)
         cases e308
         replace hx308_0 := Gv.bx HB.out hx308_0
         replace hx308_1 := Gv.bx HB.out hx308_1
         replace hx308_2 := Gv.bx HB.out hx308_2
         replace hx308_3 := Gv.bx HB.out hx308_3
         replace hx308_4 := Gv.bx HB.out hx308_4
         replace hx308_5 := Gv.bx HB.out hx308_5
         replace hx308_6 := Gv.bx HB.out hx308_6
         replace hx308_7 := Gv.bx HB.out hx308_7
         replace hx308_8 := Gv.bx HB.out hx308_8
         replace hx308_9 := Gv.bx HB.out hx308_9
         replace hx308_10 := Gv.bx HB.out hx308_10
         replace hx308_11 := Gv.bx HB.out hx308_11
         replace hx308_12 := Gv.bx HB.out hx308_12
         replace hx308_13 := Gv.bx HB.out hx308_13
         replace hx308_14 := Gv.bx HB.out hx308_14
         replace hx308_15 := Gv.bx HB.out hx308_15
         replace p308 := eq_true p308
         replace q308 := eq_true q308
         go_wp2_with (first | ((with_reducible refine gate_dst (N := 5) rfl ?_); refine Gv.bev 5 75 #[.bool false, .int .i64 0, .int .i64 0, .int .i64 0, .int .i64 0, .int .i64 0, .int .i64 0, .int .i64 0, .int .i64 0, .int .i64 0, .int .i64 0, .int .i64 0, .int .i64 0, .int .i64 0, .int .i64 0, .int .i64 0] ?_; intro gb309 hg w75 hbox hb; have BK309 := Gv.a0 (hbox); have GW309 := Gv.a0 ((Gv.ble hg Gv.bw : w.heap.size ≤ gb309)); have GE309 := Gv.a0 ((Gv.ble hg Gv.bw : w.heap.size ≤ gb309)); replace HB := Gv.a0 (below_step Gv.bw hb); have NB306_309 := Gv.a0 ((Gv.nlt hg (Gv.kb BK306.out) : gb306 ≠ gb309)); have NB309_306 := Gv.a0 ((Gv.ngt hg (Gv.kb BK306.out) : gb309 ≠ gb306)); replace BK306 := Gv.b1 BK306 hb; clear hb hbox hg; have hnb76 := NB309_306.out; have hnc76 := NB306_309.out; obtain ⟨hcz77_0, hcz77_1, hcz77_2, hcz77_3, hcz77_4, hcz77_5, hcz77_6, hcz77_7, hcz77_8, hcz77_9, hcz77_10, hcz77_11, hcz77_12, hcz77_13, hcz77_14, hcz77_15⟩ := Gv.c16 BK309.out) | ((with_reducible refine gate_store (t := 75) (p := 5) rfl ?_); refine Gv.store_event rfl rfl rfl rfl rfl (Gv.kb BK309.out) (by kernel_rfl) rfl (by simp; and_intros <;> rfl) ?_; intro w75s hbox hoth hbel; replace BK309 := Gv.a0 (hbox); replace HB := Gv.a0 (hbel w Gv.bw GE309.out); replace BK306 := Gv.a0 ((hoth gb306 NB306_309.out).trans (Gv.kb BK306.out)); clear hbox hoth hbel; (try clear hcz77_0 hcz77_1 hcz77_2 hcz77_3 hcz77_4 hcz77_5 hcz77_6 hcz77_7 hcz77_8 hcz77_9 hcz77_10 hcz77_11 hcz77_12 hcz77_13 hcz77_14 hcz77_15 hfz77_0 hfz77_1 hfz77_2 hfz77_3 hfz77_4 hfz77_5 hfz77_6 hfz77_7 hfz77_8 hfz77_9 hfz77_10 hfz77_11 hfz77_12 hfz77_13 hfz77_14 hfz77_15); obtain ⟨hcz77_0, hcz77_1, hcz77_2, hcz77_3, hcz77_4, hcz77_5, hcz77_6, hcz77_7, hcz77_8, hcz77_9, hcz77_10, hcz77_11, hcz77_12, hcz77_13, hcz77_14, hcz77_15⟩ := Gv.c16 BK309.out) | ((with_reducible refine Gv.gate_load (t := 75) rfl ?_); (try (refine gate_guard (by rfl) ?_; dsimp only)); refine wpList_load_row rfl 75 _ rfl gb309 rfl 75 _ _ _ (by first | exact Gv.kb0 BK309.out | exact Gv.kb1 (Gv.kb0 BK309.out)) Try.underlying75 rfl (by kernel_rfl) ?_) | ((with_reducible refine Gv.gate_load (t := 75) rfl ?_); refine Gv.load_event (cs := [_, _, _, _, _, _, _, _, _, _, _, _, _, _, _, _]) rfl rfl rfl ⟨hx308_0, hx308_1, hx308_2, hx308_3, hx308_4, hx308_5, hx308_6, hx308_7, hx308_8, hx308_9, hx308_10, hx308_11, hx308_12, hx308_13, hx308_14, hx308_15, trivial⟩ Try.underlying75 rfl (by kernel_rfl) ?_))
         go_ret
         exact ⟨Gv.rt, Gv.bw⟩
        ·rw [if_neg c73] at H
         have c73b0 : (((!(((rd_T75 l0_1 x4_2).f1.f0) == 0) || (((!(((rd_T75 l0_1 x4_2).f1.f1.f0.f0) == 0) || (!(((rd_T75 l0_1 x4_2).f1.f1.f0.f1) == 0) || (!(((rd_T75 l0_1 x4_2).f1.f1.f0.f2) == 0) || (!(((rd_T75 l0_1 x4_2).f1.f1.f0.f3) == 0) || (!(((rd_T75 l0_1 x4_2).f1.f1.f0.f4) == 0)))))) || ((!(((rd_T75 l0_1 x4_2).f1.f1.f1.f0) == 0) || (!(((rd_T75 l0_1 x4_2).f1.f1.f1.f1) == 0) || (!(((rd_T75 l0_1 x4_2).f1.f1.f1.f2) == 0) || (!(((rd_T75 l0_1 x4_2).f1.f1.f1.f3) == 0) || (!(((rd_T75 l0_1 x4_2).f1.f1.f1.f4) == 0)))))) || (!(((rd_T75 l0_1 x4_2).f1.f1.f2) == 0) || (!(((rd_T75 l0_1 x4_2).f1.f1.f3) == 0) || (!(((rd_T75 l0_1 x4_2).f1.f1.f4) == 0)))))))) || (!(((rd_T75 l0_1 x4_2).f2) == 0)))) = false := by simpa using c73
         clear c73
         have H' := Gv.a0 H
         clear H
         have hcz78_0 : wr.cell? ⟨gb306, 0, none⟩ = some (.int .i64 a0_0) := (blk_cell BK306.out 0).trans rfl
         have hcz78_1 : wr.cell? ⟨gb306, 1, none⟩ = some (.slice A0_1 l0_1.length c0_1) := (blk_cell BK306.out 1).trans rfl
         have hfz78_0 := blk_frozen BK306.out 0
         have hfz78_1 := blk_frozen BK306.out 1
         have p308 : 0 ≤ (x4_2 : Int) := of_decide_eq_true (by first | (with_reducible assumption) | assumption)
         have q308 : x4_2 < (l0_1.length : Int) := of_decide_eq_true (by first | (with_reducible assumption) | assumption)
         obtain ⟨ad308, e308, hx308_0, hx308_1, hx308_2, hx308_3, hx308_4, hx308_5, hx308_6, hx308_7, hx308_8, hx308_9, hx308_10, hx308_11, hx308_12, hx308_13, hx308_14, hx308_15⟩ := at_T75 HR0_1.out x4_2 p308 q308
         (try rw [← Nbq28.out] at hx308_0)
         cases e308
         replace hx308_0 := Gv.bx HB.out hx308_0
         replace hx308_1 := Gv.bx HB.out hx308_1
         replace hx308_2 := Gv.bx HB.out hx308_2
         replace hx308_3 := Gv.bx HB.out hx308_3
         replace hx308_4 := Gv.bx HB.out hx308_4
         replace hx308_5 := Gv.bx HB.out hx308_5
         replace hx308_6 := Gv.bx HB.out hx308_6
         replace hx308_7 := Gv.bx HB.out hx308_7
         replace hx308_8 := Gv.bx HB.out hx308_8
         replace hx308_9 := Gv.bx HB.out hx308_9
         replace hx308_10 := Gv.bx HB.out hx308_10
         replace hx308_11 := Gv.bx HB.out hx308_11
         replace hx308_12 := Gv.bx HB.out hx308_12
         replace hx308_13 := Gv.bx HB.out hx308_13
         replace hx308_14 := Gv.bx HB.out hx308_14
         replace hx308_15 := Gv.bx HB.out hx308_15
         replace p308 := eq_true p308
         replace q308 := eq_true q308
         go_wp2_with (first | ((with_reducible refine gate_dst (N := 5) rfl ?_); refine Gv.bev 5 75 #[.bool false, .int .i64 0, .int .i64 0, .int .i64 0, .int .i64 0, .int .i64 0, .int .i64 0, .int .i64 0, .int .i64 0, .int .i64 0, .int .i64 0, .int .i64 0, .int .i64 0, .int .i64 0, .int .i64 0, .int .i64 0] ?_; intro gb309 hg w79 hbox hb; have BK309 := Gv.a0 (hbox); have GW309 := Gv.a0 ((Gv.ble hg Gv.bw : w.heap.size ≤ gb309)); have GE309 := Gv.a0 ((Gv.ble hg Gv.bw : w.heap.size ≤ gb309)); replace HB := Gv.a0 (below_step Gv.bw hb); have NB306_309 := Gv.a0 ((Gv.nlt hg (Gv.kb BK306.out) : gb306 ≠ gb309)); have NB309_306 := Gv.a0 ((Gv.ngt hg (Gv.kb BK306.out) : gb309 ≠ gb306)); replace BK306 := Gv.b1 BK306 hb; clear hb hbox hg; have hnb80 := NB309_306.out; have hnc80 := NB306_309.out; obtain ⟨hcz81_0, hcz81_1, hcz81_2, hcz81_3, hcz81_4, hcz81_5, hcz81_6, hcz81_7, hcz81_8, hcz81_9, hcz81_10, hcz81_11, hcz81_12, hcz81_13, hcz81_14, hcz81_15⟩ := Gv.c16 BK309.out) | ((with_reducible refine gate_store (t := 75) (p := 5) rfl ?_); refine Gv.store_event rfl rfl rfl rfl rfl (Gv.kb BK309.out) (by kernel_rfl) rfl (by simp; and_intros <;> rfl) ?_; intro w79s hbox hoth hbel; replace BK309 := Gv.a0 (hbox); replace HB := Gv.a0 (hbel w Gv.bw GE309.out); replace BK306 := Gv.a0 ((hoth gb306 NB306_309.out).trans (Gv.kb BK306.out)); clear hbox hoth hbel; (try clear hcz81_0 hcz81_1 hcz81_2 hcz81_3 hcz81_4 hcz81_5 hcz81_6 hcz81_7 hcz81_8 hcz81_9 hcz81_10 hcz81_11 hcz81_12 hcz81_13 hcz81_14 hcz81_15 hfz81_0 hfz81_1 hfz81_2 hfz81_3 hfz81_4 hfz81_5 hfz81_6 hfz81_7 hfz81_8 hfz81_9 hfz81_10 hfz81_11 hfz81_12 hfz81_13 hfz81_14 hfz81_15); obtain ⟨hcz81_0, hcz81_1, hcz81_2, hcz81_3, hcz81_4, hcz81_5, hcz81_6, hcz81_7, hcz81_8, hcz81_9, hcz81_10, hcz81_11, hcz81_12, hcz81_13, hcz81_14, hcz81_15⟩ := Gv.c16 BK309.out) | ((with_reducible refine Gv.gate_load (t := 75) rfl ?_); (try (refine gate_guard (by rfl) ?_; dsimp only)); refine wpList_load_row rfl 75 _ rfl gb309 rfl 75 _ _ _ (by first | exact Gv.kb0 BK309.out | exact Gv.kb1 (Gv.kb0 BK309.out)) Try.underlying75 rfl (by kernel_rfl) ?_) | ((with_reducible refine Gv.gate_load (t := 75) rfl ?_); refine Gv.load_event (cs := [_, _, _, _, _, _, _, _, _, _, _, _, _, _, _, _]) rfl rfl rfl ⟨hx308_0, hx308_1, hx308_2, hx308_3, hx308_4, hx308_5, hx308_6, hx308_7, hx308_8, hx308_9, hx308_10, hx308_11, hx308_12, hx308_13, hx308_14, hx308_15, trivial⟩ Try.underlying75 rfl (by kernel_rfl) ?_))
         go_roundg k2
         case measure => have := HJ1.out; have := HK2.out; omega
         case rel => exact ⟨(wrap64 (x4_2 + 1)), Gv.rq, H', ⟨by have := HJ1.out; have := HK2.out; omega⟩, ⟨by (with_reducible repeat (first | refine blk_drewN ?_ _ | refine blk_drew ?_ | refine blk_alloc ?_ _)); (repeat (refine blk_far ?_ NB306_309.out _; (with_reducible repeat (first | refine blk_drewN ?_ _ | refine blk_drew ?_ | refine blk_alloc ?_ _)))); (with_reducible repeat (first | refine blk_drewN ?_ _ | refine blk_drew ?_ | refine blk_alloc ?_ _)); exact BK306.out⟩, ⟨Gv.bw⟩⟩
/-! ### spec_l11Into: function 60 -/
def spec_l11Into.l0 : Nat → Int → Int → Int → Int → List (S75) → Int → Int → Int → Int → Int → Int → Int → Int → Int → Int → Int → Int → Int → Int → Option ((List (S75)))
 | 0, _, _, _, _, _, _, _, _, _, _, _, _, _, _, _, _, _, _, _ => none
 | k + 1, x2, x6, x7, x315000, x315001, x316000, x316001, x316002, x316003, x316004, x316005, x316006, x316007, x316008, x316009, x316010, x316011, x316012, x316013 => if x7 < (x315001.length : Int) then (if 0 ≤ x6 then (if x6 < (x315001.length : Int) then (if (rd_T75 x315001 x6).f0 = true then (if (x315001.length : Int) = 0 then (none) else (spec_l11Into.l0 k x2 (Int.tmod (wrap64 (x6 + 1)) (x315001.length : Int)) (wrap64 (x7 + 1)) x315000 x315001 x316000 x316001 x316002 x316003 x316004 x316005 x316006 x316007 x316008 x316009 x316010 x316011 x316012 x316013)) else (some (x315001.set (x6 : Int).toNat (⟨true, (⟨x316000, (⟨(⟨x316001, x316002, x316003, x316004, x316005⟩ : S29), (⟨x316006, x316007, x316008, x316009, x316010⟩ : S29), x316011, x316012, x316013⟩ : S31)⟩ : S33), x2⟩ : S75)))) else (none)) else (none)) else (if 0 ≤ x6 then (if x6 < (x315001.length : Int) then (some (x315001.set (x6 : Int).toNat (⟨true, (⟨x316000, (⟨(⟨x316001, x316002, x316003, x316004, x316005⟩ : S29), (⟨x316006, x316007, x316008, x316009, x316010⟩ : S29), x316011, x316012, x316013⟩ : S31)⟩ : S33), x2⟩ : S75))) else (none)) else (none))
def spec_l11Into.f (k : Nat) (a0_0 : Int) (l0_1 : List (S75)) (a1_0 : Int) (a1_1 : Int) (a1_2 : Int) (a1_3 : Int) (a1_4 : Int) (a1_5 : Int) (a1_6 : Int) (a1_7 : Int) (a1_8 : Int) (a1_9 : Int) (a1_10 : Int) (a1_11 : Int) (a1_12 : Int) (a1_13 : Int) (a2 : Int) : Option ((List (S75))) := (spec_l11Home.f k a0_0 l0_1 a1_0 a1_1 a1_2 a1_3 a1_4 a1_5 a1_6 a1_7 a1_8 a1_9 a1_10 a1_11 a1_12 a1_13).bind fun t316 => (spec_l11Into.l0 k a2 t316 0 a0_0 l0_1 a1_0 a1_1 a1_2 a1_3 a1_4 a1_5 a1_6 a1_7 a1_8 a1_9 a1_10 a1_11 a1_12 a1_13)
set_option maxHeartbeats 8000000 in
set_option maxRecDepth 100000 in
theorem spec_l11Into.calls (k : Nat) (a0_0 : Int) (P0_1_ : Nat → Prop) (u9000_ : Value) (l0_1 : List (S75)) (a1_0 : Int) (a1_1 : Int) (a1_2 : Int) (a1_3 : Int) (a1_4 : Int) (a1_5 : Int) (a1_6 : Int) (a1_7 : Int) (a1_8 : Int) (a1_9 : Int) (a1_10 : Int) (a1_11 : Int) (a1_12 : Int) (a1_13 : Int) (a2 : Int) (r : List (S75)) (w0 w : World) (hB : Below w0.heap.size w0 w) (ho0_1 : Kd.R k75 75 w w0.heap.size P0_1_ u9000_ l0_1) (h : spec_l11Into.f k a0_0 l0_1 a1_0 a1_1 a1_2 a1_3 a1_4 a1_5 a1_6 a1_7 a1_8 a1_9 a1_10 a1_11 a1_12 a1_13 a2 = some r) :
  Calls Try.prog 60 #[.agg #[.int .i64 a0_0, u9000_], .agg #[.int .i64 a1_0, .int .i64 a1_1, .int .i64 a1_2, .int .i64 a1_3, .int .i64 a1_4, .int .i64 a1_5, .int .i64 a1_6, .int .i64 a1_7, .int .i64 a1_8, .int .i64 a1_9, .int .i64 a1_10, .int .i64 a1_11, .int .i64 a1_12, .int .i64 a1_13], .int .i64 a2] w fun e w' => e = .returned (.tuple #[]) ∧ Kd.R k75 75 w' w0.heap.size (fun k_ => (P0_1_ k_ ∨ w.heap.size ≤ k_)) u9000_ r ∧ Below w0.heap.size w0 w' ∧ Kept w w' (fun k_ => P0_1_ k_) := by
 have hu40 := Try.underlying40
 have hu33 := Try.underlying33
 have hu75 := Try.underlying75
 have HO0_1 := Gv.a0 (show Kd.R k75 75 w w0.heap.size (fun k_ => (P0_1_ k_ ∨ w.heap.size ≤ k_)) u9000_ l0_1 from Kd.R_mono ho0_1 (fun k_ hk => (.inl hk)))
 have HK := Gv.a0 (Kept.refl w (fun k_ => P0_1_ k_))
 have HW0 := Gv.a0 hB.size
 have HB := Gv.a0 hB
 clear hB
 have H : ((spec_l11Home.f k a0_0 l0_1 a1_0 a1_1 a1_2 a1_3 a1_4 a1_5 a1_6 a1_7 a1_8 a1_9 a1_10 a1_11 a1_12 a1_13).bind fun t316 => (spec_l11Into.l0 k a2 t316 0 a0_0 l0_1 a1_0 a1_1 a1_2 a1_3 a1_4 a1_5 a1_6 a1_7 a1_8 a1_9 a1_10 a1_11 a1_12 a1_13)) = some r := h
 clear h
 replace H := Option.bind_eq_some_iff.mp H
 obtain ⟨t316, A40, H⟩ := H
 (try dsimp only at H)
 have A4 := Gv.a0 A40
 clear A40
 have H' := Gv.a0 H
 clear H
 obtain ⟨Ao5, co5, eo5⟩ := Kd.R_slice HO0_1.out
 subst eo5
 go_enter Try.func60, Try.ntmps60
 go_wp2_with (first | ((with_reducible refine gate_dst (N := 3) rfl ?_); refine Gv.bev 3 40 #[.int .i64 a0_0, .slice Ao5 l0_1.length co5] ?_; intro gb314 hg w6 hbox hb; replace HO0_1 := Gv.a0 (Kd.R_below (Gv.kr HO0_1.out) hb); have BK314 := Gv.a0 (hbox); have GW314 := Gv.a0 ((by rw [hg]; exact (by first | exact HK.out.1 | exact (show Kept w _ (fun k_ => P0_1_ k_) from by repeat (first | (with_reducible first | exact HK.out | apply Kept.alloc | apply Kept.drewN | apply Kept.drew) | exact HK.out)).1) : w.heap.size ≤ gb314)); replace HK := Gv.a0 (Kept.below (S := (fun k_ => P0_1_ k_)) (by repeat (first | (with_reducible first | exact HK.out | apply Kept.alloc | apply Kept.drewN | apply Kept.drew) | exact HK.out)) hb); have GE314 := Gv.a0 ((Gv.ble hg Gv.bw : w0.heap.size ≤ gb314)); replace HB := Gv.a0 (below_step Gv.bw hb); clear hb hbox hg) | ((with_reducible refine gate_dst (N := 4) rfl ?_); refine Gv.bev 4 33 #[.int .i64 a1_0, .int .i64 a1_1, .int .i64 a1_2, .int .i64 a1_3, .int .i64 a1_4, .int .i64 a1_5, .int .i64 a1_6, .int .i64 a1_7, .int .i64 a1_8, .int .i64 a1_9, .int .i64 a1_10, .int .i64 a1_11, .int .i64 a1_12, .int .i64 a1_13] ?_; intro gb315 hg w7 hbox hb; replace HO0_1 := Gv.a0 (Kd.R_below (Gv.kr HO0_1.out) hb); have BK315 := Gv.a0 (hbox); have GW315 := Gv.a0 ((by rw [hg]; exact (by first | exact HK.out.1 | exact (show Kept w _ (fun k_ => P0_1_ k_) from by repeat (first | (with_reducible first | exact HK.out | apply Kept.alloc | apply Kept.drewN | apply Kept.drew | refine Kept.setCell ?_ (.inr GW314.out) _) | exact HK.out)).1) : w.heap.size ≤ gb315)); replace HK := Gv.a0 (Kept.below (S := (fun k_ => P0_1_ k_)) (by repeat (first | (with_reducible first | exact HK.out | apply Kept.alloc | apply Kept.drewN | apply Kept.drew | refine Kept.setCell ?_ (.inr GW314.out) _) | exact HK.out)) hb); have GE315 := Gv.a0 ((Gv.ble hg Gv.bw : w0.heap.size ≤ gb315)); replace HB := Gv.a0 (below_step Gv.bw hb); have NB314_315 := Gv.a0 ((Gv.nlt hg (Gv.kb BK314.out) : gb314 ≠ gb315)); have NB315_314 := Gv.a0 ((Gv.ngt hg (Gv.kb BK314.out) : gb315 ≠ gb314)); replace BK314 := Gv.b1 BK314 hb; clear hb hbox hg; have hnb8 := NB314_315.out; have hnc8 := NB315_314.out; have hcz9_0 : w7.cell? ⟨gb314, 0, none⟩ = some (.int .i64 a0_0) := (blk_cell BK314.out 0).trans rfl; have hcz9_1 : w7.cell? ⟨gb314, 1, none⟩ = some (.slice Ao5 l0_1.length co5) := (blk_cell BK314.out 1).trans rfl; have hfz9_0 := blk_frozen BK314.out 0; have hfz9_1 := blk_frozen BK314.out 1; obtain ⟨hcz10_0, hcz10_1, hcz10_2, hcz10_3, hcz10_4, hcz10_5, hcz10_6, hcz10_7, hcz10_8, hcz10_9, hcz10_10, hcz10_11, hcz10_12, hcz10_13⟩ := Gv.c14 BK315.out) | ((with_reducible refine gate_store (t := 33) (p := 4) rfl ?_); refine Gv.store_event rfl rfl rfl rfl rfl (Gv.kb BK315.out) (by kernel_rfl) rfl (by simp; and_intros <;> rfl) ?_; intro w7s hbox hoth hbel; replace BK315 := Gv.a0 (hbox); replace HB := Gv.a0 (hbel w Gv.bw GE315.out); replace BK314 := Gv.a0 ((hoth gb314 NB314_315.out).trans (Gv.kb BK314.out)); clear hbox hoth hbel; (try clear hcz9_0 hcz9_1 hfz9_0 hfz9_1 hcz10_0 hcz10_1 hcz10_2 hcz10_3 hcz10_4 hcz10_5 hcz10_6 hcz10_7 hcz10_8 hcz10_9 hcz10_10 hcz10_11 hcz10_12 hcz10_13 hfz10_0 hfz10_1 hfz10_2 hfz10_3 hfz10_4 hfz10_5 hfz10_6 hfz10_7 hfz10_8 hfz10_9 hfz10_10 hfz10_11 hfz10_12 hfz10_13); have hcz9_0 : w7s.cell? ⟨gb314, 0, none⟩ = some (.int .i64 a0_0) := (blk_cell BK314.out 0).trans rfl; have hcz9_1 : w7s.cell? ⟨gb314, 1, none⟩ = some (.slice Ao5 l0_1.length co5) := (blk_cell BK314.out 1).trans rfl; have hfz9_0 := blk_frozen BK314.out 0; have hfz9_1 := blk_frozen BK314.out 1; obtain ⟨hcz10_0, hcz10_1, hcz10_2, hcz10_3, hcz10_4, hcz10_5, hcz10_6, hcz10_7, hcz10_8, hcz10_9, hcz10_10, hcz10_11, hcz10_12, hcz10_13⟩ := Gv.c14 BK315.out) | ((with_reducible refine gate_callee (f := 55) rfl ?_); refine goesL_ (some 10) rfl rfl Try.func55 (by kernel_rfl) rfl #[.agg #[.int .i64 a0_0, .slice Ao5 l0_1.length co5], .agg #[.int .i64 a1_0, .int .i64 a1_1, .int .i64 a1_2, .int .i64 a1_3, .int .i64 a1_4, .int .i64 a1_5, .int .i64 a1_6, .int .i64 a1_7, .int .i64 a1_8, .int .i64 a1_9, .int .i64 a1_10, .int .i64 a1_11, .int .i64 a1_12, .int .i64 a1_13]] rfl Gv.lm ?_; (with_reducible refine (spec_l11Home.calls k a0_0 _ _ l0_1 a1_0 a1_1 a1_2 a1_3 a1_4 a1_5 a1_6 a1_7 a1_8 a1_9 a1_10 a1_11 a1_12 a1_13 t316 _ ?side1 ?side2 A4.out).mono ?_); (case side1 => repeat (first | exact (Kd.R_reads' HO0_1.out).2.2 | (with_reducible refine Kd.C_alloc ?_ _) | (with_reducible refine Kd.C_drewN ?_ _) | (with_reducible refine Kd.C_drew ?_))); (case side2 => exact (Kd.R_reads' HO0_1.out).2.1); rintro e w11 ⟨rfl, hb⟩; refine ⟨_, rfl, ?_⟩; replace HO0_1 := Gv.a0 (Kd.R_below (Gv.kr HO0_1.out) hb); replace BK314 := Gv.b1 BK314 hb; replace BK315 := Gv.b1 BK315 hb; replace HK := Gv.a0 (Kept.below (S := (fun k_ => P0_1_ k_)) (by repeat (first | (with_reducible first | exact HK.out | apply Kept.alloc | apply Kept.drewN | apply Kept.drew | refine Kept.setCell ?_ (.inr GW314.out) _ | refine Kept.setCell ?_ (.inr GW315.out) _) | exact HK.out)) hb); replace HB := Gv.a0 (below_step Gv.bw hb); clear hb) | ((with_reducible refine Gv.gate_load (t := 33) rfl ?_); (try (refine gate_guard (by rfl) ?_; dsimp only)); refine wpList_load_row rfl 33 _ rfl gb315 rfl 33 _ _ _ (by first | exact Gv.kb0 BK315.out | exact Gv.kb1 (Gv.kb0 BK315.out)) Try.underlying33 rfl (by kernel_rfl) ?_) | ((with_reducible refine Gv.gate_load (t := 31) rfl ?_); (try (refine gate_guard (by rfl) ?_; dsimp only)); refine Gv.sub_event (g := gb315) 13 rfl rfl rfl (by first | exact Gv.kb0 BK315.out | exact Gv.kb1 (Gv.kb0 BK315.out)) Try.underlying31 rfl (by kernel_rfl) ?_))
 go_loopg [6, 7] k (fun kq v6 v7 w' => ∃ (x6_1 : Int) (x7_1 : Int), v6 = .int .i64 x6_1 ∧ v7 = .int .i64 x7_1 ∧ Aside0 (spec_l11Into.l0 kq a2 x6_1 x7_1 a0_0 l0_1 a1_0 a1_1 a1_2 a1_3 a1_4 a1_5 a1_6 a1_7 a1_8 a1_9 a1_10 a1_11 a1_12 a1_13 = some r) ∧ Aside0 (kq ≤ k) ∧ Aside0 (Kd.R k75 75 w' w0.heap.size (fun k_ => (P0_1_ k_ ∨ w.heap.size ≤ k_)) (.slice Ao5 l0_1.length co5) l0_1) ∧ Aside0 (w'.heap[gb314]? = some (.cells #[.int .i64 a0_0, (.slice Ao5 l0_1.length co5)] 40 (0, 0))) ∧ Aside0 (w'.heap[gb315]? = some (.cells #[.int .i64 a1_0, .int .i64 a1_1, .int .i64 a1_2, .int .i64 a1_3, .int .i64 a1_4, .int .i64 a1_5, .int .i64 a1_6, .int .i64 a1_7, .int .i64 a1_8, .int .i64 a1_9, .int .i64 a1_10, .int .i64 a1_11, .int .i64 a1_12, .int .i64 a1_13] 33 (0, 0))) ∧ Aside0 (Kept w w' (fun k_ => P0_1_ k_)) ∧ Aside0 (Below w0.heap.size w0 w'))
 case atStart => exact ⟨(t316), (0), Gv.rq, Gv.rq, H', ⟨Nat.le_refl _⟩, ⟨Gv.kr HO0_1.out⟩, ⟨by (with_reducible repeat (first | refine blk_drewN ?_ _ | refine blk_drew ?_ | refine blk_alloc ?_ _)); exact BK314.out⟩, ⟨by (with_reducible repeat (first | refine blk_drewN ?_ _ | refine blk_drew ?_ | refine blk_alloc ?_ _)); exact BK315.out⟩, ⟨by repeat (first | (with_reducible first | exact HK.out | apply Kept.alloc | apply Kept.drewN | apply Kept.drew | refine Kept.setCell ?_ (.inr GW314.out) _ | refine Kept.setCell ?_ (.inr GW315.out) _) | exact HK.out)⟩, ⟨Gv.bw⟩⟩
 case round =>
  clear H'
  try clear p2
  try clear c5
  try clear c6
  try clear c8
  try clear hcz10_0 hcz10_1
  try clear hcz10_10 hcz10_11 hcz10_12 hcz10_13
  try clear hcz10_2 hcz10_3 hcz10_4 hcz10_5 hcz10_6 hcz10_7 hcz10_8 hcz10_9
  try clear hcz9_0 hcz9_1
  try clear hfz10_0 hfz10_1
  try clear hfz10_10 hfz10_11 hfz10_12 hfz10_13
  try clear hfz10_2 hfz10_3 hfz10_4 hfz10_5 hfz10_6 hfz10_7 hfz10_8 hfz10_9
  try clear hfz9_0 hfz9_1
  obtain ⟨x6_1, x7_1, rfl, rfl, HA, HK1, HO_315001, BK314, BK315, HK, HB⟩ := hrel
  cases gk with
  | zero => exact absurd HA.out (by simp [spec_l11Into.l0])
  | succ k1 =>
   have H := HA.out
   clear HA
   simp only [spec_l11Into.l0] at H
   by_cases c12 : x7_1 < (l0_1.length : Int)
   ·rw [if_pos c12] at H
    have c12b0 : decide (x7_1 < (l0_1.length : Int)) = true := decide_eq_true c12
    clear c12
    by_cases c13 : 0 ≤ x6_1
    rotate_left
    ·rw [if_neg c13] at H
     exact absurd H (by simp)
    rw [if_pos c13] at H
    have c13b0 : decide (0 ≤ x6_1) = true := decide_eq_true c13
    clear c13
    by_cases c14 : x6_1 < (l0_1.length : Int)
    rotate_left
    ·rw [if_neg c14] at H
     exact absurd H (by simp)
    rw [if_pos c14] at H
    have c14b0 : decide (x6_1 < (l0_1.length : Int)) = true := decide_eq_true c14
    clear c14
    obtain ⟨bq15, hbq15⟩ : ∃ b_ : Bool, b_ = ((rd_T75 l0_1 x6_1).f0) := ⟨_, rfl⟩
    replace H : (if bq15 = true then (if (l0_1.length : Int) = 0 then (none) else (spec_l11Into.l0 k1 a2 (Int.tmod (wrap64 (x6_1 + 1)) (l0_1.length : Int)) (wrap64 (x7_1 + 1)) a0_0 l0_1 a1_0 a1_1 a1_2 a1_3 a1_4 a1_5 a1_6 a1_7 a1_8 a1_9 a1_10 a1_11 a1_12 a1_13)) else (some (l0_1.set (x6_1 : Int).toNat (⟨true, (⟨a1_0, (⟨(⟨a1_1, a1_2, a1_3, a1_4, a1_5⟩ : S29), (⟨a1_6, a1_7, a1_8, a1_9, a1_10⟩ : S29), a1_11, a1_12, a1_13⟩ : S31)⟩ : S33), a2⟩ : S75)))) = some r := by rw [← hbq15] at H; exact H
    have Nbq15 := Gv.a0 hbq15
    clear hbq15
    by_cases c16 : bq15 = true
    ·subst c16
     rw [if_pos rfl] at H
     (try dsimp only at H)
     by_cases c17 : (l0_1.length : Int) = 0
     ·rw [if_pos c17] at H
      exact absurd H (by simp)
     ·rw [if_neg c17] at H
      have c17b0 : ((l0_1.length : Int) == 0) = false := beq_eq_false_iff_ne.mpr c17
      have c17b1 : ((l0_1.length : Int) != 0) = true := bne_iff_ne.mpr c17
      have c17b2 : ¬ (l0_1 = []) := fun h_ => c17 (by rw [h_]; rfl)
      have H' := Gv.a0 H
      clear H
      have hnb18 := NB314_315.out
      have hnc18 := NB315_314.out
      have hcz19_0 : wr.cell? ⟨gb314, 0, none⟩ = some (.int .i64 a0_0) := (blk_cell BK314.out 0).trans rfl
      have hcz19_1 : wr.cell? ⟨gb314, 1, none⟩ = some (.slice Ao5 l0_1.length co5) := (blk_cell BK314.out 1).trans rfl
      have hfz19_0 := blk_frozen BK314.out 0
      have hfz19_1 := blk_frozen BK314.out 1
      have p317 : 0 ≤ (x6_1 : Int) := of_decide_eq_true (by first | (with_reducible assumption) | assumption)
      have q317 : x6_1 < (l0_1.length : Int) := of_decide_eq_true (by first | (with_reducible assumption) | assumption)
      obtain ⟨ad317, e317, hx317_0, hx317_1, hx317_2, hx317_3, hx317_4, hx317_5, hx317_6, hx317_7, hx317_8, hx317_9, hx317_10, hx317_11, hx317_12, hx317_13, hx317_14, hx317_15⟩ := at_T75 (Kd.R_reads' HO_315001.out).2.2 x6_1 p317 q317
      (try rw [← Nbq15.out] at hx317_0)
      cases e317
      replace p317 := eq_true p317
      replace q317 := eq_true q317
      go_wp2_with (first | ((with_reducible refine Gv.gate_load (t := 33) rfl ?_); (try (refine gate_guard (by rfl) ?_; dsimp only)); refine wpList_load_row rfl 33 _ rfl gb315 rfl 33 _ _ _ (by first | exact Gv.kb0 BK315.out | exact Gv.kb1 (Gv.kb0 BK315.out)) Try.underlying33 rfl (by kernel_rfl) ?_) | ((with_reducible refine Gv.gate_load (t := 31) rfl ?_); (try (refine gate_guard (by rfl) ?_; dsimp only)); refine Gv.sub_event (g := gb315) 13 rfl rfl rfl (by first | exact Gv.kb0 BK315.out | exact Gv.kb1 (Gv.kb0 BK315.out)) Try.underlying31 rfl (by kernel_rfl) ?_))
      go_roundg k1
      case measure => have := HK1.out; omega
      case rel => exact ⟨(Int.tmod (wrap64 (x6_1 + 1)) (l0_1.length : Int)), (wrap64 (x7_1 + 1)), Gv.rq, Gv.rq, H', ⟨by have := HK1.out; omega⟩, ⟨Gv.kr HO_315001.out⟩, ⟨by (with_reducible repeat (first | refine blk_drewN ?_ _ | refine blk_drew ?_ | refine blk_alloc ?_ _)); exact BK314.out⟩, ⟨by (with_reducible repeat (first | refine blk_drewN ?_ _ | refine blk_drew ?_ | refine blk_alloc ?_ _)); exact BK315.out⟩, ⟨by repeat (first | (with_reducible first | exact HK.out | apply Kept.alloc | apply Kept.drewN | apply Kept.drew | refine Kept.setCell ?_ (.inr GW314.out) _ | refine Kept.setCell ?_ (.inr GW315.out) _) | exact HK.out)⟩, ⟨Gv.bw⟩⟩
    ·replace c16 := Bool.eq_false_iff.mpr c16
     subst c16
     rw [if_neg (show ¬ (false = true) by decide)] at H
     (try dsimp only at H)
     obtain ⟨y318, hy318⟩ : ∃ y_ : List (S75), y_ = (l0_1.set (x6_1 : Int).toNat (⟨true, (⟨a1_0, (⟨(⟨a1_1, a1_2, a1_3, a1_4, a1_5⟩ : S29), (⟨a1_6, a1_7, a1_8, a1_9, a1_10⟩ : S29), a1_11, a1_12, a1_13⟩ : S31)⟩ : S33), a2⟩ : S75)) := ⟨_, rfl⟩
     replace H : (some y318) = some r := by first | (rw [hy318]; with_reducible exact H) | (have H2_ := (Option.bind_some _ _).symm.trans H; rw [hy318]; with_reducible exact H2_) | (have H2_ := (Option.bind_some _ _).symm.trans H; with_reducible exact H2_) | with_reducible exact H | (rw [hy318]; exact H) | exact H
     have Ny318 := Gv.a0 hy318
     clear hy318
     obtain rfl := Option.some.inj H
     have hnb21 := NB314_315.out
     have hnc21 := NB315_314.out
     have hcz22_0 : wr.cell? ⟨gb314, 0, none⟩ = some (.int .i64 a0_0) := (blk_cell BK314.out 0).trans rfl
     have hcz22_1 : wr.cell? ⟨gb314, 1, none⟩ = some (.slice Ao5 l0_1.length co5) := (blk_cell BK314.out 1).trans rfl
     have hfz22_0 := blk_frozen BK314.out 0
     have hfz22_1 := blk_frozen BK314.out 1
     have p317 : 0 ≤ (x6_1 : Int) := of_decide_eq_true (by first | (with_reducible assumption) | assumption)
     have q317 : x6_1 < (l0_1.length : Int) := of_decide_eq_true (by first | (with_reducible assumption) | assumption)
     obtain ⟨ad317, e317, hx317_0, hx317_1, hx317_2, hx317_3, hx317_4, hx317_5, hx317_6, hx317_7, hx317_8, hx317_9, hx317_10, hx317_11, hx317_12, hx317_13, hx317_14, hx317_15⟩ := at_T75 (Kd.R_reads' HO_315001.out).2.2 x6_1 p317 q317
     (try rw [← Nbq15.out] at hx317_0)
     cases e317
     replace p317 := eq_true p317
     replace q317 := eq_true q317
     obtain ⟨hcz23_0, hcz23_1, hcz23_2, hcz23_3, hcz23_4, hcz23_5, hcz23_6, hcz23_7, hcz23_8, hcz23_9, hcz23_10, hcz23_11, hcz23_12, hcz23_13⟩ := Gv.c14 BK315.out
     have p20 : 0 ≤ (x6_1 : Int) := of_decide_eq_true (by first | (with_reducible assumption) | assumption)
     have q20 : (x6_1 : Int) < ((l0_1.length : Int) : Int) := of_decide_eq_true (by first | (with_reducible assumption) | assumption)
     obtain ⟨go20, co20, eo20, gb20, gl20, cl20, HG20⟩ := Kd.R_form HO_315001.out (by omega)
     (first | cases eo20 | (injection eo20 with ea_ en_ ec_; (first | subst ea_ | (injection ea_ with ea_; subst ea_)); subst ec_; clear en_))
     have GB20 := Gv.a0 gb20
     have GG20 := Gv.a0 HG20
     clear gb20 gl20 HG20
     have HMgo20 := Gv.a0 (show (P0_1_ go20 ∨ w.heap.size ≤ go20) from (HO_315001.out.1 _ rfl))
     (first | simp only [add_plain] at hx317_0 | skip)
     (first | simp only [add_plain] at hx317_1 | skip)
     (first | simp only [add_plain] at hx317_2 | skip)
     (first | simp only [add_plain] at hx317_3 | skip)
     (first | simp only [add_plain] at hx317_4 | skip)
     (first | simp only [add_plain] at hx317_5 | skip)
     (first | simp only [add_plain] at hx317_6 | skip)
     (first | simp only [add_plain] at hx317_7 | skip)
     (first | simp only [add_plain] at hx317_8 | skip)
     (first | simp only [add_plain] at hx317_9 | skip)
     (first | simp only [add_plain] at hx317_10 | skip)
     (first | simp only [add_plain] at hx317_11 | skip)
     (first | simp only [add_plain] at hx317_12 | skip)
     (first | simp only [add_plain] at hx317_13 | skip)
     (first | simp only [add_plain] at hx317_14 | skip)
     (first | simp only [add_plain] at hx317_15 | skip)
     obtain ⟨ce20, hcl20, hM20, hcc20, hfr20⟩ := Kd.R_elem HO_315001.out z75 (x6_1 : Int) p20 q20
     obtain rfl := k75_openM hM20
     have hx20_0 : wr.cell? ⟨go20, (x6_1 : Int).toNat * 16, none⟩ = some (.bool ((rd_T75 l0_1 x6_1).f0)) := hcc20 0 _ rfl
     have hx20_1 : wr.cell? ⟨go20, (x6_1 : Int).toNat * 16 + 1, none⟩ = some (.int .i64 ((rd_T75 l0_1 x6_1).f1.f0)) := hcc20 1 _ rfl
     have hx20_2 : wr.cell? ⟨go20, (x6_1 : Int).toNat * 16 + 2, none⟩ = some (.int .i64 ((rd_T75 l0_1 x6_1).f1.f1.f0.f0)) := hcc20 2 _ rfl
     have hx20_3 : wr.cell? ⟨go20, (x6_1 : Int).toNat * 16 + 3, none⟩ = some (.int .i64 ((rd_T75 l0_1 x6_1).f1.f1.f0.f1)) := hcc20 3 _ rfl
     have hx20_4 : wr.cell? ⟨go20, (x6_1 : Int).toNat * 16 + 4, none⟩ = some (.int .i64 ((rd_T75 l0_1 x6_1).f1.f1.f0.f2)) := hcc20 4 _ rfl
     have hx20_5 : wr.cell? ⟨go20, (x6_1 : Int).toNat * 16 + 5, none⟩ = some (.int .i64 ((rd_T75 l0_1 x6_1).f1.f1.f0.f3)) := hcc20 5 _ rfl
     have hx20_6 : wr.cell? ⟨go20, (x6_1 : Int).toNat * 16 + 6, none⟩ = some (.int .i64 ((rd_T75 l0_1 x6_1).f1.f1.f0.f4)) := hcc20 6 _ rfl
     have hx20_7 : wr.cell? ⟨go20, (x6_1 : Int).toNat * 16 + 7, none⟩ = some (.int .i64 ((rd_T75 l0_1 x6_1).f1.f1.f1.f0)) := hcc20 7 _ rfl
     have hx20_8 : wr.cell? ⟨go20, (x6_1 : Int).toNat * 16 + 8, none⟩ = some (.int .i64 ((rd_T75 l0_1 x6_1).f1.f1.f1.f1)) := hcc20 8 _ rfl
     have hx20_9 : wr.cell? ⟨go20, (x6_1 : Int).toNat * 16 + 9, none⟩ = some (.int .i64 ((rd_T75 l0_1 x6_1).f1.f1.f1.f2)) := hcc20 9 _ rfl
     have hx20_10 : wr.cell? ⟨go20, (x6_1 : Int).toNat * 16 + 10, none⟩ = some (.int .i64 ((rd_T75 l0_1 x6_1).f1.f1.f1.f3)) := hcc20 10 _ rfl
     have hx20_11 : wr.cell? ⟨go20, (x6_1 : Int).toNat * 16 + 11, none⟩ = some (.int .i64 ((rd_T75 l0_1 x6_1).f1.f1.f1.f4)) := hcc20 11 _ rfl
     have hx20_12 : wr.cell? ⟨go20, (x6_1 : Int).toNat * 16 + 12, none⟩ = some (.int .i64 ((rd_T75 l0_1 x6_1).f1.f1.f2)) := hcc20 12 _ rfl
     have hx20_13 : wr.cell? ⟨go20, (x6_1 : Int).toNat * 16 + 13, none⟩ = some (.int .i64 ((rd_T75 l0_1 x6_1).f1.f1.f3)) := hcc20 13 _ rfl
     have hx20_14 : wr.cell? ⟨go20, (x6_1 : Int).toNat * 16 + 14, none⟩ = some (.int .i64 ((rd_T75 l0_1 x6_1).f1.f1.f4)) := hcc20 14 _ rfl
     have hx20_15 : wr.cell? ⟨go20, (x6_1 : Int).toNat * 16 + 15, none⟩ = some (.int .i64 ((rd_T75 l0_1 x6_1).f2)) := hcc20 15 _ rfl
     have hf20_0 : wr.frozen? ⟨go20, (x6_1 : Int).toNat * 16, none⟩ = false := hfr20 0
     have hf20_1 : wr.frozen? ⟨go20, (x6_1 : Int).toNat * 16 + 1, none⟩ = false := hfr20 1
     have hf20_2 : wr.frozen? ⟨go20, (x6_1 : Int).toNat * 16 + 2, none⟩ = false := hfr20 2
     have hf20_3 : wr.frozen? ⟨go20, (x6_1 : Int).toNat * 16 + 3, none⟩ = false := hfr20 3
     have hf20_4 : wr.frozen? ⟨go20, (x6_1 : Int).toNat * 16 + 4, none⟩ = false := hfr20 4
     have hf20_5 : wr.frozen? ⟨go20, (x6_1 : Int).toNat * 16 + 5, none⟩ = false := hfr20 5
     have hf20_6 : wr.frozen? ⟨go20, (x6_1 : Int).toNat * 16 + 6, none⟩ = false := hfr20 6
     have hf20_7 : wr.frozen? ⟨go20, (x6_1 : Int).toNat * 16 + 7, none⟩ = false := hfr20 7
     have hf20_8 : wr.frozen? ⟨go20, (x6_1 : Int).toNat * 16 + 8, none⟩ = false := hfr20 8
     have hf20_9 : wr.frozen? ⟨go20, (x6_1 : Int).toNat * 16 + 9, none⟩ = false := hfr20 9
     have hf20_10 : wr.frozen? ⟨go20, (x6_1 : Int).toNat * 16 + 10, none⟩ = false := hfr20 10
     have hf20_11 : wr.frozen? ⟨go20, (x6_1 : Int).toNat * 16 + 11, none⟩ = false := hfr20 11
     have hf20_12 : wr.frozen? ⟨go20, (x6_1 : Int).toNat * 16 + 12, none⟩ = false := hfr20 12
     have hf20_13 : wr.frozen? ⟨go20, (x6_1 : Int).toNat * 16 + 13, none⟩ = false := hfr20 13
     have hf20_14 : wr.frozen? ⟨go20, (x6_1 : Int).toNat * 16 + 14, none⟩ = false := hfr20 14
     have hf20_15 : wr.frozen? ⟨go20, (x6_1 : Int).toNat * 16 + 15, none⟩ = false := hfr20 15
     clear hcl20 hcc20 hfr20 hM20
     replace p20 := eq_true p20
     replace q20 := eq_true q20
     have HX24 := Gv.a0 (show Kd.R k75 75 wr w0.heap.size (fun k_ => (P0_1_ k_ ∨ w.heap.size ≤ k_)) (.slice (some ⟨go20, 0, none⟩) l0_1.length co5) l0_1 from (Gv.kr HO_315001.out))
     obtain ⟨ce24, hcl24, hM24, hcc24, hfr24⟩ := Kd.R_elem HX24.out z75 (x6_1 : Int) (of_decide_eq_true (by first | (with_reducible assumption) | assumption)) (by have h_ : (x6_1 : Int) < ((l0_1.length : Int) : Int) := of_decide_eq_true (by first | (with_reducible assumption) | assumption); first | exact h_ | (have e_ := (Kd.R_reads' HO_315001.out).1; omega) | simpa using h_)
     obtain rfl := k75_openM hM24
     have HP24 := Kd.R_seg HX24.out (x6_1 : Int) (of_decide_eq_true (by first | (with_reducible assumption) | assumption)) (by have h_ : (x6_1 : Int) < ((l0_1.length : Int) : Int) := of_decide_eq_true (by first | (with_reducible assumption) | assumption); first | exact h_ | (have e_ := (Kd.R_reads' HO_315001.out).1; omega) | simpa using h_) (seg := [.bool true, .int .i64 a1_0, .int .i64 a1_1, .int .i64 a1_2, .int .i64 a1_3, .int .i64 a1_4, .int .i64 a1_5, .int .i64 a1_6, .int .i64 a1_7, .int .i64 a1_8, .int .i64 a1_9, .int .i64 a1_10, .int .i64 a1_11, .int .i64 a1_12, .int .i64 a1_13, .int .i64 a2]) (j := 0) hcl24 hcc24 (show 16 ≤ 16 from by decide) (x' := (⟨true, (⟨a1_0, (⟨(⟨a1_1, a1_2, a1_3, a1_4, a1_5⟩ : S29), (⟨a1_6, a1_7, a1_8, a1_9, a1_10⟩ : S29), a1_11, a1_12, a1_13⟩ : S31)⟩ : S33), a2⟩ : S75)) (k75_mkM _ _ _ (⟨true, (⟨a1_0, (⟨(⟨a1_1, a1_2, a1_3, a1_4, a1_5⟩ : S29), (⟨a1_6, a1_7, a1_8, a1_9, a1_10⟩ : S29), a1_11, a1_12, a1_13⟩ : S31)⟩ : S33), a2⟩ : S75) ) (fun _ hk => hk)
     have hx24_0 := hcc24 0 _ rfl
     (try simp only [show (k75).sz = 16 from rfl, Nat.mul_one, Nat.add_zero] at hx24_0)
     have hf24_0 := hfr24 0
     (try simp only [show (k75).sz = 16 from rfl, Nat.mul_one, Nat.add_zero] at hf24_0)
     have hx24_1 := hcc24 1 _ rfl
     (try simp only [show (k75).sz = 16 from rfl, Nat.mul_one, Nat.add_zero] at hx24_1)
     have hf24_1 := hfr24 1
     (try simp only [show (k75).sz = 16 from rfl, Nat.mul_one, Nat.add_zero] at hf24_1)
     have hx24_2 := hcc24 2 _ rfl
     (try simp only [show (k75).sz = 16 from rfl, Nat.mul_one, Nat.add_zero] at hx24_2)
     have hf24_2 := hfr24 2
     (try simp only [show (k75).sz = 16 from rfl, Nat.mul_one, Nat.add_zero] at hf24_2)
     have hx24_3 := hcc24 3 _ rfl
     (try simp only [show (k75).sz = 16 from rfl, Nat.mul_one, Nat.add_zero] at hx24_3)
     have hf24_3 := hfr24 3
     (try simp only [show (k75).sz = 16 from rfl, Nat.mul_one, Nat.add_zero] at hf24_3)
     have hx24_4 := hcc24 4 _ rfl
     (try simp only [show (k75).sz = 16 from rfl, Nat.mul_one, Nat.add_zero] at hx24_4)
     have hf24_4 := hfr24 4
     (try simp only [show (k75).sz = 16 from rfl, Nat.mul_one, Nat.add_zero] at hf24_4)
     have hx24_5 := hcc24 5 _ rfl
     (try simp only [show (k75).sz = 16 from rfl, Nat.mul_one, Nat.add_zero] at hx24_5)
     have hf24_5 := hfr24 5
     (try simp only [show (k75).sz = 16 from rfl, Nat.mul_one, Nat.add_zero] at hf24_5)
     have hx24_6 := hcc24 6 _ rfl
     (try simp only [show (k75).sz = 16 from rfl, Nat.mul_one, Nat.add_zero] at hx24_6)
     have hf24_6 := hfr24 6
     (try simp only [show (k75).sz = 16 from rfl, Nat.mul_one, Nat.add_zero] at hf24_6)
     have hx24_7 := hcc24 7 _ rfl
     (try simp only [show (k75).sz = 16 from rfl, Nat.mul_one, Nat.add_zero] at hx24_7)
     have hf24_7 := hfr24 7
     (try simp only [show (k75).sz = 16 from rfl, Nat.mul_one, Nat.add_zero] at hf24_7)
     have hx24_8 := hcc24 8 _ rfl
     (try simp only [show (k75).sz = 16 from rfl, Nat.mul_one, Nat.add_zero] at hx24_8)
     have hf24_8 := hfr24 8
     (try simp only [show (k75).sz = 16 from rfl, Nat.mul_one, Nat.add_zero] at hf24_8)
     have hx24_9 := hcc24 9 _ rfl
     (try simp only [show (k75).sz = 16 from rfl, Nat.mul_one, Nat.add_zero] at hx24_9)
     have hf24_9 := hfr24 9
     (try simp only [show (k75).sz = 16 from rfl, Nat.mul_one, Nat.add_zero] at hf24_9)
     have hx24_10 := hcc24 10 _ rfl
     (try simp only [show (k75).sz = 16 from rfl, Nat.mul_one, Nat.add_zero] at hx24_10)
     have hf24_10 := hfr24 10
     (try simp only [show (k75).sz = 16 from rfl, Nat.mul_one, Nat.add_zero] at hf24_10)
     have hx24_11 := hcc24 11 _ rfl
     (try simp only [show (k75).sz = 16 from rfl, Nat.mul_one, Nat.add_zero] at hx24_11)
     have hf24_11 := hfr24 11
     (try simp only [show (k75).sz = 16 from rfl, Nat.mul_one, Nat.add_zero] at hf24_11)
     have hx24_12 := hcc24 12 _ rfl
     (try simp only [show (k75).sz = 16 from rfl, Nat.mul_one, Nat.add_zero] at hx24_12)
     have hf24_12 := hfr24 12
     (try simp only [show (k75).sz = 16 from rfl, Nat.mul_one, Nat.add_zero] at hf24_12)
     have hx24_13 := hcc24 13 _ rfl
     (try simp only [show (k75).sz = 16 from rfl, Nat.mul_one, Nat.add_zero] at hx24_13)
     have hf24_13 := hfr24 13
     (try simp only [show (k75).sz = 16 from rfl, Nat.mul_one, Nat.add_zero] at hf24_13)
     have hx24_14 := hcc24 14 _ rfl
     (try simp only [show (k75).sz = 16 from rfl, Nat.mul_one, Nat.add_zero] at hx24_14)
     have hf24_14 := hfr24 14
     (try simp only [show (k75).sz = 16 from rfl, Nat.mul_one, Nat.add_zero] at hf24_14)
     have hx24_15 := hcc24 15 _ rfl
     (try simp only [show (k75).sz = 16 from rfl, Nat.mul_one, Nat.add_zero] at hx24_15)
     have hf24_15 := hfr24 15
     (try simp only [show (k75).sz = 16 from rfl, Nat.mul_one, Nat.add_zero] at hf24_15)
     clear hcl24 hcc24 hfr24 hM24
     go_wp2_with (first | ((with_reducible refine gate_store (t := 75) (p := 38) rfl ?_); refine store_event (t := 75) (p := 38) (v := ?vo_w25) (w1 := ((((((((((((((((wr.setCell ⟨go20, (x6_1 : Int).toNat * 16, none⟩ (.bool true)).setCell ⟨go20, (x6_1 : Int).toNat * 16 + 1, none⟩ (.int .i64 a1_0)).setCell ⟨go20, (x6_1 : Int).toNat * 16 + 2, none⟩ (.int .i64 a1_1)).setCell ⟨go20, (x6_1 : Int).toNat * 16 + 3, none⟩ (.int .i64 a1_2)).setCell ⟨go20, (x6_1 : Int).toNat * 16 + 4, none⟩ (.int .i64 a1_3)).setCell ⟨go20, (x6_1 : Int).toNat * 16 + 5, none⟩ (.int .i64 a1_4)).setCell ⟨go20, (x6_1 : Int).toNat * 16 + 6, none⟩ (.int .i64 a1_5)).setCell ⟨go20, (x6_1 : Int).toNat * 16 + 7, none⟩ (.int .i64 a1_6)).setCell ⟨go20, (x6_1 : Int).toNat * 16 + 8, none⟩ (.int .i64 a1_7)).setCell ⟨go20, (x6_1 : Int).toNat * 16 + 9, none⟩ (.int .i64 a1_8)).setCell ⟨go20, (x6_1 : Int).toNat * 16 + 10, none⟩ (.int .i64 a1_9)).setCell ⟨go20, (x6_1 : Int).toNat * 16 + 11, none⟩ (.int .i64 a1_10)).setCell ⟨go20, (x6_1 : Int).toNat * 16 + 12, none⟩ (.int .i64 a1_11)).setCell ⟨go20, (x6_1 : Int).toNat * 16 + 13, none⟩ (.int .i64 a1_12)).setCell ⟨go20, (x6_1 : Int).toNat * 16 + 14, none⟩ (.int .i64 a1_13)).setCell ⟨go20, (x6_1 : Int).toNat * 16 + 15, none⟩ (.int .i64 a2))) ?hg ?ho ?hn ?hr ?_; (case ho => rfl); (case hg => rfl); (case hn => rfl); (case hr => first | (go_simp; done) | (go_simp; rfl)); intro w25 hw; have hg : wr.grownBy w25 (some go20) := (by rw [hw]; exact HP24.2); have hp_ : Kd.R k75 75 w25 w0.heap.size (fun k_ => (P0_1_ k_ ∨ w.heap.size ≤ k_)) (.slice (some ⟨go20, 0, none⟩) l0_1.length co5) y318 := (by rw [hw, Ny318.out]; exact HP24.1); clear HP24; replace BK314 := Gv.a0 (blk_grown (g := gb314) (o := .cells #[.int .i64 a0_0, .slice (some ⟨go20, 0, none⟩) l0_1.length co5] 40 (0, 0)) Gv.bk hg (Kd.R_ne HO_315001.out BK314.out (by decide))); replace BK315 := Gv.a0 (blk_grown (g := gb315) (o := .cells #[.int .i64 a1_0, .int .i64 a1_1, .int .i64 a1_2, .int .i64 a1_3, .int .i64 a1_4, .int .i64 a1_5, .int .i64 a1_6, .int .i64 a1_7, .int .i64 a1_8, .int .i64 a1_9, .int .i64 a1_10, .int .i64 a1_11, .int .i64 a1_12, .int .i64 a1_13] 33 (0, 0)) Gv.bk hg (Kd.R_ne HO_315001.out BK315.out (by decide))); replace HB := Gv.a0 ((by rw [hw]; exact below_set (below_set (below_set (below_set (below_set (below_set (below_set (below_set (below_set (below_set (below_set (below_set (below_set (below_set (below_set (below_set (HB.out) GB20.out) GB20.out) GB20.out) GB20.out) GB20.out) GB20.out) GB20.out) GB20.out) GB20.out) GB20.out) GB20.out) GB20.out) GB20.out) GB20.out) GB20.out) GB20.out : Below w0.heap.size w0 w25)); replace HK := Gv.a0 (Kept.of_grown (S := (fun k_ => P0_1_ k_)) hg (by repeat (first | (with_reducible first | exact HK.out | apply Kept.alloc | apply Kept.drewN | apply Kept.drew | refine Kept.setCell ?_ (.inr GW314.out) _ | refine Kept.setCell ?_ (.inr GW315.out) _) | exact HK.out)) (fun k_ e_ => (HO_315001.out.1 k_ e_))); replace HO_315001 := Gv.a0 (hp_); clear hg hw hp_) | ((with_reducible refine Gv.gate_load (t := 33) rfl ?_); (try (refine gate_guard (by rfl) ?_; dsimp only)); refine wpList_load_row rfl 33 _ rfl gb315 rfl 33 _ _ _ (by first | exact Gv.kb0 BK315.out | exact Gv.kb1 (Gv.kb0 BK315.out)) Try.underlying33 rfl (by kernel_rfl) ?_) | ((with_reducible refine Gv.gate_load (t := 31) rfl ?_); (try (refine gate_guard (by rfl) ?_; dsimp only)); refine Gv.sub_event (g := gb315) 13 rfl rfl rfl (by first | exact Gv.kb0 BK315.out | exact Gv.kb1 (Gv.kb0 BK315.out)) Try.underlying31 rfl (by kernel_rfl) ?_) | ((with_reducible refine Gv.gate_load (t := 75) rfl ?_); refine Gv.load_event (cs := [_, _, _, _, _, _, _, _, _, _, _, _, _, _, _, _]) rfl rfl rfl ⟨hx317_0, hx317_1, hx317_2, hx317_3, hx317_4, hx317_5, hx317_6, hx317_7, hx317_8, hx317_9, hx317_10, hx317_11, hx317_12, hx317_13, hx317_14, hx317_15, trivial⟩ Try.underlying75 rfl (by kernel_rfl) ?_))
     first | go_end0 | ((try simp only [Exit.inBlock, Exit.then]); refine bodyPost_ret (results_none rfl _ _ _) rfl ?_)
     exact ⟨Gv.rt, Gv.kr HO_315001.out, Gv.bw, by repeat (first | (with_reducible first | exact HK.out | apply Kept.alloc | apply Kept.drewN | apply Kept.drew | refine Kept.setCell ?_ (.inr GW314.out) _ | refine Kept.setCell ?_ (.inr GW315.out) _) | exact HK.out)⟩
   ·rw [if_neg c12] at H
    have c12b0 : decide (x7_1 < (l0_1.length : Int)) = false := decide_eq_false c12
    clear c12
    by_cases c26 : 0 ≤ x6_1
    rotate_left
    ·rw [if_neg c26] at H
     exact absurd H (by simp)

    rw [if_pos c26] at H
    have c26b0 : decide (0 ≤ x6_1) = true := decide_eq_true c26
    clear c26
    by_cases c27 : x6_1 < (l0_1.length : Int)
    rotate_left
    ·rw [if_neg c27] at H
     exact absurd H (by simp)
    rw [if_pos c27] at H
    have c27b0 : decide (x6_1 < (l0_1.length : Int)) = true := decide_eq_true c27
    clear c27
    obtain ⟨y319, hy319⟩ : ∃ y_ : List (S75), y_ = (l0_1.set (x6_1 : Int).toNat (⟨true, (⟨a1_0, (⟨(⟨a1_1, a1_2, a1_3, a1_4, a1_5⟩ : S29), (⟨a1_6, a1_7, a1_8, a1_9, a1_10⟩ : S29), a1_11, a1_12, a1_13⟩ : S31)⟩ : S33), a2⟩ : S75)) := ⟨_, rfl⟩
    replace H : (some y319) = some r := by first | (rw [hy319]; with_reducible exact H) | (have H2_ := (Option.bind_some _ _).symm.trans H; rw [hy319]; with_reducible exact H2_) | (have H2_ := (Option.bind_some _ _).symm.trans H; with_reducible exact H2_) | with_reducible exact H | (rw [hy319]; exact H) | exact H
    have Ny319 := Gv.a0 hy319
    clear hy319
    obtain rfl := Option.some.inj H
    have hnb29 := NB314_315.out
    have hnc29 := NB315_314.out
    have hcz30_0 : wr.cell? ⟨gb314, 0, none⟩ = some (.int .i64 a0_0) := (blk_cell BK314.out 0).trans rfl
    have hcz30_1 : wr.cell? ⟨gb314, 1, none⟩ = some (.slice Ao5 l0_1.length co5) := (blk_cell BK314.out 1).trans rfl
    have hfz30_0 := blk_frozen BK314.out 0
    have hfz30_1 := blk_frozen BK314.out 1
    obtain ⟨hcz31_0, hcz31_1, hcz31_2, hcz31_3, hcz31_4, hcz31_5, hcz31_6, hcz31_7, hcz31_8, hcz31_9, hcz31_10, hcz31_11, hcz31_12, hcz31_13⟩ := Gv.c14 BK315.out
    have p28 : 0 ≤ (x6_1 : Int) := of_decide_eq_true (by first | (with_reducible assumption) | assumption)
    have q28 : (x6_1 : Int) < ((l0_1.length : Int) : Int) := of_decide_eq_true (by first | (with_reducible assumption) | assumption)
    obtain ⟨go28, co28, eo28, gb28, gl28, cl28, HG28⟩ := Kd.R_form HO_315001.out (by omega)
    (first | cases eo28 | (injection eo28 with ea_ en_ ec_; (first | subst ea_ | (injection ea_ with ea_; subst ea_)); subst ec_; clear en_))
    have GB28 := Gv.a0 gb28
    have GG28 := Gv.a0 HG28
    clear gb28 gl28 HG28
    have HMgo28 := Gv.a0 (show (P0_1_ go28 ∨ w.heap.size ≤ go28) from (HO_315001.out.1 _ rfl))
    obtain ⟨ce28, hcl28, hM28, hcc28, hfr28⟩ := Kd.R_elem HO_315001.out z75 (x6_1 : Int) p28 q28
    obtain rfl := k75_openM hM28
    have hx28_0 : wr.cell? ⟨go28, (x6_1 : Int).toNat * 16, none⟩ = some (.bool ((rd_T75 l0_1 x6_1).f0)) := hcc28 0 _ rfl
    have hx28_1 : wr.cell? ⟨go28, (x6_1 : Int).toNat * 16 + 1, none⟩ = some (.int .i64 ((rd_T75 l0_1 x6_1).f1.f0)) := hcc28 1 _ rfl
    have hx28_2 : wr.cell? ⟨go28, (x6_1 : Int).toNat * 16 + 2, none⟩ = some (.int .i64 ((rd_T75 l0_1 x6_1).f1.f1.f0.f0)) := hcc28 2 _ rfl
    have hx28_3 : wr.cell? ⟨go28, (x6_1 : Int).toNat * 16 + 3, none⟩ = some (.int .i64 ((rd_T75 l0_1 x6_1).f1.f1.f0.f1)) := hcc28 3 _ rfl
    have hx28_4 : wr.cell? ⟨go28, (x6_1 : Int).toNat * 16 + 4, none⟩ = some (.int .i64 ((rd_T75 l0_1 x6_1).f1.f1.f0.f2)) := hcc28 4 _ rfl
    have hx28_5 : wr.cell? ⟨go28, (x6_1 : Int).toNat * 16 + 5, none⟩ = some (.int .i64 ((rd_T75 l0_1 x6_1).f1.f1.f0.f3)) := hcc28 5 _ rfl
    have hx28_6 : wr.cell? ⟨go28, (x6_1 : Int).toNat * 16 + 6, none⟩ = some (.int .i64 ((rd_T75 l0_1 x6_1).f1.f1.f0.f4)) := hcc28 6 _ rfl
    have hx28_7 : wr.cell? ⟨go28, (x6_1 : Int).toNat * 16 + 7, none⟩ = some (.int .i64 ((rd_T75 l0_1 x6_1).f1.f1.f1.f0)) := hcc28 7 _ rfl
    have hx28_8 : wr.cell? ⟨go28, (x6_1 : Int).toNat * 16 + 8, none⟩ = some (.int .i64 ((rd_T75 l0_1 x6_1).f1.f1.f1.f1)) := hcc28 8 _ rfl
    have hx28_9 : wr.cell? ⟨go28, (x6_1 : Int).toNat * 16 + 9, none⟩ = some (.int .i64 ((rd_T75 l0_1 x6_1).f1.f1.f1.f2)) := hcc28 9 _ rfl
    have hx28_10 : wr.cell? ⟨go28, (x6_1 : Int).toNat * 16 + 10, none⟩ = some (.int .i64 ((rd_T75 l0_1 x6_1).f1.f1.f1.f3)) := hcc28 10 _ rfl
    have hx28_11 : wr.cell? ⟨go28, (x6_1 : Int).toNat * 16 + 11, none⟩ = some (.int .i64 ((rd_T75 l0_1 x6_1).f1.f1.f1.f4)) := hcc28 11 _ rfl
    have hx28_12 : wr.cell? ⟨go28, (x6_1 : Int).toNat * 16 + 12, none⟩ = some (.int .i64 ((rd_T75 l0_1 x6_1).f1.f1.f2)) := hcc28 12 _ rfl
    have hx28_13 : wr.cell? ⟨go28, (x6_1 : Int).toNat * 16 + 13, none⟩ = some (.int .i64 ((rd_T75 l0_1 x6_1).f1.f1.f3)) := hcc28 13 _ rfl
    have hx28_14 : wr.cell? ⟨go28, (x6_1 : Int).toNat * 16 + 14, none⟩ = some (.int .i64 ((rd_T75 l0_1 x6_1).f1.f1.f4)) := hcc28 14 _ rfl
    have hx28_15 : wr.cell? ⟨go28, (x6_1 : Int).toNat * 16 + 15, none⟩ = some (.int .i64 ((rd_T75 l0_1 x6_1).f2)) := hcc28 15 _ rfl
    have hf28_0 : wr.frozen? ⟨go28, (x6_1 : Int).toNat * 16, none⟩ = false := hfr28 0
    have hf28_1 : wr.frozen? ⟨go28, (x6_1 : Int).toNat * 16 + 1, none⟩ = false := hfr28 1
    have hf28_2 : wr.frozen? ⟨go28, (x6_1 : Int).toNat * 16 + 2, none⟩ = false := hfr28 2
    have hf28_3 : wr.frozen? ⟨go28, (x6_1 : Int).toNat * 16 + 3, none⟩ = false := hfr28 3
    have hf28_4 : wr.frozen? ⟨go28, (x6_1 : Int).toNat * 16 + 4, none⟩ = false := hfr28 4
    have hf28_5 : wr.frozen? ⟨go28, (x6_1 : Int).toNat * 16 + 5, none⟩ = false := hfr28 5
    have hf28_6 : wr.frozen? ⟨go28, (x6_1 : Int).toNat * 16 + 6, none⟩ = false := hfr28 6
    have hf28_7 : wr.frozen? ⟨go28, (x6_1 : Int).toNat * 16 + 7, none⟩ = false := hfr28 7
    have hf28_8 : wr.frozen? ⟨go28, (x6_1 : Int).toNat * 16 + 8, none⟩ = false := hfr28 8
    have hf28_9 : wr.frozen? ⟨go28, (x6_1 : Int).toNat * 16 + 9, none⟩ = false := hfr28 9
    have hf28_10 : wr.frozen? ⟨go28, (x6_1 : Int).toNat * 16 + 10, none⟩ = false := hfr28 10
    have hf28_11 : wr.frozen? ⟨go28, (x6_1 : Int).toNat * 16 + 11, none⟩ = false := hfr28 11
    have hf28_12 : wr.frozen? ⟨go28, (x6_1 : Int).toNat * 16 + 12, none⟩ = false := hfr28 12
    have hf28_13 : wr.frozen? ⟨go28, (x6_1 : Int).toNat * 16 + 13, none⟩ = false := hfr28 13
    have hf28_14 : wr.frozen? ⟨go28, (x6_1 : Int).toNat * 16 + 14, none⟩ = false := hfr28 14
    have hf28_15 : wr.frozen? ⟨go28, (x6_1 : Int).toNat * 16 + 15, none⟩ = false := hfr28 15
    clear hcl28 hcc28 hfr28 hM28
    replace p28 := eq_true p28
    replace q28 := eq_true q28
    have HX32 := Gv.a0 (show Kd.R k75 75 wr w0.heap.size (fun k_ => (P0_1_ k_ ∨ w.heap.size ≤ k_)) (.slice (some ⟨go28, 0, none⟩) l0_1.length co5) l0_1 from (Gv.kr HO_315001.out))
    obtain ⟨ce32, hcl32, hM32, hcc32, hfr32⟩ := Kd.R_elem HX32.out z75 (x6_1 : Int) (of_decide_eq_true (by first | (with_reducible assumption) | assumption)) (by have h_ : (x6_1 : Int) < ((l0_1.length : Int) : Int) := of_decide_eq_true (by first | (with_reducible assumption) | assumption); first | exact h_ | (have e_ := (Kd.R_reads' HO_315001.out).1; omega) | simpa using h_)
    obtain rfl := k75_openM hM32
    have HP32 := Kd.R_seg HX32.out (x6_1 : Int) (of_decide_eq_true (by first | (with_reducible assumption) | assumption)) (by have h_ : (x6_1 : Int) < ((l0_1.length : Int) : Int) := of_decide_eq_true (by first | (with_reducible assumption) | assumption); first | exact h_ | (have e_ := (Kd.R_reads' HO_315001.out).1; omega) | simpa using h_) (seg := [.bool true, .int .i64 a1_0, .int .i64 a1_1, .int .i64 a1_2, .int .i64 a1_3, .int .i64 a1_4, .int .i64 a1_5, .int .i64 a1_6, .int .i64 a1_7, .int .i64 a1_8, .int .i64 a1_9, .int .i64 a1_10, .int .i64 a1_11, .int .i64 a1_12, .int .i64 a1_13, .int .i64 a2]) (j := 0) hcl32 hcc32 (show 16 ≤ 16 from by decide) (x' := (⟨true, (⟨a1_0, (⟨(⟨a1_1, a1_2, a1_3, a1_4, a1_5⟩ : S29), (⟨a1_6, a1_7, a1_8, a1_9, a1_10⟩ : S29), a1_11, a1_12, a1_13⟩ : S31)⟩ : S33), a2⟩ : S75)) (k75_mkM _ _ _ (⟨true, (⟨a1_0, (⟨(⟨a1_1, a1_2, a1_3, a1_4, a1_5⟩ : S29), (⟨a1_6, a1_7, a1_8, a1_9, a1_10⟩ : S29), a1_11, a1_12, a1_13⟩ : S31)⟩ : S33), a2⟩ : S75) ) (fun _ hk => hk)
    have hx32_0 := hcc32 0 _ rfl
    (try simp only [show (k75).sz = 16 from rfl, Nat.mul_one, Nat.add_zero] at hx32_0)
    have hf32_0 := hfr32 0
    (try simp only [show (k75).sz = 16 from rfl, Nat.mul_one, Nat.add_zero] at hf32_0)
    have hx32_1 := hcc32 1 _ rfl
    (try simp only [show (k75).sz = 16 from rfl, Nat.mul_one, Nat.add_zero] at hx32_1)
    have hf32_1 := hfr32 1
    (try simp only [show (k75).sz = 16 from rfl, Nat.mul_one, Nat.add_zero] at hf32_1)
    have hx32_2 := hcc32 2 _ rfl
    (try simp only [show (k75).sz = 16 from rfl, Nat.mul_one, Nat.add_zero] at hx32_2)
    have hf32_2 := hfr32 2
    (try simp only [show (k75).sz = 16 from rfl, Nat.mul_one, Nat.add_zero] at hf32_2)
    have hx32_3 := hcc32 3 _ rfl
    (try simp only [show (k75).sz = 16 from rfl, Nat.mul_one, Nat.add_zero] at hx32_3)
    have hf32_3 := hfr32 3
    (try simp only [show (k75).sz = 16 from rfl, Nat.mul_one, Nat.add_zero] at hf32_3)
    have hx32_4 := hcc32 4 _ rfl
    (try simp only [show (k75).sz = 16 from rfl, Nat.mul_one, Nat.add_zero] at hx32_4)
    have hf32_4 := hfr32 4
    (try simp only [show (k75).sz = 16 from rfl, Nat.mul_one, Nat.add_zero] at hf32_4)
    have hx32_5 := hcc32 5 _ rfl
    (try simp only [show (k75).sz = 16 from rfl, Nat.mul_one, Nat.add_zero] at hx32_5)
    have hf32_5 := hfr32 5
    (try simp only [show (k75).sz = 16 from rfl, Nat.mul_one, Nat.add_zero] at hf32_5)
    have hx32_6 := hcc32 6 _ rfl
    (try simp only [show (k75).sz = 16 from rfl, Nat.mul_one, Nat.add_zero] at hx32_6)
    have hf32_6 := hfr32 6
    (try simp only [show (k75).sz = 16 from rfl, Nat.mul_one, Nat.add_zero] at hf32_6)
    have hx32_7 := hcc32 7 _ rfl
    (try simp only [show (k75).sz = 16 from rfl, Nat.mul_one, Nat.add_zero] at hx32_7)
    have hf32_7 := hfr32 7
    (try simp only [show (k75).sz = 16 from rfl, Nat.mul_one, Nat.add_zero] at hf32_7)
    have hx32_8 := hcc32 8 _ rfl
    (try simp only [show (k75).sz = 16 from rfl, Nat.mul_one, Nat.add_zero] at hx32_8)
    have hf32_8 := hfr32 8
    (try simp only [show (k75).sz = 16 from rfl, Nat.mul_one, Nat.add_zero] at hf32_8)
    have hx32_9 := hcc32 9 _ rfl
    (try simp only [show (k75).sz = 16 from rfl, Nat.mul_one, Nat.add_zero] at hx32_9)
    have hf32_9 := hfr32 9
    (try simp only [show (k75).sz = 16 from rfl, Nat.mul_one, Nat.add_zero] at hf32_9)
    have hx32_10 := hcc32 10 _ rfl
    (try simp only [show (k75).sz = 16 from rfl, Nat.mul_one, Nat.add_zero] at hx32_10)
    have hf32_10 := hfr32 10
    (try simp only [show (k75).sz = 16 from rfl, Nat.mul_one, Nat.add_zero] at hf32_10)
    have hx32_11 := hcc32 11 _ rfl
    (try simp only [show (k75).sz = 16 from rfl, Nat.mul_one, Nat.add_zero] at hx32_11)
    have hf32_11 := hfr32 11
    (try simp only [show (k75).sz = 16 from rfl, Nat.mul_one, Nat.add_zero] at hf32_11)
    have hx32_12 := hcc32 12 _ rfl
    (try simp only [show (k75).sz = 16 from rfl, Nat.mul_one, Nat.add_zero] at hx32_12)
    have hf32_12 := hfr32 12
    (try simp only [show (k75).sz = 16 from rfl, Nat.mul_one, Nat.add_zero] at hf32_12)
    have hx32_13 := hcc32 13 _ rfl
    (try simp only [show (k75).sz = 16 from rfl, Nat.mul_one, Nat.add_zero] at hx32_13)
    have hf32_13 := hfr32 13
    (try simp only [show (k75).sz = 16 from rfl, Nat.mul_one, Nat.add_zero] at hf32_13)
    have hx32_14 := hcc32 14 _ rfl
    (try simp only [show (k75).sz = 16 from rfl, Nat.mul_one, Nat.add_zero] at hx32_14)
    have hf32_14 := hfr32 14
    (try simp only [show (k75).sz = 16 from rfl, Nat.mul_one, Nat.add_zero] at hf32_14)
    have hx32_15 := hcc32 15 _ rfl
    (try simp only [show (k75).sz = 16 from rfl, Nat.mul_one, Nat.add_zero] at hx32_15)
    have hf32_15 := hfr32 15
    (try simp only [show (k75).sz = 16 from rfl, Nat.mul_one, Nat.add_zero] at hf32_15)
    clear hcl32 hcc32 hfr32 hM32
    go_wp2_with (first | ((with_reducible refine gate_store (t := 75) (p := 38) rfl ?_); refine store_event (t := 75) (p := 38) (v := ?vo_w33) (w1 := ((((((((((((((((wr.setCell ⟨go28, (x6_1 : Int).toNat * 16, none⟩ (.bool true)).setCell ⟨go28, (x6_1 : Int).toNat * 16 + 1, none⟩ (.int .i64 a1_0)).setCell ⟨go28, (x6_1 : Int).toNat * 16 + 2, none⟩ (.int .i64 a1_1)).setCell ⟨go28, (x6_1 : Int).toNat * 16 + 3, none⟩ (.int .i64 a1_2)).setCell ⟨go28, (x6_1 : Int).toNat * 16 + 4, none⟩ (.int .i64 a1_3)).setCell ⟨go28, (x6_1 : Int).toNat * 16 + 5, none⟩ (.int .i64 a1_4)).setCell ⟨go28, (x6_1 : Int).toNat * 16 + 6, none⟩ (.int .i64 a1_5)).setCell ⟨go28, (x6_1 : Int).toNat * 16 + 7, none⟩ (.int .i64 a1_6)).setCell ⟨go28, (x6_1 : Int).toNat * 16 + 8, none⟩ (.int .i64 a1_7)).setCell ⟨go28, (x6_1 : Int).toNat * 16 + 9, none⟩ (.int .i64 a1_8)).setCell ⟨go28, (x6_1 : Int).toNat * 16 + 10, none⟩ (.int .i64 a1_9)).setCell ⟨go28, (x6_1 : Int).toNat * 16 + 11, none⟩ (.int .i64 a1_10)).setCell ⟨go28, (x6_1 : Int).toNat * 16 + 12, none⟩ (.int .i64 a1_11)).setCell ⟨go28, (x6_1 : Int).toNat * 16 + 13, none⟩ (.int .i64 a1_12)).setCell ⟨go28, (x6_1 : Int).toNat * 16 + 14, none⟩ (.int .i64 a1_13)).setCell ⟨go28, (x6_1 : Int).toNat * 16 + 15, none⟩ (.int .i64 a2))) ?hg ?ho ?hn ?hr ?_; (case ho => rfl); (case hg => rfl); (case hn => rfl); (case hr => first | (go_simp; done) | (go_simp; rfl)); intro w33 hw; have hg : wr.grownBy w33 (some go28) := (by rw [hw]; exact HP32.2); have hp_ : Kd.R k75 75 w33 w0.heap.size (fun k_ => (P0_1_ k_ ∨ w.heap.size ≤ k_)) (.slice (some ⟨go28, 0, none⟩) l0_1.length co5) y319 := (by rw [hw, Ny319.out]; exact HP32.1); clear HP32; replace BK314 := Gv.a0 (blk_grown (g := gb314) (o := .cells #[.int .i64 a0_0, .slice (some ⟨go28, 0, none⟩) l0_1.length co5] 40 (0, 0)) Gv.bk hg (Kd.R_ne HO_315001.out BK314.out (by decide))); replace BK315 := Gv.a0 (blk_grown (g := gb315) (o := .cells #[.int .i64 a1_0, .int .i64 a1_1, .int .i64 a1_2, .int .i64 a1_3, .int .i64 a1_4, .int .i64 a1_5, .int .i64 a1_6, .int .i64 a1_7, .int .i64 a1_8, .int .i64 a1_9, .int .i64 a1_10, .int .i64 a1_11, .int .i64 a1_12, .int .i64 a1_13] 33 (0, 0)) Gv.bk hg (Kd.R_ne HO_315001.out BK315.out (by decide))); replace HB := Gv.a0 ((by rw [hw]; exact below_set (below_set (below_set (below_set (below_set (below_set (below_set (below_set (below_set (below_set (below_set (below_set (below_set (below_set (below_set (below_set (HB.out) GB28.out) GB28.out) GB28.out) GB28.out) GB28.out) GB28.out) GB28.out) GB28.out) GB28.out) GB28.out) GB28.out) GB28.out) GB28.out) GB28.out) GB28.out) GB28.out : Below w0.heap.size w0 w33)); replace HK := Gv.a0 (Kept.of_grown (S := (fun k_ => P0_1_ k_)) hg (by repeat (first | (with_reducible first | exact HK.out | apply Kept.alloc | apply Kept.drewN | apply Kept.drew | refine Kept.setCell ?_ (.inr GW314.out) _ | refine Kept.setCell ?_ (.inr GW315.out) _) | exact HK.out)) (fun k_ e_ => (HO_315001.out.1 k_ e_))); replace HO_315001 := Gv.a0 (hp_); clear hg hw hp_) | ((with_reducible refine Gv.gate_load (t := 33) rfl ?_); (try (refine gate_guard (by rfl) ?_; dsimp only)); refine wpList_load_row rfl 33 _ rfl gb315 rfl 33 _ _ _ (by first | exact Gv.kb0 BK315.out | exact Gv.kb1 (Gv.kb0 BK315.out)) Try.underlying33 rfl (by kernel_rfl) ?_) | ((with_reducible refine Gv.gate_load (t := 31) rfl ?_); (try (refine gate_guard (by rfl) ?_; dsimp only)); refine Gv.sub_event (g := gb315) 13 rfl rfl rfl (by first | exact Gv.kb0 BK315.out | exact Gv.kb1 (Gv.kb0 BK315.out)) Try.underlying31 rfl (by kernel_rfl) ?_))
    first | go_end0 | ((try simp only [Exit.inBlock, Exit.then]); refine bodyPost_ret (results_none rfl _ _ _) rfl ?_)
    exact ⟨Gv.rt, Gv.kr HO_315001.out, Gv.bw, by repeat (first | (with_reducible first | exact HK.out | apply Kept.alloc | apply Kept.drewN | apply Kept.drew | refine Kept.setCell ?_ (.inr GW314.out) _ | refine Kept.setCell ?_ (.inr GW315.out) _) | exact HK.out)⟩
/-! ### spec_l11Copy: function 62 -/
def spec_l11Copy.f (a0_0 : Int) (l0_1 : List (S75)) : Option (Int × (List (S75))) := (some (([] : List (S75)) : List (S75))).bind fun y322 => (if y322.length + l0_1.length < 1099511627776 then (some (a0_0, (y322 ++ l0_1))) else (none))
def spec_l11Copy.T1 : Bool × List (List Nat × List Nat) := (true, [([], []), ([0], [0]), ([], []), ([], []), ([3], [3]), ([2, 4], [2, 4]), ([1, 5], [1, 5]), ([6, 5, 0, 1, 2, 3, 4, 5, 6], [6])])
def spec_l11Copy.B1 : List Nat := [0, 1, 0, 0, 8, 28, 63, 127]
theorem spec_l11Copy.tab1 : rtab .any (opsOf Try.f62 1) = spec_l11Copy.T1 := by kernel_rfl
theorem spec_l11Copy.bits1 : waitsOk spec_l11Copy.T1.2 spec_l11Copy.B1 = true := by kernel_rfl
set_option maxHeartbeats 8000000 in
set_option maxRecDepth 100000 in
theorem spec_l11Copy.calls (a0_0 : Int) (A0_1 : Option Addr) (c0_1 : Nat) (l0_1 : List (S75)) (r1 : Int) (r2 : List (S75)) (w : World) (hr0_1 : Kd.C k75 w A0_1 l0_1.length l0_1) (hc0_1 : l0_1.length ≤ c0_1) (h : spec_l11Copy.f a0_0 l0_1 = some (r1, r2)) :
  Calls Try.prog 62 #[.agg #[.int .i64 a0_0, .slice A0_1 l0_1.length c0_1]] w fun e w' => ∃ v1_ : Value, e = .returned (.agg #[.int .i64 r1, v1_]) ∧ Kd.R k75 75 w' w.heap.size (fun _ => True) v1_ r2 ∧ Below w.heap.size w w' := by
 have hu40 := Try.underlying40
 have HR0_1 := Gv.a0 hr0_1
 have HC0_1 := Gv.a0 hc0_1
 clear hr0_1 hc0_1
 have HB := Gv.a0 (Below.refl w.heap.size w)
 have H : ((some (([] : List (S75)) : List (S75))).bind fun y322 => (if y322.length + l0_1.length < 1099511627776 then (some (a0_0, (y322 ++ l0_1))) else (none))) = some (r1, r2) := h
 clear h
 obtain ⟨y322, hy322⟩ : ∃ y_ : List (S75), y_ = (([] : List (S75))) := ⟨_, rfl⟩
 replace H : (if y322.length + l0_1.length < 1099511627776 then (some (a0_0, (y322 ++ l0_1))) else (none)) = some (r1, r2) := by first | (rw [hy322]; with_reducible exact H) | (have H2_ := (Option.bind_some _ _).symm.trans H; rw [hy322]; with_reducible exact H2_) | (have H2_ := (Option.bind_some _ _).symm.trans H; with_reducible exact H2_) | with_reducible exact H | (rw [hy322]; exact H) | exact H
 have Ny322 := Gv.a0 hy322
 clear hy322
 by_cases c2 : y322.length + l0_1.length < 1099511627776
 rotate_left
 ·rw [if_neg c2] at H
  exact absurd H (by simp)

 rw [if_pos c2] at H
 have LMc2 := Gv.a0 c2
 clear c2
 obtain ⟨y325, hy325⟩ : ∃ y_ : List (S75), y_ = (y322 ++ l0_1) := ⟨_, rfl⟩
 replace H : (some (a0_0, y325)) = some (r1, r2) := by first | (rw [hy325]; with_reducible exact H) | (have H2_ := (Option.bind_some _ _).symm.trans H; rw [hy325]; with_reducible exact H2_) | (have H2_ := (Option.bind_some _ _).symm.trans H; with_reducible exact H2_) | with_reducible exact H | (rw [hy325]; exact H) | exact H
 have Ny325 := Gv.a0 hy325
 clear hy325
 simp only [Option.some.injEq, Prod.mk.injEq] at H
 obtain ⟨rfl, rfl⟩ := H
 go_enter Try.func62, Try.ntmps62
 try go_wp2_with (first | ((with_reducible refine gate_dst (N := 1) rfl ?_); refine Gv.bev 1 40 #[.int .i64 a0_0, .slice A0_1 l0_1.length c0_1] ?_; intro gb320 hg w3 hbox hb; have BK320 := Gv.a0 (hbox); have GW320 := Gv.a0 ((Gv.ble hg Gv.bw : w.heap.size ≤ gb320)); have GE320 := Gv.a0 ((Gv.ble hg Gv.bw : w.heap.size ≤ gb320)); replace HB := Gv.a0 (below_step Gv.bw hb); clear hb hbox hg) | ((with_reducible refine gate_dst (N := 2) rfl ?_); refine Gv.bev 2 40 #[.int .i64 0, .slice none 0 0] ?_; intro gb321 hg w4 hbox hb; have BK321 := Gv.a0 (hbox); have GW321 := Gv.a0 ((Gv.ble hg Gv.bw : w.heap.size ≤ gb321)); have GE321 := Gv.a0 ((Gv.ble hg Gv.bw : w.heap.size ≤ gb321)); replace HB := Gv.a0 (below_step Gv.bw hb); have NB320_321 := Gv.a0 ((Gv.nlt hg (Gv.kb BK320.out) : gb320 ≠ gb321)); have NB321_320 := Gv.a0 ((Gv.ngt hg (Gv.kb BK320.out) : gb321 ≠ gb320)); replace BK320 := Gv.b1 BK320 hb; clear hb hbox hg))
 replace BK320 := Gv.a0 (blk_drew BK320.out)
 replace BK321 := Gv.a0 (blk_drew BK321.out)
 replace HB := Gv.a0 (below_drew1 HB.out)
 refine start_ (n := 8) (S := fun w' => w'.cell? ⟨gb320, 0, none⟩ = some (.int .i64 a0_0) ∧ w'.cell? ⟨gb320, 1, none⟩ = some (.slice A0_1 l0_1.length c0_1)) (ds := []) #[false, false, false, false, false, false, false, false] (by kernel_rfl) rfl rfl ⟨Gv.q BK320.out, Gv.q BK320.out⟩ (fun hHeld => ?_); refine with_tabW spec_l11Copy.tab1 spec_l11Copy.bits1 (fun HT_ HW_ => ?_)
 generalize w4.drew = w5 at BK320 BK321 HB hHeld ⊢
 refine Gv.pu 0 (some 3) HT_ ?_
 refine Gv.pu 3 (some 6) HT_ ?_
 refine take_ (i := 1) (N := some 4) (v := ?_) (a' := ?_) #[true, true, false, true, false, false, false, false] rfl rfl (take_ofW HT_.out HW_.out (by kernel_rfl)) (fun _ _ _ h => h) (Or.inl ⟨by rfl, ?_⟩) hHeld ?_ ?_
 rotate_left
 ·rintro w' ⟨s0, s1⟩
  go_simp
  with_reducible rfl
 rotate_left
 ·simp only [Act.put, List.setIfInBounds_toArray, List.set_cons_zero, List.set_cons_succ, i64_w, i32_w]
  rfl
 refine take_ (i := 4) (N := some 7) (v := ?_) (a' := ?_) #[true, true, false, true, true, false, false, false] rfl rfl (take_ofW HT_.out HW_.out (by kernel_rfl)) (fun _ _ _ h => h) (Or.inl ⟨by rfl, ?_⟩) hHeld ?_ ?_
 rotate_left
 ·rintro w' ⟨s0, s1⟩
  go_simp
  with_reducible rfl
 rotate_left
 ·simp only [Act.put, List.setIfInBounds_toArray, List.set_cons_zero, List.set_cons_succ, i64_w, i32_w]
  rfl
 refine one_ (i := 2) (N := some 5) #[true, true, true, true, true, false, false, false] rfl rfl (one_of HT_.out (by kernel_rfl)) (by decide) (fun K hK => ?_)
 refine Kd.R_lit_step k75 _ 75 ?hg (N := 5) ?hd (xs := ([] : List (S75))) (inner := []) (ok := fun _ => True) (okp := fun _ => True) ?hr ?hp (fun _ hk => hk) trivial (Below.refl _ _) (Nat.le_refl _) (by simp) ?_; (case hd => rfl); (case hg => rfl); (case hr => first | (go_simp; done) | (go_simp; rfl)); (case hp => exact (Reps.none _ _))
 intro v323 w6 ho7 hb hg_ hnew_
 clear hg_ hnew_
 (first | rw [← Ny322.out] at ho7 | (simp only [Int.reduceToNat] at ho7; rw [← Ny322.out] at ho7))
 have HO324 := Gv.a0 (Kd.R_lower ho7 (below_size Gv.bw))
 replace BK320 := Gv.b1 BK320 hb
 replace BK321 := Gv.b1 BK321 hb
 replace HB := Gv.a0 (below_step Gv.bw hb)
 clear hb ho7
 refine hK.out _ _ ⟨Gv.q BK320.out, Gv.q BK320.out⟩ (fun hHeld => ?_)
 clear hK K
 refine norm_ (a' := ?_) ?_ ?_
 rotate_left
 ·show Act.put _ (some 5) _ = _
  simp only [Act.put, List.setIfInBounds_toArray, List.set_cons_zero, List.set_cons_succ, i64_w, i32_w]
  rfl
 refine one_ (i := 5) (N := some 8) #[true, true, true, true, true, true, false, false] rfl rfl (one_of HT_.out (by kernel_rfl)) (by decide) (fun K hK => ?_)
 refine Kd.R_append_rows_step k75 (w0 := w) w.heap.size (by rfl) (.tmp 5) (.tmp 7) 38 75 (.agg #[(.bool false), (.int .i64 0), (.int .i64 0), (.int .i64 0), (.int .i64 0), (.int .i64 0), (.int .i64 0), (.int .i64 0), (.int .i64 0), (.int .i64 0), (.int .i64 0), (.int .i64 0), (.int .i64 0), (.int .i64 0), (.int .i64 0), (.int .i64 0)]) 128 rfl Try.underlying38 info75 rfl (by decide) (by omega) v323 y322 l0_1 _ _ _ (fun _ => True) (fun _ => False) rfl rfl ?aO ?aR (fun _ _ h => h) (fun _ h => h.elim) ?aF ?aB ?aS ?aL ?_
 (case aR => repeat (first | exact (Kd.C_below HR0_1.out HB.out) | (with_reducible refine Kd.C_alloc ?_ _) | (with_reducible refine Kd.C_drewN ?_ _) | (with_reducible refine Kd.C_drew ?_)))
 (case aB => exact Gv.bw)
 (case aF => exact (fun _ _ => trivial))
 (case aO => exact (Gv.kr HO324.out))
 (case aS => exact (below_size Gv.bw))
 (case aL => have := LMc2.out; omega)
 intro v326 w8 ho hb hg hat
 rw [← Ny325.out] at ho
 replace BK320 := Gv.a0 (blk_grown (g := gb320) (o := .cells #[.int .i64 a0_0, .slice A0_1 l0_1.length c0_1] 40 (0, 0)) Gv.bk hg (Kd.R_ne HO324.out BK320.out (by decide)))
 replace BK321 := Gv.a0 (blk_grown (g := gb321) (o := .cells #[.int .i64 0, .slice none 0 0] 40 (0, 0)) Gv.bk hg (Kd.R_ne HO324.out BK321.out (by decide)))
 replace HB := Gv.a0 (hb)
 have HO327 := Gv.a0 (ho)
 clear HO324 ho hb hg hat
 obtain ⟨Ao9, co9, eo9⟩ := Kd.R_slice HO327.out
 (first | subst eo9 | (injection eo9 with f1_ f2_ f3_; have f4_ := f1_.symm; have f5_ := f3_.symm; clear f1_ f2_ f3_; subst f4_; subst f5_))
 refine hK.out _ _ ⟨Gv.q BK320.out, Gv.q BK320.out⟩ (fun hHeld => ?_)
 clear hK K
 refine norm_ (a' := ?_) ?_ ?_
 rotate_left
 ·show Act.put _ (some 8) _ = _
  simp only [Act.put, List.setIfInBounds_toArray, List.set_cons_zero, List.set_cons_succ, i64_w, i32_w]
  rfl
 refine Gv.pu 6 (some 9) HT_ ?_
 refine one_ (i := 7) (N := none) #[true, true, true, true, true, true, true, true] rfl rfl (one_of HT_.out (by kernel_rfl)) (by decide) (fun K hK => ?_)
 have hs10 : w8.cell? ⟨gb321, 0, none⟩ = some (.int .i64 0) := (blk_cell BK321.out 0).trans rfl
 have hfs10 := blk_frozen BK321.out 0
 have hns10_0 := NB320_321.out
 have hms10_0 := NB321_320.out
 have hs11 : w8.cell? ⟨gb321, 1, none⟩ = some (.slice none 0 0) := (blk_cell BK321.out 1).trans rfl
 have hfs11 := blk_frozen BK321.out 1
 have hns11_0 := NB320_321.out
 have hms11_0 := NB321_320.out
 refine skip_ (w1 := ?_) (by rfl) rfl ?_ ?_
 rotate_left
 ·go_simp
  rfl
 refine hK.out _ _ ⟨((cell_far (p := ⟨gb321, _, none⟩) NB320_321.out _).trans (((cell_far (p := ⟨gb321, _, none⟩) NB320_321.out _).trans (hHeld.1)))), ((cell_far (p := ⟨gb321, _, none⟩) NB320_321.out _).trans (((cell_far (p := ⟨gb321, _, none⟩) NB320_321.out _).trans (hHeld.2))))⟩ (fun hHeld => ?_)
 clear hK K
 refine done_ (done_of HT_.out (by kernel_rfl)) ?_
 try go_wp2
 refine bodyPost_ret (results_cell_row rfl _ _ gb321 40 #[.int .i64 a0_0, .slice Ao9 y325.length co9] (0, 0) _ rfl (by (with_reducible repeat (first | refine blk_drewN ?_ _ | refine blk_drew ?_ | refine blk_alloc ?_ _)); refine blk_put (cs := #[.int .i64 a0_0, .slice none 0 0]) ?_ 1 _ rfl; (with_reducible repeat (first | refine blk_drewN ?_ _ | refine blk_drew ?_ | refine blk_alloc ?_ _)); refine blk_put (cs := #[.int .i64 0, .slice none 0 0]) ?_ 0 _ rfl; (with_reducible repeat (first | refine blk_drewN ?_ _ | refine blk_drew ?_ | refine blk_alloc ?_ _)); exact BK321.out) Try.underlying40 rfl (by kernel_rfl)) rfl ?_
 exact ⟨_, Gv.rt, by (with_reducible repeat (first | apply Kd.R_alloc | apply Kd.R_drewN | apply Kd.R_drew)); exact Kd.R_mono (Kd.R_far (p := ⟨gb321, 1, none⟩) (Kd.R_far (p := ⟨gb321, 0, none⟩) (Kd.R_types HO327.out BK321.out (by decide)) (fun _ hk => hk.2) (.int .i64 a0_0)) (fun _ hk => hk.2) (.slice Ao9 y325.length co9)) (fun _ hk => trivial), Gv.bw⟩
end Go.Proofs.Ytfnpodebjejhpaa.PTp
