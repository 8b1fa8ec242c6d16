/- Plain Lean functions of a law's Go functions, their contracts, by a program of this session (wip/pr.py over the kit's print). -/
import Derived.Test.YtfnpodebjejhpaaPTdx0
import Derived.Test.YtfnpodebjejhpaaPTdx2
import Derived.Test.YtfnpodebjejhpaaPTdx3
import Derived.Test.YtfnpodebjejhpaaPTdx4
namespace Go.Proofs.Ytfnpodebjejhpaa.PTd
open Go.RowKit Go.Proofs.YtfnpodebjejhpaaW.PrintWords Go.Proofs.YtfnpodebjejhpaaW.PrintLast Go.Proofs.YtfnpodebjejhpaaW.PrintMore
attribute [local go_sem] max2_int min2_int max_two min_two max_three min_three max_four min_four   -- for this text's walks alone
set_option linter.unusedVariables false
set_option linter.unusedSimpArgs false

attribute [local go_sem high] eqA75
/-! ### spec_TableOk: function 24 -/
mutual
def spec_TableOk.j0 : Nat → Int → Bool → Int → List (S75) → Option (Bool)
 | 0, _, _, _, _ => none
 | k + 1, x3, x37, x307000, x307001 => if x37 = true then (some false) else ((spec_l11Count.f k x307000 x307001).bind fun t307 => (if (wrap64 (4 * t307)) > (wrap64 (3 * x3)) then (some false) else (spec_TableOk.l0 k x3 0 x307000 x307001)))
def spec_TableOk.l0 : Nat → Int → Int → Int → List (S75) → Option (Bool)
 | 0, _, _, _, _ => none
 | k + 1, x3, x4, x307000, x307001 => if x4 < x3 then (if 0 ≤ x4 then (if x4 < (x307001.length : Int) then (if ((rd_T75 x307001 x4).f0 = true) then ((spec_FlowKeyOk.f ((rd_T75 x307001 x4).f1.f0) ((rd_T75 x307001 x4).f1.f1.f0.f0) ((rd_T75 x307001 x4).f1.f1.f0.f1) ((rd_T75 x307001 x4).f1.f1.f0.f2) ((rd_T75 x307001 x4).f1.f1.f0.f3) ((rd_T75 x307001 x4).f1.f1.f0.f4) ((rd_T75 x307001 x4).f1.f1.f1.f0) ((rd_T75 x307001 x4).f1.f1.f1.f1) ((rd_T75 x307001 x4).f1.f1.f1.f2) ((rd_T75 x307001 x4).f1.f1.f1.f3) ((rd_T75 x307001 x4).f1.f1.f1.f4) ((rd_T75 x307001 x4).f1.f1.f2) ((rd_T75 x307001 x4).f1.f1.f3) ((rd_T75 x307001 x4).f1.f1.f4)).bind fun t310 => (if t310 = true then (if ((rd_T75 x307001 x4).f2) < 0 then (spec_TableOk.j2 k x3 x4 true x307000 x307001 ((rd_T75 x307001 x4).f0) ((rd_T75 x307001 x4).f1.f0) ((rd_T75 x307001 x4).f1.f1.f0.f0) ((rd_T75 x307001 x4).f1.f1.f0.f1) ((rd_T75 x307001 x4).f1.f1.f0.f2) ((rd_T75 x307001 x4).f1.f1.f0.f3) ((rd_T75 x307001 x4).f1.f1.f0.f4) ((rd_T75 x307001 x4).f1.f1.f1.f0) ((rd_T75 x307001 x4).f1.f1.f1.f1) ((rd_T75 x307001 x4).f1.f1.f1.f2) ((rd_T75 x307001 x4).f1.f1.f1.f3) ((rd_T75 x307001 x4).f1.f1.f1.f4) ((rd_T75 x307001 x4).f1.f1.f2) ((rd_T75 x307001 x4).f1.f1.f3) ((rd_T75 x307001 x4).f1.f1.f4) ((rd_T75 x307001 x4).f2)) else (if ((rd_T75 x307001 x4).f2) > 1000000000000 then (spec_TableOk.j2 k x3 x4 true x307000 x307001 ((rd_T75 x307001 x4).f0) ((rd_T75 x307001 x4).f1.f0) ((rd_T75 x307001 x4).f1.f1.f0.f0) ((rd_T75 x307001 x4).f1.f1.f0.f1) ((rd_T75 x307001 x4).f1.f1.f0.f2) ((rd_T75 x307001 x4).f1.f1.f0.f3) ((rd_T75 x307001 x4).f1.f1.f0.f4) ((rd_T75 x307001 x4).f1.f1.f1.f0) ((rd_T75 x307001 x4).f1.f1.f1.f1) ((rd_T75 x307001 x4).f1.f1.f1.f2) ((rd_T75 x307001 x4).f1.f1.f1.f3) ((rd_T75 x307001 x4).f1.f1.f1.f4) ((rd_T75 x307001 x4).f1.f1.f2) ((rd_T75 x307001 x4).f1.f1.f3) ((rd_T75 x307001 x4).f1.f1.f4) ((rd_T75 x307001 x4).f2)) else ((spec_l11Place.f k x307000 x307001 ((rd_T75 x307001 x4).f1.f0) ((rd_T75 x307001 x4).f1.f1.f0.f0) ((rd_T75 x307001 x4).f1.f1.f0.f1) ((rd_T75 x307001 x4).f1.f1.f0.f2) ((rd_T75 x307001 x4).f1.f1.f0.f3) ((rd_T75 x307001 x4).f1.f1.f0.f4) ((rd_T75 x307001 x4).f1.f1.f1.f0) ((rd_T75 x307001 x4).f1.f1.f1.f1) ((rd_T75 x307001 x4).f1.f1.f1.f2) ((rd_T75 x307001 x4).f1.f1.f1.f3) ((rd_T75 x307001 x4).f1.f1.f1.f4) ((rd_T75 x307001 x4).f1.f1.f2) ((rd_T75 x307001 x4).f1.f1.f3) ((rd_T75 x307001 x4).f1.f1.f4)).bind fun t311 => (spec_TableOk.j2 k x3 x4 (t311 != x4) x307000 x307001 ((rd_T75 x307001 x4).f0) ((rd_T75 x307001 x4).f1.f0) ((rd_T75 x307001 x4).f1.f1.f0.f0) ((rd_T75 x307001 x4).f1.f1.f0.f1) ((rd_T75 x307001 x4).f1.f1.f0.f2) ((rd_T75 x307001 x4).f1.f1.f0.f3) ((rd_T75 x307001 x4).f1.f1.f0.f4) ((rd_T75 x307001 x4).f1.f1.f1.f0) ((rd_T75 x307001 x4).f1.f1.f1.f1) ((rd_T75 x307001 x4).f1.f1.f1.f2) ((rd_T75 x307001 x4).f1.f1.f1.f3) ((rd_T75 x307001 x4).f1.f1.f1.f4) ((rd_T75 x307001 x4).f1.f1.f2) ((rd_T75 x307001 x4).f1.f1.f3) ((rd_T75 x307001 x4).f1.f1.f4) ((rd_T75 x307001 x4).f2))))) else (spec_TableOk.j2 k x3 x4 true x307000 x307001 ((rd_T75 x307001 x4).f0) ((rd_T75 x307001 x4).f1.f0) ((rd_T75 x307001 x4).f1.f1.f0.f0) ((rd_T75 x307001 x4).f1.f1.f0.f1) ((rd_T75 x307001 x4).f1.f1.f0.f2) ((rd_T75 x307001 x4).f1.f1.f0.f3) ((rd_T75 x307001 x4).f1.f1.f0.f4) ((rd_T75 x307001 x4).f1.f1.f1.f0) ((rd_T75 x307001 x4).f1.f1.f1.f1) ((rd_T75 x307001 x4).f1.f1.f1.f2) ((rd_T75 x307001 x4).f1.f1.f1.f3) ((rd_T75 x307001 x4).f1.f1.f1.f4) ((rd_T75 x307001 x4).f1.f1.f2) ((rd_T75 x307001 x4).f1.f1.f3) ((rd_T75 x307001 x4).f1.f1.f4) ((rd_T75 x307001 x4).f2)))) else (if (((rd_T75 x307001 x4).f0) || ((!(((rd_T75 x307001 x4).f1.f0) == 0) || (((!(((rd_T75 x307001 x4).f1.f1.f0.f0) == 0) || (!(((rd_T75 x307001 x4).f1.f1.f0.f1) == 0) || (!(((rd_T75 x307001 x4).f1.f1.f0.f2) == 0) || (!(((rd_T75 x307001 x4).f1.f1.f0.f3) == 0) || (!(((rd_T75 x307001 x4).f1.f1.f0.f4) == 0)))))) || ((!(((rd_T75 x307001 x4).f1.f1.f1.f0) == 0) || (!(((rd_T75 x307001 x4).f1.f1.f1.f1) == 0) || (!(((rd_T75 x307001 x4).f1.f1.f1.f2) == 0) || (!(((rd_T75 x307001 x4).f1.f1.f1.f3) == 0) || (!(((rd_T75 x307001 x4).f1.f1.f1.f4) == 0)))))) || (!(((rd_T75 x307001 x4).f1.f1.f2) == 0) || (!(((rd_T75 x307001 x4).f1.f1.f3) == 0) || (!(((rd_T75 x307001 x4).f1.f1.f4) == 0)))))))) || (!(((rd_T75 x307001 x4).f2) == 0)))) = true then (some false) else (spec_TableOk.l0 k x3 (wrap64 (x4 + 1)) x307000 x307001))) else (none)) else (none)) else (some true)
def spec_TableOk.j2 : Nat → Int → Int → Bool → Int → List (S75) → Bool → Int → Int → Int → Int → Int → Int → Int → Int → Int → Int → Int → Int → Int → Int → Int → Option (Bool)
 | 0, _, _, _, _, _, _, _, _, _, _, _, _, _, _, _, _, _, _, _, _, _ => none
 | k + 1, x3, x4, x81, x307000, x307001, x310000, x310001, x310002, x310003, x310004, x310005, x310006, x310007, x310008, x310009, x310010, x310011, x310012, x310013, x310014, x310015 => if x81 = true then (some false) else ((spec_l11Home.f k x307000 x307001 x310001 x310002 x310003 x310004 x310005 x310006 x310007 x310008 x310009 x310010 x310011 x310012 x310013 x310014).bind fun t312 => (spec_TableOk.l1 k x3 x4 t312 x307000 x307001))
def spec_TableOk.l1 : Nat → Int → Int → Int → Int → List (S75) → Option (Bool)
 | 0, _, _, _, _, _ => none
 | k + 1, x3, x4, x6, x307000, x307001 => if x6 = x4 then (spec_TableOk.l0 k x3 (wrap64 (x4 + 1)) x307000 x307001) else (if 0 ≤ x6 then (if x6 < (x307001.length : Int) then (if ((rd_T75 x307001 x6).f0 = true) then (if x3 = 0 then (none) else (spec_TableOk.l1 k x3 x4 (Int.tmod (wrap64 (x6 + 1)) x3) x307000 x307001)) else (some false)) else (none)) else (none))
end
def spec_TableOk.f (k : Nat) (a0_0 : Int) (l0_1 : List (S75)) : Option (Bool) := if a0_0 < 0 then (spec_TableOk.j0 k (l0_1.length : Int) true a0_0 l0_1) else (if a0_0 > 4294967295 then (spec_TableOk.j0 k (l0_1.length : Int) true a0_0 l0_1) else (if (l0_1.length : Int) = 4 then (spec_TableOk.j0 k (l0_1.length : Int) false a0_0 l0_1) else (if (l0_1.length : Int) = 8 then (spec_TableOk.j0 k (l0_1.length : Int) false a0_0 l0_1) else (if (l0_1.length : Int) = 16 then (spec_TableOk.j0 k (l0_1.length : Int) false a0_0 l0_1) else (if (l0_1.length : Int) = 32 then (spec_TableOk.j0 k (l0_1.length : Int) false a0_0 l0_1) else (spec_TableOk.j0 k (l0_1.length : Int) ((l0_1.length : Int) != 64) a0_0 l0_1))))))
set_option maxHeartbeats 8000000 in
set_option maxRecDepth 100000 in
theorem spec_TableOk.calls (k : Nat) (a0_0 : Int) (A0_1 : Option Addr) (c0_1 : Nat) (l0_1 : List (S75)) (r : Bool) (w : World) (hr0_1 : Kd.C k75 w A0_1 l0_1.length l0_1) (hc0_1 : l0_1.length ≤ c0_1) (h : spec_TableOk.f k a0_0 l0_1 = some r) :
  Calls Try.prog 24 #[.agg #[.int .i64 a0_0, .slice A0_1 l0_1.length c0_1]] w fun e w' => e = .returned (.bool r) ∧ Below w.heap.size w w' := by
 have hu40 := Try.underlying40; have hu75 := Try.underlying75; have hu33 := Try.underlying33; have HR0_1 := Gv.a0 hr0_1; have HC0_1 := Gv.a0 hc0_1; clear hr0_1 hc0_1; have HB := Gv.a0 (Below.refl w.heap.size w); unfold spec_TableOk.f at h; have H := h; clear h; have HC2 := Gv.a0 H; clear H
 go_enter Try.func24, Try.ntmps24
 go_upto_region 2 with (first | ((with_reducible refine gate_dst (N := 1) rfl ?_); refine Gv.bev 1 40 #[.int .i64 a0_0, .slice A0_1 l0_1.length c0_1] ?_; intro gb1 hg w3 hbox hb; have BK1 := Gv.a0 (hbox); have GW1 := Gv.a0 ((Gv.ble hg Gv.bw : w.heap.size ≤ gb1)); have GE1 := GW1; replace HB := Gv.hb hb; clear hb hbox hg; have z4_0 : w3.cell? ⟨gb1, 0, none⟩ = some (.int .i64 a0_0) := (blk_cell BK1.out 0).trans rfl; have z4_1 : w3.cell? ⟨gb1, 1, none⟩ = some (.slice A0_1 l0_1.length c0_1) := (blk_cell BK1.out 1).trans rfl; have o4_0 := blk_frozen BK1.out 0; have o4_1 := blk_frozen BK1.out 1) | ((with_reducible refine gate_store (t := 40) (p := 1) rfl ?_); refine Gv.store_event rfl rfl rfl rfl rfl (Gv.kb BK1.out) (by kernel_rfl) rfl (by simp; and_intros <;> rfl) ?_; intro w3s hbox hoth hbel; replace BK1 := Gv.a0 (hbox); replace HB := Gv.a0 (hbel w Gv.bw GE1.out); clear hbox hoth hbel; (try clear z4_0 z4_1 o4_0 o4_1); have z4_0 : w3s.cell? ⟨gb1, 0, none⟩ = some (.int .i64 a0_0) := (blk_cell BK1.out 0).trans rfl; have z4_1 : w3s.cell? ⟨gb1, 1, none⟩ = some (.slice A0_1 l0_1.length c0_1) := (blk_cell BK1.out 1).trans rfl; have o4_0 := blk_frozen BK1.out 0; have o4_1 := blk_frozen BK1.out 1) | ((with_reducible refine Gv.gate_load (t := 75) rfl ?_); (try (refine gate_guard (by rfl) ?_; dsimp only)); refine wpList_load_row rfl 75 _ rfl gb2 rfl 75 _ _ _ (Gv.k01 BK2.out) Try.underlying75 rfl (by kernel_rfl) ?_))
 (try simp only [Act.put, List.setIfInBounds_toArray, List.set_cons_zero, List.set_cons_succ])
 go_cut [37] (fun v37 wc => ∃ (kq : Nat) (x37_1 : Bool), v37 = .bool x37_1 ∧ Aside0 (spec_TableOk.j0 kq (l0_1.length : Int) x37_1 a0_0 l0_1 = some r) ∧ Aside0 (kq ≤ k) ∧ Aside0 (wc.heap[gb1]? = some (.cells #[.int .i64 a0_0, (.slice A0_1 l0_1.length c0_1)] 40 (0, 0))) ∧ Aside0 (Below w.heap.size w wc))
 case first =>
  have H := HC2.out; clear HC2
  by_cases c5 : a0_0 < 0
  ·rw [if_pos c5] at H; have c5b0 := decide_eq_true c5; clear c5
   (first | rw [c5b0] | (simp only [i64_w, i32_w]; rw [c5b0]) | skip); have H' := Gv.a0 H; clear H; have z6_0 : w3.cell? ⟨gb1, 0, none⟩ = some (.int .i64 a0_0) := (blk_cell BK1.out 0).trans rfl; have z6_1 : w3.cell? ⟨gb1, 1, none⟩ = some (.slice A0_1 l0_1.length c0_1) := (blk_cell BK1.out 1).trans rfl; have o6_0 := blk_frozen BK1.out 0; have o6_1 := blk_frozen BK1.out 1
   go_wp2_with (first | ((with_reducible refine Gv.gate_load (t := 75) rfl ?_); (try (refine gate_guard (by rfl) ?_; dsimp only)); refine wpList_load_row rfl 75 _ rfl gb2 rfl 75 _ _ _ (Gv.k01 BK2.out) Try.underlying75 rfl (by kernel_rfl) ?_))
   go_meet
   case rel => exact ⟨_, (true), Gv.rq, H', ⟨by first | omega | exact Nat.le_refl _⟩, ⟨by (with_reducible repeat (first | refine blk_drewN ?_ _ | refine blk_drew ?_ | refine blk_alloc ?_ _)); exact BK1.out⟩, ⟨Gv.bw⟩⟩
  ·rw [if_neg c5] at H; have c5b0 := decide_eq_false c5; clear c5
   (first | rw [c5b0] | (simp only [i64_w, i32_w]; rw [c5b0]) | skip)
   by_cases c7 : a0_0 > 4294967295
   ·rw [if_pos c7] at H; have c7b0 : decide (4294967295 < a0_0) = true := decide_eq_true c7; clear c7; have H' := Gv.a0 H; clear H; have z8_0 : w3.cell? ⟨gb1, 0, none⟩ = some (.int .i64 a0_0) := (blk_cell BK1.out 0).trans rfl; have z8_1 : w3.cell? ⟨gb1, 1, none⟩ = some (.slice A0_1 l0_1.length c0_1) := (blk_cell BK1.out 1).trans rfl; have o8_0 := blk_frozen BK1.out 0; have o8_1 := blk_frozen BK1.out 1
    go_wp2_with (first | ((with_reducible refine Gv.gate_load (t := 75) rfl ?_); (try (refine gate_guard (by rfl) ?_; dsimp only)); refine wpList_load_row rfl 75 _ rfl gb2 rfl 75 _ _ _ (Gv.k01 BK2.out) Try.underlying75 rfl (by kernel_rfl) ?_))
    go_meet
    case rel => exact ⟨_, (true), Gv.rq, H', ⟨by first | omega | exact Nat.le_refl _⟩, ⟨by (with_reducible repeat (first | refine blk_drewN ?_ _ | refine blk_drew ?_ | refine blk_alloc ?_ _)); exact BK1.out⟩, ⟨Gv.bw⟩⟩
   ·rw [if_neg c7] at H; have c7b0 : decide (4294967295 < a0_0) = false := decide_eq_false c7; clear c7
    by_cases c9 : (l0_1.length : Int) = 4
    ·rw [if_pos c9] at H; have c9b0 : ((l0_1.length : Int) == 4) = true := beq_iff_eq.mpr c9; have c9b1 : ((l0_1.length : Int) != 4) = false := bne_eq_false_iff_eq.mpr c9; clear c9; have H' := Gv.a0 H; clear H; have z10_0 : w3.cell? ⟨gb1, 0, none⟩ = some (.int .i64 a0_0) := (blk_cell BK1.out 0).trans rfl; have z10_1 : w3.cell? ⟨gb1, 1, none⟩ = some (.slice A0_1 l0_1.length c0_1) := (blk_cell BK1.out 1).trans rfl; have o10_0 := blk_frozen BK1.out 0; have o10_1 := blk_frozen BK1.out 1
     go_wp2_with (first | ((with_reducible refine Gv.gate_load (t := 75) rfl ?_); (try (refine gate_guard (by rfl) ?_; dsimp only)); refine wpList_load_row rfl 75 _ rfl gb2 rfl 75 _ _ _ (Gv.k01 BK2.out) Try.underlying75 rfl (by kernel_rfl) ?_))
     go_meet
     case rel => exact ⟨_, (false), Gv.rq, H', ⟨by first | omega | exact Nat.le_refl _⟩, ⟨by (with_reducible repeat (first | refine blk_drewN ?_ _ | refine blk_drew ?_ | refine blk_alloc ?_ _)); exact BK1.out⟩, ⟨Gv.bw⟩⟩
    ·rw [if_neg c9] at H; have c9b0 : ((l0_1.length : Int) == 4) = false := beq_eq_false_iff_ne.mpr c9; have c9b1 : ((l0_1.length : Int) != 4) = true := bne_iff_ne.mpr c9
     by_cases c11 : (l0_1.length : Int) = 8
     ·rw [if_pos c11] at H; have c11b0 : ((l0_1.length : Int) == 8) = true := beq_iff_eq.mpr c11; have c11b1 : ((l0_1.length : Int) != 8) = false := bne_eq_false_iff_eq.mpr c11; clear c11; have H' := Gv.a0 H; clear H; have z12_0 : w3.cell? ⟨gb1, 0, none⟩ = some (.int .i64 a0_0) := (blk_cell BK1.out 0).trans rfl; have z12_1 : w3.cell? ⟨gb1, 1, none⟩ = some (.slice A0_1 l0_1.length c0_1) := (blk_cell BK1.out 1).trans rfl; have o12_0 := blk_frozen BK1.out 0; have o12_1 := blk_frozen BK1.out 1
      go_wp2_with (first | ((with_reducible refine Gv.gate_load (t := 75) rfl ?_); (try (refine gate_guard (by rfl) ?_; dsimp only)); refine wpList_load_row rfl 75 _ rfl gb2 rfl 75 _ _ _ (Gv.k01 BK2.out) Try.underlying75 rfl (by kernel_rfl) ?_))
      go_meet
      case rel => exact ⟨_, (false), Gv.rq, H', ⟨by first | omega | exact Nat.le_refl _⟩, ⟨by (with_reducible repeat (first | refine blk_drewN ?_ _ | refine blk_drew ?_ | refine blk_alloc ?_ _)); exact BK1.out⟩, ⟨Gv.bw⟩⟩
     ·rw [if_neg c11] at H; have c11b0 : ((l0_1.length : Int) == 8) = false := beq_eq_false_iff_ne.mpr c11; have c11b1 : ((l0_1.length : Int) != 8) = true := bne_iff_ne.mpr c11
      by_cases c13 : (l0_1.length : Int) = 16
      ·rw [if_pos c13] at H; have c13b0 : ((l0_1.length : Int) == 16) = true := beq_iff_eq.mpr c13; have c13b1 : ((l0_1.length : Int) != 16) = false := bne_eq_false_iff_eq.mpr c13; clear c13; have H' := Gv.a0 H; clear H; have z14_0 : w3.cell? ⟨gb1, 0, none⟩ = some (.int .i64 a0_0) := (blk_cell BK1.out 0).trans rfl; have z14_1 : w3.cell? ⟨gb1, 1, none⟩ = some (.slice A0_1 l0_1.length c0_1) := (blk_cell BK1.out 1).trans rfl; have o14_0 := blk_frozen BK1.out 0; have o14_1 := blk_frozen BK1.out 1
       go_wp2_with (first | ((with_reducible refine Gv.gate_load (t := 75) rfl ?_); (try (refine gate_guard (by rfl) ?_; dsimp only)); refine wpList_load_row rfl 75 _ rfl gb2 rfl 75 _ _ _ (Gv.k01 BK2.out) Try.underlying75 rfl (by kernel_rfl) ?_))
       go_meet
       case rel => exact ⟨_, (false), Gv.rq, H', ⟨by first | omega | exact Nat.le_refl _⟩, ⟨by (with_reducible repeat (first | refine blk_drewN ?_ _ | refine blk_drew ?_ | refine blk_alloc ?_ _)); exact BK1.out⟩, ⟨Gv.bw⟩⟩
      ·rw [if_neg c13] at H; have c13b0 : ((l0_1.length : Int) == 16) = false := beq_eq_false_iff_ne.mpr c13; have c13b1 : ((l0_1.length : Int) != 16) = true := bne_iff_ne.mpr c13
       by_cases c15 : (l0_1.length : Int) = 32
       ·rw [if_pos c15] at H; have c15b0 : ((l0_1.length : Int) == 32) = true := beq_iff_eq.mpr c15; have c15b1 : ((l0_1.length : Int) != 32) = false := bne_eq_false_iff_eq.mpr c15; clear c15; have H' := Gv.a0 H; clear H; have z16_0 : w3.cell? ⟨gb1, 0, none⟩ = some (.int .i64 a0_0) := (blk_cell BK1.out 0).trans rfl; have z16_1 : w3.cell? ⟨gb1, 1, none⟩ = some (.slice A0_1 l0_1.length c0_1) := (blk_cell BK1.out 1).trans rfl; have o16_0 := blk_frozen BK1.out 0; have o16_1 := blk_frozen BK1.out 1
        go_wp2_with (first | ((with_reducible refine Gv.gate_load (t := 75) rfl ?_); (try (refine gate_guard (by rfl) ?_; dsimp only)); refine wpList_load_row rfl 75 _ rfl gb2 rfl 75 _ _ _ (Gv.k01 BK2.out) Try.underlying75 rfl (by kernel_rfl) ?_))
        go_meet
        case rel => exact ⟨_, (false), Gv.rq, H', ⟨by first | omega | exact Nat.le_refl _⟩, ⟨by (with_reducible repeat (first | refine blk_drewN ?_ _ | refine blk_drew ?_ | refine blk_alloc ?_ _)); exact BK1.out⟩, ⟨Gv.bw⟩⟩
       ·rw [if_neg c15] at H; have c15b0 : ((l0_1.length : Int) == 32) = false := beq_eq_false_iff_ne.mpr c15; have c15b1 : ((l0_1.length : Int) != 32) = true := bne_iff_ne.mpr c15; have H' := Gv.a0 H; clear H; have z17_0 : w3.cell? ⟨gb1, 0, none⟩ = some (.int .i64 a0_0) := (blk_cell BK1.out 0).trans rfl; have z17_1 : w3.cell? ⟨gb1, 1, none⟩ = some (.slice A0_1 l0_1.length c0_1) := (blk_cell BK1.out 1).trans rfl; have o17_0 := blk_frozen BK1.out 0; have o17_1 := blk_frozen BK1.out 1
        go_wp2_with (first | ((with_reducible refine Gv.gate_load (t := 75) rfl ?_); (try (refine gate_guard (by rfl) ?_; dsimp only)); refine wpList_load_row rfl 75 _ rfl gb2 rfl 75 _ _ _ (Gv.k01 BK2.out) Try.underlying75 rfl (by kernel_rfl) ?_))
        go_meet
        case rel => exact ⟨_, (((l0_1.length : Int) != 64)), Gv.rq, H', ⟨by first | omega | exact Nat.le_refl _⟩, ⟨by (with_reducible repeat (first | refine blk_drewN ?_ _ | refine blk_drew ?_ | refine blk_alloc ?_ _)); exact BK1.out⟩, ⟨Gv.bw⟩⟩
 case rest =>
  clear HC2
  try clear c1
  try clear c2
  try clear p2
  try clear c5
  try clear c5b0
  try clear c7
  try clear c7b0
  try clear c9
  try clear c9b0
  try clear c9b1
  try clear c11
  try clear c11b0
  try clear c11b1
  try clear c13
  try clear c13b0
  try clear c13b1
  try clear c15
  try clear c15b0
  try clear c15b1
  try clear z10_0 z10_1
  try clear z12_0 z12_1
  try clear z14_0 z14_1
  try clear z16_0 z16_1
  try clear z17_0 z17_1
  try clear z4_0 z4_1
  try clear z6_0 z6_1
  try clear z8_0 z8_1
  try clear o10_0 o10_1
  try clear o12_0 o12_1
  try clear o14_0 o14_1
  try clear o16_0 o16_1
  try clear o17_0 o17_1
  try clear o4_0 o4_1
  try clear o6_0 o6_1
  try clear o8_0 o8_1
  obtain ⟨kq, x37_1, rfl, HA, HJ1, BK1, HB⟩ := hcut; cases kq with
  | zero => exact absurd HA.out (by simp [spec_TableOk.j0])
  | succ kj1 =>
   have H := HA.out; clear HA; simp only [spec_TableOk.j0] at H
   by_cases c18 : x37_1 = true
   ·subst c18; rw [if_pos rfl] at H
    (try dsimp only at H); obtain rfl := Option.some.inj H
    go_wp2_with (first | ((with_reducible refine Gv.gate_load (t := 75) rfl ?_); (try (refine gate_guard (by rfl) ?_; dsimp only)); refine wpList_load_row rfl 75 _ rfl gb2 rfl 75 _ _ _ (Gv.k01 BK2.out) Try.underlying75 rfl (by kernel_rfl) ?_))
    go_ret
    exact ⟨Gv.rt, Gv.bw⟩
   ·replace c18 := Bool.eq_false_iff.mpr c18; subst c18; rw [if_neg (show ¬ (false = true) by decide)] at H
    (try dsimp only at H); replace H := Option.bind_eq_some_iff.mp H; obtain ⟨t3, A7, H⟩ := H
    (try dsimp only at H); have A19 := Gv.a0 A7; clear A7
    by_cases c20 : (wrap64 (4 * t3)) > (wrap64 (3 * (l0_1.length : Int)))
    ·rw [if_pos c20] at H; have c20b0 : decide ((wrap64 (3 * (l0_1.length : Int))) < (wrap64 (4 * t3))) = true := decide_eq_true c20; clear c20; obtain rfl := Option.some.inj H; have z21_0 : wc.cell? ⟨gb1, 0, none⟩ = some (.int .i64 a0_0) := (blk_cell BK1.out 0).trans rfl; have z21_1 : wc.cell? ⟨gb1, 1, none⟩ = some (.slice A0_1 l0_1.length c0_1) := (blk_cell BK1.out 1).trans rfl; have o21_0 := blk_frozen BK1.out 0; have o21_1 := blk_frozen BK1.out 1
     go_wp2_with (first | ((with_reducible refine gate_callee (f := 53) rfl ?_); refine goesL_ (some 39) rfl rfl Try.func53 (by kernel_rfl) rfl #[.agg #[.int .i64 a0_0, .slice A0_1 l0_1.length c0_1]] rfl Gv.lm ?_; (with_reducible refine (spec_l11Count.calls kj1 a0_0 _ _ l0_1 t3 _ ?side1 ?side2 A19.out).mono ?_); (case side1 => exact Gv.sd (Kd.C_below HR0_1.out HB.out)); (case side2 => exact HC0_1.out); rintro e w22 ⟨rfl, hb⟩; refine ⟨_, rfl, ?_⟩; replace BK1 := Gv.b1 BK1 hb; replace HB := Gv.hb hb; clear hb) | ((with_reducible refine Gv.gate_load (t := 75) rfl ?_); (try (refine gate_guard (by rfl) ?_; dsimp only)); refine wpList_load_row rfl 75 _ rfl gb2 rfl 75 _ _ _ (Gv.k01 BK2.out) Try.underlying75 rfl (by kernel_rfl) ?_))
     go_ret
     exact ⟨Gv.rt, Gv.bw⟩
    ·rw [if_neg c20] at H; have c20b0 : decide ((wrap64 (3 * (l0_1.length : Int))) < (wrap64 (4 * t3))) = false := decide_eq_false c20; clear c20; have H' := Gv.a0 H; clear H; have z23_0 : wc.cell? ⟨gb1, 0, none⟩ = some (.int .i64 a0_0) := (blk_cell BK1.out 0).trans rfl; have z23_1 : wc.cell? ⟨gb1, 1, none⟩ = some (.slice A0_1 l0_1.length c0_1) := (blk_cell BK1.out 1).trans rfl; have o23_0 := blk_frozen BK1.out 0; have o23_1 := blk_frozen BK1.out 1
     go_wp2_with (first | ((with_reducible refine gate_callee (f := 53) rfl ?_); refine goesL_ (some 39) rfl rfl Try.func53 (by kernel_rfl) rfl #[.agg #[.int .i64 a0_0, .slice A0_1 l0_1.length c0_1]] rfl Gv.lm ?_; (with_reducible refine (spec_l11Count.calls kj1 a0_0 _ _ l0_1 t3 _ ?side1 ?side2 A19.out).mono ?_); (case side1 => exact Gv.sd (Kd.C_below HR0_1.out HB.out)); (case side2 => exact HC0_1.out); rintro e w24 ⟨rfl, hb⟩; refine ⟨_, rfl, ?_⟩; replace BK1 := Gv.b1 BK1 hb; replace HB := Gv.hb hb; clear hb) | ((with_reducible refine Gv.gate_load (t := 75) rfl ?_); (try (refine gate_guard (by rfl) ?_; dsimp only)); refine wpList_load_row rfl 75 _ rfl gb2 rfl 75 _ _ _ (Gv.k01 BK2.out) Try.underlying75 rfl (by kernel_rfl) ?_))
     go_loopg [4] kj1 (fun kq v4 w' => ∃ (x4_2 : Int), v4 = .int .i64 x4_2 ∧ Aside0 (spec_TableOk.l0 kq (l0_1.length : Int) x4_2 a0_0 l0_1 = some r) ∧ Aside0 (kq ≤ kj1) ∧ Aside0 (w'.heap[gb1]? = some (.cells #[.int .i64 a0_0, (.slice A0_1 l0_1.length c0_1)] 40 (0, 0))) ∧ Aside0 (Below w.heap.size w w'))
     case atStart => exact ⟨(0), Gv.rq, H', ⟨Nat.le_refl _⟩, ⟨by (with_reducible repeat (first | refine blk_drewN ?_ _ | refine blk_drew ?_ | refine blk_alloc ?_ _)); exact BK1.out⟩, ⟨Gv.bw⟩⟩
     case round =>
      clear H'
      try clear c1
      try clear c2
      try clear p2
      try clear c5
      try clear c5b0
      try clear p6
      try clear c7
      try clear c7b0
      try clear c9
      try clear c9b0
      try clear c9b1
      try clear c11
      try clear c11b0
      try clear c11b1
      try clear c13
      try clear c13b0
      try clear c13b1
      try clear c15
      try clear c15b0
      try clear c15b1
      try clear c18
      try clear c20
      try clear c20b0
      try clear c24
      try clear z10_0 z10_1
      try clear z12_0 z12_1
      try clear z14_0 z14_1
      try clear z16_0 z16_1
      try clear z17_0 z17_1
      try clear z21_0 z21_1
      try clear z23_0 z23_1
      try clear z4_0 z4_1
      try clear z6_0 z6_1
      try clear z8_0 z8_1
      try clear o10_0 o10_1
      try clear o12_0 o12_1
      try clear o14_0 o14_1
      try clear o16_0 o16_1
      try clear o17_0 o17_1
      try clear o21_0 o21_1
      try clear o23_0 o23_1
      try clear o4_0 o4_1
      try clear o6_0 o6_1
      try clear o8_0 o8_1
      try clear p2
      obtain ⟨x4_2, rfl, HA, HK2, BK1, HB⟩ := hrel; cases gk with
      | zero => exact absurd HA.out (by simp [spec_TableOk.l0])
      | succ k2 =>
       have H := HA.out; clear HA; simp only [spec_TableOk.l0] at H
       by_cases c25 : x4_2 < (l0_1.length : Int)
       rotate_left
       ·rw [if_neg c25] at H; have c25b0 := decide_eq_false c25; clear c25; obtain rfl := Option.some.inj H
        go_wp2_with (first | ((with_reducible refine Gv.gate_load (t := 75) rfl ?_); (try (refine gate_guard (by rfl) ?_; dsimp only)); refine wpList_load_row rfl 75 _ rfl gb2 rfl 75 _ _ _ (Gv.k01 BK2.out) Try.underlying75 rfl (by kernel_rfl) ?_))
        go_ret
        exact ⟨Gv.rt, Gv.bw⟩

       rw [if_pos c25] at H; have c25b0 := decide_eq_true c25; clear c25
       by_cases c26 : 0 ≤ x4_2
       rotate_left
       ·rw [if_neg c26] at H; cases H
       rw [if_pos c26] at H; have c26b0 := decide_eq_true c26; clear c26
       by_cases c27 : x4_2 < (l0_1.length : Int)
       rotate_left
       ·rw [if_neg c27] at H; cases H
       rw [if_pos c27] at H; have c27b0 := decide_eq_true c27; clear c27; obtain ⟨bq28, hbq28⟩ : ∃ b_ : Bool, b_ = ((rd_T75 l0_1 x4_2).f0) := ⟨_, rfl⟩
       replace H : (if (bq28 = true) then ((spec_FlowKeyOk.f ((rd_T75 l0_1 x4_2).f1.f0) ((rd_T75 l0_1 x4_2).f1.f1.f0.f0) ((rd_T75 l0_1 x4_2).f1.f1.f0.f1) ((rd_T75 l0_1 x4_2).f1.f1.f0.f2) ((rd_T75 l0_1 x4_2).f1.f1.f0.f3) ((rd_T75 l0_1 x4_2).f1.f1.f0.f4) ((rd_T75 l0_1 x4_2).f1.f1.f1.f0) ((rd_T75 l0_1 x4_2).f1.f1.f1.f1) ((rd_T75 l0_1 x4_2).f1.f1.f1.f2) ((rd_T75 l0_1 x4_2).f1.f1.f1.f3) ((rd_T75 l0_1 x4_2).f1.f1.f1.f4) ((rd_T75 l0_1 x4_2).f1.f1.f2) ((rd_T75 l0_1 x4_2).f1.f1.f3) ((rd_T75 l0_1 x4_2).f1.f1.f4)).bind fun t6 => (if t6 = true then (if ((rd_T75 l0_1 x4_2).f2) < 0 then (spec_TableOk.j2 k2 (l0_1.length : Int) x4_2 true a0_0 l0_1 bq28 ((rd_T75 l0_1 x4_2).f1.f0) ((rd_T75 l0_1 x4_2).f1.f1.f0.f0) ((rd_T75 l0_1 x4_2).f1.f1.f0.f1) ((rd_T75 l0_1 x4_2).f1.f1.f0.f2) ((rd_T75 l0_1 x4_2).f1.f1.f0.f3) ((rd_T75 l0_1 x4_2).f1.f1.f0.f4) ((rd_T75 l0_1 x4_2).f1.f1.f1.f0) ((rd_T75 l0_1 x4_2).f1.f1.f1.f1) ((rd_T75 l0_1 x4_2).f1.f1.f1.f2) ((rd_T75 l0_1 x4_2).f1.f1.f1.f3) ((rd_T75 l0_1 x4_2).f1.f1.f1.f4) ((rd_T75 l0_1 x4_2).f1.f1.f2) ((rd_T75 l0_1 x4_2).f1.f1.f3) ((rd_T75 l0_1 x4_2).f1.f1.f4) ((rd_T75 l0_1 x4_2).f2)) else (if ((rd_T75 l0_1 x4_2).f2) > 1000000000000 then (spec_TableOk.j2 k2 (l0_1.length : Int) x4_2 true a0_0 l0_1 bq28 ((rd_T75 l0_1 x4_2).f1.f0) ((rd_T75 l0_1 x4_2).f1.f1.f0.f0) ((rd_T75 l0_1 x4_2).f1.f1.f0.f1) ((rd_T75 l0_1 x4_2).f1.f1.f0.f2) ((rd_T75 l0_1 x4_2).f1.f1.f0.f3) ((rd_T75 l0_1 x4_2).f1.f1.f0.f4) ((rd_T75 l0_1 x4_2).f1.f1.f1.f0) ((rd_T75 l0_1 x4_2).f1.f1.f1.f1) ((rd_T75 l0_1 x4_2).f1.f1.f1.f2) ((rd_T75 l0_1 x4_2).f1.f1.f1.f3) ((rd_T75 l0_1 x4_2).f1.f1.f1.f4) ((rd_T75 l0_1 x4_2).f1.f1.f2) ((rd_T75 l0_1 x4_2).f1.f1.f3) ((rd_T75 l0_1 x4_2).f1.f1.f4) ((rd_T75 l0_1 x4_2).f2)) else ((spec_l11Place.f k2 a0_0 l0_1 ((rd_T75 l0_1 x4_2).f1.f0) ((rd_T75 l0_1 x4_2).f1.f1.f0.f0) ((rd_T75 l0_1 x4_2).f1.f1.f0.f1) ((rd_T75 l0_1 x4_2).f1.f1.f0.f2) ((rd_T75 l0_1 x4_2).f1.f1.f0.f3) ((rd_T75 l0_1 x4_2).f1.f1.f0.f4) ((rd_T75 l0_1 x4_2).f1.f1.f1.f0) ((rd_T75 l0_1 x4_2).f1.f1.f1.f1) ((rd_T75 l0_1 x4_2).f1.f1.f1.f2) ((rd_T75 l0_1 x4_2).f1.f1.f1.f3) ((rd_T75 l0_1 x4_2).f1.f1.f1.f4) ((rd_T75 l0_1 x4_2).f1.f1.f2) ((rd_T75 l0_1 x4_2).f1.f1.f3) ((rd_T75 l0_1 x4_2).f1.f1.f4)).bind fun t5 => (spec_TableOk.j2 k2 (l0_1.length : Int) x4_2 (t5 != x4_2) a0_0 l0_1 bq28 ((rd_T75 l0_1 x4_2).f1.f0) ((rd_T75 l0_1 x4_2).f1.f1.f0.f0) ((rd_T75 l0_1 x4_2).f1.f1.f0.f1) ((rd_T75 l0_1 x4_2).f1.f1.f0.f2) ((rd_T75 l0_1 x4_2).f1.f1.f0.f3) ((rd_T75 l0_1 x4_2).f1.f1.f0.f4) ((rd_T75 l0_1 x4_2).f1.f1.f1.f0) ((rd_T75 l0_1 x4_2).f1.f1.f1.f1) ((rd_T75 l0_1 x4_2).f1.f1.f1.f2) ((rd_T75 l0_1 x4_2).f1.f1.f1.f3) ((rd_T75 l0_1 x4_2).f1.f1.f1.f4) ((rd_T75 l0_1 x4_2).f1.f1.f2) ((rd_T75 l0_1 x4_2).f1.f1.f3) ((rd_T75 l0_1 x4_2).f1.f1.f4) ((rd_T75 l0_1 x4_2).f2))))) else (spec_TableOk.j2 k2 (l0_1.length : Int) x4_2 true a0_0 l0_1 bq28 ((rd_T75 l0_1 x4_2).f1.f0) ((rd_T75 l0_1 x4_2).f1.f1.f0.f0) ((rd_T75 l0_1 x4_2).f1.f1.f0.f1) ((rd_T75 l0_1 x4_2).f1.f1.f0.f2) ((rd_T75 l0_1 x4_2).f1.f1.f0.f3) ((rd_T75 l0_1 x4_2).f1.f1.f0.f4) ((rd_T75 l0_1 x4_2).f1.f1.f1.f0) ((rd_T75 l0_1 x4_2).f1.f1.f1.f1) ((rd_T75 l0_1 x4_2).f1.f1.f1.f2) ((rd_T75 l0_1 x4_2).f1.f1.f1.f3) ((rd_T75 l0_1 x4_2).f1.f1.f1.f4) ((rd_T75 l0_1 x4_2).f1.f1.f2) ((rd_T75 l0_1 x4_2).f1.f1.f3) ((rd_T75 l0_1 x4_2).f1.f1.f4) ((rd_T75 l0_1 x4_2).f2)))) else (if ((bq28) || ((!(((rd_T75 l0_1 x4_2).f1.f0) == 0) || (((!(((rd_T75 l0_1 x4_2).f1.f1.f0.f0) == 0) || (!(((rd_T75 l0_1 x4_2).f1.f1.f0.f1) == 0) || (!(((rd_T75 l0_1 x4_2).f1.f1.f0.f2) == 0) || (!(((rd_T75 l0_1 x4_2).f1.f1.f0.f3) == 0) || (!(((rd_T75 l0_1 x4_2).f1.f1.f0.f4) == 0)))))) || ((!(((rd_T75 l0_1 x4_2).f1.f1.f1.f0) == 0) || (!(((rd_T75 l0_1 x4_2).f1.f1.f1.f1) == 0) || (!(((rd_T75 l0_1 x4_2).f1.f1.f1.f2) == 0) || (!(((rd_T75 l0_1 x4_2).f1.f1.f1.f3) == 0) || (!(((rd_T75 l0_1 x4_2).f1.f1.f1.f4) == 0)))))) || (!(((rd_T75 l0_1 x4_2).f1.f1.f2) == 0) || (!(((rd_T75 l0_1 x4_2).f1.f1.f3) == 0) || (!(((rd_T75 l0_1 x4_2).f1.f1.f4) == 0)))))))) || (!(((rd_T75 l0_1 x4_2).f2) == 0)))) = true then (some false) else (spec_TableOk.l0 k2 (l0_1.length : Int) (wrap64 (x4_2 + 1)) a0_0 l0_1))) = some r := by rw [← hbq28] at H; exact H
       have Nbq28 := Gv.a0 hbq28; clear hbq28
       by_cases c29 : (bq28 = true)
       ·subst c29; rw [if_pos rfl] at H
        (try dsimp only at H); have HC30 := Gv.a0 H; clear H; have z31_0 : wr.cell? ⟨gb1, 0, none⟩ = some (.int .i64 a0_0) := (blk_cell BK1.out 0).trans rfl; have z31_1 : wr.cell? ⟨gb1, 1, none⟩ = some (.slice A0_1 l0_1.length c0_1) := (blk_cell BK1.out 1).trans rfl; have o31_0 := blk_frozen BK1.out 0; have o31_1 := blk_frozen BK1.out 1; have p0 : 0 ≤ (x4_2 : Int) := Gv.od; have q0 : x4_2 < (l0_1.length : Int) := Gv.od; obtain ⟨ad0, e0, u0_0, u0_1, u0_2, u0_3, u0_4, u0_5, u0_6, u0_7, u0_8, u0_9, u0_10, u0_11, u0_12, u0_13, u0_14, u0_15⟩ := at_T75 HR0_1.out x4_2 p0 q0
        (try rw [← Nbq28.out] at u0_0); cases e0; replace u0_0 := Gv.bx HB.out u0_0; replace u0_1 := Gv.bx HB.out u0_1; replace u0_2 := Gv.bx HB.out u0_2; replace u0_3 := Gv.bx HB.out u0_3; replace u0_4 := Gv.bx HB.out u0_4; replace u0_5 := Gv.bx HB.out u0_5; replace u0_6 := Gv.bx HB.out u0_6; replace u0_7 := Gv.bx HB.out u0_7; replace u0_8 := Gv.bx HB.out u0_8; replace u0_9 := Gv.bx HB.out u0_9; replace u0_10 := Gv.bx HB.out u0_10; replace u0_11 := Gv.bx HB.out u0_11; replace u0_12 := Gv.bx HB.out u0_12; replace u0_13 := Gv.bx HB.out u0_13; replace u0_14 := Gv.bx HB.out u0_14; replace u0_15 := Gv.bx HB.out u0_15; replace p0 := eq_true p0; replace q0 := eq_true q0
        go_upto_region 13 with (first | ((with_reducible refine gate_dst (N := 5) rfl ?_); refine Gv.bev 5 75 #[.bool false, .int .i64 0, .int .i64 0, .int .i64 0, .int .i64 0, .int .i64 0, .int .i64 0, .int .i64 0, .int .i64 0, .int .i64 0, .int .i64 0, .int .i64 0, .int .i64 0, .int .i64 0, .int .i64 0, .int .i64 0] ?_; intro gb2 hg w32 hbox hb; have BK2 := Gv.a0 (hbox); have GW2 := Gv.a0 ((Gv.ble hg Gv.bw : w.heap.size ≤ gb2)); have GE2 := GW2; replace HB := Gv.hb hb; have NB1_2 := Gv.a0 ((Gv.nlt hg (Gv.kb BK1.out) : gb1 ≠ gb2)); have NB2_1 := Gv.a0 ((Gv.ngt hg (Gv.kb BK1.out) : gb2 ≠ gb1)); replace BK1 := Gv.b1 BK1 hb; clear hb hbox hg; have hnb33 := NB2_1.out; have hnc33 := NB1_2.out; obtain ⟨z34_0, z34_1, z34_2, z34_3, z34_4, z34_5, z34_6, z34_7, z34_8, z34_9, z34_10, z34_11, z34_12, z34_13, z34_14, z34_15⟩ := Gv.c16 BK2.out) | ((with_reducible refine gate_store (t := 75) (p := 5) rfl ?_); refine Gv.store_event rfl rfl rfl rfl rfl (Gv.kb BK2.out) (by kernel_rfl) rfl (by simp; and_intros <;> rfl) ?_; intro w32s hbox hoth hbel; replace BK2 := Gv.a0 (hbox); replace HB := Gv.a0 (hbel w Gv.bw GE2.out); replace BK1 := Gv.a0 ((hoth gb1 NB1_2.out).trans (Gv.kb BK1.out)); clear hbox hoth hbel; (try clear z34_0 z34_1 z34_2 z34_3 z34_4 z34_5 z34_6 z34_7 z34_8 z34_9 z34_10 z34_11 z34_12 z34_13 z34_14 z34_15 o34_0 o34_1 o34_2 o34_3 o34_4 o34_5 o34_6 o34_7 o34_8 o34_9 o34_10 o34_11 o34_12 o34_13 o34_14 o34_15); obtain ⟨z34_0, z34_1, z34_2, z34_3, z34_4, z34_5, z34_6, z34_7, z34_8, z34_9, z34_10, z34_11, z34_12, z34_13, z34_14, z34_15⟩ := Gv.c16 BK2.out) | ((with_reducible refine Gv.gate_load (t := 75) rfl ?_); (try (refine gate_guard (by rfl) ?_; dsimp only)); refine wpList_load_row rfl 75 _ rfl gb2 rfl 75 _ _ _ (Gv.k01 BK2.out) Try.underlying75 rfl (by kernel_rfl) ?_) | ((with_reducible refine Gv.gate_load (t := 75) rfl ?_); refine Gv.load_event (cs := [_, _, _, _, _, _, _, _, _, _, _, _, _, _, _, _]) rfl rfl rfl ⟨u0_0, u0_1, u0_2, u0_3, u0_4, u0_5, u0_6, u0_7, u0_8, u0_9, u0_10, u0_11, u0_12, u0_13, u0_14, u0_15, trivial⟩ Try.underlying75 rfl (by kernel_rfl) ?_))
        (try simp only [Act.put, List.setIfInBounds_toArray, List.set_cons_zero, List.set_cons_succ])
        go_cut [81] (fun v81 wc => ∃ (kq : Nat) (x81_29 : Bool), v81 = .bool x81_29 ∧ Aside0 (spec_TableOk.j2 kq (l0_1.length : Int) x4_2 x81_29 a0_0 l0_1 true ((rd_T75 l0_1 x4_2).f1.f0) ((rd_T75 l0_1 x4_2).f1.f1.f0.f0) ((rd_T75 l0_1 x4_2).f1.f1.f0.f1) ((rd_T75 l0_1 x4_2).f1.f1.f0.f2) ((rd_T75 l0_1 x4_2).f1.f1.f0.f3) ((rd_T75 l0_1 x4_2).f1.f1.f0.f4) ((rd_T75 l0_1 x4_2).f1.f1.f1.f0) ((rd_T75 l0_1 x4_2).f1.f1.f1.f1) ((rd_T75 l0_1 x4_2).f1.f1.f1.f2) ((rd_T75 l0_1 x4_2).f1.f1.f1.f3) ((rd_T75 l0_1 x4_2).f1.f1.f1.f4) ((rd_T75 l0_1 x4_2).f1.f1.f2) ((rd_T75 l0_1 x4_2).f1.f1.f3) ((rd_T75 l0_1 x4_2).f1.f1.f4) ((rd_T75 l0_1 x4_2).f2) = some r) ∧ Aside0 (kq ≤ k2) ∧ Aside0 (wc.heap[gb1]? = some (.cells #[.int .i64 a0_0, (.slice (some ad0) l0_1.length c0_1)] 40 (0, 0))) ∧ Aside0 (wc.heap[gb2]? = some (.cells #[.bool true, .int .i64 ((rd_T75 l0_1 x4_2).f1.f0), .int .i64 ((rd_T75 l0_1 x4_2).f1.f1.f0.f0), .int .i64 ((rd_T75 l0_1 x4_2).f1.f1.f0.f1), .int .i64 ((rd_T75 l0_1 x4_2).f1.f1.f0.f2), .int .i64 ((rd_T75 l0_1 x4_2).f1.f1.f0.f3), .int .i64 ((rd_T75 l0_1 x4_2).f1.f1.f0.f4), .int .i64 ((rd_T75 l0_1 x4_2).f1.f1.f1.f0), .int .i64 ((rd_T75 l0_1 x4_2).f1.f1.f1.f1), .int .i64 ((rd_T75 l0_1 x4_2).f1.f1.f1.f2), .int .i64 ((rd_T75 l0_1 x4_2).f1.f1.f1.f3), .int .i64 ((rd_T75 l0_1 x4_2).f1.f1.f1.f4), .int .i64 ((rd_T75 l0_1 x4_2).f1.f1.f2), .int .i64 ((rd_T75 l0_1 x4_2).f1.f1.f3), .int .i64 ((rd_T75 l0_1 x4_2).f1.f1.f4), .int .i64 ((rd_T75 l0_1 x4_2).f2)] 75 (0, 0))) ∧ Aside0 (Below w.heap.size w wc))
        case first =>
         have H := HC30.out; clear HC30; replace H := Option.bind_eq_some_iff.mp H; obtain ⟨t6, A8, H⟩ := H
         (try dsimp only at H); have A35 := Gv.a0 A8; clear A8
         by_cases c36 : t6 = true
         rotate_left
         ·replace c36 := Bool.eq_false_iff.mpr c36; subst c36; rw [if_neg (show ¬ (false = true) by decide)] at H
          (try dsimp only at H); have H' := Gv.a0 H; clear H; have hnb54 := NB2_1.out; have hnc54 := NB1_2.out; obtain ⟨z55_0, z55_1, z55_2, z55_3, z55_4, z55_5, z55_6, z55_7, z55_8, z55_9, z55_10, z55_11, z55_12, z55_13, z55_14, z55_15⟩ := Gv.c16 BK2.out
          go_wp2_with (first | ((with_reducible refine gate_callee (f := 13) rfl ?_); refine goesL_ (some 62) rfl rfl Try.func13 (by kernel_rfl) rfl #[.agg #[.int .i64 ((rd_T75 l0_1 x4_2).f1.f0), .int .i64 ((rd_T75 l0_1 x4_2).f1.f1.f0.f0), .int .i64 ((rd_T75 l0_1 x4_2).f1.f1.f0.f1), .int .i64 ((rd_T75 l0_1 x4_2).f1.f1.f0.f2), .int .i64 ((rd_T75 l0_1 x4_2).f1.f1.f0.f3), .int .i64 ((rd_T75 l0_1 x4_2).f1.f1.f0.f4), .int .i64 ((rd_T75 l0_1 x4_2).f1.f1.f1.f0), .int .i64 ((rd_T75 l0_1 x4_2).f1.f1.f1.f1), .int .i64 ((rd_T75 l0_1 x4_2).f1.f1.f1.f2), .int .i64 ((rd_T75 l0_1 x4_2).f1.f1.f1.f3), .int .i64 ((rd_T75 l0_1 x4_2).f1.f1.f1.f4), .int .i64 ((rd_T75 l0_1 x4_2).f1.f1.f2), .int .i64 ((rd_T75 l0_1 x4_2).f1.f1.f3), .int .i64 ((rd_T75 l0_1 x4_2).f1.f1.f4)]] rfl Gv.lm ?_; (with_reducible refine (spec_FlowKeyOk.calls _ _ _ _ _ _ _ _ _ _ _ _ _ _ false _ A35.out).mono ?_); rintro e w56 ⟨rfl, hb⟩; refine ⟨_, rfl, ?_⟩; replace BK1 := Gv.a0 (blk_below (g := gb1) (o := .cells #[.int .i64 a0_0, .slice (some ad0) l0_1.length c0_1] 40 (0, 0)) Gv.bkf hb); replace BK2 := Gv.a0 (blk_below (g := gb2) (o := .cells #[.bool true, .int .i64 ((rd_T75 l0_1 x4_2).f1.f0), .int .i64 ((rd_T75 l0_1 x4_2).f1.f1.f0.f0), .int .i64 ((rd_T75 l0_1 x4_2).f1.f1.f0.f1), .int .i64 ((rd_T75 l0_1 x4_2).f1.f1.f0.f2), .int .i64 ((rd_T75 l0_1 x4_2).f1.f1.f0.f3), .int .i64 ((rd_T75 l0_1 x4_2).f1.f1.f0.f4), .int .i64 ((rd_T75 l0_1 x4_2).f1.f1.f1.f0), .int .i64 ((rd_T75 l0_1 x4_2).f1.f1.f1.f1), .int .i64 ((rd_T75 l0_1 x4_2).f1.f1.f1.f2), .int .i64 ((rd_T75 l0_1 x4_2).f1.f1.f1.f3), .int .i64 ((rd_T75 l0_1 x4_2).f1.f1.f1.f4), .int .i64 ((rd_T75 l0_1 x4_2).f1.f1.f2), .int .i64 ((rd_T75 l0_1 x4_2).f1.f1.f3), .int .i64 ((rd_T75 l0_1 x4_2).f1.f1.f4), .int .i64 ((rd_T75 l0_1 x4_2).f2)] 75 (0, 0)) (Gv.kb BK2.out) hb); replace HB := Gv.hb hb; clear hb) | ((with_reducible refine Gv.gate_load (t := 75) rfl ?_); (try (refine gate_guard (by rfl) ?_; dsimp only)); refine wpList_load_row rfl 75 _ rfl gb2 rfl 75 _ _ _ (Gv.k01 BK2.out) Try.underlying75 rfl (by kernel_rfl) ?_))
          go_meet
          case rel => exact ⟨_, (true), Gv.rq, H', ⟨by have := HJ1.out; have := HK2.out; first | omega | exact Nat.le_refl _⟩, ⟨by (with_reducible repeat (first | refine blk_drewN ?_ _ | refine blk_drew ?_ | refine blk_alloc ?_ _)); exact BK1.out⟩, ⟨by (with_reducible repeat (first | refine blk_drewN ?_ _ | refine blk_drew ?_ | refine blk_alloc ?_ _)); exact BK2.out⟩, ⟨Gv.bw⟩⟩
         subst c36; rw [if_pos rfl] at H
         (try dsimp only at H)
         by_cases c37 : ((rd_T75 l0_1 x4_2).f2) < 0
         ·rw [if_pos c37] at H; have c37b0 := decide_eq_true c37; clear c37
          (first | rw [c37b0] | (simp only [i64_w, i32_w]; rw [c37b0]) | skip); have H' := Gv.a0 H; clear H; have hnb38 := NB2_1.out; have hnc38 := NB1_2.out; obtain ⟨z39_0, z39_1, z39_2, z39_3, z39_4, z39_5, z39_6, z39_7, z39_8, z39_9, z39_10, z39_11, z39_12, z39_13, z39_14, z39_15⟩ := Gv.c16 BK2.out
          go_wp2_with (first | ((with_reducible refine gate_callee (f := 13) rfl ?_); refine goesL_ (some 62) rfl rfl Try.func13 (by kernel_rfl) rfl #[.agg #[.int .i64 ((rd_T75 l0_1 x4_2).f1.f0), .int .i64 ((rd_T75 l0_1 x4_2).f1.f1.f0.f0), .int .i64 ((rd_T75 l0_1 x4_2).f1.f1.f0.f1), .int .i64 ((rd_T75 l0_1 x4_2).f1.f1.f0.f2), .int .i64 ((rd_T75 l0_1 x4_2).f1.f1.f0.f3), .int .i64 ((rd_T75 l0_1 x4_2).f1.f1.f0.f4), .int .i64 ((rd_T75 l0_1 x4_2).f1.f1.f1.f0), .int .i64 ((rd_T75 l0_1 x4_2).f1.f1.f1.f1), .int .i64 ((rd_T75 l0_1 x4_2).f1.f1.f1.f2), .int .i64 ((rd_T75 l0_1 x4_2).f1.f1.f1.f3), .int .i64 ((rd_T75 l0_1 x4_2).f1.f1.f1.f4), .int .i64 ((rd_T75 l0_1 x4_2).f1.f1.f2), .int .i64 ((rd_T75 l0_1 x4_2).f1.f1.f3), .int .i64 ((rd_T75 l0_1 x4_2).f1.f1.f4)]] rfl Gv.lm ?_; (with_reducible refine (spec_FlowKeyOk.calls _ _ _ _ _ _ _ _ _ _ _ _ _ _ true _ A35.out).mono ?_); rintro e w40 ⟨rfl, hb⟩; refine ⟨_, rfl, ?_⟩; replace BK1 := Gv.a0 (blk_below (g := gb1) (o := .cells #[.int .i64 a0_0, .slice (some ad0) l0_1.length c0_1] 40 (0, 0)) Gv.bkf hb); replace BK2 := Gv.a0 (blk_below (g := gb2) (o := .cells #[.bool true, .int .i64 ((rd_T75 l0_1 x4_2).f1.f0), .int .i64 ((rd_T75 l0_1 x4_2).f1.f1.f0.f0), .int .i64 ((rd_T75 l0_1 x4_2).f1.f1.f0.f1), .int .i64 ((rd_T75 l0_1 x4_2).f1.f1.f0.f2), .int .i64 ((rd_T75 l0_1 x4_2).f1.f1.f0.f3), .int .i64 ((rd_T75 l0_1 x4_2).f1.f1.f0.f4), .int .i64 ((rd_T75 l0_1 x4_2).f1.f1.f1.f0), .int .i64 ((rd_T75 l0_1 x4_2).f1.f1.f1.f1), .int .i64 ((rd_T75 l0_1 x4_2).f1.f1.f1.f2), .int .i64 ((rd_T75 l0_1 x4_2).f1.f1.f1.f3), .int .i64 ((rd_T75 l0_1 x4_2).f1.f1.f1.f4), .int .i64 ((rd_T75 l0_1 x4_2).f1.f1.f2), .int .i64 ((rd_T75 l0_1 x4_2).f1.f1.f3), .int .i64 ((rd_T75 l0_1 x4_2).f1.f1.f4), .int .i64 ((rd_T75 l0_1 x4_2).f2)] 75 (0, 0)) (Gv.kb BK2.out) hb); replace HB := Gv.hb hb; clear hb; obtain ⟨z41_0, z41_1, z41_2, z41_3, z41_4, z41_5, z41_6, z41_7, z41_8, z41_9, z41_10, z41_11, z41_12, z41_13, z41_14, z41_15⟩ := Gv.c16 BK2.out) | ((with_reducible refine Gv.gate_load (t := 75) rfl ?_); (try (refine gate_guard (by rfl) ?_; dsimp only)); refine wpList_load_row rfl 75 _ rfl gb2 rfl 75 _ _ _ (Gv.k01 BK2.out) Try.underlying75 rfl (by kernel_rfl) ?_))
          go_meet
          case rel => exact ⟨_, (true), Gv.rq, H', ⟨by have := HJ1.out; have := HK2.out; first | omega | exact Nat.le_refl _⟩, ⟨by (with_reducible repeat (first | refine blk_drewN ?_ _ | refine blk_drew ?_ | refine blk_alloc ?_ _)); exact BK1.out⟩, ⟨by (with_reducible repeat (first | refine blk_drewN ?_ _ | refine blk_drew ?_ | refine blk_alloc ?_ _)); exact BK2.out⟩, ⟨Gv.bw⟩⟩
         ·rw [if_neg c37] at H; have c37b0 := decide_eq_false c37; clear c37
          (first | rw [c37b0] | (simp only [i64_w, i32_w]; rw [c37b0]) | skip)
          by_cases c42 : ((rd_T75 l0_1 x4_2).f2) > 1000000000000
          ·rw [if_pos c42] at H; have c42b0 : decide (1000000000000 < ((rd_T75 l0_1 x4_2).f2)) = true := decide_eq_true c42; clear c42; have H' := Gv.a0 H; clear H; have hnb43 := NB2_1.out; have hnc43 := NB1_2.out; obtain ⟨z44_0, z44_1, z44_2, z44_3, z44_4, z44_5, z44_6, z44_7, z44_8, z44_9, z44_10, z44_11, z44_12, z44_13, z44_14, z44_15⟩ := Gv.c16 BK2.out
           go_wp2_with (first | ((with_reducible refine gate_callee (f := 13) rfl ?_); refine goesL_ (some 62) rfl rfl Try.func13 (by kernel_rfl) rfl #[.agg #[.int .i64 ((rd_T75 l0_1 x4_2).f1.f0), .int .i64 ((rd_T75 l0_1 x4_2).f1.f1.f0.f0), .int .i64 ((rd_T75 l0_1 x4_2).f1.f1.f0.f1), .int .i64 ((rd_T75 l0_1 x4_2).f1.f1.f0.f2), .int .i64 ((rd_T75 l0_1 x4_2).f1.f1.f0.f3), .int .i64 ((rd_T75 l0_1 x4_2).f1.f1.f0.f4), .int .i64 ((rd_T75 l0_1 x4_2).f1.f1.f1.f0), .int .i64 ((rd_T75 l0_1 x4_2).f1.f1.f1.f1), .int .i64 ((rd_T75 l0_1 x4_2).f1.f1.f1.f2), .int .i64 ((rd_T75 l0_1 x4_2).f1.f1.f1.f3), .int .i64 ((rd_T75 l0_1 x4_2).f1.f1.f1.f4), .int .i64 ((rd_T75 l0_1 x4_2).f1.f1.f2), .int .i64 ((rd_T75 l0_1 x4_2).f1.f1.f3), .int .i64 ((rd_T75 l0_1 x4_2).f1.f1.f4)]] rfl Gv.lm ?_; (with_reducible refine (spec_FlowKeyOk.calls _ _ _ _ _ _ _ _ _ _ _ _ _ _ true _ A35.out).mono ?_); rintro e w45 ⟨rfl, hb⟩; refine ⟨_, rfl, ?_⟩; replace BK1 := Gv.a0 (blk_below (g := gb1) (o := .cells #[.int .i64 a0_0, .slice (some ad0) l0_1.length c0_1] 40 (0, 0)) Gv.bkf hb); replace BK2 := Gv.a0 (blk_below (g := gb2) (o := .cells #[.bool true, .int .i64 ((rd_T75 l0_1 x4_2).f1.f0), .int .i64 ((rd_T75 l0_1 x4_2).f1.f1.f0.f0), .int .i64 ((rd_T75 l0_1 x4_2).f1.f1.f0.f1), .int .i64 ((rd_T75 l0_1 x4_2).f1.f1.f0.f2), .int .i64 ((rd_T75 l0_1 x4_2).f1.f1.f0.f3), .int .i64 ((rd_T75 l0_1 x4_2).f1.f1.f0.f4), .int .i64 ((rd_T75 l0_1 x4_2).f1.f1.f1.f0), .int .i64 ((rd_T75 l0_1 x4_2).f1.f1.f1.f1), .int .i64 ((rd_T75 l0_1 x4_2).f1.f1.f1.f2), .int .i64 ((rd_T75 l0_1 x4_2).f1.f1.f1.f3), .int .i64 ((rd_T75 l0_1 x4_2).f1.f1.f1.f4), .int .i64 ((rd_T75 l0_1 x4_2).f1.f1.f2), .int .i64 ((rd_T75 l0_1 x4_2).f1.f1.f3), .int .i64 ((rd_T75 l0_1 x4_2).f1.f1.f4), .int .i64 ((rd_T75 l0_1 x4_2).f2)] 75 (0, 0)) (Gv.kb BK2.out) hb); replace HB := Gv.hb hb; clear hb; obtain ⟨z46_0, z46_1, z46_2, z46_3, z46_4, z46_5, z46_6, z46_7, z46_8, z46_9, z46_10, z46_11, z46_12, z46_13, z46_14, z46_15⟩ := Gv.c16 BK2.out) | ((with_reducible refine Gv.gate_load (t := 75) rfl ?_); (try (refine gate_guard (by rfl) ?_; dsimp only)); refine wpList_load_row rfl 75 _ rfl gb2 rfl 75 _ _ _ (Gv.k01 BK2.out) Try.underlying75 rfl (by kernel_rfl) ?_))
           go_meet
           case rel => exact ⟨_, (true), Gv.rq, H', ⟨by have := HJ1.out; have := HK2.out; first | omega | exact Nat.le_refl _⟩, ⟨by (with_reducible repeat (first | refine blk_drewN ?_ _ | refine blk_drew ?_ | refine blk_alloc ?_ _)); exact BK1.out⟩, ⟨by (with_reducible repeat (first | refine blk_drewN ?_ _ | refine blk_drew ?_ | refine blk_alloc ?_ _)); exact BK2.out⟩, ⟨Gv.bw⟩⟩
          ·rw [if_neg c42] at H; have c42b0 : decide (1000000000000 < ((rd_T75 l0_1 x4_2).f2)) = false := decide_eq_false c42; clear c42; replace H := Option.bind_eq_some_iff.mp H; obtain ⟨t5, A9, H⟩ := H
           (try dsimp only at H); have A47 := Gv.a0 A9; clear A9; have H' := Gv.a0 H; clear H; have hnb48 := NB2_1.out; have hnc48 := NB1_2.out; obtain ⟨z49_0, z49_1, z49_2, z49_3, z49_4, z49_5, z49_6, z49_7, z49_8, z49_9, z49_10, z49_11, z49_12, z49_13, z49_14, z49_15⟩ := Gv.c16 BK2.out
           go_wp2_with (first | ((with_reducible refine gate_callee (f := 13) rfl ?_); refine goesL_ (some 62) rfl rfl Try.func13 (by kernel_rfl) rfl #[.agg #[.int .i64 ((rd_T75 l0_1 x4_2).f1.f0), .int .i64 ((rd_T75 l0_1 x4_2).f1.f1.f0.f0), .int .i64 ((rd_T75 l0_1 x4_2).f1.f1.f0.f1), .int .i64 ((rd_T75 l0_1 x4_2).f1.f1.f0.f2), .int .i64 ((rd_T75 l0_1 x4_2).f1.f1.f0.f3), .int .i64 ((rd_T75 l0_1 x4_2).f1.f1.f0.f4), .int .i64 ((rd_T75 l0_1 x4_2).f1.f1.f1.f0), .int .i64 ((rd_T75 l0_1 x4_2).f1.f1.f1.f1), .int .i64 ((rd_T75 l0_1 x4_2).f1.f1.f1.f2), .int .i64 ((rd_T75 l0_1 x4_2).f1.f1.f1.f3), .int .i64 ((rd_T75 l0_1 x4_2).f1.f1.f1.f4), .int .i64 ((rd_T75 l0_1 x4_2).f1.f1.f2), .int .i64 ((rd_T75 l0_1 x4_2).f1.f1.f3), .int .i64 ((rd_T75 l0_1 x4_2).f1.f1.f4)]] rfl Gv.lm ?_; (with_reducible refine (spec_FlowKeyOk.calls _ _ _ _ _ _ _ _ _ _ _ _ _ _ true _ A35.out).mono ?_); rintro e w50 ⟨rfl, hb⟩; refine ⟨_, rfl, ?_⟩; replace BK1 := Gv.a0 (blk_below (g := gb1) (o := .cells #[.int .i64 a0_0, .slice (some ad0) l0_1.length c0_1] 40 (0, 0)) Gv.bkf hb); replace BK2 := Gv.a0 (blk_below (g := gb2) (o := .cells #[.bool true, .int .i64 ((rd_T75 l0_1 x4_2).f1.f0), .int .i64 ((rd_T75 l0_1 x4_2).f1.f1.f0.f0), .int .i64 ((rd_T75 l0_1 x4_2).f1.f1.f0.f1), .int .i64 ((rd_T75 l0_1 x4_2).f1.f1.f0.f2), .int .i64 ((rd_T75 l0_1 x4_2).f1.f1.f0.f3), .int .i64 ((rd_T75 l0_1 x4_2).f1.f1.f0.f4), .int .i64 ((rd_T75 l0_1 x4_2).f1.f1.f1.f0), .int .i64 ((rd_T75 l0_1 x4_2).f1.f1.f1.f1), .int .i64 ((rd_T75 l0_1 x4_2).f1.f1.f1.f2), .int .i64 ((rd_T75 l0_1 x4_2).f1.f1.f1.f3), .int .i64 ((rd_T75 l0_1 x4_2).f1.f1.f1.f4), .int .i64 ((rd_T75 l0_1 x4_2).f1.f1.f2), .int .i64 ((rd_T75 l0_1 x4_2).f1.f1.f3), .int .i64 ((rd_T75 l0_1 x4_2).f1.f1.f4), .int .i64 ((rd_T75 l0_1 x4_2).f2)] 75 (0, 0)) (Gv.kb BK2.out) hb); replace HB := Gv.hb hb; clear hb; obtain ⟨z51_0, z51_1, z51_2, z51_3, z51_4, z51_5, z51_6, z51_7, z51_8, z51_9, z51_10, z51_11, z51_12, z51_13, z51_14, z51_15⟩ := Gv.c16 BK2.out; have z52_0 : w50.cell? ⟨gb1, 0, none⟩ = some (.int .i64 a0_0) := (blk_cell BK1.out 0).trans rfl; have z52_1 : w50.cell? ⟨gb1, 1, none⟩ = some (.slice (some ad0) l0_1.length c0_1) := (blk_cell BK1.out 1).trans rfl; have o52_0 := blk_frozen BK1.out 0; have o52_1 := blk_frozen BK1.out 1) | (go_at_call 54; (with_reducible refine (spec_l11Place.calls k2 a0_0 _ _ l0_1 _ _ _ _ _ _ _ _ _ _ _ _ _ _ t5 _ ?side1 ?side2 A47.out).mono ?_); (case side1 => exact Gv.sd (Kd.C_below HR0_1.out HB.out)); (case side2 => exact HC0_1.out); rintro e w53 ⟨rfl, hb⟩; replace BK1 := Gv.b1 BK1 hb; replace BK2 := Gv.b1 BK2 hb; replace HB := Gv.hb hb; clear hb) | ((with_reducible refine Gv.gate_load (t := 75) rfl ?_); (try (refine gate_guard (by rfl) ?_; dsimp only)); refine wpList_load_row rfl 75 _ rfl gb2 rfl 75 _ _ _ (Gv.k01 BK2.out) Try.underlying75 rfl (by kernel_rfl) ?_))
           go_meet
           case rel => exact ⟨_, ((t5 != x4_2)), Gv.rq, H', ⟨by have := HJ1.out; have := HK2.out; first | omega | exact Nat.le_refl _⟩, ⟨by (with_reducible repeat (first | refine blk_drewN ?_ _ | refine blk_drew ?_ | refine blk_alloc ?_ _)); exact BK1.out⟩, ⟨by (with_reducible repeat (first | refine blk_drewN ?_ _ | refine blk_drew ?_ | refine blk_alloc ?_ _)); exact BK2.out⟩, ⟨Gv.bw⟩⟩
        case rest =>
         clear HC30
         try clear c1
         try clear c2
         try clear p2
         try clear q2
         try clear c3
         try clear p3
         try clear q3
         try clear hx3
         try clear c4
         try clear c5
         try clear c5b0
         try clear p6
         try clear c7
         try clear c7b0
         try clear c9
         try clear c9b0
         try clear c9b1
         try clear c11
         try clear c11b0
         try clear c11b1
         try clear c13
         try clear c13b0
         try clear c13b1
         try clear c15
         try clear c15b0
         try clear c15b1
         try clear c18
         try clear c20
         try clear c20b0
         try clear c24
         try clear c25
         try clear c25b0
         try clear c26
         try clear c26b0
         try clear c27
         try clear c27b0
         try clear q28
         try clear c29
         try clear p30
         try clear q30
         try clear hx30
         try clear c33
         try clear c36
         try clear c37
         try clear c37b0
         try clear c38
         try clear c42
         try clear c42b0
         try clear c43
         try clear c48
         try clear c53
         try clear c54
         try clear z10_0 z10_1
         try clear z12_0 z12_1
         try clear z14_0 z14_1
         try clear z16_0 z16_1
         try clear z17_0 z17_1
         try clear z21_0 z21_1
         try clear z23_0 z23_1
         try clear z31_0 z31_1
         try clear z34_0 z34_1
         try clear z34_10 z34_11 z34_12 z34_13 z34_14 z34_15
         try clear z34_2 z34_3 z34_4 z34_5 z34_6 z34_7 z34_8 z34_9
         try clear z39_0 z39_1
         try clear z39_10 z39_11 z39_12 z39_13 z39_14 z39_15
         try clear z39_2 z39_3 z39_4 z39_5 z39_6 z39_7 z39_8 z39_9
         try clear z41_0 z41_1
         try clear z41_10 z41_11 z41_12 z41_13 z41_14 z41_15
         try clear z41_2 z41_3 z41_4 z41_5 z41_6 z41_7 z41_8 z41_9
         try clear z44_0 z44_1
         try clear z44_10 z44_11 z44_12 z44_13 z44_14 z44_15
         try clear z44_2 z44_3 z44_4 z44_5 z44_6 z44_7 z44_8 z44_9
         try clear z46_0 z46_1
         try clear z46_10 z46_11 z46_12 z46_13 z46_14 z46_15
         try clear z46_2 z46_3 z46_4 z46_5 z46_6 z46_7 z46_8 z46_9
         try clear z49_0 z49_1
         try clear z49_10 z49_11 z49_12 z49_13 z49_14 z49_15
         try clear z49_2 z49_3 z49_4 z49_5 z49_6 z49_7 z49_8 z49_9
         try clear z4_0 z4_1
         try clear z51_0 z51_1
         try clear z51_10 z51_11 z51_12 z51_13 z51_14 z51_15
         try clear z51_2 z51_3 z51_4 z51_5 z51_6 z51_7 z51_8 z51_9
         try clear z52_0 z52_1
         try clear z55_0 z55_1
         try clear z55_10 z55_11 z55_12 z55_13 z55_14 z55_15
         try clear z55_2 z55_3 z55_4 z55_5 z55_6 z55_7 z55_8 z55_9
         try clear z6_0 z6_1
         try clear z8_0 z8_1
         try clear o10_0 o10_1
         try clear o12_0 o12_1
         try clear o14_0 o14_1
         try clear o16_0 o16_1
         try clear o17_0 o17_1
         try clear o21_0 o21_1
         try clear o23_0 o23_1
         try clear o31_0 o31_1
         try clear o34_0 o34_1
         try clear o34_10 o34_11 o34_12 o34_13 o34_14 o34_15
         try clear o34_2 o34_3 o34_4 o34_5 o34_6 o34_7 o34_8 o34_9
         try clear o39_0 o39_1
         try clear o39_10 o39_11 o39_12 o39_13 o39_14 o39_15
         try clear o39_2 o39_3 o39_4 o39_5 o39_6 o39_7 o39_8 o39_9
         try clear o41_0 o41_1
         try clear o41_10 o41_11 o41_12 o41_13 o41_14 o41_15
         try clear o41_2 o41_3 o41_4 o41_5 o41_6 o41_7 o41_8 o41_9
         try clear o44_0 o44_1
         try clear o44_10 o44_11 o44_12 o44_13 o44_14 o44_15
         try clear o44_2 o44_3 o44_4 o44_5 o44_6 o44_7 o44_8 o44_9
         try clear o46_0 o46_1
         try clear o46_10 o46_11 o46_12 o46_13 o46_14 o46_15
         try clear o46_2 o46_3 o46_4 o46_5 o46_6 o46_7 o46_8 o46_9
         try clear o49_0 o49_1
         try clear o49_10 o49_11 o49_12 o49_13 o49_14 o49_15
         try clear o49_2 o49_3 o49_4 o49_5 o49_6 o49_7 o49_8 o49_9
         try clear o4_0 o4_1
         try clear o51_0 o51_1
         try clear o51_10 o51_11 o51_12 o51_13 o51_14 o51_15
         try clear o51_2 o51_3 o51_4 o51_5 o51_6 o51_7 o51_8 o51_9
         try clear o52_0 o52_1
         try clear o55_0 o55_1
         try clear o55_10 o55_11 o55_12 o55_13 o55_14 o55_15
         try clear o55_2 o55_3 o55_4 o55_5 o55_6 o55_7 o55_8 o55_9
         try clear o6_0 o6_1
         try clear o8_0 o8_1
         try clear u0_0
         try clear u0_1
         try clear u0_10
         try clear u0_11
         try clear u0_12
         try clear u0_13
         try clear u0_14
         try clear u0_15
         try clear u0_2
         try clear u0_3
         try clear u0_4
         try clear u0_5
         try clear u0_6
         try clear u0_7
         try clear u0_8
         try clear u0_9
         try clear p2
         try clear p0
         try clear p6
         try clear q0
         obtain ⟨kq, x81_29, rfl, HA, HJ29, BK1, BK2, HB⟩ := hcut; cases kq with
         | zero => exact absurd HA.out (by simp [spec_TableOk.j2])
         | succ kj29 =>
          have H := HA.out; clear HA; simp only [spec_TableOk.j2] at H
          by_cases c57 : x81_29 = true
          ·subst c57; rw [if_pos rfl] at H
           (try dsimp only at H); obtain rfl := Option.some.inj H
           go_wp2_with (first | ((with_reducible refine Gv.gate_load (t := 75) rfl ?_); (try (refine gate_guard (by rfl) ?_; dsimp only)); refine wpList_load_row rfl 75 _ rfl gb2 rfl 75 _ _ _ (Gv.k01 BK2.out) Try.underlying75 rfl (by kernel_rfl) ?_))
           go_ret
           exact ⟨Gv.rt, Gv.bw⟩
          ·replace c57 := Bool.eq_false_iff.mpr c57; subst c57; rw [if_neg (show ¬ (false = true) by decide)] at H
           (try dsimp only at H); replace H := Option.bind_eq_some_iff.mp H; obtain ⟨t10, A11, H⟩ := H
           (try dsimp only at H); have A58 := Gv.a0 A11; clear A11; have H' := Gv.a0 H; clear H; have hnb59 := NB1_2.out; have hnc59 := NB2_1.out; have z60_0 : wc.cell? ⟨gb1, 0, none⟩ = some (.int .i64 a0_0) := (blk_cell BK1.out 0).trans rfl; have z60_1 : wc.cell? ⟨gb1, 1, none⟩ = some (.slice (some ad0) l0_1.length c0_1) := (blk_cell BK1.out 1).trans rfl; have o60_0 := blk_frozen BK1.out 0; have o60_1 := blk_frozen BK1.out 1; obtain ⟨z61_0, z61_1, z61_2, z61_3, z61_4, z61_5, z61_6, z61_7, z61_8, z61_9, z61_10, z61_11, z61_12, z61_13, z61_14, z61_15⟩ := Gv.c16 BK2.out
           go_wp2_with (first | ((with_reducible refine gate_callee (f := 55) rfl ?_); refine goesL_ (some 85) rfl rfl Try.func55 (by kernel_rfl) rfl #[.agg #[.int .i64 a0_0, .slice (some ad0) l0_1.length c0_1], .agg #[.int .i64 ((rd_T75 l0_1 x4_2).f1.f0), .int .i64 ((rd_T75 l0_1 x4_2).f1.f1.f0.f0), .int .i64 ((rd_T75 l0_1 x4_2).f1.f1.f0.f1), .int .i64 ((rd_T75 l0_1 x4_2).f1.f1.f0.f2), .int .i64 ((rd_T75 l0_1 x4_2).f1.f1.f0.f3), .int .i64 ((rd_T75 l0_1 x4_2).f1.f1.f0.f4), .int .i64 ((rd_T75 l0_1 x4_2).f1.f1.f1.f0), .int .i64 ((rd_T75 l0_1 x4_2).f1.f1.f1.f1), .int .i64 ((rd_T75 l0_1 x4_2).f1.f1.f1.f2), .int .i64 ((rd_T75 l0_1 x4_2).f1.f1.f1.f3), .int .i64 ((rd_T75 l0_1 x4_2).f1.f1.f1.f4), .int .i64 ((rd_T75 l0_1 x4_2).f1.f1.f2), .int .i64 ((rd_T75 l0_1 x4_2).f1.f1.f3), .int .i64 ((rd_T75 l0_1 x4_2).f1.f1.f4)]] rfl Gv.lm ?_; (with_reducible refine (spec_l11Home.calls kj29 a0_0 _ _ l0_1 _ _ _ _ _ _ _ _ _ _ _ _ _ _ t10 _ ?side1 ?side2 A58.out).mono ?_); (case side1 => exact Gv.sd (Kd.C_below HR0_1.out HB.out)); (case side2 => exact HC0_1.out); rintro e w62 ⟨rfl, hb⟩; refine ⟨_, rfl, ?_⟩; replace BK1 := Gv.b1 BK1 hb; replace BK2 := Gv.b1 BK2 hb; replace HB := Gv.hb hb; clear hb) | ((with_reducible refine Gv.gate_load (t := 75) rfl ?_); (try (refine gate_guard (by rfl) ?_; dsimp only)); refine wpList_load_row rfl 75 _ rfl gb2 rfl 75 _ _ _ (Gv.k01 BK2.out) Try.underlying75 rfl (by kernel_rfl) ?_))
           go_loopg [6] kj29 (fun kq v6 w' => ∃ (x6_4 : Int), v6 = .int .i64 x6_4 ∧ Aside0 (spec_TableOk.l1 kq (l0_1.length : Int) x4_2 x6_4 a0_0 l0_1 = some r) ∧ Aside0 (kq ≤ kj29) ∧ Aside0 (w'.heap[gb1]? = some (.cells #[.int .i64 a0_0, (.slice (some ad0) l0_1.length c0_1)] 40 (0, 0))) ∧ Aside0 (w'.heap[gb2]? = some (.cells #[.bool true, .int .i64 ((rd_T75 l0_1 x4_2).f1.f0), .int .i64 ((rd_T75 l0_1 x4_2).f1.f1.f0.f0), .int .i64 ((rd_T75 l0_1 x4_2).f1.f1.f0.f1), .int .i64 ((rd_T75 l0_1 x4_2).f1.f1.f0.f2), .int .i64 ((rd_T75 l0_1 x4_2).f1.f1.f0.f3), .int .i64 ((rd_T75 l0_1 x4_2).f1.f1.f0.f4), .int .i64 ((rd_T75 l0_1 x4_2).f1.f1.f1.f0), .int .i64 ((rd_T75 l0_1 x4_2).f1.f1.f1.f1), .int .i64 ((rd_T75 l0_1 x4_2).f1.f1.f1.f2), .int .i64 ((rd_T75 l0_1 x4_2).f1.f1.f1.f3), .int .i64 ((rd_T75 l0_1 x4_2).f1.f1.f1.f4), .int .i64 ((rd_T75 l0_1 x4_2).f1.f1.f2), .int .i64 ((rd_T75 l0_1 x4_2).f1.f1.f3), .int .i64 ((rd_T75 l0_1 x4_2).f1.f1.f4), .int .i64 ((rd_T75 l0_1 x4_2).f2)] 75 (0, 0))) ∧ Aside0 (Below w.heap.size w w'))
           case atStart => exact ⟨(t10), Gv.rq, H', ⟨Nat.le_refl _⟩, ⟨by (with_reducible repeat (first | refine blk_drewN ?_ _ | refine blk_drew ?_ | refine blk_alloc ?_ _)); exact BK1.out⟩, ⟨by (with_reducible repeat (first | refine blk_drewN ?_ _ | refine blk_drew ?_ | refine blk_alloc ?_ _)); exact BK2.out⟩, ⟨Gv.bw⟩⟩
           case round =>
            clear H'
            try clear c1
            try clear c2
            try clear p2
            try clear q2
            try clear c3
            try clear p3
            try clear q3
            try clear hx3
            try clear c4
            try clear c5
            try clear c5b0
            try clear p6
            try clear c7
            try clear c7b0
            try clear c9
            try clear c9b0
            try clear c9b1
            try clear c11
            try clear c11b0
            try clear c11b1
            try clear c13
            try clear c13b0
            try clear c13b1
            try clear c15
            try clear c15b0
            try clear c15b1
            try clear c18
            try clear c20
            try clear c20b0
            try clear c24
            try clear c25
            try clear c25b0
            try clear c26
            try clear c26b0
            try clear c27
            try clear c27b0
            try clear q28
            try clear c29
            try clear p30
            try clear q30
            try clear hx30
            try clear c33
            try clear c36
            try clear c37
            try clear c37b0
            try clear c38
            try clear c42
            try clear c42b0
            try clear c43
            try clear c48
            try clear c53
            try clear c54
            try clear c55
            try clear c57
            try clear c59
            try clear z10_0 z10_1
            try clear z12_0 z12_1
            try clear z14_0 z14_1
            try clear z16_0 z16_1
            try clear z17_0 z17_1
            try clear z21_0 z21_1
            try clear z23_0 z23_1
            try clear z31_0 z31_1
            try clear z34_0 z34_1
            try clear z34_10 z34_11 z34_12 z34_13 z34_14 z34_15
            try clear z34_2 z34_3 z34_4 z34_5 z34_6 z34_7 z34_8 z34_9
            try clear z39_0 z39_1
            try clear z39_10 z39_11 z39_12 z39_13 z39_14 z39_15
            try clear z39_2 z39_3 z39_4 z39_5 z39_6 z39_7 z39_8 z39_9
            try clear z41_0 z41_1
            try clear z41_10 z41_11 z41_12 z41_13 z41_14 z41_15
            try clear z41_2 z41_3 z41_4 z41_5 z41_6 z41_7 z41_8 z41_9
            try clear z44_0 z44_1
            try clear z44_10 z44_11 z44_12 z44_13 z44_14 z44_15
            try clear z44_2 z44_3 z44_4 z44_5 z44_6 z44_7 z44_8 z44_9
            try clear z46_0 z46_1
            try clear z46_10 z46_11 z46_12 z46_13 z46_14 z46_15
            try clear z46_2 z46_3 z46_4 z46_5 z46_6 z46_7 z46_8 z46_9
            try clear z49_0 z49_1
            try clear z49_10 z49_11 z49_12 z49_13 z49_14 z49_15
            try clear z49_2 z49_3 z49_4 z49_5 z49_6 z49_7 z49_8 z49_9
            try clear z4_0 z4_1
            try clear z51_0 z51_1
            try clear z51_10 z51_11 z51_12 z51_13 z51_14 z51_15
            try clear z51_2 z51_3 z51_4 z51_5 z51_6 z51_7 z51_8 z51_9
            try clear z52_0 z52_1
            try clear z55_0 z55_1
            try clear z55_10 z55_11 z55_12 z55_13 z55_14 z55_15
            try clear z55_2 z55_3 z55_4 z55_5 z55_6 z55_7 z55_8 z55_9
            try clear z60_0 z60_1
            try clear z61_0 z61_1
            try clear z61_10 z61_11 z61_12 z61_13 z61_14 z61_15
            try clear z61_2 z61_3 z61_4 z61_5 z61_6 z61_7 z61_8 z61_9
            try clear z6_0 z6_1
            try clear z8_0 z8_1
            try clear o10_0 o10_1
            try clear o12_0 o12_1
            try clear o14_0 o14_1
            try clear o16_0 o16_1
            try clear o17_0 o17_1
            try clear o21_0 o21_1
            try clear o23_0 o23_1
            try clear o31_0 o31_1
            try clear o34_0 o34_1
            try clear o34_10 o34_11 o34_12 o34_13 o34_14 o34_15
            try clear o34_2 o34_3 o34_4 o34_5 o34_6 o34_7 o34_8 o34_9
            try clear o39_0 o39_1
            try clear o39_10 o39_11 o39_12 o39_13 o39_14 o39_15
            try clear o39_2 o39_3 o39_4 o39_5 o39_6 o39_7 o39_8 o39_9
            try clear o41_0 o41_1
            try clear o41_10 o41_11 o41_12 o41_13 o41_14 o41_15
            try clear o41_2 o41_3 o41_4 o41_5 o41_6 o41_7 o41_8 o41_9
            try clear o44_0 o44_1
            try clear o44_10 o44_11 o44_12 o44_13 o44_14 o44_15
            try clear o44_2 o44_3 o44_4 o44_5 o44_6 o44_7 o44_8 o44_9
            try clear o46_0 o46_1
            try clear o46_10 o46_11 o46_12 o46_13 o46_14 o46_15
            try clear o46_2 o46_3 o46_4 o46_5 o46_6 o46_7 o46_8 o46_9
            try clear o49_0 o49_1
            try clear o49_10 o49_11 o49_12 o49_13 o49_14 o49_15
            try clear o49_2 o49_3 o49_4 o49_5 o49_6 o49_7 o49_8 o49_9
            try clear o4_0 o4_1
            try clear o51_0 o51_1
            try clear o51_10 o51_11 o51_12 o51_13 o51_14 o51_15
            try clear o51_2 o51_3 o51_4 o51_5 o51_6 o51_7 o51_8 o51_9
            try clear o52_0 o52_1
            try clear o55_0 o55_1
            try clear o55_10 o55_11 o55_12 o55_13 o55_14 o55_15
            try clear o55_2 o55_3 o55_4 o55_5 o55_6 o55_7 o55_8 o55_9
            try clear o60_0 o60_1
            try clear o61_0 o61_1
            try clear o61_10 o61_11 o61_12 o61_13 o61_14 o61_15
            try clear o61_2 o61_3 o61_4 o61_5 o61_6 o61_7 o61_8 o61_9
            try clear o6_0 o6_1
            try clear o8_0 o8_1
            try clear u0_0
            try clear u0_1
            try clear u0_10
            try clear u0_11
            try clear u0_12
            try clear u0_13
            try clear u0_14
            try clear u0_15
            try clear u0_2
            try clear u0_3
            try clear u0_4
            try clear u0_5
            try clear u0_6
            try clear u0_7
            try clear u0_8
            try clear u0_9
            try clear p2
            try clear p3
            try clear p30
            try clear p0
            try clear p6
            try clear q2
            try clear q28
            try clear q3
            try clear q30
            try clear q0
            obtain ⟨x6_4, rfl, HA, HK4, BK1, BK2, HB⟩ := hrel; cases gk with
            | zero => exact absurd HA.out (by simp [spec_TableOk.l1])
            | succ k4 =>
             have H := HA.out; clear HA; simp only [spec_TableOk.l1] at H
             by_cases c63 : x6_4 = x4_2
             ·rw [if_pos c63] at H; have c63b0 : (x6_4 == x4_2) = true := beq_iff_eq.mpr c63; have c63b1 : (x6_4 != x4_2) = false := bne_eq_false_iff_eq.mpr c63; clear c63; have H' := Gv.a0 H; clear H
              go_wp2_with (first | ((with_reducible refine Gv.gate_load (t := 75) rfl ?_); (try (refine gate_guard (by rfl) ?_; dsimp only)); refine wpList_load_row rfl 75 _ rfl gb2 rfl 75 _ _ _ (Gv.k01 BK2.out) Try.underlying75 rfl (by kernel_rfl) ?_))
              go_roundg k4
              case measure => have := HJ1.out; have := HK2.out; have := HJ29.out; have := HK4.out; omega
              case rel => exact ⟨(wrap64 (x4_2 + 1)), Gv.rq, H', ⟨by have := HJ1.out; have := HK2.out; have := HJ29.out; have := HK4.out; omega⟩, ⟨by (with_reducible repeat (first | refine blk_drewN ?_ _ | refine blk_drew ?_ | refine blk_alloc ?_ _)); exact BK1.out⟩, ⟨Gv.bw⟩⟩
             ·rw [if_neg c63] at H; have c63b0 : (x6_4 == x4_2) = false := beq_eq_false_iff_ne.mpr c63; have c63b1 : (x6_4 != x4_2) = true := bne_iff_ne.mpr c63
              by_cases c64 : 0 ≤ x6_4
              rotate_left
              ·rw [if_neg c64] at H; cases H
              rw [if_pos c64] at H; have c64b0 := decide_eq_true c64; clear c64
              by_cases c65 : x6_4 < (l0_1.length : Int)
              rotate_left
              ·rw [if_neg c65] at H; cases H
              rw [if_pos c65] at H; have c65b0 := decide_eq_true c65; clear c65; obtain ⟨bq66, hbq66⟩ : ∃ b_ : Bool, b_ = ((rd_T75 l0_1 x6_4).f0) := ⟨_, rfl⟩
              replace H : (if (bq66 = true) then (if (l0_1.length : Int) = 0 then (none) else (spec_TableOk.l1 k4 (l0_1.length : Int) x4_2 (Int.tmod (wrap64 (x6_4 + 1)) (l0_1.length : Int)) a0_0 l0_1)) else (some false)) = some r := by rw [← hbq66] at H; exact H
              have Nbq66 := Gv.a0 hbq66; clear hbq66
              by_cases c67 : (bq66 = true)
              ·subst c67; rw [if_pos rfl] at H
               (try dsimp only at H)
               by_cases c68 : (l0_1.length : Int) = 0
               ·rw [if_pos c68] at H; cases H
               ·rw [if_neg c68] at H; have c68b0 : ((l0_1.length : Int) == 0) = false := beq_eq_false_iff_ne.mpr c68; have c68b1 : ((l0_1.length : Int) != 0) = true := bne_iff_ne.mpr c68; have c68b2 : ¬ (l0_1 = []) := fun h_ => c68 (by rw [h_]; rfl)
                have H' := Gv.a0 H; clear H; have hnb69 := NB1_2.out; have hnc69 := NB2_1.out; have z70_0 : wr.cell? ⟨gb1, 0, none⟩ = some (.int .i64 a0_0) := (blk_cell BK1.out 0).trans rfl; have z70_1 : wr.cell? ⟨gb1, 1, none⟩ = some (.slice (some ad0) l0_1.length c0_1) := (blk_cell BK1.out 1).trans rfl; have o70_0 := blk_frozen BK1.out 0; have o70_1 := blk_frozen BK1.out 1; have p4 : 0 ≤ (x6_4 : Int) := Gv.od; have q4 : x6_4 < (l0_1.length : Int) := Gv.od; obtain ⟨ad4, e4, u4_0, _, _, _, _, _, _, _, _, _, _, _, _, _, _, _⟩ := at_T75 HR0_1.out x6_4 p4 q4
                (try rw [← Nbq28.out] at u4_0)
                (try rw [← Nbq66.out] at u4_0); obtain rfl : ad0 = ad4 := (by injection e4); replace u4_0 := Gv.bx HB.out u4_0; replace p4 := eq_true p4; replace q4 := eq_true q4
                go_wp2_with (first | ((with_reducible refine Gv.gate_load (t := 75) rfl ?_); (try (refine gate_guard (by rfl) ?_; dsimp only)); refine wpList_load_row rfl 75 _ rfl gb2 rfl 75 _ _ _ (Gv.k01 BK2.out) Try.underlying75 rfl (by kernel_rfl) ?_))
                go_roundg k4
                case measure => have := HJ1.out; have := HK2.out; have := HJ29.out; have := HK4.out; omega
                case rel => exact ⟨(Int.tmod (wrap64 (x6_4 + 1)) (l0_1.length : Int)), Gv.rq, H', ⟨by have := HJ1.out; have := HK2.out; have := HJ29.out; have := HK4.out; omega⟩, ⟨by (with_reducible repeat (first | refine blk_drewN ?_ _ | refine blk_drew ?_ | refine blk_alloc ?_ _)); exact BK1.out⟩, ⟨by (with_reducible repeat (first | refine blk_drewN ?_ _ | refine blk_drew ?_ | refine blk_alloc ?_ _)); exact BK2.out⟩, ⟨Gv.bw⟩⟩
              ·replace c67 := Bool.eq_false_iff.mpr c67; subst c67; rw [if_neg (show ¬ (false = true) by decide)] at H
               (try dsimp only at H); obtain rfl := Option.some.inj H; have hnb71 := NB1_2.out; have hnc71 := NB2_1.out; have z72_0 : wr.cell? ⟨gb1, 0, none⟩ = some (.int .i64 a0_0) := (blk_cell BK1.out 0).trans rfl; have z72_1 : wr.cell? ⟨gb1, 1, none⟩ = some (.slice (some ad0) l0_1.length c0_1) := (blk_cell BK1.out 1).trans rfl; have o72_0 := blk_frozen BK1.out 0; have o72_1 := blk_frozen BK1.out 1; have p4 : 0 ≤ (x6_4 : Int) := Gv.od; have q4 : x6_4 < (l0_1.length : Int) := Gv.od; obtain ⟨ad4, e4, u4_0, _, _, _, _, _, _, _, _, _, _, _, _, _, _, _⟩ := at_T75 HR0_1.out x6_4 p4 q4
               (try rw [← Nbq28.out] at u4_0)
               (try rw [← Nbq66.out] at u4_0); obtain rfl : ad0 = ad4 := (by injection e4); replace u4_0 := Gv.bx HB.out u4_0; replace p4 := eq_true p4; replace q4 := eq_true q4
               go_wp2_with (first | ((with_reducible refine Gv.gate_load (t := 75) rfl ?_); (try (refine gate_guard (by rfl) ?_; dsimp only)); refine wpList_load_row rfl 75 _ rfl gb2 rfl 75 _ _ _ (Gv.k01 BK2.out) Try.underlying75 rfl (by kernel_rfl) ?_))
               go_ret
               exact ⟨Gv.rt, Gv.bw⟩
       ·replace c29 := Bool.eq_false_iff.mpr c29; subst c29; rw [if_neg (show ¬ (false = true) by decide)] at H
        (try simp only [Bool.false_or, Bool.true_and] at H)
        by_cases c73 : (((!(((rd_T75 l0_1 x4_2).f1.f0) == 0) || (((!(((rd_T75 l0_1 x4_2).f1.f1.f0.f0) == 0) || (!(((rd_T75 l0_1 x4_2).f1.f1.f0.f1) == 0) || (!(((rd_T75 l0_1 x4_2).f1.f1.f0.f2) == 0) || (!(((rd_T75 l0_1 x4_2).f1.f1.f0.f3) == 0) || (!(((rd_T75 l0_1 x4_2).f1.f1.f0.f4) == 0)))))) || ((!(((rd_T75 l0_1 x4_2).f1.f1.f1.f0) == 0) || (!(((rd_T75 l0_1 x4_2).f1.f1.f1.f1) == 0) || (!(((rd_T75 l0_1 x4_2).f1.f1.f1.f2) == 0) || (!(((rd_T75 l0_1 x4_2).f1.f1.f1.f3) == 0) || (!(((rd_T75 l0_1 x4_2).f1.f1.f1.f4) == 0)))))) || (!(((rd_T75 l0_1 x4_2).f1.f1.f2) == 0) || (!(((rd_T75 l0_1 x4_2).f1.f1.f3) == 0) || (!(((rd_T75 l0_1 x4_2).f1.f1.f4) == 0)))))))) || (!(((rd_T75 l0_1 x4_2).f2) == 0)))) = true
        ·rw [if_pos c73] at H; have c73b0 : (((!(((rd_T75 l0_1 x4_2).f1.f0) == 0) || (((!(((rd_T75 l0_1 x4_2).f1.f1.f0.f0) == 0) || (!(((rd_T75 l0_1 x4_2).f1.f1.f0.f1) == 0) || (!(((rd_T75 l0_1 x4_2).f1.f1.f0.f2) == 0) || (!(((rd_T75 l0_1 x4_2).f1.f1.f0.f3) == 0) || (!(((rd_T75 l0_1 x4_2).f1.f1.f0.f4) == 0)))))) || ((!(((rd_T75 l0_1 x4_2).f1.f1.f1.f0) == 0) || (!(((rd_T75 l0_1 x4_2).f1.f1.f1.f1) == 0) || (!(((rd_T75 l0_1 x4_2).f1.f1.f1.f2) == 0) || (!(((rd_T75 l0_1 x4_2).f1.f1.f1.f3) == 0) || (!(((rd_T75 l0_1 x4_2).f1.f1.f1.f4) == 0)))))) || (!(((rd_T75 l0_1 x4_2).f1.f1.f2) == 0) || (!(((rd_T75 l0_1 x4_2).f1.f1.f3) == 0) || (!(((rd_T75 l0_1 x4_2).f1.f1.f4) == 0)))))))) || (!(((rd_T75 l0_1 x4_2).f2) == 0)))) = true := c73; clear c73; obtain rfl := Option.some.inj H; have z74_0 : wr.cell? ⟨gb1, 0, none⟩ = some (.int .i64 a0_0) := (blk_cell BK1.out 0).trans rfl; have z74_1 : wr.cell? ⟨gb1, 1, none⟩ = some (.slice A0_1 l0_1.length c0_1) := (blk_cell BK1.out 1).trans rfl; have o74_0 := blk_frozen BK1.out 0; have o74_1 := blk_frozen BK1.out 1; have p0 : 0 ≤ (x4_2 : Int) := Gv.od; have q0 : x4_2 < (l0_1.length : Int) := Gv.od; obtain ⟨ad0, e0, u0_0, u0_1, u0_2, u0_3, u0_4, u0_5, u0_6, u0_7, u0_8, u0_9, u0_10, u0_11, u0_12, u0_13, u0_14, u0_15⟩ := at_T75 HR0_1.out x4_2 p0 q0
         (try rw [← Nbq28.out] at u0_0); cases e0; replace u0_0 := Gv.bx HB.out u0_0; replace u0_1 := Gv.bx HB.out u0_1; replace u0_2 := Gv.bx HB.out u0_2; replace u0_3 := Gv.bx HB.out u0_3; replace u0_4 := Gv.bx HB.out u0_4; replace u0_5 := Gv.bx HB.out u0_5; replace u0_6 := Gv.bx HB.out u0_6; replace u0_7 := Gv.bx HB.out u0_7; replace u0_8 := Gv.bx HB.out u0_8; replace u0_9 := Gv.bx HB.out u0_9; replace u0_10 := Gv.bx HB.out u0_10; replace u0_11 := Gv.bx HB.out u0_11; replace u0_12 := Gv.bx HB.out u0_12; replace u0_13 := Gv.bx HB.out u0_13; replace u0_14 := Gv.bx HB.out u0_14; replace u0_15 := Gv.bx HB.out u0_15; replace p0 := eq_true p0; replace q0 := eq_true q0
         go_wp2_with (first | ((with_reducible refine gate_dst (N := 5) rfl ?_); refine Gv.bev 5 75 #[.bool false, .int .i64 0, .int .i64 0, .int .i64 0, .int .i64 0, .int .i64 0, .int .i64 0, .int .i64 0, .int .i64 0, .int .i64 0, .int .i64 0, .int .i64 0, .int .i64 0, .int .i64 0, .int .i64 0, .int .i64 0] ?_; intro gb2 hg w75 hbox hb; have BK2 := Gv.a0 (hbox); have GW2 := Gv.a0 ((Gv.ble hg Gv.bw : w.heap.size ≤ gb2)); have GE2 := GW2; replace HB := Gv.hb hb; have NB1_2 := Gv.a0 ((Gv.nlt hg (Gv.kb BK1.out) : gb1 ≠ gb2)); have NB2_1 := Gv.a0 ((Gv.ngt hg (Gv.kb BK1.out) : gb2 ≠ gb1)); replace BK1 := Gv.b1 BK1 hb; clear hb hbox hg; have hnb76 := NB2_1.out; have hnc76 := NB1_2.out; obtain ⟨z77_0, z77_1, z77_2, z77_3, z77_4, z77_5, z77_6, z77_7, z77_8, z77_9, z77_10, z77_11, z77_12, z77_13, z77_14, z77_15⟩ := Gv.c16 BK2.out) | ((with_reducible refine gate_store (t := 75) (p := 5) rfl ?_); refine Gv.store_event rfl rfl rfl rfl rfl (Gv.kb BK2.out) (by kernel_rfl) rfl (by simp; and_intros <;> rfl) ?_; intro w75s hbox hoth hbel; replace BK2 := Gv.a0 (hbox); replace HB := Gv.a0 (hbel w Gv.bw GE2.out); replace BK1 := Gv.a0 ((hoth gb1 NB1_2.out).trans (Gv.kb BK1.out)); clear hbox hoth hbel; (try clear z77_0 z77_1 z77_2 z77_3 z77_4 z77_5 z77_6 z77_7 z77_8 z77_9 z77_10 z77_11 z77_12 z77_13 z77_14 z77_15 o77_0 o77_1 o77_2 o77_3 o77_4 o77_5 o77_6 o77_7 o77_8 o77_9 o77_10 o77_11 o77_12 o77_13 o77_14 o77_15); obtain ⟨z77_0, z77_1, z77_2, z77_3, z77_4, z77_5, z77_6, z77_7, z77_8, z77_9, z77_10, z77_11, z77_12, z77_13, z77_14, z77_15⟩ := Gv.c16 BK2.out) | ((with_reducible refine Gv.gate_load (t := 75) rfl ?_); (try (refine gate_guard (by rfl) ?_; dsimp only)); refine wpList_load_row rfl 75 _ rfl gb2 rfl 75 _ _ _ (Gv.k01 BK2.out) Try.underlying75 rfl (by kernel_rfl) ?_) | ((with_reducible refine Gv.gate_load (t := 75) rfl ?_); refine Gv.load_event (cs := [_, _, _, _, _, _, _, _, _, _, _, _, _, _, _, _]) rfl rfl rfl ⟨u0_0, u0_1, u0_2, u0_3, u0_4, u0_5, u0_6, u0_7, u0_8, u0_9, u0_10, u0_11, u0_12, u0_13, u0_14, u0_15, trivial⟩ Try.underlying75 rfl (by kernel_rfl) ?_))
         go_ret
         exact ⟨Gv.rt, Gv.bw⟩
        ·rw [if_neg c73] at H; have c73b0 : (((!(((rd_T75 l0_1 x4_2).f1.f0) == 0) || (((!(((rd_T75 l0_1 x4_2).f1.f1.f0.f0) == 0) || (!(((rd_T75 l0_1 x4_2).f1.f1.f0.f1) == 0) || (!(((rd_T75 l0_1 x4_2).f1.f1.f0.f2) == 0) || (!(((rd_T75 l0_1 x4_2).f1.f1.f0.f3) == 0) || (!(((rd_T75 l0_1 x4_2).f1.f1.f0.f4) == 0)))))) || ((!(((rd_T75 l0_1 x4_2).f1.f1.f1.f0) == 0) || (!(((rd_T75 l0_1 x4_2).f1.f1.f1.f1) == 0) || (!(((rd_T75 l0_1 x4_2).f1.f1.f1.f2) == 0) || (!(((rd_T75 l0_1 x4_2).f1.f1.f1.f3) == 0) || (!(((rd_T75 l0_1 x4_2).f1.f1.f1.f4) == 0)))))) || (!(((rd_T75 l0_1 x4_2).f1.f1.f2) == 0) || (!(((rd_T75 l0_1 x4_2).f1.f1.f3) == 0) || (!(((rd_T75 l0_1 x4_2).f1.f1.f4) == 0)))))))) || (!(((rd_T75 l0_1 x4_2).f2) == 0)))) = false := by simpa using c73
         clear c73; have H' := Gv.a0 H; clear H; have z78_0 : wr.cell? ⟨gb1, 0, none⟩ = some (.int .i64 a0_0) := (blk_cell BK1.out 0).trans rfl; have z78_1 : wr.cell? ⟨gb1, 1, none⟩ = some (.slice A0_1 l0_1.length c0_1) := (blk_cell BK1.out 1).trans rfl; have o78_0 := blk_frozen BK1.out 0; have o78_1 := blk_frozen BK1.out 1; have p0 : 0 ≤ (x4_2 : Int) := Gv.od; have q0 : x4_2 < (l0_1.length : Int) := Gv.od; obtain ⟨ad0, e0, u0_0, u0_1, u0_2, u0_3, u0_4, u0_5, u0_6, u0_7, u0_8, u0_9, u0_10, u0_11, u0_12, u0_13, u0_14, u0_15⟩ := at_T75 HR0_1.out x4_2 p0 q0
         (try rw [← Nbq28.out] at u0_0); cases e0; replace u0_0 := Gv.bx HB.out u0_0; replace u0_1 := Gv.bx HB.out u0_1; replace u0_2 := Gv.bx HB.out u0_2; replace u0_3 := Gv.bx HB.out u0_3; replace u0_4 := Gv.bx HB.out u0_4; replace u0_5 := Gv.bx HB.out u0_5; replace u0_6 := Gv.bx HB.out u0_6; replace u0_7 := Gv.bx HB.out u0_7; replace u0_8 := Gv.bx HB.out u0_8; replace u0_9 := Gv.bx HB.out u0_9; replace u0_10 := Gv.bx HB.out u0_10; replace u0_11 := Gv.bx HB.out u0_11; replace u0_12 := Gv.bx HB.out u0_12; replace u0_13 := Gv.bx HB.out u0_13; replace u0_14 := Gv.bx HB.out u0_14; replace u0_15 := Gv.bx HB.out u0_15; replace p0 := eq_true p0; replace q0 := eq_true q0
         go_wp2_with (first | ((with_reducible refine gate_dst (N := 5) rfl ?_); refine Gv.bev 5 75 #[.bool false, .int .i64 0, .int .i64 0, .int .i64 0, .int .i64 0, .int .i64 0, .int .i64 0, .int .i64 0, .int .i64 0, .int .i64 0, .int .i64 0, .int .i64 0, .int .i64 0, .int .i64 0, .int .i64 0, .int .i64 0] ?_; intro gb2 hg w79 hbox hb; have BK2 := Gv.a0 (hbox); have GW2 := Gv.a0 ((Gv.ble hg Gv.bw : w.heap.size ≤ gb2)); have GE2 := GW2; replace HB := Gv.hb hb; have NB1_2 := Gv.a0 ((Gv.nlt hg (Gv.kb BK1.out) : gb1 ≠ gb2)); have NB2_1 := Gv.a0 ((Gv.ngt hg (Gv.kb BK1.out) : gb2 ≠ gb1)); replace BK1 := Gv.b1 BK1 hb; clear hb hbox hg; have hnb80 := NB2_1.out; have hnc80 := NB1_2.out; obtain ⟨z81_0, z81_1, z81_2, z81_3, z81_4, z81_5, z81_6, z81_7, z81_8, z81_9, z81_10, z81_11, z81_12, z81_13, z81_14, z81_15⟩ := Gv.c16 BK2.out) | ((with_reducible refine gate_store (t := 75) (p := 5) rfl ?_); refine Gv.store_event rfl rfl rfl rfl rfl (Gv.kb BK2.out) (by kernel_rfl) rfl (by simp; and_intros <;> rfl) ?_; intro w79s hbox hoth hbel; replace BK2 := Gv.a0 (hbox); replace HB := Gv.a0 (hbel w Gv.bw GE2.out); replace BK1 := Gv.a0 ((hoth gb1 NB1_2.out).trans (Gv.kb BK1.out)); clear hbox hoth hbel; (try clear z81_0 z81_1 z81_2 z81_3 z81_4 z81_5 z81_6 z81_7 z81_8 z81_9 z81_10 z81_11 z81_12 z81_13 z81_14 z81_15 o81_0 o81_1 o81_2 o81_3 o81_4 o81_5 o81_6 o81_7 o81_8 o81_9 o81_10 o81_11 o81_12 o81_13 o81_14 o81_15); obtain ⟨z81_0, z81_1, z81_2, z81_3, z81_4, z81_5, z81_6, z81_7, z81_8, z81_9, z81_10, z81_11, z81_12, z81_13, z81_14, z81_15⟩ := Gv.c16 BK2.out) | ((with_reducible refine Gv.gate_load (t := 75) rfl ?_); (try (refine gate_guard (by rfl) ?_; dsimp only)); refine wpList_load_row rfl 75 _ rfl gb2 rfl 75 _ _ _ (Gv.k01 BK2.out) Try.underlying75 rfl (by kernel_rfl) ?_) | ((with_reducible refine Gv.gate_load (t := 75) rfl ?_); refine Gv.load_event (cs := [_, _, _, _, _, _, _, _, _, _, _, _, _, _, _, _]) rfl rfl rfl ⟨u0_0, u0_1, u0_2, u0_3, u0_4, u0_5, u0_6, u0_7, u0_8, u0_9, u0_10, u0_11, u0_12, u0_13, u0_14, u0_15, trivial⟩ Try.underlying75 rfl (by kernel_rfl) ?_))
         go_roundg k2
         case measure => have := HJ1.out; have := HK2.out; omega
         case rel => exact ⟨(wrap64 (x4_2 + 1)), Gv.rq, H', ⟨by have := HJ1.out; have := HK2.out; omega⟩, ⟨by (with_reducible repeat (first | refine blk_drewN ?_ _ | refine blk_drew ?_ | refine blk_alloc ?_ _)); (repeat (refine blk_far ?_ NB1_2.out _; (with_reducible repeat (first | refine blk_drewN ?_ _ | refine blk_drew ?_ | refine blk_alloc ?_ _)))); (with_reducible repeat (first | refine blk_drewN ?_ _ | refine blk_drew ?_ | refine blk_alloc ?_ _)); exact BK1.out⟩, ⟨Gv.bw⟩⟩
/-! ### spec_l11Into: function 60 -/
def spec_l11Into.l0 : Nat → Int → Int → Int → Int → List (S75) → Int → Int → Int → Int → Int → Int → Int → Int → Int → Int → Int → Int → Int → Int → Option ((List (S75)))
 | 0, _, _, _, _, _, _, _, _, _, _, _, _, _, _, _, _, _, _, _ => none
 | k + 1, x2, x6, x7, x315000, x315001, x316000, x316001, x316002, x316003, x316004, x316005, x316006, x316007, x316008, x316009, x316010, x316011, x316012, x316013 => if x7 < (x315001.length : Int) then (if 0 ≤ x6 then (if x6 < (x315001.length : Int) then (if (rd_T75 x315001 x6).f0 = true then (if (x315001.length : Int) = 0 then (none) else (spec_l11Into.l0 k x2 (Int.tmod (wrap64 (x6 + 1)) (x315001.length : Int)) (wrap64 (x7 + 1)) x315000 x315001 x316000 x316001 x316002 x316003 x316004 x316005 x316006 x316007 x316008 x316009 x316010 x316011 x316012 x316013)) else (some (x315001.set (x6 : Int).toNat (⟨true, (⟨x316000, (⟨(⟨x316001, x316002, x316003, x316004, x316005⟩ : S29), (⟨x316006, x316007, x316008, x316009, x316010⟩ : S29), x316011, x316012, x316013⟩ : S31)⟩ : S33), x2⟩ : S75)))) else (none)) else (none)) else (if 0 ≤ x6 then (if x6 < (x315001.length : Int) then (some (x315001.set (x6 : Int).toNat (⟨true, (⟨x316000, (⟨(⟨x316001, x316002, x316003, x316004, x316005⟩ : S29), (⟨x316006, x316007, x316008, x316009, x316010⟩ : S29), x316011, x316012, x316013⟩ : S31)⟩ : S33), x2⟩ : S75))) else (none)) else (none))
def spec_l11Into.f (k : Nat) (a0_0 : Int) (l0_1 : List (S75)) (a1_0 : Int) (a1_1 : Int) (a1_2 : Int) (a1_3 : Int) (a1_4 : Int) (a1_5 : Int) (a1_6 : Int) (a1_7 : Int) (a1_8 : Int) (a1_9 : Int) (a1_10 : Int) (a1_11 : Int) (a1_12 : Int) (a1_13 : Int) (a2 : Int) : Option ((List (S75))) := (spec_l11Home.f k a0_0 l0_1 a1_0 a1_1 a1_2 a1_3 a1_4 a1_5 a1_6 a1_7 a1_8 a1_9 a1_10 a1_11 a1_12 a1_13).bind fun t316 => (spec_l11Into.l0 k a2 t316 0 a0_0 l0_1 a1_0 a1_1 a1_2 a1_3 a1_4 a1_5 a1_6 a1_7 a1_8 a1_9 a1_10 a1_11 a1_12 a1_13)
set_option maxHeartbeats 8000000 in
set_option maxRecDepth 100000 in
theorem spec_l11Into.calls (k : Nat) (a0_0 : Int) (P0_1_ : Nat → Prop) (u6_ : Value) (l0_1 : List (S75)) (a1_0 : Int) (a1_1 : Int) (a1_2 : Int) (a1_3 : Int) (a1_4 : Int) (a1_5 : Int) (a1_6 : Int) (a1_7 : Int) (a1_8 : Int) (a1_9 : Int) (a1_10 : Int) (a1_11 : Int) (a1_12 : Int) (a1_13 : Int) (a2 : Int) (r : List (S75)) (w0 w : World) (hB : Below w0.heap.size w0 w) (ho0_1 : Kd.R k75 75 w w0.heap.size P0_1_ u6_ l0_1) (h : spec_l11Into.f k a0_0 l0_1 a1_0 a1_1 a1_2 a1_3 a1_4 a1_5 a1_6 a1_7 a1_8 a1_9 a1_10 a1_11 a1_12 a1_13 a2 = some r) :
  Calls Try.prog 60 #[.agg #[.int .i64 a0_0, u6_], .agg #[.int .i64 a1_0, .int .i64 a1_1, .int .i64 a1_2, .int .i64 a1_3, .int .i64 a1_4, .int .i64 a1_5, .int .i64 a1_6, .int .i64 a1_7, .int .i64 a1_8, .int .i64 a1_9, .int .i64 a1_10, .int .i64 a1_11, .int .i64 a1_12, .int .i64 a1_13], .int .i64 a2] w fun e w' => e = .returned (.tuple #[]) ∧ Kd.R k75 75 w' w0.heap.size (fun k_ => (P0_1_ k_ ∨ w.heap.size ≤ k_)) u6_ r ∧ Below w0.heap.size w0 w' ∧ Kept w w' (fun k_ => P0_1_ k_) := by
 have hu40 := Try.underlying40; have hu33 := Try.underlying33; have hu75 := Try.underlying75; have HO0_1 := Gv.a0 (show Kd.R k75 75 w w0.heap.size (fun k_ => (P0_1_ k_ ∨ w.heap.size ≤ k_)) u6_ l0_1 from Kd.R_mono ho0_1 (fun k_ hk => (.inl hk))); have HK := Gv.a0 (Kept.refl w (fun k_ => P0_1_ k_)); have HW0 := Gv.a0 hB.size; have HB := Gv.a0 hB; clear hB; unfold spec_l11Into.f at h; have H := h; clear h; replace H := Option.bind_eq_some_iff.mp H; obtain ⟨t7, A40, H⟩ := H
 (try dsimp only at H); have A4 := Gv.a0 A40; clear A40; have H' := Gv.a0 H; clear H; obtain ⟨Ao5, co5, eo5⟩ := Kd.R_slice HO0_1.out; subst eo5
 go_enter Try.func60, Try.ntmps60
 go_wp2_with (first | ((with_reducible refine gate_dst (N := 3) rfl ?_); refine Gv.bev 3 40 #[.int .i64 a0_0, .slice Ao5 l0_1.length co5] ?_; intro gb1 hg w6 hbox hb; replace HO0_1 := Gv.a0 (Kd.R_below (Gv.kr HO0_1.out) hb); have BK1 := Gv.a0 (hbox); have GW1 := Gv.a0 ((by rw [hg]; exact (by first | exact HK.out.1 | exact (show Kept w _ (fun k_ => P0_1_ k_) from by repeat (first | (with_reducible first | exact HK.out | apply Kept.alloc | apply Kept.drewN | apply Kept.drew) | exact HK.out)).1) : w.heap.size ≤ gb1)); replace HK := Gv.a0 (Kept.below (S := (fun k_ => P0_1_ k_)) (by repeat (first | (with_reducible first | exact HK.out | apply Kept.alloc | apply Kept.drewN | apply Kept.drew) | exact HK.out)) hb); have GE1 := Gv.a0 ((Gv.ble hg Gv.bw : w0.heap.size ≤ gb1)); replace HB := Gv.hb hb; clear hb hbox hg) | ((with_reducible refine gate_dst (N := 4) rfl ?_); refine Gv.bev 4 33 #[.int .i64 a1_0, .int .i64 a1_1, .int .i64 a1_2, .int .i64 a1_3, .int .i64 a1_4, .int .i64 a1_5, .int .i64 a1_6, .int .i64 a1_7, .int .i64 a1_8, .int .i64 a1_9, .int .i64 a1_10, .int .i64 a1_11, .int .i64 a1_12, .int .i64 a1_13] ?_; intro gb2 hg w7 hbox hb; replace HO0_1 := Gv.a0 (Kd.R_below (Gv.kr HO0_1.out) hb); have BK2 := Gv.a0 (hbox); have GW2 := Gv.a0 ((by rw [hg]; exact (by first | exact HK.out.1 | exact (show Kept w _ (fun k_ => P0_1_ k_) from by repeat (first | (with_reducible first | exact HK.out | apply Kept.alloc | apply Kept.drewN | apply Kept.drew | refine Kept.setCell ?_ (.inr GW1.out) _) | exact HK.out)).1) : w.heap.size ≤ gb2)); replace HK := Gv.a0 (Kept.below (S := (fun k_ => P0_1_ k_)) (by repeat (first | (with_reducible first | exact HK.out | apply Kept.alloc | apply Kept.drewN | apply Kept.drew | refine Kept.setCell ?_ (.inr GW1.out) _) | exact HK.out)) hb); have GE2 := Gv.a0 ((Gv.ble hg Gv.bw : w0.heap.size ≤ gb2)); replace HB := Gv.hb hb; have NB1_2 := Gv.a0 ((Gv.nlt hg (Gv.kb BK1.out) : gb1 ≠ gb2)); have NB2_1 := Gv.a0 ((Gv.ngt hg (Gv.kb BK1.out) : gb2 ≠ gb1)); replace BK1 := Gv.b1 BK1 hb; clear hb hbox hg; have hnb8 := NB1_2.out; have hnc8 := NB2_1.out; have z9_0 : w7.cell? ⟨gb1, 0, none⟩ = some (.int .i64 a0_0) := (blk_cell BK1.out 0).trans rfl; have z9_1 : w7.cell? ⟨gb1, 1, none⟩ = some (.slice Ao5 l0_1.length co5) := (blk_cell BK1.out 1).trans rfl; have o9_0 := blk_frozen BK1.out 0; have o9_1 := blk_frozen BK1.out 1; obtain ⟨z10_0, z10_1, z10_2, z10_3, z10_4, z10_5, z10_6, z10_7, z10_8, z10_9, z10_10, z10_11, z10_12, z10_13⟩ := Gv.c14 BK2.out) | ((with_reducible refine gate_store (t := 33) (p := 4) rfl ?_); refine Gv.store_event rfl rfl rfl rfl rfl (Gv.kb BK2.out) (by kernel_rfl) rfl (by simp; and_intros <;> rfl) ?_; intro w7s hbox hoth hbel; replace BK2 := Gv.a0 (hbox); replace HB := Gv.a0 (hbel w Gv.bw GE2.out); replace BK1 := Gv.a0 ((hoth gb1 NB1_2.out).trans (Gv.kb BK1.out)); clear hbox hoth hbel; (try clear z9_0 z9_1 o9_0 o9_1 z10_0 z10_1 z10_2 z10_3 z10_4 z10_5 z10_6 z10_7 z10_8 z10_9 z10_10 z10_11 z10_12 z10_13 o10_0 o10_1 o10_2 o10_3 o10_4 o10_5 o10_6 o10_7 o10_8 o10_9 o10_10 o10_11 o10_12 o10_13); have z9_0 : w7s.cell? ⟨gb1, 0, none⟩ = some (.int .i64 a0_0) := (blk_cell BK1.out 0).trans rfl; have z9_1 : w7s.cell? ⟨gb1, 1, none⟩ = some (.slice Ao5 l0_1.length co5) := (blk_cell BK1.out 1).trans rfl; have o9_0 := blk_frozen BK1.out 0; have o9_1 := blk_frozen BK1.out 1; obtain ⟨z10_0, z10_1, z10_2, z10_3, z10_4, z10_5, z10_6, z10_7, z10_8, z10_9, z10_10, z10_11, z10_12, z10_13⟩ := Gv.c14 BK2.out) | ((with_reducible refine gate_callee (f := 55) rfl ?_); refine goesL_ (some 10) rfl rfl Try.func55 (by kernel_rfl) rfl #[.agg #[.int .i64 a0_0, .slice Ao5 l0_1.length co5], .agg #[.int .i64 a1_0, .int .i64 a1_1, .int .i64 a1_2, .int .i64 a1_3, .int .i64 a1_4, .int .i64 a1_5, .int .i64 a1_6, .int .i64 a1_7, .int .i64 a1_8, .int .i64 a1_9, .int .i64 a1_10, .int .i64 a1_11, .int .i64 a1_12, .int .i64 a1_13]] rfl Gv.lm ?_; (with_reducible refine (spec_l11Home.calls k a0_0 _ _ l0_1 a1_0 a1_1 a1_2 a1_3 a1_4 a1_5 a1_6 a1_7 a1_8 a1_9 a1_10 a1_11 a1_12 a1_13 t7 _ ?side1 ?side2 A4.out).mono ?_); (case side1 => repeat (first | exact (Kd.R_reads' HO0_1.out).2.2 | (with_reducible refine Kd.C_alloc ?_ _) | (with_reducible refine Kd.C_drewN ?_ _) | (with_reducible refine Kd.C_drew ?_))); (case side2 => exact (Kd.R_reads' HO0_1.out).2.1); rintro e w11 ⟨rfl, hb⟩; refine ⟨_, rfl, ?_⟩; replace HO0_1 := Gv.a0 (Kd.R_below (Gv.kr HO0_1.out) hb); replace BK1 := Gv.b1 BK1 hb; replace BK2 := Gv.b1 BK2 hb; replace HK := Gv.a0 (Kept.below (S := (fun k_ => P0_1_ k_)) (by repeat (first | (with_reducible first | exact HK.out | apply Kept.alloc | apply Kept.drewN | apply Kept.drew | refine Kept.setCell ?_ (.inr GW1.out) _ | refine Kept.setCell ?_ (.inr GW2.out) _) | exact HK.out)) hb); replace HB := Gv.hb hb; clear hb) | ((with_reducible refine Gv.gate_load (t := 33) rfl ?_); (try (refine gate_guard (by rfl) ?_; dsimp only)); refine wpList_load_row rfl 33 _ rfl gb2 rfl 33 _ _ _ (Gv.k01 BK2.out) Try.underlying33 rfl (by kernel_rfl) ?_) | ((with_reducible refine Gv.gate_load (t := 31) rfl ?_); (try (refine gate_guard (by rfl) ?_; dsimp only)); refine Gv.sub_event (g := gb2) 13 rfl rfl rfl (Gv.k01 BK2.out) Try.underlying31 rfl (by kernel_rfl) ?_))
 go_loopg [6, 7] k (fun kq v6 v7 w' => ∃ (x6_1 : Int) (x7_1 : Int), v6 = .int .i64 x6_1 ∧ v7 = .int .i64 x7_1 ∧ Aside0 (spec_l11Into.l0 kq a2 x6_1 x7_1 a0_0 l0_1 a1_0 a1_1 a1_2 a1_3 a1_4 a1_5 a1_6 a1_7 a1_8 a1_9 a1_10 a1_11 a1_12 a1_13 = some r) ∧ Aside0 (kq ≤ k) ∧ Aside0 (Kd.R k75 75 w' w0.heap.size (fun k_ => (P0_1_ k_ ∨ w.heap.size ≤ k_)) (.slice Ao5 l0_1.length co5) l0_1) ∧ Aside0 (w'.heap[gb1]? = some (.cells #[.int .i64 a0_0, (.slice Ao5 l0_1.length co5)] 40 (0, 0))) ∧ Aside0 (w'.heap[gb2]? = some (.cells #[.int .i64 a1_0, .int .i64 a1_1, .int .i64 a1_2, .int .i64 a1_3, .int .i64 a1_4, .int .i64 a1_5, .int .i64 a1_6, .int .i64 a1_7, .int .i64 a1_8, .int .i64 a1_9, .int .i64 a1_10, .int .i64 a1_11, .int .i64 a1_12, .int .i64 a1_13] 33 (0, 0))) ∧ Aside0 (Kept w w' (fun k_ => P0_1_ k_)) ∧ Aside0 (Below w0.heap.size w0 w'))
 case atStart => exact ⟨(t7), (0), Gv.rq, Gv.rq, H', ⟨Nat.le_refl _⟩, ⟨Gv.kr HO0_1.out⟩, ⟨by (with_reducible repeat (first | refine blk_drewN ?_ _ | refine blk_drew ?_ | refine blk_alloc ?_ _)); exact BK1.out⟩, ⟨by (with_reducible repeat (first | refine blk_drewN ?_ _ | refine blk_drew ?_ | refine blk_alloc ?_ _)); exact BK2.out⟩, ⟨by repeat (first | (with_reducible first | exact HK.out | apply Kept.alloc | apply Kept.drewN | apply Kept.drew | refine Kept.setCell ?_ (.inr GW1.out) _ | refine Kept.setCell ?_ (.inr GW2.out) _) | exact HK.out)⟩, ⟨Gv.bw⟩⟩
 case round =>
  clear H'
  try clear p2
  try clear c5
  try clear c6
  try clear c8
  try clear z10_0 z10_1
  try clear z10_10 z10_11 z10_12 z10_13
  try clear z10_2 z10_3 z10_4 z10_5 z10_6 z10_7 z10_8 z10_9
  try clear z9_0 z9_1
  try clear o10_0 o10_1
  try clear o10_10 o10_11 o10_12 o10_13
  try clear o10_2 o10_3 o10_4 o10_5 o10_6 o10_7 o10_8 o10_9
  try clear o9_0 o9_1
  obtain ⟨x6_1, x7_1, rfl, rfl, HA, HK1, HO_3, BK1, BK2, HK, HB⟩ := hrel; cases gk with
  | zero => exact absurd HA.out (by simp [spec_l11Into.l0])
  | succ k1 =>
   have H := HA.out; clear HA; simp only [spec_l11Into.l0] at H
   by_cases c12 : x7_1 < (l0_1.length : Int)
   ·rw [if_pos c12] at H; have c12b0 := decide_eq_true c12; clear c12
    by_cases c13 : 0 ≤ x6_1
    rotate_left
    ·rw [if_neg c13] at H; cases H
    rw [if_pos c13] at H; have c13b0 := decide_eq_true c13; clear c13
    by_cases c14 : x6_1 < (l0_1.length : Int)
    rotate_left
    ·rw [if_neg c14] at H; cases H
    rw [if_pos c14] at H; have c14b0 := decide_eq_true c14; clear c14; obtain ⟨bq15, hbq15⟩ : ∃ b_ : Bool, b_ = ((rd_T75 l0_1 x6_1).f0) := ⟨_, rfl⟩
    replace H : (if bq15 = true then (if (l0_1.length : Int) = 0 then (none) else (spec_l11Into.l0 k1 a2 (Int.tmod (wrap64 (x6_1 + 1)) (l0_1.length : Int)) (wrap64 (x7_1 + 1)) a0_0 l0_1 a1_0 a1_1 a1_2 a1_3 a1_4 a1_5 a1_6 a1_7 a1_8 a1_9 a1_10 a1_11 a1_12 a1_13)) else (some (l0_1.set (x6_1 : Int).toNat (⟨true, (⟨a1_0, (⟨(⟨a1_1, a1_2, a1_3, a1_4, a1_5⟩ : S29), (⟨a1_6, a1_7, a1_8, a1_9, a1_10⟩ : S29), a1_11, a1_12, a1_13⟩ : S31)⟩ : S33), a2⟩ : S75)))) = some r := by rw [← hbq15] at H; exact H
    have Nbq15 := Gv.a0 hbq15; clear hbq15
    by_cases c16 : bq15 = true
    ·subst c16; rw [if_pos rfl] at H
     (try dsimp only at H)
     by_cases c17 : (l0_1.length : Int) = 0
     ·rw [if_pos c17] at H; cases H
     ·rw [if_neg c17] at H; have c17b0 : ((l0_1.length : Int) == 0) = false := beq_eq_false_iff_ne.mpr c17; have c17b1 : ((l0_1.length : Int) != 0) = true := bne_iff_ne.mpr c17; have c17b2 : ¬ (l0_1 = []) := fun h_ => c17 (by rw [h_]; rfl)
      have H' := Gv.a0 H; clear H; have hnb18 := NB1_2.out; have hnc18 := NB2_1.out; have z19_0 : wr.cell? ⟨gb1, 0, none⟩ = some (.int .i64 a0_0) := (blk_cell BK1.out 0).trans rfl; have z19_1 : wr.cell? ⟨gb1, 1, none⟩ = some (.slice Ao5 l0_1.length co5) := (blk_cell BK1.out 1).trans rfl; have o19_0 := blk_frozen BK1.out 0; have o19_1 := blk_frozen BK1.out 1; have p0 : 0 ≤ (x6_1 : Int) := Gv.od; have q0 : x6_1 < (l0_1.length : Int) := Gv.od; obtain ⟨ad0, e0, u0_0, u0_1, u0_2, u0_3, u0_4, u0_5, u0_6, u0_7, u0_8, u0_9, u0_10, u0_11, u0_12, u0_13, u0_14, u0_15⟩ := at_T75 (Kd.R_reads' HO_3.out).2.2 x6_1 p0 q0
      (try rw [← Nbq15.out] at u0_0); cases e0; replace p0 := eq_true p0; replace q0 := eq_true q0
      go_wp2_with (first | ((with_reducible refine Gv.gate_load (t := 33) rfl ?_); (try (refine gate_guard (by rfl) ?_; dsimp only)); refine wpList_load_row rfl 33 _ rfl gb2 rfl 33 _ _ _ (Gv.k01 BK2.out) Try.underlying33 rfl (by kernel_rfl) ?_) | ((with_reducible refine Gv.gate_load (t := 31) rfl ?_); (try (refine gate_guard (by rfl) ?_; dsimp only)); refine Gv.sub_event (g := gb2) 13 rfl rfl rfl (Gv.k01 BK2.out) Try.underlying31 rfl (by kernel_rfl) ?_))
      go_roundg k1
      case measure => have := HK1.out; omega
      case rel => exact ⟨(Int.tmod (wrap64 (x6_1 + 1)) (l0_1.length : Int)), (wrap64 (x7_1 + 1)), Gv.rq, Gv.rq, H', ⟨by have := HK1.out; omega⟩, ⟨Gv.kr HO_3.out⟩, ⟨by (with_reducible repeat (first | refine blk_drewN ?_ _ | refine blk_drew ?_ | refine blk_alloc ?_ _)); exact BK1.out⟩, ⟨by (with_reducible repeat (first | refine blk_drewN ?_ _ | refine blk_drew ?_ | refine blk_alloc ?_ _)); exact BK2.out⟩, ⟨by repeat (first | (with_reducible first | exact HK.out | apply Kept.alloc | apply Kept.drewN | apply Kept.drew | refine Kept.setCell ?_ (.inr GW1.out) _ | refine Kept.setCell ?_ (.inr GW2.out) _) | exact HK.out)⟩, ⟨Gv.bw⟩⟩
    ·replace c16 := Bool.eq_false_iff.mpr c16; subst c16; rw [if_neg (show ¬ (false = true) by decide)] at H
     (try dsimp only at H); obtain ⟨y4, hy4⟩ : ∃ y_ : List (S75), y_ = (l0_1.set (x6_1 : Int).toNat (⟨true, (⟨a1_0, (⟨(⟨a1_1, a1_2, a1_3, a1_4, a1_5⟩ : S29), (⟨a1_6, a1_7, a1_8, a1_9, a1_10⟩ : S29), a1_11, a1_12, a1_13⟩ : S31)⟩ : S33), a2⟩ : S75)) := ⟨_, rfl⟩
     replace H : (some y4) = some r := by first | (rw [hy4]; with_reducible exact H) | (have H2_ := (Option.bind_some _ _).symm.trans H; rw [hy4]; with_reducible exact H2_) | (have H2_ := (Option.bind_some _ _).symm.trans H; with_reducible exact H2_) | with_reducible exact H | (rw [hy4]; exact H) | exact H
     have Ny4 := Gv.a0 hy4; clear hy4; obtain rfl := Option.some.inj H; have hnb21 := NB1_2.out; have hnc21 := NB2_1.out; have z22_0 : wr.cell? ⟨gb1, 0, none⟩ = some (.int .i64 a0_0) := (blk_cell BK1.out 0).trans rfl; have z22_1 : wr.cell? ⟨gb1, 1, none⟩ = some (.slice Ao5 l0_1.length co5) := (blk_cell BK1.out 1).trans rfl; have o22_0 := blk_frozen BK1.out 0; have o22_1 := blk_frozen BK1.out 1; have p0 : 0 ≤ (x6_1 : Int) := Gv.od; have q0 : x6_1 < (l0_1.length : Int) := Gv.od; obtain ⟨ad0, e0, u0_0, u0_1, u0_2, u0_3, u0_4, u0_5, u0_6, u0_7, u0_8, u0_9, u0_10, u0_11, u0_12, u0_13, u0_14, u0_15⟩ := at_T75 (Kd.R_reads' HO_3.out).2.2 x6_1 p0 q0
     (try rw [← Nbq15.out] at u0_0); cases e0; replace p0 := eq_true p0; replace q0 := eq_true q0; obtain ⟨z23_0, z23_1, z23_2, z23_3, z23_4, z23_5, z23_6, z23_7, z23_8, z23_9, z23_10, z23_11, z23_12, z23_13⟩ := Gv.c14 BK2.out; have p20 : 0 ≤ (x6_1 : Int) := Gv.od; have q20 : (x6_1 : Int) < ((l0_1.length : Int) : Int) := Gv.od; obtain ⟨go20, co20, eo20, gb20, gl20, cl20, HG20⟩ := Kd.R_form HO_3.out (by omega)
     (first | cases eo20 | (injection eo20 with ea_ en_ ec_; (first | subst ea_ | (injection ea_ with ea_; subst ea_)); subst ec_; clear en_)); have GB20 := Gv.a0 gb20; have GG20 := Gv.a0 HG20; clear gb20 gl20 HG20; have HMgo20 := Gv.a0 (show (P0_1_ go20 ∨ w.heap.size ≤ go20) from (HO_3.out.1 _ rfl))
     (try simp only [add_plain] at u0_0 u0_1 u0_2 u0_3 u0_4 u0_5 u0_6 u0_7 u0_8 u0_9 u0_10 u0_11 u0_12 u0_13 u0_14 u0_15); obtain ⟨ce20, hcl20, hM20, hcc20, hfr20⟩ := Kd.R_elem HO_3.out z75 (x6_1 : Int) p20 q20; obtain rfl := k75_openM hM20; have u20_0 := hcc20 0 _ rfl; have u20_1 := hcc20 1 _ rfl; have u20_2 := hcc20 2 _ rfl; have u20_3 := hcc20 3 _ rfl; have u20_4 := hcc20 4 _ rfl; have u20_5 := hcc20 5 _ rfl; have u20_6 := hcc20 6 _ rfl; have u20_7 := hcc20 7 _ rfl; have u20_8 := hcc20 8 _ rfl; have u20_9 := hcc20 9 _ rfl; have u20_10 := hcc20 10 _ rfl; have u20_11 := hcc20 11 _ rfl; have u20_12 := hcc20 12 _ rfl; have u20_13 := hcc20 13 _ rfl; have u20_14 := hcc20 14 _ rfl; have u20_15 := hcc20 15 _ rfl; have n20_0 := hfr20 0; have n20_1 := hfr20 1; have n20_2 := hfr20 2; have n20_3 := hfr20 3; have n20_4 := hfr20 4; have n20_5 := hfr20 5; have n20_6 := hfr20 6; have n20_7 := hfr20 7; have n20_8 := hfr20 8; have n20_9 := hfr20 9; have n20_10 := hfr20 10; have n20_11 := hfr20 11; have n20_12 := hfr20 12; have n20_13 := hfr20 13; have n20_14 := hfr20 14; have n20_15 := hfr20 15
     (try simp only [show (k75).sz = 16 from rfl, Nat.mul_one, Nat.add_zero] at u20_0 u20_1 u20_2 u20_3 u20_4 u20_5 u20_6 u20_7 u20_8 u20_9 u20_10 u20_11 u20_12 u20_13 u20_14 u20_15 n20_0 n20_1 n20_2 n20_3 n20_4 n20_5 n20_6 n20_7 n20_8 n20_9 n20_10 n20_11 n20_12 n20_13 n20_14 n20_15); clear hcl20 hcc20 hfr20 hM20; replace p20 := eq_true p20; replace q20 := eq_true q20; have HX24 := Gv.a0 (show Kd.R k75 75 wr w0.heap.size (fun k_ => (P0_1_ k_ ∨ w.heap.size ≤ k_)) (.slice (some ⟨go20, 0, none⟩) l0_1.length co5) l0_1 from (Gv.kr HO_3.out)); obtain ⟨ce24, hcl24, hM24, hcc24, hfr24⟩ := Kd.R_elem HX24.out z75 (x6_1 : Int) (Gv.od) (by have h_ : (x6_1 : Int) < ((l0_1.length : Int) : Int) := Gv.od; first | exact h_ | (have e_ := (Kd.R_reads' HO_3.out).1; omega) | simpa using h_); obtain rfl := k75_openM hM24; have HP24 := Kd.R_seg HX24.out (x6_1 : Int) (Gv.od) (by have h_ : (x6_1 : Int) < ((l0_1.length : Int) : Int) := Gv.od; first | exact h_ | (have e_ := (Kd.R_reads' HO_3.out).1; omega) | simpa using h_) (seg := [.bool true, .int .i64 a1_0, .int .i64 a1_1, .int .i64 a1_2, .int .i64 a1_3, .int .i64 a1_4, .int .i64 a1_5, .int .i64 a1_6, .int .i64 a1_7, .int .i64 a1_8, .int .i64 a1_9, .int .i64 a1_10, .int .i64 a1_11, .int .i64 a1_12, .int .i64 a1_13, .int .i64 a2]) (j := 0) hcl24 hcc24 (show 16 ≤ 16 from by decide) (x' := (⟨true, (⟨a1_0, (⟨(⟨a1_1, a1_2, a1_3, a1_4, a1_5⟩ : S29), (⟨a1_6, a1_7, a1_8, a1_9, a1_10⟩ : S29), a1_11, a1_12, a1_13⟩ : S31)⟩ : S33), a2⟩ : S75)) (k75_mkM _ _ _ (⟨true, (⟨a1_0, (⟨(⟨a1_1, a1_2, a1_3, a1_4, a1_5⟩ : S29), (⟨a1_6, a1_7, a1_8, a1_9, a1_10⟩ : S29), a1_11, a1_12, a1_13⟩ : S31)⟩ : S33), a2⟩ : S75) ) (fun _ hk => hk); have u24_0 := hcc24 0 _ rfl; have n24_0 := hfr24 0; have u24_1 := hcc24 1 _ rfl; have n24_1 := hfr24 1; have u24_2 := hcc24 2 _ rfl; have n24_2 := hfr24 2; have u24_3 := hcc24 3 _ rfl; have n24_3 := hfr24 3; have u24_4 := hcc24 4 _ rfl; have n24_4 := hfr24 4; have u24_5 := hcc24 5 _ rfl; have n24_5 := hfr24 5; have u24_6 := hcc24 6 _ rfl; have n24_6 := hfr24 6; have u24_7 := hcc24 7 _ rfl; have n24_7 := hfr24 7; have u24_8 := hcc24 8 _ rfl; have n24_8 := hfr24 8; have u24_9 := hcc24 9 _ rfl; have n24_9 := hfr24 9; have u24_10 := hcc24 10 _ rfl; have n24_10 := hfr24 10; have u24_11 := hcc24 11 _ rfl; have n24_11 := hfr24 11; have u24_12 := hcc24 12 _ rfl; have n24_12 := hfr24 12; have u24_13 := hcc24 13 _ rfl; have n24_13 := hfr24 13; have u24_14 := hcc24 14 _ rfl; have n24_14 := hfr24 14; have u24_15 := hcc24 15 _ rfl; have n24_15 := hfr24 15
     (try simp only [show (k75).sz = 16 from rfl, Nat.mul_one, Nat.add_zero] at u24_0 n24_0 u24_1 n24_1 u24_2 n24_2 u24_3 n24_3 u24_4 n24_4 u24_5 n24_5 u24_6 n24_6 u24_7 n24_7 u24_8 n24_8 u24_9 n24_9 u24_10 n24_10 u24_11 n24_11 u24_12 n24_12 u24_13 n24_13 u24_14 n24_14 u24_15 n24_15); clear hcl24 hcc24 hfr24 hM24
     go_wp2_with (first | ((with_reducible refine gate_store (t := 75) (p := 38) rfl ?_); refine store_event (t := 75) (p := 38) (v := ?vo_w25) (w1 := ((((((((((((((((wr.setCell ⟨go20, (x6_1 : Int).toNat * 16, none⟩ (.bool true)).setCell ⟨go20, (x6_1 : Int).toNat * 16 + 1, none⟩ (.int .i64 a1_0)).setCell ⟨go20, (x6_1 : Int).toNat * 16 + 2, none⟩ (.int .i64 a1_1)).setCell ⟨go20, (x6_1 : Int).toNat * 16 + 3, none⟩ (.int .i64 a1_2)).setCell ⟨go20, (x6_1 : Int).toNat * 16 + 4, none⟩ (.int .i64 a1_3)).setCell ⟨go20, (x6_1 : Int).toNat * 16 + 5, none⟩ (.int .i64 a1_4)).setCell ⟨go20, (x6_1 : Int).toNat * 16 + 6, none⟩ (.int .i64 a1_5)).setCell ⟨go20, (x6_1 : Int).toNat * 16 + 7, none⟩ (.int .i64 a1_6)).setCell ⟨go20, (x6_1 : Int).toNat * 16 + 8, none⟩ (.int .i64 a1_7)).setCell ⟨go20, (x6_1 : Int).toNat * 16 + 9, none⟩ (.int .i64 a1_8)).setCell ⟨go20, (x6_1 : Int).toNat * 16 + 10, none⟩ (.int .i64 a1_9)).setCell ⟨go20, (x6_1 : Int).toNat * 16 + 11, none⟩ (.int .i64 a1_10)).setCell ⟨go20, (x6_1 : Int).toNat * 16 + 12, none⟩ (.int .i64 a1_11)).setCell ⟨go20, (x6_1 : Int).toNat * 16 + 13, none⟩ (.int .i64 a1_12)).setCell ⟨go20, (x6_1 : Int).toNat * 16 + 14, none⟩ (.int .i64 a1_13)).setCell ⟨go20, (x6_1 : Int).toNat * 16 + 15, none⟩ (.int .i64 a2))) ?hg ?ho ?hn ?hr ?_; (case ho => rfl); (case hg => rfl); (case hn => rfl); (case hr => first | (go_simp; done) | (go_simp; rfl)); intro w25 hw; have hg : wr.grownBy w25 (some go20) := (by rw [hw]; exact HP24.2); have hp_ : Kd.R k75 75 w25 w0.heap.size (fun k_ => (P0_1_ k_ ∨ w.heap.size ≤ k_)) (.slice (some ⟨go20, 0, none⟩) l0_1.length co5) y4 := (by rw [hw, Ny4.out]; exact HP24.1); clear HP24; replace BK1 := Gv.a0 (blk_grown (g := gb1) (o := .cells #[.int .i64 a0_0, .slice (some ⟨go20, 0, none⟩) l0_1.length co5] 40 (0, 0)) Gv.bk hg (Kd.R_ne HO_3.out BK1.out (by decide))); replace BK2 := Gv.a0 (blk_grown (g := gb2) (o := .cells #[.int .i64 a1_0, .int .i64 a1_1, .int .i64 a1_2, .int .i64 a1_3, .int .i64 a1_4, .int .i64 a1_5, .int .i64 a1_6, .int .i64 a1_7, .int .i64 a1_8, .int .i64 a1_9, .int .i64 a1_10, .int .i64 a1_11, .int .i64 a1_12, .int .i64 a1_13] 33 (0, 0)) Gv.bk hg (Kd.R_ne HO_3.out BK2.out (by decide))); replace HB := Gv.a0 ((by rw [hw]; exact below_set (below_set (below_set (below_set (below_set (below_set (below_set (below_set (below_set (below_set (below_set (below_set (below_set (below_set (below_set (below_set (HB.out) GB20.out) GB20.out) GB20.out) GB20.out) GB20.out) GB20.out) GB20.out) GB20.out) GB20.out) GB20.out) GB20.out) GB20.out) GB20.out) GB20.out) GB20.out) GB20.out : Below w0.heap.size w0 w25)); replace HK := Gv.a0 (Kept.of_grown (S := (fun k_ => P0_1_ k_)) hg (by repeat (first | (with_reducible first | exact HK.out | apply Kept.alloc | apply Kept.drewN | apply Kept.drew | refine Kept.setCell ?_ (.inr GW1.out) _ | refine Kept.setCell ?_ (.inr GW2.out) _) | exact HK.out)) (fun k_ e_ => (HO_3.out.1 k_ e_))); replace HO_3 := Gv.a0 (hp_); clear hg hw hp_) | ((with_reducible refine Gv.gate_load (t := 33) rfl ?_); (try (refine gate_guard (by rfl) ?_; dsimp only)); refine wpList_load_row rfl 33 _ rfl gb2 rfl 33 _ _ _ (Gv.k01 BK2.out) Try.underlying33 rfl (by kernel_rfl) ?_) | ((with_reducible refine Gv.gate_load (t := 31) rfl ?_); (try (refine gate_guard (by rfl) ?_; dsimp only)); refine Gv.sub_event (g := gb2) 13 rfl rfl rfl (Gv.k01 BK2.out) Try.underlying31 rfl (by kernel_rfl) ?_) | ((with_reducible refine Gv.gate_load (t := 75) rfl ?_); refine Gv.load_event (cs := [_, _, _, _, _, _, _, _, _, _, _, _, _, _, _, _]) rfl rfl rfl ⟨u0_0, u0_1, u0_2, u0_3, u0_4, u0_5, u0_6, u0_7, u0_8, u0_9, u0_10, u0_11, u0_12, u0_13, u0_14, u0_15, trivial⟩ Try.underlying75 rfl (by kernel_rfl) ?_))
     first | go_end0 | ((try simp only [Exit.inBlock, Exit.then]); refine bodyPost_ret (results_none rfl _ _ _) rfl ?_)
     exact ⟨Gv.rt, Gv.kr HO_3.out, Gv.bw, by repeat (first | (with_reducible first | exact HK.out | apply Kept.alloc | apply Kept.drewN | apply Kept.drew | refine Kept.setCell ?_ (.inr GW1.out) _ | refine Kept.setCell ?_ (.inr GW2.out) _) | exact HK.out)⟩
   ·rw [if_neg c12] at H; have c12b0 := decide_eq_false c12; clear c12
    by_cases c26 : 0 ≤ x6_1
    rotate_left
    ·rw [if_neg c26] at H; cases H

    rw [if_pos c26] at H; have c26b0 := decide_eq_true c26; clear c26
    by_cases c27 : x6_1 < (l0_1.length : Int)
    rotate_left
    ·rw [if_neg c27] at H; cases H
    rw [if_pos c27] at H; have c27b0 := decide_eq_true c27; clear c27; obtain ⟨y5, hy5⟩ : ∃ y_ : List (S75), y_ = (l0_1.set (x6_1 : Int).toNat (⟨true, (⟨a1_0, (⟨(⟨a1_1, a1_2, a1_3, a1_4, a1_5⟩ : S29), (⟨a1_6, a1_7, a1_8, a1_9, a1_10⟩ : S29), a1_11, a1_12, a1_13⟩ : S31)⟩ : S33), a2⟩ : S75)) := ⟨_, rfl⟩
    replace H : (some y5) = some r := by first | (rw [hy5]; with_reducible exact H) | (have H2_ := (Option.bind_some _ _).symm.trans H; rw [hy5]; with_reducible exact H2_) | (have H2_ := (Option.bind_some _ _).symm.trans H; with_reducible exact H2_) | with_reducible exact H | (rw [hy5]; exact H) | exact H
    have Ny5 := Gv.a0 hy5; clear hy5; obtain rfl := Option.some.inj H; have hnb29 := NB1_2.out; have hnc29 := NB2_1.out; have z30_0 : wr.cell? ⟨gb1, 0, none⟩ = some (.int .i64 a0_0) := (blk_cell BK1.out 0).trans rfl; have z30_1 : wr.cell? ⟨gb1, 1, none⟩ = some (.slice Ao5 l0_1.length co5) := (blk_cell BK1.out 1).trans rfl; have o30_0 := blk_frozen BK1.out 0; have o30_1 := blk_frozen BK1.out 1; obtain ⟨z31_0, z31_1, z31_2, z31_3, z31_4, z31_5, z31_6, z31_7, z31_8, z31_9, z31_10, z31_11, z31_12, z31_13⟩ := Gv.c14 BK2.out; have p28 : 0 ≤ (x6_1 : Int) := Gv.od; have q28 : (x6_1 : Int) < ((l0_1.length : Int) : Int) := Gv.od; obtain ⟨go28, co28, eo28, gb28, gl28, cl28, HG28⟩ := Kd.R_form HO_3.out (by omega)
    (first | cases eo28 | (injection eo28 with ea_ en_ ec_; (first | subst ea_ | (injection ea_ with ea_; subst ea_)); subst ec_; clear en_)); have GB28 := Gv.a0 gb28; have GG28 := Gv.a0 HG28; clear gb28 gl28 HG28; have HMgo28 := Gv.a0 (show (P0_1_ go28 ∨ w.heap.size ≤ go28) from (HO_3.out.1 _ rfl)); obtain ⟨ce28, hcl28, hM28, hcc28, hfr28⟩ := Kd.R_elem HO_3.out z75 (x6_1 : Int) p28 q28; obtain rfl := k75_openM hM28; have u28_0 := hcc28 0 _ rfl; have u28_1 := hcc28 1 _ rfl; have u28_2 := hcc28 2 _ rfl; have u28_3 := hcc28 3 _ rfl; have u28_4 := hcc28 4 _ rfl; have u28_5 := hcc28 5 _ rfl; have u28_6 := hcc28 6 _ rfl; have u28_7 := hcc28 7 _ rfl; have u28_8 := hcc28 8 _ rfl; have u28_9 := hcc28 9 _ rfl; have u28_10 := hcc28 10 _ rfl; have u28_11 := hcc28 11 _ rfl; have u28_12 := hcc28 12 _ rfl; have u28_13 := hcc28 13 _ rfl; have u28_14 := hcc28 14 _ rfl; have u28_15 := hcc28 15 _ rfl; have n28_0 := hfr28 0; have n28_1 := hfr28 1; have n28_2 := hfr28 2; have n28_3 := hfr28 3; have n28_4 := hfr28 4; have n28_5 := hfr28 5; have n28_6 := hfr28 6; have n28_7 := hfr28 7; have n28_8 := hfr28 8; have n28_9 := hfr28 9; have n28_10 := hfr28 10; have n28_11 := hfr28 11; have n28_12 := hfr28 12; have n28_13 := hfr28 13; have n28_14 := hfr28 14; have n28_15 := hfr28 15
    (try simp only [show (k75).sz = 16 from rfl, Nat.mul_one, Nat.add_zero] at u28_0 u28_1 u28_2 u28_3 u28_4 u28_5 u28_6 u28_7 u28_8 u28_9 u28_10 u28_11 u28_12 u28_13 u28_14 u28_15 n28_0 n28_1 n28_2 n28_3 n28_4 n28_5 n28_6 n28_7 n28_8 n28_9 n28_10 n28_11 n28_12 n28_13 n28_14 n28_15); clear hcl28 hcc28 hfr28 hM28; replace p28 := eq_true p28; replace q28 := eq_true q28; have HX32 := Gv.a0 (show Kd.R k75 75 wr w0.heap.size (fun k_ => (P0_1_ k_ ∨ w.heap.size ≤ k_)) (.slice (some ⟨go28, 0, none⟩) l0_1.length co5) l0_1 from (Gv.kr HO_3.out)); obtain ⟨ce32, hcl32, hM32, hcc32, hfr32⟩ := Kd.R_elem HX32.out z75 (x6_1 : Int) (Gv.od) (by have h_ : (x6_1 : Int) < ((l0_1.length : Int) : Int) := Gv.od; first | exact h_ | (have e_ := (Kd.R_reads' HO_3.out).1; omega) | simpa using h_); obtain rfl := k75_openM hM32; have HP32 := Kd.R_seg HX32.out (x6_1 : Int) (Gv.od) (by have h_ : (x6_1 : Int) < ((l0_1.length : Int) : Int) := Gv.od; first | exact h_ | (have e_ := (Kd.R_reads' HO_3.out).1; omega) | simpa using h_) (seg := [.bool true, .int .i64 a1_0, .int .i64 a1_1, .int .i64 a1_2, .int .i64 a1_3, .int .i64 a1_4, .int .i64 a1_5, .int .i64 a1_6, .int .i64 a1_7, .int .i64 a1_8, .int .i64 a1_9, .int .i64 a1_10, .int .i64 a1_11, .int .i64 a1_12, .int .i64 a1_13, .int .i64 a2]) (j := 0) hcl32 hcc32 (show 16 ≤ 16 from by decide) (x' := (⟨true, (⟨a1_0, (⟨(⟨a1_1, a1_2, a1_3, a1_4, a1_5⟩ : S29), (⟨a1_6, a1_7, a1_8, a1_9, a1_10⟩ : S29), a1_11, a1_12, a1_13⟩ : S31)⟩ : S33), a2⟩ : S75)) (k75_mkM _ _ _ (⟨true, (⟨a1_0, (⟨(⟨a1_1, a1_2, a1_3, a1_4, a1_5⟩ : S29), (⟨a1_6, a1_7, a1_8, a1_9, a1_10⟩ : S29), a1_11, a1_12, a1_13⟩ : S31)⟩ : S33), a2⟩ : S75) ) (fun _ hk => hk); have u32_0 := hcc32 0 _ rfl; have n32_0 := hfr32 0; have u32_1 := hcc32 1 _ rfl; have n32_1 := hfr32 1; have u32_2 := hcc32 2 _ rfl; have n32_2 := hfr32 2; have u32_3 := hcc32 3 _ rfl; have n32_3 := hfr32 3; have u32_4 := hcc32 4 _ rfl; have n32_4 := hfr32 4; have u32_5 := hcc32 5 _ rfl; have n32_5 := hfr32 5; have u32_6 := hcc32 6 _ rfl; have n32_6 := hfr32 6; have u32_7 := hcc32 7 _ rfl; have n32_7 := hfr32 7; have u32_8 := hcc32 8 _ rfl; have n32_8 := hfr32 8; have u32_9 := hcc32 9 _ rfl; have n32_9 := hfr32 9; have u32_10 := hcc32 10 _ rfl; have n32_10 := hfr32 10; have u32_11 := hcc32 11 _ rfl; have n32_11 := hfr32 11; have u32_12 := hcc32 12 _ rfl; have n32_12 := hfr32 12; have u32_13 := hcc32 13 _ rfl; have n32_13 := hfr32 13; have u32_14 := hcc32 14 _ rfl; have n32_14 := hfr32 14; have u32_15 := hcc32 15 _ rfl; have n32_15 := hfr32 15
    (try simp only [show (k75).sz = 16 from rfl, Nat.mul_one, Nat.add_zero] at u32_0 n32_0 u32_1 n32_1 u32_2 n32_2 u32_3 n32_3 u32_4 n32_4 u32_5 n32_5 u32_6 n32_6 u32_7 n32_7 u32_8 n32_8 u32_9 n32_9 u32_10 n32_10 u32_11 n32_11 u32_12 n32_12 u32_13 n32_13 u32_14 n32_14 u32_15 n32_15); clear hcl32 hcc32 hfr32 hM32
    go_wp2_with (first | ((with_reducible refine gate_store (t := 75) (p := 38) rfl ?_); refine store_event (t := 75) (p := 38) (v := ?vo_w33) (w1 := ((((((((((((((((wr.setCell ⟨go28, (x6_1 : Int).toNat * 16, none⟩ (.bool true)).setCell ⟨go28, (x6_1 : Int).toNat * 16 + 1, none⟩ (.int .i64 a1_0)).setCell ⟨go28, (x6_1 : Int).toNat * 16 + 2, none⟩ (.int .i64 a1_1)).setCell ⟨go28, (x6_1 : Int).toNat * 16 + 3, none⟩ (.int .i64 a1_2)).setCell ⟨go28, (x6_1 : Int).toNat * 16 + 4, none⟩ (.int .i64 a1_3)).setCell ⟨go28, (x6_1 : Int).toNat * 16 + 5, none⟩ (.int .i64 a1_4)).setCell ⟨go28, (x6_1 : Int).toNat * 16 + 6, none⟩ (.int .i64 a1_5)).setCell ⟨go28, (x6_1 : Int).toNat * 16 + 7, none⟩ (.int .i64 a1_6)).setCell ⟨go28, (x6_1 : Int).toNat * 16 + 8, none⟩ (.int .i64 a1_7)).setCell ⟨go28, (x6_1 : Int).toNat * 16 + 9, none⟩ (.int .i64 a1_8)).setCell ⟨go28, (x6_1 : Int).toNat * 16 + 10, none⟩ (.int .i64 a1_9)).setCell ⟨go28, (x6_1 : Int).toNat * 16 + 11, none⟩ (.int .i64 a1_10)).setCell ⟨go28, (x6_1 : Int).toNat * 16 + 12, none⟩ (.int .i64 a1_11)).setCell ⟨go28, (x6_1 : Int).toNat * 16 + 13, none⟩ (.int .i64 a1_12)).setCell ⟨go28, (x6_1 : Int).toNat * 16 + 14, none⟩ (.int .i64 a1_13)).setCell ⟨go28, (x6_1 : Int).toNat * 16 + 15, none⟩ (.int .i64 a2))) ?hg ?ho ?hn ?hr ?_; (case ho => rfl); (case hg => rfl); (case hn => rfl); (case hr => first | (go_simp; done) | (go_simp; rfl)); intro w33 hw; have hg : wr.grownBy w33 (some go28) := (by rw [hw]; exact HP32.2); have hp_ : Kd.R k75 75 w33 w0.heap.size (fun k_ => (P0_1_ k_ ∨ w.heap.size ≤ k_)) (.slice (some ⟨go28, 0, none⟩) l0_1.length co5) y5 := (by rw [hw, Ny5.out]; exact HP32.1); clear HP32; replace BK1 := Gv.a0 (blk_grown (g := gb1) (o := .cells #[.int .i64 a0_0, .slice (some ⟨go28, 0, none⟩) l0_1.length co5] 40 (0, 0)) Gv.bk hg (Kd.R_ne HO_3.out BK1.out (by decide))); replace BK2 := Gv.a0 (blk_grown (g := gb2) (o := .cells #[.int .i64 a1_0, .int .i64 a1_1, .int .i64 a1_2, .int .i64 a1_3, .int .i64 a1_4, .int .i64 a1_5, .int .i64 a1_6, .int .i64 a1_7, .int .i64 a1_8, .int .i64 a1_9, .int .i64 a1_10, .int .i64 a1_11, .int .i64 a1_12, .int .i64 a1_13] 33 (0, 0)) Gv.bk hg (Kd.R_ne HO_3.out BK2.out (by decide))); replace HB := Gv.a0 ((by rw [hw]; exact below_set (below_set (below_set (below_set (below_set (below_set (below_set (below_set (below_set (below_set (below_set (below_set (below_set (below_set (below_set (below_set (HB.out) GB28.out) GB28.out) GB28.out) GB28.out) GB28.out) GB28.out) GB28.out) GB28.out) GB28.out) GB28.out) GB28.out) GB28.out) GB28.out) GB28.out) GB28.out) GB28.out : Below w0.heap.size w0 w33)); replace HK := Gv.a0 (Kept.of_grown (S := (fun k_ => P0_1_ k_)) hg (by repeat (first | (with_reducible first | exact HK.out | apply Kept.alloc | apply Kept.drewN | apply Kept.drew | refine Kept.setCell ?_ (.inr GW1.out) _ | refine Kept.setCell ?_ (.inr GW2.out) _) | exact HK.out)) (fun k_ e_ => (HO_3.out.1 k_ e_))); replace HO_3 := Gv.a0 (hp_); clear hg hw hp_) | ((with_reducible refine Gv.gate_load (t := 33) rfl ?_); (try (refine gate_guard (by rfl) ?_; dsimp only)); refine wpList_load_row rfl 33 _ rfl gb2 rfl 33 _ _ _ (Gv.k01 BK2.out) Try.underlying33 rfl (by kernel_rfl) ?_) | ((with_reducible refine Gv.gate_load (t := 31) rfl ?_); (try (refine gate_guard (by rfl) ?_; dsimp only)); refine Gv.sub_event (g := gb2) 13 rfl rfl rfl (Gv.k01 BK2.out) Try.underlying31 rfl (by kernel_rfl) ?_))
    first | go_end0 | ((try simp only [Exit.inBlock, Exit.then]); refine bodyPost_ret (results_none rfl _ _ _) rfl ?_)
    exact ⟨Gv.rt, Gv.kr HO_3.out, Gv.bw, by repeat (first | (with_reducible first | exact HK.out | apply Kept.alloc | apply Kept.drewN | apply Kept.drew | refine Kept.setCell ?_ (.inr GW1.out) _ | refine Kept.setCell ?_ (.inr GW2.out) _) | exact HK.out)⟩
/-! ### spec_l11Copy: function 62 -/
def spec_l11Copy.f (a0_0 : Int) (l0_1 : List (S75)) : Option (Int × (List (S75))) := (some (([] : List (S75)) : List (S75))).bind fun y322 => (if y322.length + l0_1.length < 1099511627776 then (some (a0_0, (y322 ++ l0_1))) else (none))
def spec_l11Copy.T1 : Bool × List (List Nat × List Nat) := (true, [([], []), ([0], [0]), ([], []), ([], []), ([3], [3]), ([2, 4], [2, 4]), ([1, 5], [1, 5]), ([6, 5, 0, 1, 2, 3, 4, 5, 6], [6])])
def spec_l11Copy.B1 : List Nat := [0, 1, 0, 0, 8, 28, 63, 127]
theorem spec_l11Copy.tab1 : rtab .any (opsOf Try.f62 1) = spec_l11Copy.T1 := by kernel_rfl
theorem spec_l11Copy.bits1 : waitsOk spec_l11Copy.T1.2 spec_l11Copy.B1 = true := by kernel_rfl
set_option maxHeartbeats 8000000 in
set_option maxRecDepth 100000 in
theorem spec_l11Copy.calls (a0_0 : Int) (A0_1 : Option Addr) (c0_1 : Nat) (l0_1 : List (S75)) (r1 : Int) (r2 : List (S75)) (w : World) (hr0_1 : Kd.C k75 w A0_1 l0_1.length l0_1) (hc0_1 : l0_1.length ≤ c0_1) (h : spec_l11Copy.f a0_0 l0_1 = some (r1, r2)) :
  Calls Try.prog 62 #[.agg #[.int .i64 a0_0, .slice A0_1 l0_1.length c0_1]] w fun e w' => ∃ v1_ : Value, e = .returned (.agg #[.int .i64 r1, v1_]) ∧ Kd.R k75 75 w' w.heap.size (fun _ => True) v1_ r2 ∧ Below w.heap.size w w' := by
 have hu40 := Try.underlying40; have HR0_1 := Gv.a0 hr0_1; have HC0_1 := Gv.a0 hc0_1; clear hr0_1 hc0_1; have HB := Gv.a0 (Below.refl w.heap.size w); unfold spec_l11Copy.f at h; have H := h; clear h; obtain ⟨y2, hy2⟩ : ∃ y_ : List (S75), y_ = (([] : List (S75))) := ⟨_, rfl⟩
 replace H : (if y2.length + l0_1.length < 1099511627776 then (some (a0_0, (y2 ++ l0_1))) else (none)) = some (r1, r2) := by first | (rw [hy2]; with_reducible exact H) | (have H2_ := (Option.bind_some _ _).symm.trans H; rw [hy2]; with_reducible exact H2_) | (have H2_ := (Option.bind_some _ _).symm.trans H; with_reducible exact H2_) | with_reducible exact H | (rw [hy2]; exact H) | exact H
 have Ny2 := Gv.a0 hy2; clear hy2
 by_cases c2 : y2.length + l0_1.length < 1099511627776
 rotate_left
 ·rw [if_neg c2] at H; cases H

 rw [if_pos c2] at H; have LMc2 := Gv.a0 c2; clear c2; obtain ⟨y3, hy3⟩ : ∃ y_ : List (S75), y_ = (y2 ++ l0_1) := ⟨_, rfl⟩
 replace H : (some (a0_0, y3)) = some (r1, r2) := by first | (rw [hy3]; with_reducible exact H) | (have H2_ := (Option.bind_some _ _).symm.trans H; rw [hy3]; with_reducible exact H2_) | (have H2_ := (Option.bind_some _ _).symm.trans H; with_reducible exact H2_) | with_reducible exact H | (rw [hy3]; exact H) | exact H
 have Ny3 := Gv.a0 hy3; clear hy3; simp only [Option.some.injEq, Prod.mk.injEq] at H; obtain ⟨rfl, rfl⟩ := H
 go_enter Try.func62, Try.ntmps62
 try go_wp2_with (first | ((with_reducible refine gate_dst (N := 1) rfl ?_); refine Gv.bev 1 40 #[.int .i64 a0_0, .slice A0_1 l0_1.length c0_1] ?_; intro gb0 hg w3 hbox hb; have BK0 := Gv.a0 (hbox); have GW0 := Gv.a0 ((Gv.ble hg Gv.bw : w.heap.size ≤ gb0)); have GE0 := GW0; replace HB := Gv.hb hb; clear hb hbox hg) | ((with_reducible refine gate_dst (N := 2) rfl ?_); refine Gv.bev 2 40 #[.int .i64 0, .slice none 0 0] ?_; intro gb1 hg w4 hbox hb; have BK1 := Gv.a0 (hbox); have GW1 := Gv.a0 ((Gv.ble hg Gv.bw : w.heap.size ≤ gb1)); have GE1 := GW1; replace HB := Gv.hb hb; have NB0_1 := Gv.a0 ((Gv.nlt hg (Gv.kb BK0.out) : gb0 ≠ gb1)); have NB1_0 := Gv.a0 ((Gv.ngt hg (Gv.kb BK0.out) : gb1 ≠ gb0)); replace BK0 := Gv.b1 BK0 hb; clear hb hbox hg))
 replace BK0 := Gv.a0 (blk_drew BK0.out); replace BK1 := Gv.a0 (blk_drew BK1.out); replace HB := Gv.a0 (below_drew1 HB.out); refine start_ (n := 8) (S := fun w' => w'.cell? ⟨gb0, 0, none⟩ = some (.int .i64 a0_0) ∧ w'.cell? ⟨gb0, 1, none⟩ = some (.slice A0_1 l0_1.length c0_1)) (ds := []) #[false, false, false, false, false, false, false, false] (by kernel_rfl) rfl rfl ⟨Gv.q BK0.out, Gv.q BK0.out⟩ (fun hHeld => ?_); refine with_tabW spec_l11Copy.tab1 spec_l11Copy.bits1 (fun HT_ HW_ => ?_); generalize w4.drew = w5 at BK0 BK1 HB hHeld ⊢; refine Gv.pu 0 (some 3) HT_ ?_; refine Gv.pu 3 (some 6) HT_ ?_; refine take_ (i := 1) (N := some 4) (v := ?_) (a' := ?_) #[true, true, false, true, false, false, false, false] rfl rfl (take_ofW HT_.out HW_.out (by kernel_rfl)) (fun _ _ _ h => h) (Or.inl ⟨by rfl, ?_⟩) hHeld ?_ ?_; rotate_left
 ·rintro w' ⟨s0, s1⟩
  go_simp
  with_reducible rfl
 rotate_left
 ·simp only [Act.put, List.setIfInBounds_toArray, List.set_cons_zero, List.set_cons_succ, i64_w, i32_w]
  rfl
 refine take_ (i := 4) (N := some 7) (v := ?_) (a' := ?_) #[true, true, false, true, true, false, false, false] rfl rfl (take_ofW HT_.out HW_.out (by kernel_rfl)) (fun _ _ _ h => h) (Or.inl ⟨by rfl, ?_⟩) hHeld ?_ ?_; rotate_left
 ·rintro w' ⟨s0, s1⟩
  go_simp
  with_reducible rfl
 rotate_left
 ·simp only [Act.put, List.setIfInBounds_toArray, List.set_cons_zero, List.set_cons_succ, i64_w, i32_w]
  rfl
 refine one_ (i := 2) (N := some 5) #[true, true, true, true, true, false, false, false] rfl rfl (one_of HT_.out (by kernel_rfl)) (by decide) (fun K hK => ?_); refine Kd.R_lit_step k75 _ 75 ?hg (N := 5) ?hd (xs := ([] : List (S75))) (inner := []) (ok := fun _ => True) (okp := fun _ => True) ?hr ?hp (fun _ hk => hk) trivial (Below.refl _ _) (Nat.le_refl _) (by simp) ?_; (case hd => rfl); (case hg => rfl); (case hr => first | (go_simp; done) | (go_simp; rfl)); (case hp => exact (Reps.none _ _)); intro v6 w6 ho7 hb hg_ hnew_; clear hg_ hnew_
 (first | rw [← Ny2.out] at ho7 | (simp only [Int.reduceToNat] at ho7; rw [← Ny2.out] at ho7)); have HO4 := Gv.a0 (Kd.R_lower ho7 (below_size Gv.bw)); replace BK0 := Gv.b1 BK0 hb; replace BK1 := Gv.b1 BK1 hb; replace HB := Gv.hb hb; clear hb ho7; refine hK.out _ _ ⟨Gv.q BK0.out, Gv.q BK0.out⟩ (fun hHeld => ?_); clear hK K; refine norm_ (a' := ?_) ?_ ?_; rotate_left
 ·show Act.put _ (some 5) _ = _
  simp only [Act.put, List.setIfInBounds_toArray, List.set_cons_zero, List.set_cons_succ, i64_w, i32_w]
  rfl
 refine one_ (i := 5) (N := some 8) #[true, true, true, true, true, true, false, false] rfl rfl (one_of HT_.out (by kernel_rfl)) (by decide) (fun K hK => ?_); refine Kd.R_append_rows_step k75 (w0 := w) w.heap.size (by rfl) (.tmp 5) (.tmp 7) 38 75 (.agg #[(.bool false), (.int .i64 0), (.int .i64 0), (.int .i64 0), (.int .i64 0), (.int .i64 0), (.int .i64 0), (.int .i64 0), (.int .i64 0), (.int .i64 0), (.int .i64 0), (.int .i64 0), (.int .i64 0), (.int .i64 0), (.int .i64 0), (.int .i64 0)]) 128 rfl Try.underlying38 info75 rfl (by decide) (by omega) v6 y2 l0_1 _ _ _ (fun _ => True) (fun _ => False) rfl rfl ?aO ?aR (fun _ _ h => h) (fun _ h => h.elim) ?aF ?aB ?aS ?aL ?_
 (case aR => repeat (first | exact (Kd.C_below HR0_1.out HB.out) | (with_reducible refine Kd.C_alloc ?_ _) | (with_reducible refine Kd.C_drewN ?_ _) | (with_reducible refine Kd.C_drew ?_)))
 (case aB => exact Gv.bw)
 (case aF => exact (fun _ _ => trivial))
 (case aO => exact (Gv.kr HO4.out))
 (case aS => exact (below_size Gv.bw))
 (case aL => have := LMc2.out; omega)
 intro v7 w8 ho hb hg hat; rw [← Ny3.out] at ho; replace BK0 := Gv.a0 (blk_grown (g := gb0) (o := .cells #[.int .i64 a0_0, .slice A0_1 l0_1.length c0_1] 40 (0, 0)) Gv.bk hg (Kd.R_ne HO4.out BK0.out (by decide))); replace BK1 := Gv.a0 (blk_grown (g := gb1) (o := .cells #[.int .i64 0, .slice none 0 0] 40 (0, 0)) Gv.bk hg (Kd.R_ne HO4.out BK1.out (by decide))); replace HB := Gv.a0 (hb); have HO5 := Gv.a0 (ho); clear HO4 ho hb hg hat; obtain ⟨Ao9, co9, eo9⟩ := Kd.R_slice HO5.out
 (first | subst eo9 | (injection eo9 with f1_ f2_ f3_; have f4_ := f1_.symm; have f5_ := f3_.symm; clear f1_ f2_ f3_; subst f4_; subst f5_)); refine hK.out _ _ ⟨Gv.q BK0.out, Gv.q BK0.out⟩ (fun hHeld => ?_); clear hK K; refine norm_ (a' := ?_) ?_ ?_; rotate_left
 ·show Act.put _ (some 8) _ = _
  simp only [Act.put, List.setIfInBounds_toArray, List.set_cons_zero, List.set_cons_succ, i64_w, i32_w]
  rfl
 refine Gv.pu 6 (some 9) HT_ ?_; refine one_ (i := 7) (N := none) #[true, true, true, true, true, true, true, true] rfl rfl (one_of HT_.out (by kernel_rfl)) (by decide) (fun K hK => ?_); have hs10 : w8.cell? ⟨gb1, 0, none⟩ = some (.int .i64 0) := (blk_cell BK1.out 0).trans rfl; have hfs10 := blk_frozen BK1.out 0; have hns10_0 := NB0_1.out; have hms10_0 := NB1_0.out; have hs11 : w8.cell? ⟨gb1, 1, none⟩ = some (.slice none 0 0) := (blk_cell BK1.out 1).trans rfl; have hfs11 := blk_frozen BK1.out 1; have hns11_0 := NB0_1.out; have hms11_0 := NB1_0.out; refine skip_ (w1 := ?_) (by rfl) rfl ?_ ?_; rotate_left
 ·go_simp
  rfl
 refine hK.out _ _ ⟨((cell_far (p := ⟨gb1, _, none⟩) NB0_1.out _).trans (((cell_far (p := ⟨gb1, _, none⟩) NB0_1.out _).trans (hHeld.1)))), ((cell_far (p := ⟨gb1, _, none⟩) NB0_1.out _).trans (((cell_far (p := ⟨gb1, _, none⟩) NB0_1.out _).trans (hHeld.2))))⟩ (fun hHeld => ?_); clear hK K; refine done_ (done_of HT_.out (by kernel_rfl)) ?_
 try go_wp2
 refine bodyPost_ret (results_cell_row rfl _ _ gb1 40 #[.int .i64 a0_0, .slice Ao9 y3.length co9] (0, 0) _ rfl (by (with_reducible repeat (first | refine blk_drewN ?_ _ | refine blk_drew ?_ | refine blk_alloc ?_ _)); refine blk_put (cs := #[.int .i64 a0_0, .slice none 0 0]) ?_ 1 _ rfl; (with_reducible repeat (first | refine blk_drewN ?_ _ | refine blk_drew ?_ | refine blk_alloc ?_ _)); refine blk_put (cs := #[.int .i64 0, .slice none 0 0]) ?_ 0 _ rfl; (with_reducible repeat (first | refine blk_drewN ?_ _ | refine blk_drew ?_ | refine blk_alloc ?_ _)); exact BK1.out) Try.underlying40 rfl (by kernel_rfl)) rfl ?_; exact ⟨_, Gv.rt, by (with_reducible repeat (first | apply Kd.R_alloc | apply Kd.R_drewN | apply Kd.R_drew)); exact Kd.R_mono (Kd.R_far (p := ⟨gb1, 1, none⟩) (Kd.R_far (p := ⟨gb1, 0, none⟩) (Kd.R_types HO5.out BK1.out (by decide)) (fun _ hk => hk.2) (.int .i64 a0_0)) (fun _ hk => hk.2) (.slice Ao9 y3.length co9)) (fun _ hk => trivial), Gv.bw⟩
end Go.Proofs.Ytfnpodebjejhpaa.PTd
