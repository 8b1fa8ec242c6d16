/- Plain Lean functions of a law's Go functions, their contracts, by a program of this session (wip/pr.py over the kit's print). -/
import Derived.Test.YtbfbfaoolkbodaaPWdx0
import Derived.Test.YtbfbfaoolkbodaaPWdx1
import Derived.Test.YtbfbfaoolkbodaaPWdx2
namespace Go.Proofs.Ytbfbfaoolkbodaa.PWd
open Go.RowKit Go.Proofs.YtbfbfaoolkbodaaW.PrintWords Go.Proofs.YtbfbfaoolkbodaaW.PrintLast Go.Proofs.YtbfbfaoolkbodaaW.PrintMore
attribute [local go_sem] max2_int min2_int max_two min_two max_three min_three max_four min_four   -- for this text's walks alone
set_option linter.unusedVariables false
set_option linter.unusedSimpArgs false

/-! ### spec_WheelDrop: function 19 -/
def spec_WheelDrop.f (k : Nat) (a0_0 : Int) (l0_1 : List (S47)) (a1 : Int) : Option (Int × (List (S47)) × Int) := (spec_WheelOk.f k a0_0 l0_1).bind fun t205 => (if t205 = true then ((spec_l12Has.f k a0_0 l0_1 a1).bind fun t206 => (if t206 = true then ((spec_l12Without.f k a0_0 l0_1 a0_0 a1 (-1)).bind fun bt207 => (some (bt207.1, bt207.2, 0))) else (some (0, ([] : List (S47)), 4)))) else (some (0, ([] : List (S47)), 1)))
theorem spec_WheelDrop.mono : ∀ a0 a1 a2 k, LeO (spec_WheelDrop.f k a0 a1 a2) (spec_WheelDrop.f (k + 1) a0 a1 a2) := by
 intro a0 a1 a2 k
 unfold spec_WheelDrop.f
 repeat' first
   | (with_reducible exact spec_WheelOk.mono _ _ _)
   | (with_reducible exact spec_l12Has.mono _ _ _ _)
   | (with_reducible exact spec_l12Without.mono _ _ _ _ _ _)
   | (with_reducible exact LeO.refl _)
   | (with_reducible exact LeO.none _)
   | (with_reducible refine LeO.ite ?_ ?_)
   | (with_reducible refine LeO.bind ?_ (fun _ => ?_))
   | exact spec_WheelOk.mono _ _ _
   | exact spec_l12Has.mono _ _ _ _
   | exact spec_l12Without.mono _ _ _ _ _ _
   | exact LeO.none _
   | refine LeO.ite ?_ ?_
   | refine LeO.bind ?_ (fun _ => ?_)
set_option maxHeartbeats 8000000 in
set_option maxRecDepth 100000 in
theorem spec_WheelDrop.calls (k : Nat) (a0_0 : Int) (A0_1 : Option Addr) (c0_1 : Nat) (l0_1 : List (S47)) (a1 : Int) (r1 : Int) (r2 : List (S47)) (r3 : Int) (w : World) (hr0_1 : Kd.C k47 w A0_1 l0_1.length l0_1) (hc0_1 : l0_1.length ≤ c0_1) (h : spec_WheelDrop.f k a0_0 l0_1 a1 = some (r1, r2, r3)) :
  Calls Try.prog 19 #[.agg #[.int .i64 a0_0, .slice A0_1 l0_1.length c0_1], .int .i64 a1] w fun e w' => ∃ v1_ : Value, e = .returned (.tuple #[.agg #[.int .i64 r1, v1_], .int .i64 r3]) ∧ Kd.S k47 47 w' w.heap.size (fun _ => True) v1_ r2 ∧ Below w.heap.size w w' := by
 have hu24 := Try.underlying24
 have HR0_1 := Gv.a0 hr0_1
 have HC0_1 := Gv.a0 hc0_1
 clear hr0_1 hc0_1
 have HB := Gv.a0 (Below.refl w.heap.size w)
 have H : ((spec_WheelOk.f k a0_0 l0_1).bind fun t205 => (if t205 = true then ((spec_l12Has.f k a0_0 l0_1 a1).bind fun t206 => (if t206 = true then ((spec_l12Without.f k a0_0 l0_1 a0_0 a1 (-1)).bind fun bt207 => (some (bt207.1, bt207.2, 0))) else (some (0, ([] : List (S47)), 4)))) else (some (0, ([] : List (S47)), 1)))) = some (r1, r2, r3) := h
 clear h
 replace H := Option.bind_eq_some_iff.mp H
 obtain ⟨t205, A30, H⟩ := H
 replace H : (if t205 = true then ((spec_l12Has.f k a0_0 l0_1 a1).bind fun t206 => (if t206 = true then ((spec_l12Without.f k a0_0 l0_1 a0_0 a1 (-1)).bind fun bt207 => (some (bt207.1, bt207.2, 0))) else (some (0, ([] : List (S47)), 4)))) else (some (0, ([] : List (S47)), 1))) = some (r1, r2, r3) := H
 have A3 := Gv.a0 A30
 clear A30
 by_cases c4 : t205 = true
 ·subst c4
  have H1 : ((spec_l12Has.f k a0_0 l0_1 a1).bind fun t206 => (if t206 = true then ((spec_l12Without.f k a0_0 l0_1 a0_0 a1 (-1)).bind fun bt207 => (some (bt207.1, bt207.2, 0))) else (some (0, ([] : List (S47)), 4)))) = some (r1, r2, r3) := by rw [if_pos rfl] at H; exact H
  clear H
  have H := H1
  clear H1
  replace H := Option.bind_eq_some_iff.mp H
  obtain ⟨t206, A50, H⟩ := H
  replace H : (if t206 = true then ((spec_l12Without.f k a0_0 l0_1 a0_0 a1 (-1)).bind fun bt207 => (some (bt207.1, bt207.2, 0))) else (some (0, ([] : List (S47)), 4))) = some (r1, r2, r3) := H
  have A5 := Gv.a0 A50
  clear A50
  by_cases c6 : t206 = true
  ·subst c6
   have H1 : ((spec_l12Without.f k a0_0 l0_1 a0_0 a1 (-1)).bind fun bt207 => (some (bt207.1, bt207.2, 0))) = some (r1, r2, r3) := by rw [if_pos rfl] at H; exact H
   clear H
   have H := H1
   clear H1
   replace H := Option.bind_eq_some_iff.mp H
   obtain ⟨⟨t207, t208⟩, A70, H⟩ := H
   replace H : (some (t207, t208, 0)) = some (r1, r2, r3) := H
   have A7 := Gv.a0 A70
   clear A70
   simp only [Option.some.injEq, Prod.mk.injEq] at H
   obtain ⟨rfl, rfl, rfl⟩ := H
   go_enter Try.func19, Try.ntmps19
   go_wp2_with (first | ((with_reducible refine gate_dst (N := 2) rfl ?_); refine box_event ?hg (N := 2) ?hd (cs := #[.int .i64 a0_0, .slice A0_1 l0_1.length c0_1]) (t := 24) ?hr ?_; (case hd => rfl); (case hg => rfl); (case hr => first | (go_simp; done) | (go_simp; rfl)); intro gb203 hg w8 hbox hb; have n0_ := Gv.a0 (below_step Gv.bw hb); have n1_ := Gv.a0 (hbox); have n2_ := Gv.a0 ((Gv.ble hg Gv.bw : w.heap.size ≤ gb203)); have n3_ := Gv.a0 ((Gv.ble hg Gv.bw : w.heap.size ≤ gb203)); clear HB; have HB := n0_; have BK203 := n1_; have GW203 := n2_; have GE203 := n3_; clear n0_ n1_ n2_ n3_; clear hb hbox hg) | ((with_reducible refine gate_dst (N := 4) rfl ?_); refine box_event ?hg (N := 4) ?hd (cs := #[.int .i64 0, .slice none 0 0]) (t := 24) ?hr ?_; (case hd => rfl); (case hg => rfl); (case hr => first | (go_simp; done) | (go_simp; rfl)); intro gb204 hg w9 hbox hb; have n0_ := Gv.a0 (Gv.bb BK203.out hb); have n1_ := Gv.a0 (below_step Gv.bw hb); have n2_ := Gv.a0 (hbox); have n3_ := Gv.a0 ((Gv.ble hg Gv.bw : w.heap.size ≤ gb204)); have n4_ := Gv.a0 ((Gv.ble hg Gv.bw : w.heap.size ≤ gb204)); have n5_ := Gv.a0 ((Gv.nlt hg (Gv.kb BK203.out) : gb203 ≠ gb204)); have n6_ := Gv.a0 ((Gv.ngt hg (Gv.kb BK203.out) : gb204 ≠ gb203)); clear BK203; clear HB; have BK203 := n0_; have HB := n1_; have BK204 := n2_; have GW204 := n3_; have GE204 := n4_; have NB203_204 := n5_; have NB204_203 := n6_; clear n0_ n1_ n2_ n3_ n4_ n5_ n6_; clear hb hbox hg; have hnb10 := NB203_204.out; have hnc10 := NB204_203.out; have hcz11_0 : w9.cell? ⟨gb203, 0, none⟩ = some (.int .i64 a0_0) := (blk_cell BK203.out 0).trans rfl; have hcz11_1 : w9.cell? ⟨gb203, 1, none⟩ = some (.slice A0_1 l0_1.length c0_1) := (blk_cell BK203.out 1).trans rfl; have hfz11_0 := blk_frozen BK203.out 0; have hfz11_1 := blk_frozen BK203.out 1) | ((with_reducible refine gate_callee (f := 14) rfl ?_); refine goesL_ (some 7) rfl rfl Try.func14 (by kernel_rfl) rfl #[.agg #[.int .i64 a0_0, .slice A0_1 l0_1.length c0_1]] rfl Gv.lm ?_; (with_reducible refine (spec_WheelOk.calls k a0_0 _ _ l0_1 true _ ?side1 ?side2 A3.out).mono ?_); (case side1 => repeat (first | exact (Kd.C_below HR0_1.out HB.out) | (with_reducible refine Kd.C_alloc ?_ _) | (with_reducible refine Kd.C_drewN ?_ _) | (with_reducible refine Kd.C_drew ?_))); (case side2 => exact HC0_1.out); rintro e w12 ⟨rfl, hb⟩; refine ⟨_, rfl, ?_⟩; have n0_ := Gv.a0 (Gv.bb BK203.out hb); have n1_ := Gv.a0 (Gv.bb BK204.out hb); have n2_ := Gv.a0 (below_step Gv.bw hb); clear BK203; clear BK204; clear HB; have BK203 := n0_; have BK204 := n1_; have HB := n2_; clear n0_ n1_ n2_; (try clear hb); (try clear hb2); (try clear hk); (try clear hi); have hcz13_0 : w12.cell? ⟨gb203, 0, none⟩ = some (.int .i64 a0_0) := (blk_cell BK203.out 0).trans rfl; have hcz13_1 : w12.cell? ⟨gb203, 1, none⟩ = some (.slice A0_1 l0_1.length c0_1) := (blk_cell BK203.out 1).trans rfl; have hfz13_0 := blk_frozen BK203.out 0; have hfz13_1 := blk_frozen BK203.out 1) | ((with_reducible refine gate_callee (f := 33) rfl ?_); refine goesL_ (some 12) rfl rfl Try.func33 (by kernel_rfl) rfl #[.agg #[.int .i64 a0_0, .slice A0_1 l0_1.length c0_1], .int .i64 a1] rfl Gv.lm ?_; (with_reducible refine (spec_l12Has.calls k a0_0 _ _ l0_1 a1 true _ ?side1 ?side2 A5.out).mono ?_); (case side1 => repeat (first | exact (Kd.C_below HR0_1.out HB.out) | (with_reducible refine Kd.C_alloc ?_ _) | (with_reducible refine Kd.C_drewN ?_ _) | (with_reducible refine Kd.C_drew ?_))); (case side2 => exact HC0_1.out); rintro e w14 ⟨rfl, hb⟩; refine ⟨_, rfl, ?_⟩; have n0_ := Gv.a0 (Gv.bb BK203.out hb); have n1_ := Gv.a0 (Gv.bb BK204.out hb); have n2_ := Gv.a0 (below_step Gv.bw hb); clear BK203; clear BK204; clear HB; have BK203 := n0_; have BK204 := n1_; have HB := n2_; clear n0_ n1_ n2_; (try clear hb); (try clear hb2); (try clear hk); (try clear hi); have hcz15_0 : w14.cell? ⟨gb203, 0, none⟩ = some (.int .i64 a0_0) := (blk_cell BK203.out 0).trans rfl; have hcz15_1 : w14.cell? ⟨gb203, 1, none⟩ = some (.slice A0_1 l0_1.length c0_1) := (blk_cell BK203.out 1).trans rfl; have hfz15_0 := blk_frozen BK203.out 0; have hfz15_1 := blk_frozen BK203.out 1) | ((with_reducible refine gate_callee (f := 34) rfl ?_); refine goesL_ (some 19) rfl rfl Try.func34 (by kernel_rfl) rfl #[.agg #[.int .i64 a0_0, .slice A0_1 l0_1.length c0_1], .int .i64 a0_0, .int .i64 a1, .int .i64 (-1)] rfl Gv.lm ?_; (with_reducible refine (spec_l12Without.calls k a0_0 _ _ l0_1 a0_0 a1 (-1) t207 t208 _ ?side1 ?side2 A7.out).mono ?_); (case side1 => repeat (first | exact (Kd.C_below HR0_1.out HB.out) | (with_reducible refine Kd.C_alloc ?_ _) | (with_reducible refine Kd.C_drewN ?_ _) | (with_reducible refine Kd.C_drew ?_))); (case side2 => exact HC0_1.out); rintro e w16 ⟨v209, rfl, ho0, hb⟩; refine ⟨_, rfl, ?_⟩; have n0_ := Gv.a0 (Kd.S_lower ho0 (below_size Gv.bw)); have n1_ := Gv.a0 (Gv.bb BK203.out hb); have n2_ := Gv.a0 (Gv.bb BK204.out hb); have n3_ := Gv.a0 (below_step Gv.bw hb); clear BK203; clear BK204; clear HB; have HO210 := n0_; have BK203 := n1_; have BK204 := n2_; have HB := n3_; clear n0_ n1_ n2_ n3_; (try clear hb); (try clear hb2); (try clear hk); (try clear hi); (try clear ho0); have hcz17_0 : w16.cell? ⟨gb204, 0, none⟩ = some (.int .i64 0) := (blk_cell BK204.out 0).trans rfl; have hcz17_1 : w16.cell? ⟨gb204, 1, none⟩ = some (.slice none 0 0) := (blk_cell BK204.out 1).trans rfl; have hfz17_0 := blk_frozen BK204.out 0; have hfz17_1 := blk_frozen BK204.out 1; obtain ⟨Ao18, co18, eo18⟩ := Kd.S_slice HO210.out; subst eo18))
   refine bodyPost_ret (results_ct rfl _ _ gb204 24 #[.int .i64 t207, .slice Ao18 t208.length co18] (0, 0) _ rfl (by (with_reducible repeat (first | refine blk_drewN ?_ _ | refine blk_drew ?_ | refine blk_alloc ?_ _)); refine blk_put (cs := #[.int .i64 t207, .slice none 0 0]) ?_ 1 _ rfl; (with_reducible repeat (first | refine blk_drewN ?_ _ | refine blk_drew ?_ | refine blk_alloc ?_ _)); refine blk_put (cs := #[.int .i64 0, .slice none 0 0]) ?_ 0 _ rfl; (with_reducible repeat (first | refine blk_drewN ?_ _ | refine blk_drew ?_ | refine blk_alloc ?_ _)); exact BK204.out) Try.underlying24 rfl (by kernel_rfl)) rfl ?_
   exact ⟨_, Gv.rt, by (with_reducible repeat (first | apply Kd.S_alloc | apply Kd.S_drewN | apply Kd.S_drew)); exact Kd.S_mono (Kd.S_far (p := ⟨gb204, 1, none⟩) (Kd.S_far (p := ⟨gb204, 0, none⟩) (Kd.S_types HO210.out BK204.out (by decide)) (fun _ hk => hk.2) (.int .i64 t207)) (fun _ hk => hk.2) (.slice Ao18 t208.length co18)) (fun _ hk => trivial), Gv.bw⟩
  ·replace c6 := Bool.eq_false_iff.mpr c6
   subst c6
   have H1 : (some (0, ([] : List (S47)), 4)) = some (r1, r2, r3) := by rw [if_neg (show ¬ (false = true) by decide)] at H; exact H
   clear H
   have H := H1
   clear H1
   simp only [Option.some.injEq, Prod.mk.injEq] at H
   obtain ⟨rfl, rfl, rfl⟩ := H
   go_enter Try.func19, Try.ntmps19
   go_wp2_with (first | ((with_reducible refine gate_dst (N := 2) rfl ?_); refine box_event ?hg (N := 2) ?hd (cs := #[.int .i64 a0_0, .slice A0_1 l0_1.length c0_1]) (t := 24) ?hr ?_; (case hd => rfl); (case hg => rfl); (case hr => first | (go_simp; done) | (go_simp; rfl)); intro gb203 hg w19 hbox hb; have n0_ := Gv.a0 (below_step Gv.bw hb); have n1_ := Gv.a0 (hbox); have n2_ := Gv.a0 ((Gv.ble hg Gv.bw : w.heap.size ≤ gb203)); have n3_ := Gv.a0 ((Gv.ble hg Gv.bw : w.heap.size ≤ gb203)); clear HB; have HB := n0_; have BK203 := n1_; have GW203 := n2_; have GE203 := n3_; clear n0_ n1_ n2_ n3_; clear hb hbox hg) | ((with_reducible refine gate_dst (N := 4) rfl ?_); refine box_event ?hg (N := 4) ?hd (cs := #[.int .i64 0, .slice none 0 0]) (t := 24) ?hr ?_; (case hd => rfl); (case hg => rfl); (case hr => first | (go_simp; done) | (go_simp; rfl)); intro gb204 hg w20 hbox hb; have n0_ := Gv.a0 (Gv.bb BK203.out hb); have n1_ := Gv.a0 (below_step Gv.bw hb); have n2_ := Gv.a0 (hbox); have n3_ := Gv.a0 ((Gv.ble hg Gv.bw : w.heap.size ≤ gb204)); have n4_ := Gv.a0 ((Gv.ble hg Gv.bw : w.heap.size ≤ gb204)); have n5_ := Gv.a0 ((Gv.nlt hg (Gv.kb BK203.out) : gb203 ≠ gb204)); have n6_ := Gv.a0 ((Gv.ngt hg (Gv.kb BK203.out) : gb204 ≠ gb203)); clear BK203; clear HB; have BK203 := n0_; have HB := n1_; have BK204 := n2_; have GW204 := n3_; have GE204 := n4_; have NB203_204 := n5_; have NB204_203 := n6_; clear n0_ n1_ n2_ n3_ n4_ n5_ n6_; clear hb hbox hg; have hnb21 := NB203_204.out; have hnc21 := NB204_203.out; have hcz22_0 : w20.cell? ⟨gb203, 0, none⟩ = some (.int .i64 a0_0) := (blk_cell BK203.out 0).trans rfl; have hcz22_1 : w20.cell? ⟨gb203, 1, none⟩ = some (.slice A0_1 l0_1.length c0_1) := (blk_cell BK203.out 1).trans rfl; have hfz22_0 := blk_frozen BK203.out 0; have hfz22_1 := blk_frozen BK203.out 1) | ((with_reducible refine gate_callee (f := 14) rfl ?_); refine goesL_ (some 7) rfl rfl Try.func14 (by kernel_rfl) rfl #[.agg #[.int .i64 a0_0, .slice A0_1 l0_1.length c0_1]] rfl Gv.lm ?_; (with_reducible refine (spec_WheelOk.calls k a0_0 _ _ l0_1 true _ ?side1 ?side2 A3.out).mono ?_); (case side1 => repeat (first | exact (Kd.C_below HR0_1.out HB.out) | (with_reducible refine Kd.C_alloc ?_ _) | (with_reducible refine Kd.C_drewN ?_ _) | (with_reducible refine Kd.C_drew ?_))); (case side2 => exact HC0_1.out); rintro e w23 ⟨rfl, hb⟩; refine ⟨_, rfl, ?_⟩; have n0_ := Gv.a0 (Gv.bb BK203.out hb); have n1_ := Gv.a0 (Gv.bb BK204.out hb); have n2_ := Gv.a0 (below_step Gv.bw hb); clear BK203; clear BK204; clear HB; have BK203 := n0_; have BK204 := n1_; have HB := n2_; clear n0_ n1_ n2_; (try clear hb); (try clear hb2); (try clear hk); (try clear hi); have hcz24_0 : w23.cell? ⟨gb203, 0, none⟩ = some (.int .i64 a0_0) := (blk_cell BK203.out 0).trans rfl; have hcz24_1 : w23.cell? ⟨gb203, 1, none⟩ = some (.slice A0_1 l0_1.length c0_1) := (blk_cell BK203.out 1).trans rfl; have hfz24_0 := blk_frozen BK203.out 0; have hfz24_1 := blk_frozen BK203.out 1) | ((with_reducible refine gate_callee (f := 33) rfl ?_); refine goesL_ (some 12) rfl rfl Try.func33 (by kernel_rfl) rfl #[.agg #[.int .i64 a0_0, .slice A0_1 l0_1.length c0_1], .int .i64 a1] rfl Gv.lm ?_; (with_reducible refine (spec_l12Has.calls k a0_0 _ _ l0_1 a1 false _ ?side1 ?side2 A5.out).mono ?_); (case side1 => repeat (first | exact (Kd.C_below HR0_1.out HB.out) | (with_reducible refine Kd.C_alloc ?_ _) | (with_reducible refine Kd.C_drewN ?_ _) | (with_reducible refine Kd.C_drew ?_))); (case side2 => exact HC0_1.out); rintro e w25 ⟨rfl, hb⟩; refine ⟨_, rfl, ?_⟩; have n0_ := Gv.a0 (Gv.bb BK203.out hb); have n1_ := Gv.a0 (Gv.bb BK204.out hb); have n2_ := Gv.a0 (below_step Gv.bw hb); clear BK203; clear BK204; clear HB; have BK203 := n0_; have BK204 := n1_; have HB := n2_; clear n0_ n1_ n2_; (try clear hb); (try clear hb2); (try clear hk); (try clear hi); have hcz26_0 : w25.cell? ⟨gb204, 0, none⟩ = some (.int .i64 0) := (blk_cell BK204.out 0).trans rfl; have hcz26_1 : w25.cell? ⟨gb204, 1, none⟩ = some (.slice none 0 0) := (blk_cell BK204.out 1).trans rfl; have hfz26_0 := blk_frozen BK204.out 0; have hfz26_1 := blk_frozen BK204.out 1))
   refine bodyPost_ret (results_ct rfl _ _ gb204 24 #[.int .i64 0, .slice none 0 0] (0, 0) _ rfl (by (with_reducible repeat (first | refine blk_drewN ?_ _ | refine blk_drew ?_ | refine blk_alloc ?_ _)); refine blk_put (cs := #[.int .i64 0, .slice none 0 0]) ?_ 1 _ rfl; (with_reducible repeat (first | refine blk_drewN ?_ _ | refine blk_drew ?_ | refine blk_alloc ?_ _)); refine blk_put (cs := #[.int .i64 0, .slice none 0 0]) ?_ 0 _ rfl; (with_reducible repeat (first | refine blk_drewN ?_ _ | refine blk_drew ?_ | refine blk_alloc ?_ _)); exact BK204.out) Try.underlying24 rfl (by kernel_rfl)) rfl ?_
   exact ⟨_, Gv.rt, by first | exact Kd.S_nil _ _ _ _ _ | exact Kd.N_nil _ _ _ _ _ | exact Kd.V_nil _ _ _ _ _ | exact Kd.Q_nil _ _ _ _ _ | exact Kd.R_nil _ _ _ _ _, Gv.bw⟩
 ·replace c4 := Bool.eq_false_iff.mpr c4
  subst c4
  have H1 : (some (0, ([] : List (S47)), 1)) = some (r1, r2, r3) := by rw [if_neg (show ¬ (false = true) by decide)] at H; exact H
  clear H
  have H := H1
  clear H1
  simp only [Option.some.injEq, Prod.mk.injEq] at H
  obtain ⟨rfl, rfl, rfl⟩ := H
  go_enter Try.func19, Try.ntmps19
  go_wp2_with (first | ((with_reducible refine gate_dst (N := 2) rfl ?_); refine box_event ?hg (N := 2) ?hd (cs := #[.int .i64 a0_0, .slice A0_1 l0_1.length c0_1]) (t := 24) ?hr ?_; (case hd => rfl); (case hg => rfl); (case hr => first | (go_simp; done) | (go_simp; rfl)); intro gb203 hg w27 hbox hb; have n0_ := Gv.a0 (below_step Gv.bw hb); have n1_ := Gv.a0 (hbox); have n2_ := Gv.a0 ((Gv.ble hg Gv.bw : w.heap.size ≤ gb203)); have n3_ := Gv.a0 ((Gv.ble hg Gv.bw : w.heap.size ≤ gb203)); clear HB; have HB := n0_; have BK203 := n1_; have GW203 := n2_; have GE203 := n3_; clear n0_ n1_ n2_ n3_; clear hb hbox hg) | ((with_reducible refine gate_dst (N := 4) rfl ?_); refine box_event ?hg (N := 4) ?hd (cs := #[.int .i64 0, .slice none 0 0]) (t := 24) ?hr ?_; (case hd => rfl); (case hg => rfl); (case hr => first | (go_simp; done) | (go_simp; rfl)); intro gb204 hg w28 hbox hb; have n0_ := Gv.a0 (Gv.bb BK203.out hb); have n1_ := Gv.a0 (below_step Gv.bw hb); have n2_ := Gv.a0 (hbox); have n3_ := Gv.a0 ((Gv.ble hg Gv.bw : w.heap.size ≤ gb204)); have n4_ := Gv.a0 ((Gv.ble hg Gv.bw : w.heap.size ≤ gb204)); have n5_ := Gv.a0 ((Gv.nlt hg (Gv.kb BK203.out) : gb203 ≠ gb204)); have n6_ := Gv.a0 ((Gv.ngt hg (Gv.kb BK203.out) : gb204 ≠ gb203)); clear BK203; clear HB; have BK203 := n0_; have HB := n1_; have BK204 := n2_; have GW204 := n3_; have GE204 := n4_; have NB203_204 := n5_; have NB204_203 := n6_; clear n0_ n1_ n2_ n3_ n4_ n5_ n6_; clear hb hbox hg; have hnb29 := NB203_204.out; have hnc29 := NB204_203.out; have hcz30_0 : w28.cell? ⟨gb203, 0, none⟩ = some (.int .i64 a0_0) := (blk_cell BK203.out 0).trans rfl; have hcz30_1 : w28.cell? ⟨gb203, 1, none⟩ = some (.slice A0_1 l0_1.length c0_1) := (blk_cell BK203.out 1).trans rfl; have hfz30_0 := blk_frozen BK203.out 0; have hfz30_1 := blk_frozen BK203.out 1) | ((with_reducible refine gate_callee (f := 14) rfl ?_); refine goesL_ (some 7) rfl rfl Try.func14 (by kernel_rfl) rfl #[.agg #[.int .i64 a0_0, .slice A0_1 l0_1.length c0_1]] rfl Gv.lm ?_; (with_reducible refine (spec_WheelOk.calls k a0_0 _ _ l0_1 false _ ?side1 ?side2 A3.out).mono ?_); (case side1 => repeat (first | exact (Kd.C_below HR0_1.out HB.out) | (with_reducible refine Kd.C_alloc ?_ _) | (with_reducible refine Kd.C_drewN ?_ _) | (with_reducible refine Kd.C_drew ?_))); (case side2 => exact HC0_1.out); rintro e w31 ⟨rfl, hb⟩; refine ⟨_, rfl, ?_⟩; have n0_ := Gv.a0 (Gv.bb BK203.out hb); have n1_ := Gv.a0 (Gv.bb BK204.out hb); have n2_ := Gv.a0 (below_step Gv.bw hb); clear BK203; clear BK204; clear HB; have BK203 := n0_; have BK204 := n1_; have HB := n2_; clear n0_ n1_ n2_; (try clear hb); (try clear hb2); (try clear hk); (try clear hi); have hcz32_0 : w31.cell? ⟨gb204, 0, none⟩ = some (.int .i64 0) := (blk_cell BK204.out 0).trans rfl; have hcz32_1 : w31.cell? ⟨gb204, 1, none⟩ = some (.slice none 0 0) := (blk_cell BK204.out 1).trans rfl; have hfz32_0 := blk_frozen BK204.out 0; have hfz32_1 := blk_frozen BK204.out 1))
  refine bodyPost_ret (results_ct rfl _ _ gb204 24 #[.int .i64 0, .slice none 0 0] (0, 0) _ rfl (by (with_reducible repeat (first | refine blk_drewN ?_ _ | refine blk_drew ?_ | refine blk_alloc ?_ _)); refine blk_put (cs := #[.int .i64 0, .slice none 0 0]) ?_ 1 _ rfl; (with_reducible repeat (first | refine blk_drewN ?_ _ | refine blk_drew ?_ | refine blk_alloc ?_ _)); refine blk_put (cs := #[.int .i64 0, .slice none 0 0]) ?_ 0 _ rfl; (with_reducible repeat (first | refine blk_drewN ?_ _ | refine blk_drew ?_ | refine blk_alloc ?_ _)); exact BK204.out) Try.underlying24 rfl (by kernel_rfl)) rfl ?_
  exact ⟨_, Gv.rt, by first | exact Kd.S_nil _ _ _ _ _ | exact Kd.N_nil _ _ _ _ _ | exact Kd.V_nil _ _ _ _ _ | exact Kd.Q_nil _ _ _ _ _ | exact Kd.R_nil _ _ _ _ _, Gv.bw⟩

/-! ### impl_within: function 30 -/
def impl_within.f (a0 : Int) (a1 : Int) (a2 : Int) : Option (Bool) := if a0 ≥ a1 then (some (decide (a0 ≤ a2))) else (some false)
set_option maxHeartbeats 8000000 in
set_option maxRecDepth 100000 in
theorem impl_within.calls (a0 : Int) (a1 : Int) (a2 : Int) (r : Bool) (w : World) (h : impl_within.f a0 a1 a2 = some r) :
  Calls Try.prog 30 #[.int .i64 a0, .int .i64 a1, .int .i64 a2] w fun e w' => e = .returned (.bool r) ∧ Drawn0 w w' := by
 have H : (if a0 ≥ a1 then (some (decide (a0 ≤ a2))) else (some false)) = some r := h
 clear h
 by_cases c4 : a0 ≥ a1
 ·rw [if_pos c4] at H
  have c4b0 : decide (a1 ≤ a0) = true := decide_eq_true c4
  clear c4
  obtain rfl := Option.some.inj H
  go_enter Try.func30, Try.ntmps30
  go_wp2
  go_ret
  exact ⟨by first | rfl | (simp; done) | (simp [Int.tdiv_eq_ediv_of_nonneg]; done) | (simp [*]; done), by repeat (first | exact Drawn0.refl _ | apply Drawn0.step)⟩
 ·rw [if_neg c4] at H
  have c4b0 : decide (a1 ≤ a0) = false := decide_eq_false c4
  clear c4
  obtain rfl := Option.some.inj H
  go_enter Try.func30, Try.ntmps30
  go_wp2
  go_ret
  exact ⟨by first | rfl | (simp; done) | (simp [Int.tdiv_eq_ediv_of_nonneg]; done) | (simp [*]; done), by repeat (first | exact Drawn0.refl _ | apply Drawn0.step)⟩

/-! ### impl_isNow: function 23 -/
def impl_isNow.f (a0 : Int) : Option (Bool) := (impl_within.f a0 0 1000000000000).bind fun t211 => (some t211)
set_option maxHeartbeats 8000000 in
set_option maxRecDepth 100000 in
theorem impl_isNow.calls (a0 : Int) (r : Bool) (w : World) (h : impl_isNow.f a0 = some r) :
  Calls Try.prog 23 #[.int .i64 a0] w fun e w' => e = .returned (.bool r) ∧ Drawn0 w w' := by
 have H : ((impl_within.f a0 0 1000000000000).bind fun t211 => (some t211)) = some r := h
 clear h
 replace H := Option.bind_eq_some_iff.mp H
 obtain ⟨t211, A20, H⟩ := H
 replace H : (some t211) = some r := H
 have A2 := Gv.a0 A20
 clear A20
 obtain rfl := Option.some.inj H
 go_enter Try.func23, Try.ntmps23
 go_wp2_with (first | ((with_reducible refine gate_callee (f := 30) rfl ?_); refine goesL_ (some 4) rfl rfl Try.func30 (by kernel_rfl) rfl #[.int .i64 a0, .int .i64 0, .int .i64 1000000000000] rfl Gv.lm ?_; (with_reducible refine (impl_within.calls a0 0 1000000000000 t211 _ A2.out).mono ?_); rintro e w' ⟨rfl, ⟨nd, rfl⟩⟩; refine ⟨_, rfl, ?_⟩))
 go_ret
 exact ⟨by first | rfl | (simp; done) | (simp [Int.tdiv_eq_ediv_of_nonneg]; done) | (simp [*]; done), by repeat (first | exact Drawn0.refl _ | apply Drawn0.step)⟩

/-! ### impl_Wheel_isAhead: function 31 -/
def impl_Wheel_isAhead.f (a0_0 : Int) (l0_1 : List (S47)) (a1 : Int) : Option (Bool) := (impl_within.f a1 (wrap64 (a0_0 + 1)) (wrap64 (a0_0 + 1000))).bind fun t213 => (some t213)
set_option maxHeartbeats 8000000 in
set_option maxRecDepth 100000 in
theorem impl_Wheel_isAhead.calls (a0_0 : Int) (A0_1 : Option Addr) (c0_1 : Nat) (l0_1 : List (S47)) (a1 : Int) (r : Bool) (w : World) (hr0_1 : Kd.C k47 w A0_1 l0_1.length l0_1) (hc0_1 : l0_1.length ≤ c0_1) (h : impl_Wheel_isAhead.f a0_0 l0_1 a1 = some r) :
  Calls Try.prog 31 #[.agg #[.int .i64 a0_0, .slice A0_1 l0_1.length c0_1], .int .i64 a1] w fun e w' => e = .returned (.bool r) ∧ Below w.heap.size w w' := by
 have hu24 := Try.underlying24
 have HR0_1 := Gv.a0 hr0_1
 have HC0_1 := Gv.a0 hc0_1
 clear hr0_1 hc0_1
 have HB := Gv.a0 (Below.refl w.heap.size w)
 have H : ((impl_within.f a1 (wrap64 (a0_0 + 1)) (wrap64 (a0_0 + 1000))).bind fun t213 => (some t213)) = some r := h
 clear h
 replace H := Option.bind_eq_some_iff.mp H
 obtain ⟨t213, A30, H⟩ := H
 replace H : (some t213) = some r := H
 have A3 := Gv.a0 A30
 clear A30
 obtain rfl := Option.some.inj H
 go_enter Try.func31, Try.ntmps31
 go_wp2_with (first | ((with_reducible refine gate_dst (N := 2) rfl ?_); refine box_event ?hg (N := 2) ?hd (cs := #[.int .i64 a0_0, .slice A0_1 l0_1.length c0_1]) (t := 24) ?hr ?_; (case hd => rfl); (case hg => rfl); (case hr => first | (go_simp; done) | (go_simp; rfl)); intro gb212 hg w4 hbox hb; have n0_ := Gv.a0 (below_step Gv.bw hb); have n1_ := Gv.a0 (hbox); have n2_ := Gv.a0 ((Gv.ble hg Gv.bw : w.heap.size ≤ gb212)); have n3_ := Gv.a0 ((Gv.ble hg Gv.bw : w.heap.size ≤ gb212)); clear HB; have HB := n0_; have BK212 := n1_; have GW212 := n2_; have GE212 := n3_; clear n0_ n1_ n2_ n3_; clear hb hbox hg; have hcz5_0 : w4.cell? ⟨gb212, 0, none⟩ = some (.int .i64 a0_0) := (blk_cell BK212.out 0).trans rfl; have hcz5_1 : w4.cell? ⟨gb212, 1, none⟩ = some (.slice A0_1 l0_1.length c0_1) := (blk_cell BK212.out 1).trans rfl; have hfz5_0 := blk_frozen BK212.out 0; have hfz5_1 := blk_frozen BK212.out 1) | ((with_reducible refine gate_callee (f := 30) rfl ?_); refine goesL_ (some 12) rfl rfl Try.func30 (by kernel_rfl) rfl #[.int .i64 a1, .int .i64 (wrap64 (a0_0 + 1)), .int .i64 (wrap64 (a0_0 + 1000))] rfl Gv.lm ?_; (with_reducible refine (impl_within.calls a1 (wrap64 (a0_0 + 1)) (wrap64 (a0_0 + 1000)) t213 _ A3.out).mono ?_); rintro e w' ⟨rfl, ⟨nd, rfl⟩⟩; refine ⟨_, rfl, ?_⟩))
 go_ret
 exact ⟨Gv.rt, Gv.bw⟩

/-! ### impl_WheelOk: function 16 -/
def impl_WheelOk.f (a0_0 : Int) (l0_1 : List (S47)) : Option (Bool) := some (Gv.wheelOk (fun s : S47 => s.f0) (fun x : S50 => x.f0) (fun x : S50 => x.f1) a0_0 l0_1)
theorem impl_WheelOk.within (n a b : Int) : impl_within.f n a b = some (Gv.wi n a b) := by
 unfold impl_within.f Gv.wi
 by_cases h : n ≥ a
 ·rw [if_pos h, decide_eq_true h]; rfl
 ·rw [if_neg h, decide_eq_false h]; rfl
theorem impl_WheelOk.now (n : Int) : impl_isNow.f n = some (Gv.wi n 0 1000000000000) := by
 unfold impl_isNow.f
 rw [impl_WheelOk.within]
 rfl
theorem impl_WheelOk.ahead (n : Int) (l : List S47) (a : Int) : impl_Wheel_isAhead.f n l a = some (Gv.wi a (wrap64 (n + 1)) (wrap64 (n + 1000))) := by
 unfold impl_Wheel_isAhead.f
 rw [impl_WheelOk.within]
 rfl
theorem impl_WheelOk.nodup_le : ∀ (n : Nat) (l : List Int), l.Nodup → (∀ x, x ∈ l → 0 ≤ x ∧ x < (n : Int)) → l.length ≤ n
 | 0, [], _, _ => Nat.le_refl _
 | 0, x :: l, _, h => by have := h x List.mem_cons_self; omega
 | n + 1, l, hn, h => by
  have h1 := impl_WheelOk.nodup_le n (l.erase (n : Int)) (hn.erase _) (fun x hx => by
   obtain ⟨g1, g2⟩ := (hn.mem_erase_iff).1 hx
   have := h x g2
   omega)
  have h2 := List.length_erase (a := (n : Int)) (l := l)
  split at h2 <;> omega
theorem impl_WheelOk.size_put {H : Type} {D : DataW H} {k : Lit} (hD : Maps.IsMap D) (hh : Maps.has D k = false) (d : DataW H) : Maps.size (D.put k d) = Maps.size D + 1 := by
 obtain ⟨es, rfl⟩ := hD
 rw [DataW.put_eq]
 unfold ChangeMaps.putKey
 rw [Maps.size_eq, Maps.size_eq, length_insert, List.filter_eq_self.2]
 intro p hp
 rw [Maps.has_eq, List.any_eq_false] at hh
 have := hh p hp
 unfold ChangeMaps.notKey
 simpa using this
/-- A set of small numbers in a map of the call's own. -/
def impl_WheelOk.OM (W : World) (b : Nat) (seen : List Int) : Prop := ∃ D : DataW Unit, W.ownsMap Try.prog 3 (plainElem Try.prog 4) b seen.length D ∧ Maps.size D = seen.length ∧ ∀ id : Int, 0 ≤ id → id ≤ 9999 → D.atKey (.int .i64 id) (.lit (.bool false)) = .lit (.bool (seen.contains id)) ∧ Maps.has D (.int .i64 id) = seen.contains id
theorem impl_WheelOk.OM_made (W : World) : impl_WheelOk.OM (W.alloc (.map #[] 0)) W.heap.size [] := ⟨.map [], World.ownsMap_made W _ _ _, rfl, fun _ _ _ => ⟨rfl, rfl⟩⟩
theorem impl_WheelOk.OM_move {W W' : World} {b : Nat} {seen : List Int} (h : impl_WheelOk.OM W b seen) (e : W'.heap[b]? = W.heap[b]?) : impl_WheelOk.OM W' b seen := by
 obtain ⟨D, ⟨es, clock, hb, F, hs, hD⟩, h2, h3⟩ := h
 exact ⟨D, ⟨es, clock, e.trans hb, F, hs, hD⟩, h2, h3⟩
theorem impl_WheelOk.OM_lt {W : World} {b : Nat} {seen : List Int} (h : impl_WheelOk.OM W b seen) : b < W.heap.size := h.choose_spec.1.lt
theorem impl_WheelOk.OM_below {W W' : World} {b : Nat} {seen : List Int} (h : impl_WheelOk.OM W b seen) (hb : Below W.heap.size W W') : impl_WheelOk.OM W' b seen := by
 refine impl_WheelOk.OM_move h ?_
 have hlt := impl_WheelOk.OM_lt h
 have e := Array.getElem?_eq_getElem hlt
 rw [e]
 exact blk_below e hb
theorem impl_WheelOk.wf {id : Int} (h0 : 0 ≤ id) (h1 : id ≤ 9999) : (Lit.int .i64 id).wf = true := by
 have e1 : IntKind.i64.min = -9223372036854775808 := rfl
 have e2 : IntKind.i64.max = 9223372036854775807 := rfl
 simp only [Lit.wf, e1, e2, Bool.and_eq_true, decide_eq_true_eq]
 omega
theorem impl_WheelOk.look {ops : Array Oper} {rest : List Oper} {o : Oper} {a : Act} {W : World} {Q : Exit → Act → World → Prop} {m x : Operand} {b : Nat} {id : Int} {seen : List Int} (hg : o.guard = none) (hop : o.op = .lookup 52 m x false) (hm : a.eval m = .map (some b)) (hx : a.eval x = .int .i64 id) (h : impl_WheelOk.OM W b seen) (h0 : 0 ≤ id) (h1 : id ≤ 9999)
  (hK : wpList Try.prog ops Q rest (a.put o.dst (.bool (seen.contains id))) W) : wpList Try.prog ops Q (o :: rest) a W := by
 obtain ⟨D, hown, _, hat⟩ := h
 obtain ⟨v, ps, hrun, hv⟩ := hown.lookup (Maps.int_keyed Try.underlying3) Try.underlying52 (Try.zeroValue4 W) (plainElem_bool Try.underlying4 false) (Maps.keyOf_int_mk Try.underlying3 (impl_WheelOk.wf h0 h1))
 rw [(hat id h0 h1).1] at hv
 have e : v = .bool (seen.contains id) := by
  unfold plainElem at hv
  rw [Try.underlying4] at hv
  cases v <;> simp at hv
  exact congrArg Value.bool (hv.1.trans (by simp))
 subst e
 refine wpList_plain hg fun K' hK' => ?_
 unfold Oper.wp
 simp [execOp, hop, hm, hx, hrun, Result.andThen]
 rw [show seen.contains id = decide (id ∈ seen) by simp] at hK
 exact hK' _ _ hK
theorem impl_WheelOk.mkmap {ops : Array Oper} {rest : List Oper} {o : Oper} {a : Act} {W : World} {Q : Exit → Act → World → Prop} (hg : o.guard = none) (hop : o.op = .makeMap 52 none)
  (hK : ∀ (W' : World) (b : Nat), impl_WheelOk.OM W' b [] → W.heap.size ≤ b → b = W.heap.size → Below W.heap.size W W' → wpList Try.prog ops Q rest (a.put o.dst (.map (some b))) W') : wpList Try.prog ops Q (o :: rest) a W := by
 refine wpList_plain hg fun K' hK' => ?_
 unfold Oper.wp
 simp [execOp, hop, run_makeMap, Result.andThen]
 exact hK' _ _ (hK _ _ (impl_WheelOk.OM_made W) (Nat.le_refl _) rfl ((Below.refl _ W).alloc (Nat.le_refl _) _))
theorem impl_WheelOk.upd {ops : Array Oper} {rest : List Oper} {o : Oper} {a : Act} {W : World} {Q : Exit → Act → World → Prop} {m x v : Operand} {b : Nat} {id : Int} {seen : List Int} (hg : o.guard = none) (hop : o.op = .mapUpdate 52 m x v) (hd : o.dst = none) (hm : a.eval m = .map (some b)) (hx : a.eval x = .int .i64 id) (hy : a.eval v = .bool true) (h : impl_WheelOk.OM W b seen) (h0 : 0 ≤ id) (h1 : id ≤ 9999) (hn : seen.contains id = false) (hlen : seen.length < maxLen)
  (hK : ∀ W' : World, impl_WheelOk.OM W' b (seen ++ [id]) → (∀ j, j < W.heap.size → j ≠ b → W'.heap[j]? = W.heap[j]?) → (∀ w0 : World, Below w0.heap.size w0 W → w0.heap.size ≤ b → Below w0.heap.size w0 W') → wpList Try.prog ops Q rest a W') : wpList Try.prog ops Q (o :: rest) a W := by
 obtain ⟨D, hown, hs, hat⟩ := h
 have hwf := impl_WheelOk.wf h0 h1
 have K := Maps.int_keyed (P := Try.prog) Try.underlying3
 have hkey := Maps.keyOf_int_mk (P := Try.prog) Try.underlying3 hwf
 obtain ⟨W', hrun, r1, r2⟩ := hown.update K Try.underlying52 hlen hkey (plainElem_bool Try.underlying4 true)
 have hM : Maps.IsMap D := hown.isMap
 refine wpList_plain hg fun K' hK' => ?_
 unfold Oper.wp
 simp [execOp, hop, hm, hx, hy, hrun, Result.andThen]
 refine hK' _ _ ?_
 rw [hd]
 refine hK W' ⟨D.put (.int .i64 id) (.lit (.bool true)), by rw [List.length_append]; exact r1, ?_, fun id' g0 g1 => ?_⟩ ?_ ?_
 ·rw [impl_WheelOk.size_put hM ((hat id h0 h1).2.trans hn), hs]
  first | done | simp
 ·by_cases e : id' = id
  ·subst e
   rw [Maps.atKey_put_same hM (K.key hkey), Maps.has_put_same hM (K.key hkey)]
   have hc : (seen ++ [id']).contains id' = true := by simp
   rw [hc]
   exact ⟨rfl, rfl⟩
  ·have ne : (Lit.int .i64 id') ≠ (Lit.int .i64 id) := fun q => e (by injection q)
   rw [Maps.atKey_put_other ne, Maps.has_put_other ne, (hat id' g0 g1).1, (hat id' g0 g1).2]
   simp [e]
 ·intro j hl hj
  exact r2.block j hl (fun e => hj (Option.some.inj e))
 ·intro w0 hb hle
  exact hb.grown r2 hb.size (fun k e => by cases e; exact hle)
set_option maxHeartbeats 8000000 in
set_option maxRecDepth 100000 in
theorem impl_WheelOk.calls (a0_0 : Int) (A0_1 : Option Addr) (c0_1 : Nat) (l0_1 : List (S47)) (r : Bool) (w : World) (hr0_1 : Kd.C k47 w A0_1 l0_1.length l0_1) (hc0_1 : l0_1.length ≤ c0_1) (h : impl_WheelOk.f a0_0 l0_1 = some r) :
  Calls Try.prog 16 #[.agg #[.int .i64 a0_0, .slice A0_1 l0_1.length c0_1]] w fun e w' => e = .returned (.bool r) ∧ Below w.heap.size w w' := by
 have hu24 := Try.underlying24
 have hu47 := Try.underlying47
 have hu50 := Try.underlying50
 have HR0 := Gv.a0 hr0_1
 have HC0 := Gv.a0 hc0_1
 have HRr := Gv.a0 (show Gv.wheelOk (fun s : S47 => s.f0) (fun x : S50 => x.f0) (fun x : S50 => x.f1) a0_0 l0_1 = r from Option.some.inj h)
 clear hr0_1 hc0_1 h
 have HB := Gv.a0 (Below.refl w.heap.size w)
 cases hn : Gv.wi a0_0 0 1000000000000 with
 | false =>
  have A1 := Gv.a0 ((impl_WheelOk.now a0_0).trans (congrArg some hn))
  have Hr : r = false := by rw [← HRr.out]; unfold Gv.wheelOk; rw [hn]; rfl
  subst Hr
  clear HRr hn
  go_enter Try.func16, Try.ntmps16
  go_wp2_with (first | ((with_reducible refine gate_dst (N := 1) rfl ?_); refine box_event ?hg (N := 1) ?hd (cs := #[.int .i64 a0_0, .slice A0_1 l0_1.length c0_1]) (t := 24) ?hr ?_; (case hd => rfl); (case hg => rfl); (case hr => first | (go_simp; done) | (go_simp; rfl)); intro gb1 hg w1 hbox hb; have n0_ := Gv.a0 (below_step Gv.bw hb); have n1_ := Gv.a0 hbox; have n2_ := Gv.a0 ((Gv.ble hg Gv.bw : w.heap.size ≤ gb1)); (try clear HB); clear hb hbox hg; have HB := n0_; have BK1 := n1_; have GE1 := n2_; clear n0_ n1_ n2_; (try clear hz1_0); have hz1_0 := (blk_cell BK1.out 0).trans (rfl : _ = (some (.int .i64 a0_0) : Option Value)); (try clear hz1_1); have hz1_1 := (blk_cell BK1.out 1).trans (rfl : _ = (some (.slice A0_1 l0_1.length c0_1) : Option Value)); (try clear hf1_0); have hf1_0 := blk_frozen BK1.out 0; (try clear hf1_1); have hf1_1 := blk_frozen BK1.out 1) | ((with_reducible refine gate_callee (f := 23) rfl ?_); (try (refine gate_guard (by rfl) ?_; dsimp only)); refine goesL_ (some 10) rfl rfl Try.func23 (by kernel_rfl) rfl #[.int .i64 a0_0] rfl Gv.lm ?_; (with_reducible refine (impl_isNow.calls a0_0 false _ A1.out).mono ?_); rintro e wc ⟨rfl, hd⟩; refine ⟨_, rfl, ?_⟩; have hb := hd.below; clear hd; have n0_ := Gv.a0 (below_step Gv.bw hb); have n1_ := Gv.a0 (Gv.bb BK1.out hb); clear HB BK1 hb; have HB := n0_; have BK1 := n1_; clear n0_ n1_; (try clear hz1_0); have hz1_0 := (blk_cell BK1.out 0).trans (rfl : _ = (some (.int .i64 a0_0) : Option Value)); (try clear hz1_1); have hz1_1 := (blk_cell BK1.out 1).trans (rfl : _ = (some (.slice A0_1 l0_1.length c0_1) : Option Value)); (try clear hf1_0); have hf1_0 := blk_frozen BK1.out 0; (try clear hf1_1); have hf1_1 := blk_frozen BK1.out 1))
  go_ret
  exact ⟨rfl, HB.out⟩
 | true =>
  have A1 := Gv.a0 ((impl_WheelOk.now a0_0).trans (congrArg some hn))
  by_cases hl : l0_1.length = 8
  rotate_left
  ·have e8 : ((l0_1.length : Int) == 8) = false := beq_eq_false_iff_ne.2 (by omega)
   have e9 : ((l0_1.length : Int) != 8) = true := bne_iff_ne.2 (by omega)
   have Hr : r = false := by rw [← HRr.out]; unfold Gv.wheelOk; rw [hn, decide_eq_false hl]; rfl
   subst Hr
   clear HRr hn hl
   go_enter Try.func16, Try.ntmps16
   go_wp2_with (first | ((with_reducible refine gate_dst (N := 1) rfl ?_); refine box_event ?hg (N := 1) ?hd (cs := #[.int .i64 a0_0, .slice A0_1 l0_1.length c0_1]) (t := 24) ?hr ?_; (case hd => rfl); (case hg => rfl); (case hr => first | (go_simp; done) | (go_simp; rfl)); intro gb1 hg w1 hbox hb; have n0_ := Gv.a0 (below_step Gv.bw hb); have n1_ := Gv.a0 hbox; have n2_ := Gv.a0 ((Gv.ble hg Gv.bw : w.heap.size ≤ gb1)); (try clear HB); clear hb hbox hg; have HB := n0_; have BK1 := n1_; have GE1 := n2_; clear n0_ n1_ n2_; (try clear hz1_0); have hz1_0 := (blk_cell BK1.out 0).trans (rfl : _ = (some (.int .i64 a0_0) : Option Value)); (try clear hz1_1); have hz1_1 := (blk_cell BK1.out 1).trans (rfl : _ = (some (.slice A0_1 l0_1.length c0_1) : Option Value)); (try clear hf1_0); have hf1_0 := blk_frozen BK1.out 0; (try clear hf1_1); have hf1_1 := blk_frozen BK1.out 1) | ((with_reducible refine gate_callee (f := 23) rfl ?_); (try (refine gate_guard (by rfl) ?_; dsimp only)); refine goesL_ (some 10) rfl rfl Try.func23 (by kernel_rfl) rfl #[.int .i64 a0_0] rfl Gv.lm ?_; (with_reducible refine (impl_isNow.calls a0_0 true _ A1.out).mono ?_); rintro e wc ⟨rfl, hd⟩; refine ⟨_, rfl, ?_⟩; have hb := hd.below; clear hd; have n0_ := Gv.a0 (below_step Gv.bw hb); have n1_ := Gv.a0 (Gv.bb BK1.out hb); clear HB BK1 hb; have HB := n0_; have BK1 := n1_; clear n0_ n1_; (try clear hz1_0); have hz1_0 := (blk_cell BK1.out 0).trans (rfl : _ = (some (.int .i64 a0_0) : Option Value)); (try clear hz1_1); have hz1_1 := (blk_cell BK1.out 1).trans (rfl : _ = (some (.slice A0_1 l0_1.length c0_1) : Option Value)); (try clear hf1_0); have hf1_0 := blk_frozen BK1.out 0; (try clear hf1_1); have hf1_1 := blk_frozen BK1.out 1))
   go_ret
   exact ⟨rfl, HB.out⟩
  ·have e8 : ((l0_1.length : Int) == 8) = true := beq_iff_eq.2 (by omega)
   have e9 : ((l0_1.length : Int) != 8) = false := bne_eq_false_iff_eq.2 (by omega)
   have HN := Gv.a0 (show Gv.wkEnd (Gv.wkOut (fun s : S47 => s.f0) (fun x : S50 => x.f0) (fun x : S50 => x.f1) a0_0 l0_1 0 []) = r from by rw [← HRr.out]; unfold Gv.wheelOk; rw [hn, decide_eq_true hl]; rfl)
   have HL := Gv.a0 hl
   clear HRr hn hl
   go_enter Try.func16, Try.ntmps16
   go_wp2_with (first | ((with_reducible refine gate_dst (N := 1) rfl ?_); refine box_event ?hg (N := 1) ?hd (cs := #[.int .i64 a0_0, .slice A0_1 l0_1.length c0_1]) (t := 24) ?hr ?_; (case hd => rfl); (case hg => rfl); (case hr => first | (go_simp; done) | (go_simp; rfl)); intro gb1 hg w1 hbox hb; have n0_ := Gv.a0 (below_step Gv.bw hb); have n1_ := Gv.a0 hbox; have n2_ := Gv.a0 ((Gv.ble hg Gv.bw : w.heap.size ≤ gb1)); (try clear HB); clear hb hbox hg; have HB := n0_; have BK1 := n1_; have GE1 := n2_; clear n0_ n1_ n2_; (try clear hz1_0); have hz1_0 := (blk_cell BK1.out 0).trans (rfl : _ = (some (.int .i64 a0_0) : Option Value)); (try clear hz1_1); have hz1_1 := (blk_cell BK1.out 1).trans (rfl : _ = (some (.slice A0_1 l0_1.length c0_1) : Option Value)); (try clear hf1_0); have hf1_0 := blk_frozen BK1.out 0; (try clear hf1_1); have hf1_1 := blk_frozen BK1.out 1) | ((with_reducible refine gate_callee (f := 23) rfl ?_); (try (refine gate_guard (by rfl) ?_; dsimp only)); refine goesL_ (some 10) rfl rfl Try.func23 (by kernel_rfl) rfl #[.int .i64 a0_0] rfl Gv.lm ?_; (with_reducible refine (impl_isNow.calls a0_0 true _ A1.out).mono ?_); rintro e wc ⟨rfl, hd⟩; refine ⟨_, rfl, ?_⟩; have hb := hd.below; clear hd; have n0_ := Gv.a0 (below_step Gv.bw hb); have n1_ := Gv.a0 (Gv.bb BK1.out hb); clear HB BK1 hb; have HB := n0_; have BK1 := n1_; clear n0_ n1_; (try clear hz1_0); have hz1_0 := (blk_cell BK1.out 0).trans (rfl : _ = (some (.int .i64 a0_0) : Option Value)); (try clear hz1_1); have hz1_1 := (blk_cell BK1.out 1).trans (rfl : _ = (some (.slice A0_1 l0_1.length c0_1) : Option Value)); (try clear hf1_0); have hf1_0 := blk_frozen BK1.out 0; (try clear hf1_1); have hf1_1 := blk_frozen BK1.out 1) | ((with_reducible refine gate_dst (N := 18) rfl ?_); refine impl_WheelOk.mkmap rfl rfl ?_; intro wm bm hM hge hbm hb; have n0_ := Gv.a0 (below_step Gv.bw hb); have n1_ := Gv.a0 (Gv.bb BK1.out hb); have n2_ := Gv.a0 hM; have n3_ := Gv.a0 (show w.heap.size ≤ bm from Nat.le_trans (below_size Gv.bw) hge); have n4_ := Gv.a0 (show gb1 ≠ bm from by rw [hbm]; exact Nat.ne_of_lt (blk_lt BK1.out)); clear HB BK1 hM hge hbm hb; have HB := n0_; have BK1 := n1_; have HM := n2_; have GEM := n3_; have NM1 := n4_; clear n0_ n1_ n2_ n3_ n4_; (try clear hz1_0); have hz1_0 := (blk_cell BK1.out 0).trans (rfl : _ = (some (.int .i64 a0_0) : Option Value)); (try clear hz1_1); have hz1_1 := (blk_cell BK1.out 1).trans (rfl : _ = (some (.slice A0_1 l0_1.length c0_1) : Option Value)); (try clear hf1_0); have hf1_0 := blk_frozen BK1.out 0; (try clear hf1_1); have hf1_1 := blk_frozen BK1.out 1))
   go_loopg [22] l0_1.length (fun gg s22 wr => ∃ (kk : Nat) (seen : List Int), kk ≤ l0_1.length ∧ l0_1.length - kk ≤ gg ∧ s22 = .int .i64 (kk : Int) ∧ Aside0 (Gv.wkEnd (Gv.wkOut (fun s : S47 => s.f0) (fun x : S50 => x.f0) (fun x : S50 => x.f1) a0_0 (l0_1.drop kk) kk seen) = r) ∧ Aside0 (seen.Nodup ∧ ∀ x, x ∈ seen → 0 ≤ x ∧ x < (10000 : Nat)) ∧ Aside0 (impl_WheelOk.OM wr bm seen) ∧ Aside0 (wr.heap[gb1]? = some (.cells #[.int .i64 a0_0, .slice A0_1 l0_1.length c0_1] 24 (0, 0))) ∧ Aside0 (Below w.heap.size w wr))
   case atStart => exact ⟨0, [], Nat.zero_le _, by omega, rfl, ⟨by rw [List.drop_zero]; exact HN.out⟩, ⟨List.nodup_nil, fun x hx => by cases hx⟩, ⟨HM.out⟩, ⟨BK1.out⟩, ⟨HB.out⟩⟩
   case round =>
    clear HN HM BK1 HB
    (try clear hz1_0); (try clear hz1_1); (try clear hf1_0); (try clear hf1_1)
    obtain ⟨kk, seen, hkk, hg, rfl, HN, HI, HM, BK1, HB⟩ := hrel
    have HKK := Gv.a0 hkk
    have HG := Gv.a0 hg
    clear hkk hg
    by_cases hlt : kk < l0_1.length
    ·have hltz : (kk : Int) < (l0_1.length : Int) := by omega
     have hk0 : 0 ≤ (kk : Int) := by omega
     obtain ⟨ad, A1, c1, e1, hx, hl1, hi1⟩ := at_T47 HR0.out (kk : Int) hk0 hltz
     cases e1
     rw [Int.toNat_natCast] at hx
     replace hx := Gv.bx HB.out hx
     have hget : l0_1.drop kk = rd_T47 l0_1 (kk : Int) :: l0_1.drop (kk + 1) := by
      rw [List.drop_eq_getElem_cons hlt]
      congr 1
      unfold rd_T47
      rw [Int.toNat_natCast, List.getD_eq_getElem?_getD, List.getElem?_eq_getElem hlt]
      rfl
     have hN := HN.out
     rw [hget, Gv.wkOut] at hN
     clear HN hget
     have HN := Gv.a0 hN
     have HR1 := Gv.a0 hi1
     have HC1 := Gv.a0 hl1
     have HLT := Gv.a0 hlt
     clear hN hi1 hl1 hlt
     (try clear hz1_0); have hz1_0 := (blk_cell BK1.out 0).trans (rfl : _ = (some (.int .i64 a0_0) : Option Value)); (try clear hz1_1); have hz1_1 := (blk_cell BK1.out 1).trans (rfl : _ = (some (.slice (some ad) l0_1.length c0_1) : Option Value)); (try clear hf1_0); have hf1_0 := blk_frozen BK1.out 0; (try clear hf1_1); have hf1_1 := blk_frozen BK1.out 1
     go_wp2_with (first | ((with_reducible refine gate_dst (N := 5) rfl ?_); refine box_event ?hg (N := 5) ?hd (cs := #[.slice none 0 0]) (t := 47) ?hr ?_; (case hd => rfl); (case hg => rfl); (case hr => first | (go_simp; done) | (go_simp; rfl)); intro gb5 hg w5 hbox hb; have n0_ := Gv.a0 (below_step Gv.bw hb); have n1_ := Gv.a0 hbox; have n2_ := Gv.a0 ((Gv.ble hg Gv.bw : w.heap.size ≤ gb5)); have n3_ := Gv.a0 (Gv.bb BK1.out hb); have n4_ := Gv.a0 ((Gv.ngt hg (Gv.kb BK1.out) : gb5 ≠ gb1)); have n5_ := Gv.a0 (impl_WheelOk.OM_below HM.out hb); have n6_ := Gv.a0 (show gb5 ≠ bm from by rw [hg]; exact Nat.ne_of_gt (impl_WheelOk.OM_lt HM.out)); (try clear HB BK1 HM); clear hb hbox hg; have HB := n0_; have BK5 := n1_; have GE5 := n2_; have BK1 := n3_; have NB5_1 := n4_; have HM := n5_; have NM5 := n6_; clear n0_ n1_ n2_ n3_ n4_ n5_ n6_) | ((with_reducible refine gate_store (t := 47) (p := 5) rfl ?_); refine Gv.store_event rfl rfl rfl rfl rfl (Gv.kb BK5.out) (by kernel_rfl) rfl (by first | rfl | (simp; done) | (simp; and_intros <;> rfl)) ?_; intro w5s hbox hoth hbel; have n0_ := Gv.a0 hbox; have n1_ := Gv.a0 (hbel w Gv.bw GE5.out); have n2_ := Gv.a0 ((hoth gb1 NB5_1.out.symm).trans (Gv.kb BK1.out)); have n3_ := Gv.a0 (impl_WheelOk.OM_move HM.out (hoth bm NM5.out.symm)); clear BK5 HB BK1 HM hbox hoth hbel; have BK5 := n0_; have HB := n1_; have BK1 := n2_; have HM := n3_; clear n0_ n1_ n2_ n3_; (try clear hz1_0); have hz1_0 := (blk_cell BK1.out 0).trans (rfl : _ = (some (.int .i64 a0_0) : Option Value)); (try clear hz1_1); have hz1_1 := (blk_cell BK1.out 1).trans (rfl : _ = (some (.slice (some ad) l0_1.length c0_1) : Option Value)); (try clear hf1_0); have hf1_0 := blk_frozen BK1.out 0; (try clear hf1_1); have hf1_1 := blk_frozen BK1.out 1; (try clear hz5_0); have hz5_0 := (blk_cell BK5.out 0).trans (rfl : _ = (some (.slice A1 (rd_T47 l0_1 (kk : Int)).f0.length c1) : Option Value)); (try clear hf5_0); have hf5_0 := blk_frozen BK5.out 0))
     go_loopg [30] (rd_T47 l0_1 (kk : Int)).f0.length (fun gg s30 wr => ∃ (jj : Nat) (seen : List Int), jj ≤ (rd_T47 l0_1 (kk : Int)).f0.length ∧ (rd_T47 l0_1 (kk : Int)).f0.length - jj ≤ gg ∧ s30 = .int .i64 (jj : Int) ∧ Aside0 (Gv.wkEnd ((Gv.wkIn (fun x : S50 => x.f0) (fun x : S50 => x.f1) a0_0 (kk : Int) ((rd_T47 l0_1 (kk : Int)).f0.drop jj) seen).bind fun seen' => Gv.wkOut (fun s : S47 => s.f0) (fun x : S50 => x.f0) (fun x : S50 => x.f1) a0_0 (l0_1.drop (kk + 1)) (kk + 1) seen') = r) ∧ Aside0 (seen.Nodup ∧ ∀ x, x ∈ seen → 0 ≤ x ∧ x < (10000 : Nat)) ∧ Aside0 (impl_WheelOk.OM wr bm seen) ∧ Aside0 (wr.heap[gb1]? = some (.cells #[.int .i64 a0_0, .slice (some ad) l0_1.length c0_1] 24 (0, 0))) ∧ Aside0 (Below w.heap.size w wr))
     case atStart => exact ⟨0, seen, Nat.zero_le _, by omega, rfl, ⟨by rw [List.drop_zero]; exact HN.out⟩, ⟨HI.out⟩, ⟨HM.out⟩, ⟨BK1.out⟩, ⟨HB.out⟩⟩
     case round =>
      clear HN HM BK1 HB HI BK5 hx
      (try clear hz1_0); (try clear hz1_1); (try clear hf1_0); (try clear hf1_1); (try clear hz5_0); (try clear hf5_0)
      obtain ⟨jj, seen, hjj, hg, rfl, HN, HI, HM, BK1, HB⟩ := hrel
      have HJJ := Gv.a0 hjj
      have HG2 := Gv.a0 hg
      clear hjj hg
      by_cases hlt : jj < (rd_T47 l0_1 (kk : Int)).f0.length
      ·have hltz2 : (jj : Int) < ((rd_T47 l0_1 (kk : Int)).f0.length : Int) := by omega
       have hj0 : 0 ≤ (jj : Int) := by omega
       obtain ⟨ad2, e2, hy0, hy1⟩ := at_T50 (Kd.C_below HR1.out HB.out) (jj : Int) hj0 hltz2
       cases e2
       obtain ⟨x_, hx_⟩ : ∃ x_, x_ = rd_T50 (rd_T47 l0_1 (kk : Int)).f0 (jj : Int) := ⟨_, rfl⟩
       rw [← hx_, Int.toNat_natCast] at hy0 hy1
       have hget : (rd_T47 l0_1 (kk : Int)).f0.drop jj = x_ :: (rd_T47 l0_1 (kk : Int)).f0.drop (jj + 1) := by
        rw [List.drop_eq_getElem_cons hlt, hx_]
        congr 1
        unfold rd_T50
        rw [Int.toNat_natCast, List.getD_eq_getElem?_getD, List.getElem?_eq_getElem hlt]
        rfl
       have hN := HN.out
       rw [hget, Gv.wkIn] at hN
       clear HN hget hx_
       have HN := Gv.a0 hN
       have HLT2 := Gv.a0 hlt
       clear hN hlt
       (try clear hz1_0); have hz1_0 := (blk_cell BK1.out 0).trans (rfl : _ = (some (.int .i64 a0_0) : Option Value)); (try clear hz1_1); have hz1_1 := (blk_cell BK1.out 1).trans (rfl : _ = (some (.slice (some ad) l0_1.length c0_1) : Option Value)); (try clear hf1_0); have hf1_0 := blk_frozen BK1.out 0; (try clear hf1_1); have hf1_1 := blk_frozen BK1.out 1
       cases h1 : Gv.wi x_.f0 0 9999 with
       | false =>
        have A2 := Gv.a0 ((impl_WheelOk.within x_.f0 0 9999).trans (congrArg some h1))
        have Hr := Gv.a0 (show false = r from by
         have hN := HN.out
         unfold Gv.wkBad at hN
         rw [h1, Bool.not_false, Bool.true_or, if_pos rfl] at hN
         exact hN)
        clear HN h1
        go_wp2_with (first | ((with_reducible refine gate_dst (N := 7) rfl ?_); refine box_event ?hg (N := 7) ?hd (cs := #[.int .i64 0, .int .i64 0]) (t := 50) ?hr ?_; (case hd => rfl); (case hg => rfl); (case hr => first | (go_simp; done) | (go_simp; rfl)); intro gb7 hg w7 hbox hb; have n0_ := Gv.a0 (below_step Gv.bw hb); have n1_ := Gv.a0 hbox; have n2_ := Gv.a0 ((Gv.ble hg Gv.bw : w.heap.size ≤ gb7)); have n3_ := Gv.a0 (Gv.bb BK1.out hb); have n4_ := Gv.a0 ((Gv.ngt hg (Gv.kb BK1.out) : gb7 ≠ gb1)); have n5_ := Gv.a0 (impl_WheelOk.OM_below HM.out hb); have n6_ := Gv.a0 (show gb7 ≠ bm from by rw [hg]; exact Nat.ne_of_gt (impl_WheelOk.OM_lt HM.out)); (try clear HB BK1 HM); clear hb hbox hg; have HB := n0_; have BK7 := n1_; have GE7 := n2_; have BK1 := n3_; have NB7_1 := n4_; have HM := n5_; have NM7 := n6_; clear n0_ n1_ n2_ n3_ n4_ n5_ n6_) | ((with_reducible refine gate_store (t := 50) (p := 7) rfl ?_); refine Gv.store_event rfl rfl rfl rfl rfl (Gv.kb BK7.out) (by kernel_rfl) rfl (by first | rfl | (simp; done) | (simp; and_intros <;> rfl)) ?_; intro w7s hbox hoth hbel; have n0_ := Gv.a0 hbox; have n1_ := Gv.a0 (hbel w Gv.bw GE7.out); have n2_ := Gv.a0 ((hoth gb1 NB7_1.out.symm).trans (Gv.kb BK1.out)); have n3_ := Gv.a0 (impl_WheelOk.OM_move HM.out (hoth bm NM7.out.symm)); clear BK7 HB BK1 HM hbox hoth hbel; have BK7 := n0_; have HB := n1_; have BK1 := n2_; have HM := n3_; clear n0_ n1_ n2_ n3_; (try clear hz1_0); have hz1_0 := (blk_cell BK1.out 0).trans (rfl : _ = (some (.int .i64 a0_0) : Option Value)); (try clear hz1_1); have hz1_1 := (blk_cell BK1.out 1).trans (rfl : _ = (some (.slice (some ad) l0_1.length c0_1) : Option Value)); (try clear hf1_0); have hf1_0 := blk_frozen BK1.out 0; (try clear hf1_1); have hf1_1 := blk_frozen BK1.out 1; (try clear hz7_0); have hz7_0 := (blk_cell BK7.out 0).trans (rfl : _ = (some (.int .i64 x_.f0) : Option Value)); (try clear hz7_1); have hz7_1 := (blk_cell BK7.out 1).trans (rfl : _ = (some (.int .i64 x_.f1) : Option Value)); (try clear hf7_0); have hf7_0 := blk_frozen BK7.out 0; (try clear hf7_1); have hf7_1 := blk_frozen BK7.out 1) | ((with_reducible refine gate_callee (f := 30) rfl ?_); (try (refine gate_guard (by rfl) ?_; dsimp only)); refine goesL_ (some 36) rfl rfl Try.func30 (by kernel_rfl) rfl #[.int .i64 x_.f0, .int .i64 0, .int .i64 9999] rfl Gv.lm ?_; (with_reducible refine (impl_within.calls x_.f0 0 9999 false _ A2.out).mono ?_); rintro e wc ⟨rfl, hd⟩; refine ⟨_, rfl, ?_⟩; have hb := hd.below; clear hd; have n0_ := Gv.a0 (below_step Gv.bw hb); have n1_ := Gv.a0 (Gv.bb BK1.out hb); have n2_ := Gv.a0 (Gv.bb BK7.out hb); have n3_ := Gv.a0 (impl_WheelOk.OM_below HM.out hb); clear HB BK1 BK7 HM hb; have HB := n0_; have BK1 := n1_; have BK7 := n2_; have HM := n3_; clear n0_ n1_ n2_ n3_; (try clear hz1_0); have hz1_0 := (blk_cell BK1.out 0).trans (rfl : _ = (some (.int .i64 a0_0) : Option Value)); (try clear hz1_1); have hz1_1 := (blk_cell BK1.out 1).trans (rfl : _ = (some (.slice (some ad) l0_1.length c0_1) : Option Value)); (try clear hf1_0); have hf1_0 := blk_frozen BK1.out 0; (try clear hf1_1); have hf1_1 := blk_frozen BK1.out 1; (try clear hz7_0); have hz7_0 := (blk_cell BK7.out 0).trans (rfl : _ = (some (.int .i64 x_.f0) : Option Value)); (try clear hz7_1); have hz7_1 := (blk_cell BK7.out 1).trans (rfl : _ = (some (.int .i64 x_.f1) : Option Value)); (try clear hf7_0); have hf7_0 := blk_frozen BK7.out 0; (try clear hf7_1); have hf7_1 := blk_frozen BK7.out 1))
        go_ret
        exact ⟨by rw [← Hr.out]; rfl, HB.out⟩
       | true =>
        have A2 := Gv.a0 ((impl_WheelOk.within x_.f0 0 9999).trans (congrArg some h1))
        have hr1 : 0 ≤ x_.f0 ∧ x_.f0 ≤ 9999 := by
         unfold Gv.wi at h1
         rw [Bool.and_eq_true, decide_eq_true_eq, decide_eq_true_eq] at h1
         exact h1
        have HW := Gv.a0 hr1
        clear hr1
        cases h2 : seen.contains x_.f0 with
        | true =>
         have Hr := Gv.a0 (show false = r from by
          have hN := HN.out
          unfold Gv.wkBad at hN
          rw [h1, h2, Bool.not_true, Bool.false_or, Bool.true_or, if_pos rfl] at hN
          exact hN)
         have H2 := Gv.a0 h2
         clear HN h1 h2
         go_wp2_with (first | ((with_reducible refine gate_dst (N := 7) rfl ?_); refine box_event ?hg (N := 7) ?hd (cs := #[.int .i64 0, .int .i64 0]) (t := 50) ?hr ?_; (case hd => rfl); (case hg => rfl); (case hr => first | (go_simp; done) | (go_simp; rfl)); intro gb7 hg w7 hbox hb; have n0_ := Gv.a0 (below_step Gv.bw hb); have n1_ := Gv.a0 hbox; have n2_ := Gv.a0 ((Gv.ble hg Gv.bw : w.heap.size ≤ gb7)); have n3_ := Gv.a0 (Gv.bb BK1.out hb); have n4_ := Gv.a0 ((Gv.ngt hg (Gv.kb BK1.out) : gb7 ≠ gb1)); have n5_ := Gv.a0 (impl_WheelOk.OM_below HM.out hb); have n6_ := Gv.a0 (show gb7 ≠ bm from by rw [hg]; exact Nat.ne_of_gt (impl_WheelOk.OM_lt HM.out)); (try clear HB BK1 HM); clear hb hbox hg; have HB := n0_; have BK7 := n1_; have GE7 := n2_; have BK1 := n3_; have NB7_1 := n4_; have HM := n5_; have NM7 := n6_; clear n0_ n1_ n2_ n3_ n4_ n5_ n6_) | ((with_reducible refine gate_store (t := 50) (p := 7) rfl ?_); refine Gv.store_event rfl rfl rfl rfl rfl (Gv.kb BK7.out) (by kernel_rfl) rfl (by first | rfl | (simp; done) | (simp; and_intros <;> rfl)) ?_; intro w7s hbox hoth hbel; have n0_ := Gv.a0 hbox; have n1_ := Gv.a0 (hbel w Gv.bw GE7.out); have n2_ := Gv.a0 ((hoth gb1 NB7_1.out.symm).trans (Gv.kb BK1.out)); have n3_ := Gv.a0 (impl_WheelOk.OM_move HM.out (hoth bm NM7.out.symm)); clear BK7 HB BK1 HM hbox hoth hbel; have BK7 := n0_; have HB := n1_; have BK1 := n2_; have HM := n3_; clear n0_ n1_ n2_ n3_; (try clear hz1_0); have hz1_0 := (blk_cell BK1.out 0).trans (rfl : _ = (some (.int .i64 a0_0) : Option Value)); (try clear hz1_1); have hz1_1 := (blk_cell BK1.out 1).trans (rfl : _ = (some (.slice (some ad) l0_1.length c0_1) : Option Value)); (try clear hf1_0); have hf1_0 := blk_frozen BK1.out 0; (try clear hf1_1); have hf1_1 := blk_frozen BK1.out 1; (try clear hz7_0); have hz7_0 := (blk_cell BK7.out 0).trans (rfl : _ = (some (.int .i64 x_.f0) : Option Value)); (try clear hz7_1); have hz7_1 := (blk_cell BK7.out 1).trans (rfl : _ = (some (.int .i64 x_.f1) : Option Value)); (try clear hf7_0); have hf7_0 := blk_frozen BK7.out 0; (try clear hf7_1); have hf7_1 := blk_frozen BK7.out 1) | ((with_reducible refine gate_callee (f := 30) rfl ?_); (try (refine gate_guard (by rfl) ?_; dsimp only)); refine goesL_ (some 36) rfl rfl Try.func30 (by kernel_rfl) rfl #[.int .i64 x_.f0, .int .i64 0, .int .i64 9999] rfl Gv.lm ?_; (with_reducible refine (impl_within.calls x_.f0 0 9999 true _ A2.out).mono ?_); rintro e wc ⟨rfl, hd⟩; refine ⟨_, rfl, ?_⟩; have hb := hd.below; clear hd; have n0_ := Gv.a0 (below_step Gv.bw hb); have n1_ := Gv.a0 (Gv.bb BK1.out hb); have n2_ := Gv.a0 (Gv.bb BK7.out hb); have n3_ := Gv.a0 (impl_WheelOk.OM_below HM.out hb); clear HB BK1 BK7 HM hb; have HB := n0_; have BK1 := n1_; have BK7 := n2_; have HM := n3_; clear n0_ n1_ n2_ n3_; (try clear hz1_0); have hz1_0 := (blk_cell BK1.out 0).trans (rfl : _ = (some (.int .i64 a0_0) : Option Value)); (try clear hz1_1); have hz1_1 := (blk_cell BK1.out 1).trans (rfl : _ = (some (.slice (some ad) l0_1.length c0_1) : Option Value)); (try clear hf1_0); have hf1_0 := blk_frozen BK1.out 0; (try clear hf1_1); have hf1_1 := blk_frozen BK1.out 1; (try clear hz7_0); have hz7_0 := (blk_cell BK7.out 0).trans (rfl : _ = (some (.int .i64 x_.f0) : Option Value)); (try clear hz7_1); have hz7_1 := (blk_cell BK7.out 1).trans (rfl : _ = (some (.int .i64 x_.f1) : Option Value)); (try clear hf7_0); have hf7_0 := blk_frozen BK7.out 0; (try clear hf7_1); have hf7_1 := blk_frozen BK7.out 1) | ((with_reducible refine gate_dst (N := 42) rfl ?_); (try (refine gate_guard (by rfl) ?_; dsimp only)); refine impl_WheelOk.look rfl rfl rfl rfl HM.out HW.out.1 HW.out.2 ?_; rw [H2.out]))
         go_ret
         exact ⟨by rw [← Hr.out]; rfl, HB.out⟩
        | false =>
         have H2 := Gv.a0 h2
         cases h3 : Gv.wi x_.f1 (wrap64 (a0_0 + 1)) (wrap64 (a0_0 + 1000)) with
         | false =>
          have A3 := Gv.a0 ((impl_WheelOk.ahead a0_0 l0_1 x_.f1).trans (congrArg some h3))
          have Hr := Gv.a0 (show false = r from by
           have hN := HN.out
           unfold Gv.wkBad at hN
           rw [h1, h2, h3, Bool.not_true, Bool.false_or, Bool.false_or, Bool.not_false, Bool.true_or, if_pos rfl] at hN
           exact hN)
          clear HN h1 h2 h3
          go_wp2_with (first | ((with_reducible refine gate_dst (N := 7) rfl ?_); refine box_event ?hg (N := 7) ?hd (cs := #[.int .i64 0, .int .i64 0]) (t := 50) ?hr ?_; (case hd => rfl); (case hg => rfl); (case hr => first | (go_simp; done) | (go_simp; rfl)); intro gb7 hg w7 hbox hb; have n0_ := Gv.a0 (below_step Gv.bw hb); have n1_ := Gv.a0 hbox; have n2_ := Gv.a0 ((Gv.ble hg Gv.bw : w.heap.size ≤ gb7)); have n3_ := Gv.a0 (Gv.bb BK1.out hb); have n4_ := Gv.a0 ((Gv.ngt hg (Gv.kb BK1.out) : gb7 ≠ gb1)); have n5_ := Gv.a0 (impl_WheelOk.OM_below HM.out hb); have n6_ := Gv.a0 (show gb7 ≠ bm from by rw [hg]; exact Nat.ne_of_gt (impl_WheelOk.OM_lt HM.out)); (try clear HB BK1 HM); clear hb hbox hg; have HB := n0_; have BK7 := n1_; have GE7 := n2_; have BK1 := n3_; have NB7_1 := n4_; have HM := n5_; have NM7 := n6_; clear n0_ n1_ n2_ n3_ n4_ n5_ n6_) | ((with_reducible refine gate_store (t := 50) (p := 7) rfl ?_); refine Gv.store_event rfl rfl rfl rfl rfl (Gv.kb BK7.out) (by kernel_rfl) rfl (by first | rfl | (simp; done) | (simp; and_intros <;> rfl)) ?_; intro w7s hbox hoth hbel; have n0_ := Gv.a0 hbox; have n1_ := Gv.a0 (hbel w Gv.bw GE7.out); have n2_ := Gv.a0 ((hoth gb1 NB7_1.out.symm).trans (Gv.kb BK1.out)); have n3_ := Gv.a0 (impl_WheelOk.OM_move HM.out (hoth bm NM7.out.symm)); clear BK7 HB BK1 HM hbox hoth hbel; have BK7 := n0_; have HB := n1_; have BK1 := n2_; have HM := n3_; clear n0_ n1_ n2_ n3_; (try clear hz1_0); have hz1_0 := (blk_cell BK1.out 0).trans (rfl : _ = (some (.int .i64 a0_0) : Option Value)); (try clear hz1_1); have hz1_1 := (blk_cell BK1.out 1).trans (rfl : _ = (some (.slice (some ad) l0_1.length c0_1) : Option Value)); (try clear hf1_0); have hf1_0 := blk_frozen BK1.out 0; (try clear hf1_1); have hf1_1 := blk_frozen BK1.out 1; (try clear hz7_0); have hz7_0 := (blk_cell BK7.out 0).trans (rfl : _ = (some (.int .i64 x_.f0) : Option Value)); (try clear hz7_1); have hz7_1 := (blk_cell BK7.out 1).trans (rfl : _ = (some (.int .i64 x_.f1) : Option Value)); (try clear hf7_0); have hf7_0 := blk_frozen BK7.out 0; (try clear hf7_1); have hf7_1 := blk_frozen BK7.out 1) | ((with_reducible refine gate_callee (f := 30) rfl ?_); (try (refine gate_guard (by rfl) ?_; dsimp only)); refine goesL_ (some 36) rfl rfl Try.func30 (by kernel_rfl) rfl #[.int .i64 x_.f0, .int .i64 0, .int .i64 9999] rfl Gv.lm ?_; (with_reducible refine (impl_within.calls x_.f0 0 9999 true _ A2.out).mono ?_); rintro e wc ⟨rfl, hd⟩; refine ⟨_, rfl, ?_⟩; have hb := hd.below; clear hd; have n0_ := Gv.a0 (below_step Gv.bw hb); have n1_ := Gv.a0 (Gv.bb BK1.out hb); have n2_ := Gv.a0 (Gv.bb BK7.out hb); have n3_ := Gv.a0 (impl_WheelOk.OM_below HM.out hb); clear HB BK1 BK7 HM hb; have HB := n0_; have BK1 := n1_; have BK7 := n2_; have HM := n3_; clear n0_ n1_ n2_ n3_; (try clear hz1_0); have hz1_0 := (blk_cell BK1.out 0).trans (rfl : _ = (some (.int .i64 a0_0) : Option Value)); (try clear hz1_1); have hz1_1 := (blk_cell BK1.out 1).trans (rfl : _ = (some (.slice (some ad) l0_1.length c0_1) : Option Value)); (try clear hf1_0); have hf1_0 := blk_frozen BK1.out 0; (try clear hf1_1); have hf1_1 := blk_frozen BK1.out 1; (try clear hz7_0); have hz7_0 := (blk_cell BK7.out 0).trans (rfl : _ = (some (.int .i64 x_.f0) : Option Value)); (try clear hz7_1); have hz7_1 := (blk_cell BK7.out 1).trans (rfl : _ = (some (.int .i64 x_.f1) : Option Value)); (try clear hf7_0); have hf7_0 := blk_frozen BK7.out 0; (try clear hf7_1); have hf7_1 := blk_frozen BK7.out 1) | ((with_reducible refine gate_dst (N := 42) rfl ?_); (try (refine gate_guard (by rfl) ?_; dsimp only)); refine impl_WheelOk.look rfl rfl rfl rfl HM.out HW.out.1 HW.out.2 ?_; rw [H2.out]) | ((with_reducible refine gate_callee (f := 31) rfl ?_); (try (refine gate_guard (by rfl) ?_; dsimp only)); refine goesL_ (some 48) rfl rfl Try.func31 (by kernel_rfl) rfl #[.agg #[.int .i64 a0_0, .slice (some ad) l0_1.length c0_1], .int .i64 x_.f1] rfl Gv.lm ?_; (with_reducible refine (impl_Wheel_isAhead.calls a0_0 _ _ l0_1 x_.f1 false _ (Kd.C_below HR0.out HB.out) HC0.out A3.out).mono ?_); rintro e wc ⟨rfl, hd⟩; refine ⟨_, rfl, ?_⟩; have hb := hd; clear hd; have n0_ := Gv.a0 (below_step Gv.bw hb); have n1_ := Gv.a0 (Gv.bb BK1.out hb); have n2_ := Gv.a0 (Gv.bb BK7.out hb); have n3_ := Gv.a0 (impl_WheelOk.OM_below HM.out hb); clear HB BK1 BK7 HM hb; have HB := n0_; have BK1 := n1_; have BK7 := n2_; have HM := n3_; clear n0_ n1_ n2_ n3_; (try clear hz1_0); have hz1_0 := (blk_cell BK1.out 0).trans (rfl : _ = (some (.int .i64 a0_0) : Option Value)); (try clear hz1_1); have hz1_1 := (blk_cell BK1.out 1).trans (rfl : _ = (some (.slice (some ad) l0_1.length c0_1) : Option Value)); (try clear hf1_0); have hf1_0 := blk_frozen BK1.out 0; (try clear hf1_1); have hf1_1 := blk_frozen BK1.out 1; (try clear hz7_0); have hz7_0 := (blk_cell BK7.out 0).trans (rfl : _ = (some (.int .i64 x_.f0) : Option Value)); (try clear hz7_1); have hz7_1 := (blk_cell BK7.out 1).trans (rfl : _ = (some (.int .i64 x_.f1) : Option Value)); (try clear hf7_0); have hf7_0 := blk_frozen BK7.out 0; (try clear hf7_1); have hf7_1 := blk_frozen BK7.out 1))
          go_ret
          exact ⟨by rw [← Hr.out]; rfl, HB.out⟩
         | true =>
          have A3 := Gv.a0 ((impl_WheelOk.ahead a0_0 l0_1 x_.f1).trans (congrArg some h3))
          by_cases h4 : Int.tmod x_.f1 8 = (kk : Int)
          rotate_left
          ·have h4a : (Int.tmod x_.f1 8 == (kk : Int)) = false := beq_eq_false_iff_ne.2 h4
           have h4b : (Int.tmod x_.f1 8 != (kk : Int)) = true := bne_iff_ne.2 h4
           have Hr := Gv.a0 (show false = r from by
            have hN := HN.out
            unfold Gv.wkBad at hN
            rw [h1, h2, h3, h4a, Bool.not_true, Bool.false_or, Bool.false_or, Bool.false_or, Bool.not_false, if_pos rfl] at hN
            exact hN)
           clear HN h1 h2 h3 h4
           go_wp2_with (first | ((with_reducible refine gate_dst (N := 7) rfl ?_); refine box_event ?hg (N := 7) ?hd (cs := #[.int .i64 0, .int .i64 0]) (t := 50) ?hr ?_; (case hd => rfl); (case hg => rfl); (case hr => first | (go_simp; done) | (go_simp; rfl)); intro gb7 hg w7 hbox hb; have n0_ := Gv.a0 (below_step Gv.bw hb); have n1_ := Gv.a0 hbox; have n2_ := Gv.a0 ((Gv.ble hg Gv.bw : w.heap.size ≤ gb7)); have n3_ := Gv.a0 (Gv.bb BK1.out hb); have n4_ := Gv.a0 ((Gv.ngt hg (Gv.kb BK1.out) : gb7 ≠ gb1)); have n5_ := Gv.a0 (impl_WheelOk.OM_below HM.out hb); have n6_ := Gv.a0 (show gb7 ≠ bm from by rw [hg]; exact Nat.ne_of_gt (impl_WheelOk.OM_lt HM.out)); (try clear HB BK1 HM); clear hb hbox hg; have HB := n0_; have BK7 := n1_; have GE7 := n2_; have BK1 := n3_; have NB7_1 := n4_; have HM := n5_; have NM7 := n6_; clear n0_ n1_ n2_ n3_ n4_ n5_ n6_) | ((with_reducible refine gate_store (t := 50) (p := 7) rfl ?_); refine Gv.store_event rfl rfl rfl rfl rfl (Gv.kb BK7.out) (by kernel_rfl) rfl (by first | rfl | (simp; done) | (simp; and_intros <;> rfl)) ?_; intro w7s hbox hoth hbel; have n0_ := Gv.a0 hbox; have n1_ := Gv.a0 (hbel w Gv.bw GE7.out); have n2_ := Gv.a0 ((hoth gb1 NB7_1.out.symm).trans (Gv.kb BK1.out)); have n3_ := Gv.a0 (impl_WheelOk.OM_move HM.out (hoth bm NM7.out.symm)); clear BK7 HB BK1 HM hbox hoth hbel; have BK7 := n0_; have HB := n1_; have BK1 := n2_; have HM := n3_; clear n0_ n1_ n2_ n3_; (try clear hz1_0); have hz1_0 := (blk_cell BK1.out 0).trans (rfl : _ = (some (.int .i64 a0_0) : Option Value)); (try clear hz1_1); have hz1_1 := (blk_cell BK1.out 1).trans (rfl : _ = (some (.slice (some ad) l0_1.length c0_1) : Option Value)); (try clear hf1_0); have hf1_0 := blk_frozen BK1.out 0; (try clear hf1_1); have hf1_1 := blk_frozen BK1.out 1; (try clear hz7_0); have hz7_0 := (blk_cell BK7.out 0).trans (rfl : _ = (some (.int .i64 x_.f0) : Option Value)); (try clear hz7_1); have hz7_1 := (blk_cell BK7.out 1).trans (rfl : _ = (some (.int .i64 x_.f1) : Option Value)); (try clear hf7_0); have hf7_0 := blk_frozen BK7.out 0; (try clear hf7_1); have hf7_1 := blk_frozen BK7.out 1) | ((with_reducible refine gate_callee (f := 30) rfl ?_); (try (refine gate_guard (by rfl) ?_; dsimp only)); refine goesL_ (some 36) rfl rfl Try.func30 (by kernel_rfl) rfl #[.int .i64 x_.f0, .int .i64 0, .int .i64 9999] rfl Gv.lm ?_; (with_reducible refine (impl_within.calls x_.f0 0 9999 true _ A2.out).mono ?_); rintro e wc ⟨rfl, hd⟩; refine ⟨_, rfl, ?_⟩; have hb := hd.below; clear hd; have n0_ := Gv.a0 (below_step Gv.bw hb); have n1_ := Gv.a0 (Gv.bb BK1.out hb); have n2_ := Gv.a0 (Gv.bb BK7.out hb); have n3_ := Gv.a0 (impl_WheelOk.OM_below HM.out hb); clear HB BK1 BK7 HM hb; have HB := n0_; have BK1 := n1_; have BK7 := n2_; have HM := n3_; clear n0_ n1_ n2_ n3_; (try clear hz1_0); have hz1_0 := (blk_cell BK1.out 0).trans (rfl : _ = (some (.int .i64 a0_0) : Option Value)); (try clear hz1_1); have hz1_1 := (blk_cell BK1.out 1).trans (rfl : _ = (some (.slice (some ad) l0_1.length c0_1) : Option Value)); (try clear hf1_0); have hf1_0 := blk_frozen BK1.out 0; (try clear hf1_1); have hf1_1 := blk_frozen BK1.out 1; (try clear hz7_0); have hz7_0 := (blk_cell BK7.out 0).trans (rfl : _ = (some (.int .i64 x_.f0) : Option Value)); (try clear hz7_1); have hz7_1 := (blk_cell BK7.out 1).trans (rfl : _ = (some (.int .i64 x_.f1) : Option Value)); (try clear hf7_0); have hf7_0 := blk_frozen BK7.out 0; (try clear hf7_1); have hf7_1 := blk_frozen BK7.out 1) | ((with_reducible refine gate_dst (N := 42) rfl ?_); (try (refine gate_guard (by rfl) ?_; dsimp only)); refine impl_WheelOk.look rfl rfl rfl rfl HM.out HW.out.1 HW.out.2 ?_; rw [H2.out]) | ((with_reducible refine gate_callee (f := 31) rfl ?_); (try (refine gate_guard (by rfl) ?_; dsimp only)); refine goesL_ (some 48) rfl rfl Try.func31 (by kernel_rfl) rfl #[.agg #[.int .i64 a0_0, .slice (some ad) l0_1.length c0_1], .int .i64 x_.f1] rfl Gv.lm ?_; (with_reducible refine (impl_Wheel_isAhead.calls a0_0 _ _ l0_1 x_.f1 true _ (Kd.C_below HR0.out HB.out) HC0.out A3.out).mono ?_); rintro e wc ⟨rfl, hd⟩; refine ⟨_, rfl, ?_⟩; have hb := hd; clear hd; have n0_ := Gv.a0 (below_step Gv.bw hb); have n1_ := Gv.a0 (Gv.bb BK1.out hb); have n2_ := Gv.a0 (Gv.bb BK7.out hb); have n3_ := Gv.a0 (impl_WheelOk.OM_below HM.out hb); clear HB BK1 BK7 HM hb; have HB := n0_; have BK1 := n1_; have BK7 := n2_; have HM := n3_; clear n0_ n1_ n2_ n3_; (try clear hz1_0); have hz1_0 := (blk_cell BK1.out 0).trans (rfl : _ = (some (.int .i64 a0_0) : Option Value)); (try clear hz1_1); have hz1_1 := (blk_cell BK1.out 1).trans (rfl : _ = (some (.slice (some ad) l0_1.length c0_1) : Option Value)); (try clear hf1_0); have hf1_0 := blk_frozen BK1.out 0; (try clear hf1_1); have hf1_1 := blk_frozen BK1.out 1; (try clear hz7_0); have hz7_0 := (blk_cell BK7.out 0).trans (rfl : _ = (some (.int .i64 x_.f0) : Option Value)); (try clear hz7_1); have hz7_1 := (blk_cell BK7.out 1).trans (rfl : _ = (some (.int .i64 x_.f1) : Option Value)); (try clear hf7_0); have hf7_0 := blk_frozen BK7.out 0; (try clear hf7_1); have hf7_1 := blk_frozen BK7.out 1))
           go_ret
           exact ⟨by rw [← Hr.out]; rfl, HB.out⟩
          ·have h4a : (Int.tmod x_.f1 8 == (kk : Int)) = true := beq_iff_eq.2 h4
           have h4b : (Int.tmod x_.f1 8 != (kk : Int)) = false := bne_eq_false_iff_eq.2 h4
           have hN := HN.out
           unfold Gv.wkBad at hN
           rw [h1, h2, h3, h4a, Bool.not_true, Bool.false_or, Bool.false_or, Bool.false_or, if_neg (by decide)] at hN
           clear HN
           have HN := Gv.a0 hN
           have HI2 := Gv.a0 (show (seen ++ [x_.f0]).Nodup ∧ ∀ x, x ∈ seen ++ [x_.f0] → 0 ≤ x ∧ x < (10000 : Nat) from by
            obtain ⟨i1, i2⟩ := HI.out
            have hw := HW.out
            have hc : x_.f0 ∉ seen := by simpa using h2
            refine ⟨List.nodup_append.2 ⟨i1, by simp, fun a ha b hb e => hc (by simp at hb; rw [← hb, ← e]; exact ha)⟩, fun x hx => ?_⟩
            rw [List.mem_append, List.mem_singleton] at hx
            rcases hx with hx | rfl
            ·exact i2 x hx
            ·omega)
           have HLM := Gv.a0 (show seen.length < maxLen from by
            have := impl_WheelOk.nodup_le 10000 seen HI.out.1 HI.out.2
            unfold maxLen
            omega)
           clear hN HI h1 h2 h3 h4
           go_wp2_with (first | ((with_reducible refine gate_dst (N := 7) rfl ?_); refine box_event ?hg (N := 7) ?hd (cs := #[.int .i64 0, .int .i64 0]) (t := 50) ?hr ?_; (case hd => rfl); (case hg => rfl); (case hr => first | (go_simp; done) | (go_simp; rfl)); intro gb7 hg w7 hbox hb; have n0_ := Gv.a0 (below_step Gv.bw hb); have n1_ := Gv.a0 hbox; have n2_ := Gv.a0 ((Gv.ble hg Gv.bw : w.heap.size ≤ gb7)); have n3_ := Gv.a0 (Gv.bb BK1.out hb); have n4_ := Gv.a0 ((Gv.ngt hg (Gv.kb BK1.out) : gb7 ≠ gb1)); have n5_ := Gv.a0 (impl_WheelOk.OM_below HM.out hb); have n6_ := Gv.a0 (show gb7 ≠ bm from by rw [hg]; exact Nat.ne_of_gt (impl_WheelOk.OM_lt HM.out)); (try clear HB BK1 HM); clear hb hbox hg; have HB := n0_; have BK7 := n1_; have GE7 := n2_; have BK1 := n3_; have NB7_1 := n4_; have HM := n5_; have NM7 := n6_; clear n0_ n1_ n2_ n3_ n4_ n5_ n6_) | ((with_reducible refine gate_store (t := 50) (p := 7) rfl ?_); refine Gv.store_event rfl rfl rfl rfl rfl (Gv.kb BK7.out) (by kernel_rfl) rfl (by first | rfl | (simp; done) | (simp; and_intros <;> rfl)) ?_; intro w7s hbox hoth hbel; have n0_ := Gv.a0 hbox; have n1_ := Gv.a0 (hbel w Gv.bw GE7.out); have n2_ := Gv.a0 ((hoth gb1 NB7_1.out.symm).trans (Gv.kb BK1.out)); have n3_ := Gv.a0 (impl_WheelOk.OM_move HM.out (hoth bm NM7.out.symm)); clear BK7 HB BK1 HM hbox hoth hbel; have BK7 := n0_; have HB := n1_; have BK1 := n2_; have HM := n3_; clear n0_ n1_ n2_ n3_; (try clear hz1_0); have hz1_0 := (blk_cell BK1.out 0).trans (rfl : _ = (some (.int .i64 a0_0) : Option Value)); (try clear hz1_1); have hz1_1 := (blk_cell BK1.out 1).trans (rfl : _ = (some (.slice (some ad) l0_1.length c0_1) : Option Value)); (try clear hf1_0); have hf1_0 := blk_frozen BK1.out 0; (try clear hf1_1); have hf1_1 := blk_frozen BK1.out 1; (try clear hz7_0); have hz7_0 := (blk_cell BK7.out 0).trans (rfl : _ = (some (.int .i64 x_.f0) : Option Value)); (try clear hz7_1); have hz7_1 := (blk_cell BK7.out 1).trans (rfl : _ = (some (.int .i64 x_.f1) : Option Value)); (try clear hf7_0); have hf7_0 := blk_frozen BK7.out 0; (try clear hf7_1); have hf7_1 := blk_frozen BK7.out 1) | ((with_reducible refine gate_callee (f := 30) rfl ?_); (try (refine gate_guard (by rfl) ?_; dsimp only)); refine goesL_ (some 36) rfl rfl Try.func30 (by kernel_rfl) rfl #[.int .i64 x_.f0, .int .i64 0, .int .i64 9999] rfl Gv.lm ?_; (with_reducible refine (impl_within.calls x_.f0 0 9999 true _ A2.out).mono ?_); rintro e wc ⟨rfl, hd⟩; refine ⟨_, rfl, ?_⟩; have hb := hd.below; clear hd; have n0_ := Gv.a0 (below_step Gv.bw hb); have n1_ := Gv.a0 (Gv.bb BK1.out hb); have n2_ := Gv.a0 (Gv.bb BK7.out hb); have n3_ := Gv.a0 (impl_WheelOk.OM_below HM.out hb); clear HB BK1 BK7 HM hb; have HB := n0_; have BK1 := n1_; have BK7 := n2_; have HM := n3_; clear n0_ n1_ n2_ n3_; (try clear hz1_0); have hz1_0 := (blk_cell BK1.out 0).trans (rfl : _ = (some (.int .i64 a0_0) : Option Value)); (try clear hz1_1); have hz1_1 := (blk_cell BK1.out 1).trans (rfl : _ = (some (.slice (some ad) l0_1.length c0_1) : Option Value)); (try clear hf1_0); have hf1_0 := blk_frozen BK1.out 0; (try clear hf1_1); have hf1_1 := blk_frozen BK1.out 1; (try clear hz7_0); have hz7_0 := (blk_cell BK7.out 0).trans (rfl : _ = (some (.int .i64 x_.f0) : Option Value)); (try clear hz7_1); have hz7_1 := (blk_cell BK7.out 1).trans (rfl : _ = (some (.int .i64 x_.f1) : Option Value)); (try clear hf7_0); have hf7_0 := blk_frozen BK7.out 0; (try clear hf7_1); have hf7_1 := blk_frozen BK7.out 1) | ((with_reducible refine gate_dst (N := 42) rfl ?_); (try (refine gate_guard (by rfl) ?_; dsimp only)); refine impl_WheelOk.look rfl rfl rfl rfl HM.out HW.out.1 HW.out.2 ?_; rw [H2.out]) | ((with_reducible refine gate_callee (f := 31) rfl ?_); (try (refine gate_guard (by rfl) ?_; dsimp only)); refine goesL_ (some 48) rfl rfl Try.func31 (by kernel_rfl) rfl #[.agg #[.int .i64 a0_0, .slice (some ad) l0_1.length c0_1], .int .i64 x_.f1] rfl Gv.lm ?_; (with_reducible refine (impl_Wheel_isAhead.calls a0_0 _ _ l0_1 x_.f1 true _ (Kd.C_below HR0.out HB.out) HC0.out A3.out).mono ?_); rintro e wc ⟨rfl, hd⟩; refine ⟨_, rfl, ?_⟩; have hb := hd; clear hd; have n0_ := Gv.a0 (below_step Gv.bw hb); have n1_ := Gv.a0 (Gv.bb BK1.out hb); have n2_ := Gv.a0 (Gv.bb BK7.out hb); have n3_ := Gv.a0 (impl_WheelOk.OM_below HM.out hb); clear HB BK1 BK7 HM hb; have HB := n0_; have BK1 := n1_; have BK7 := n2_; have HM := n3_; clear n0_ n1_ n2_ n3_; (try clear hz1_0); have hz1_0 := (blk_cell BK1.out 0).trans (rfl : _ = (some (.int .i64 a0_0) : Option Value)); (try clear hz1_1); have hz1_1 := (blk_cell BK1.out 1).trans (rfl : _ = (some (.slice (some ad) l0_1.length c0_1) : Option Value)); (try clear hf1_0); have hf1_0 := blk_frozen BK1.out 0; (try clear hf1_1); have hf1_1 := blk_frozen BK1.out 1; (try clear hz7_0); have hz7_0 := (blk_cell BK7.out 0).trans (rfl : _ = (some (.int .i64 x_.f0) : Option Value)); (try clear hz7_1); have hz7_1 := (blk_cell BK7.out 1).trans (rfl : _ = (some (.int .i64 x_.f1) : Option Value)); (try clear hf7_0); have hf7_0 := blk_frozen BK7.out 0; (try clear hf7_1); have hf7_1 := blk_frozen BK7.out 1) | (at_mapUpdate; refine impl_WheelOk.upd rfl rfl rfl rfl rfl rfl HM.out HW.out.1 HW.out.2 H2.out HLM.out ?_; intro wm2 hM hoth hbel; have n0_ := Gv.a0 (hbel w HB.out GEM.out); have n1_ := Gv.a0 ((hoth gb1 (blk_lt BK1.out) NM1.out).trans BK1.out); have n2_ := Gv.a0 hM; clear HB BK1 HM hM hoth hbel; have HB := n0_; have BK1 := n1_; have HM := n2_; clear n0_ n1_ n2_))
           go_roundg ((rd_T47 l0_1 (kk : Int)).f0.length - (jj + 1))
           case measure => have := HLT2.out; have := HG2.out; omega
           case rel =>
            have hlm := HR1.out.2.1
            have h9 := HLT2.out
            exact ⟨jj + 1, seen ++ [x_.f0], by omega, by omega, by rw [show wrap64 ((jj : Int) + 1) = ((jj + 1 : Nat) : Int) from by unfold wrap64; omega], HN, HI2, HM, BK1, HB⟩
      ·have hltz2 : ¬ (jj : Int) < ((rd_T47 l0_1 (kk : Int)).f0.length : Int) := by omega
       have hN := HN.out
       rw [List.drop_eq_nil_of_le (by have := HJJ.out; omega), Gv.wkIn, Option.bind_some] at hN
       clear HN
       have HN := Gv.a0 hN
       clear hN
       go_wp2_with fail
       go_roundg (l0_1.length - (kk + 1))
       case measure => have := HLT.out; have := HG.out; omega
       case rel => 
        have h8 := HL.out
        have h9 := HLT.out
        exact ⟨kk + 1, seen, by omega, by omega, by rw [show wrap64 ((kk : Int) + 1) = ((kk + 1 : Nat) : Int) from by unfold wrap64; omega], HN, HI, HM, BK1, HB⟩
    ·have hltz : ¬ (kk : Int) < (l0_1.length : Int) := by omega
     have hN := HN.out
     rw [List.drop_eq_nil_of_le (by have := HKK.out; omega), Gv.wkOut] at hN
     obtain ⟨D, hown, hsz, hat⟩ := HM.out
     have HRr := Gv.a0 (show decide (seen.length ≤ 64) = r from hN)
     go_wp2_with (at_len; refine wpList_len_own _ rfl _ 52 rfl 3 4 Try.underlying52 _ bm _ D rfl hown ?_)
     go_ret
     exact ⟨by rw [← HRr.out]; exact congrArg (fun b => Ending.returned (Value.bool b)) (decide_eq_decide.2 (by omega)), HB.out⟩

/-! ### impl_Wheel_timers: function 32 -/
def impl_Wheel_timers.l0 : Nat → List (S50) → List (S47) → Int → Int → Option ((List (S50)))
 | 0, _, _, _, _ => none
 | k + 1, x3, x8, x9, x10 => if x10 < x9 then (if 0 ≤ x10 then (if x10 < (x8.length : Int) then (if x3.length + ((rd_T47 x8 x10).f0).length < 8796093022208 then (impl_Wheel_timers.l0 k (x3 ++ ((rd_T47 x8 x10).f0)) x8 x9 (wrap64 (x10 + 1))) else (none)) else (none)) else (none)) else (some x3)
def impl_Wheel_timers.f (k : Nat) (a0_0 : Int) (l0_1 : List (S47)) : Option ((List (S50))) := impl_Wheel_timers.l0 k (([] : List (S50))) l0_1 (l0_1.length : Int) 0
theorem impl_Wheel_timers.mono_l : ∀ k, (∀ y0 y1 y2 y3, LeO (impl_Wheel_timers.l0 k y0 y1 y2 y3) (impl_Wheel_timers.l0 (k + 1) y0 y1 y2 y3))
 | 0 => fun _ _ _ _ r h => by simp [impl_Wheel_timers.l0] at h
 | k + 1 => by
  have ih0 := impl_Wheel_timers.mono_l k
  ·intro y0 y1 y2 y3
   unfold impl_Wheel_timers.l0
   repeat' first
   | (with_reducible exact ih0 _ _ _ _)
   | (with_reducible exact LeO.refl _)
   | (with_reducible exact LeO.none _)
   | (with_reducible refine LeO.ite ?_ ?_)
   | (with_reducible refine LeO.bind ?_ (fun _ => ?_))
   | exact ih0 _ _ _ _
   | exact LeO.none _
   | refine LeO.ite ?_ ?_
   | refine LeO.bind ?_ (fun _ => ?_)
theorem impl_Wheel_timers.mono : ∀ a0 a1 k, LeO (impl_Wheel_timers.f k a0 a1) (impl_Wheel_timers.f (k + 1) a0 a1) := by
 intro a0 a1 k
 have ih0 := impl_Wheel_timers.mono_l k
 unfold impl_Wheel_timers.f
 repeat' first
   | (with_reducible exact ih0 _ _ _ _)
   | (with_reducible exact LeO.refl _)
   | (with_reducible exact LeO.none _)
   | (with_reducible refine LeO.ite ?_ ?_)
   | (with_reducible refine LeO.bind ?_ (fun _ => ?_))
   | exact ih0 _ _ _ _
   | exact LeO.none _
   | refine LeO.ite ?_ ?_
   | refine LeO.bind ?_ (fun _ => ?_)
set_option maxHeartbeats 8000000 in
set_option maxRecDepth 100000 in
theorem impl_Wheel_timers.calls (k : Nat) (a0_0 : Int) (A0_1 : Option Addr) (c0_1 : Nat) (l0_1 : List (S47)) (r : List (S50)) (w : World) (hr0_1 : Kd.C k47 w A0_1 l0_1.length l0_1) (hc0_1 : l0_1.length ≤ c0_1) (h : impl_Wheel_timers.f k a0_0 l0_1 = some r) :
  Calls Try.prog 32 #[.agg #[.int .i64 a0_0, .slice A0_1 l0_1.length c0_1]] w fun e w' => ∃ v0_ : Value, e = .returned (v0_) ∧ Kd.R k50 50 w' w.heap.size (fun _ => True) v0_ r ∧ Below w.heap.size w w' := by
 have hu24 := Try.underlying24
 have hu47 := Try.underlying47
 have HR0_1 := Gv.a0 hr0_1
 have HC0_1 := Gv.a0 hc0_1
 clear hr0_1 hc0_1
 have HB := Gv.a0 (Below.refl w.heap.size w)
 have H : (impl_Wheel_timers.l0 k (([] : List (S50))) l0_1 (l0_1.length : Int) 0) = some r := h
 clear h
 obtain ⟨y215, hy215⟩ : ∃ y_ : List (S50), y_ = (([] : List (S50))) := ⟨_, rfl⟩
 replace H : (impl_Wheel_timers.l0 k y215 l0_1 (l0_1.length : Int) 0) = some r := by first | (rw [hy215]; with_reducible exact H) | (have H2_ := (Option.bind_some _ _).symm.trans H; rw [hy215]; with_reducible exact H2_) | (have H2_ := (Option.bind_some _ _).symm.trans H; with_reducible exact H2_) | with_reducible exact H | (rw [hy215]; exact H) | exact H
 have Ny215 := Gv.a0 hy215
 clear hy215
 have H' := Gv.a0 H
 clear H
 go_enter Try.func32, Try.ntmps32
 go_wp2_with (first | ((with_reducible refine gate_dst (N := 1) rfl ?_); refine box_event ?hg (N := 1) ?hd (cs := #[.int .i64 a0_0, .slice A0_1 l0_1.length c0_1]) (t := 24) ?hr ?_; (case hd => rfl); (case hg => rfl); (case hr => first | (go_simp; done) | (go_simp; rfl)); intro gb214 hg w2 hbox hb; have n0_ := Gv.a0 (below_step Gv.bw hb); have n1_ := Gv.a0 (hbox); have n2_ := Gv.a0 ((Gv.ble hg Gv.bw : w.heap.size ≤ gb214)); have n3_ := Gv.a0 ((Gv.ble hg Gv.bw : w.heap.size ≤ gb214)); clear HB; have HB := n0_; have BK214 := n1_; have GW214 := n2_; have GE214 := n3_; clear n0_ n1_ n2_ n3_; clear hb hbox hg) | ((with_reducible refine gate_dst (N := 6) rfl ?_); refine Kd.R_lit k50 _ 50 ?hg (N := 6) ?hd (xs := ([] : List (S50))) (inner := []) (ok := fun _ => True) (okp := fun _ => True) ?hr ?hp (fun _ hk => hk) trivial (Below.refl _ _) (Nat.le_refl _) (by simp) ?_; (case hd => rfl); (case hg => rfl); (case hr => first | (go_simp; done) | (go_simp; rfl)); (case hp => exact (Reps.none _ _)); intro v216 w3 ho4 hb hg_ hnew_; clear hg_ hnew_; (first | rw [← Ny215.out] at ho4 | (simp only [Int.reduceToNat] at ho4; rw [← Ny215.out] at ho4)); have n0_ := Gv.a0 (Kd.R_lower ho4 (below_size Gv.bw)); have n1_ := Gv.a0 (Gv.bb BK214.out hb); have n2_ := Gv.a0 (below_step Gv.bw hb); clear BK214; clear HB; have HO217 := n0_; have BK214 := n1_; have HB := n2_; clear n0_ n1_ n2_; clear hb ho4; have hcz5_0 : w3.cell? ⟨gb214, 0, none⟩ = some (.int .i64 a0_0) := (blk_cell BK214.out 0).trans rfl; have hcz5_1 : w3.cell? ⟨gb214, 1, none⟩ = some (.slice A0_1 l0_1.length c0_1) := (blk_cell BK214.out 1).trans rfl; have hfz5_0 := blk_frozen BK214.out 0; have hfz5_1 := blk_frozen BK214.out 1))
 go_loopg [3, 10] k (fun kq v3 v10 w' => ∃ (x3_1 : List (S50)) (x10_1 : Int), v10 = .int .i64 x10_1 ∧ Aside0 (impl_Wheel_timers.l0 kq x3_1 l0_1 (l0_1.length : Int) x10_1 = some r) ∧ Aside0 (kq ≤ k) ∧ Aside0 (Kd.R k50 50 w' w.heap.size (fun _ => True) v3 x3_1) ∧ Aside0 (w'.heap[gb214]? = some (.cells #[.int .i64 a0_0, (.slice A0_1 l0_1.length c0_1)] 24 (0, 0))) ∧ Aside0 (Below w.heap.size w w'))
 case atStart => exact ⟨(y215), (0), Gv.rq, H', ⟨Nat.le_refl _⟩, ⟨Gv.kr HO217.out⟩, ⟨by (with_reducible repeat (first | refine blk_drewN ?_ _ | refine blk_drew ?_ | refine blk_alloc ?_ _)); exact BK214.out⟩, ⟨Gv.bw⟩⟩
 case round =>
  clear H'
  try clear p2
  try clear c3
  try clear hcz5_0 hcz5_1
  try clear hfz5_0 hfz5_1
  obtain ⟨x3_1, x10_1, rfl, HA, HK1, HO_3, BK214, HB⟩ := hrel
  cases gk with
  | zero => exact absurd HA.out (by simp [impl_Wheel_timers.l0])
  | succ k1 =>
   have H := HA.out
   clear HA
   simp only [impl_Wheel_timers.l0] at H
   by_cases c6 : x10_1 < (l0_1.length : Int)
   ·rw [if_pos c6] at H
    have c6b0 : decide (x10_1 < (l0_1.length : Int)) = true := decide_eq_true c6
    clear c6
    by_cases c7 : 0 ≤ x10_1
    ·rw [if_pos c7] at H
     have c7b0 : decide (0 ≤ x10_1) = true := decide_eq_true c7
     clear c7
     by_cases c8 : x10_1 < (l0_1.length : Int)
     ·rw [if_pos c8] at H
      have c8b0 : decide (x10_1 < (l0_1.length : Int)) = true := decide_eq_true c8
      clear c8
      by_cases c9 : x3_1.length + ((rd_T47 l0_1 x10_1).f0).length < 8796093022208
      ·rw [if_pos c9] at H
       have LMc9 := Gv.a0 c9
       clear c9
       obtain ⟨y220, hy220⟩ : ∃ y_ : List (S50), y_ = (x3_1 ++ ((rd_T47 l0_1 x10_1).f0)) := ⟨_, rfl⟩
       replace H : (impl_Wheel_timers.l0 k1 y220 l0_1 (l0_1.length : Int) (wrap64 (x10_1 + 1))) = some r := by first | (rw [hy220]; with_reducible exact H) | (have H2_ := (Option.bind_some _ _).symm.trans H; rw [hy220]; with_reducible exact H2_) | (have H2_ := (Option.bind_some _ _).symm.trans H; with_reducible exact H2_) | with_reducible exact H | (rw [hy220]; exact H) | exact H
       have Ny220 := Gv.a0 hy220
       clear hy220
       have H' := Gv.a0 H
       clear H
       have p218 : 0 ≤ (x10_1 : Int) := of_decide_eq_true (by first | (with_reducible assumption) | assumption)
       have q218 : x10_1 < (l0_1.length : Int) := of_decide_eq_true (by first | (with_reducible assumption) | assumption)
       obtain ⟨ad218, A218_0, c218_0, e218, hx218_0, hl218_0, hi218_0⟩ := at_T47 HR0_1.out x10_1 p218 q218
       cases e218
       replace hx218_0 := Gv.bx HB.out hx218_0
       have HR218_0 := Gv.a0 hi218_0
       have HC218_0 := Gv.a0 hl218_0
       clear hi218_0 hl218_0
       replace p218 := eq_true p218
       replace q218 := eq_true q218
       go_wp2_with (first | ((with_reducible refine gate_dst (N := 5) rfl ?_); refine box_event ?hg (N := 5) ?hd (cs := #[.slice none 0 0]) (t := 47) ?hr ?_; (case hd => rfl); (case hg => rfl); (case hr => first | (go_simp; done) | (go_simp; rfl)); intro gb219 hg w10 hbox hb; have n0_ := Gv.a0 (Kd.R_below (Gv.kr HO_3.out) hb); have n1_ := Gv.a0 (Gv.bb BK214.out hb); have n2_ := Gv.a0 (below_step Gv.bw hb); have n3_ := Gv.a0 (hbox); have n4_ := Gv.a0 ((Gv.ble hg Gv.bw : w.heap.size ≤ gb219)); have n5_ := Gv.a0 ((Gv.ble hg Gv.bw : w.heap.size ≤ gb219)); have n6_ := Gv.a0 ((Gv.nlt hg (Gv.kb BK214.out) : gb214 ≠ gb219)); have n7_ := Gv.a0 ((Gv.ngt hg (Gv.kb BK214.out) : gb219 ≠ gb214)); clear HO_3; clear BK214; clear HB; have HO_3 := n0_; have BK214 := n1_; have HB := n2_; have BK219 := n3_; have GW219 := n4_; have GE219 := n5_; have NB214_219 := n6_; have NB219_214 := n7_; clear n0_ n1_ n2_ n3_ n4_ n5_ n6_ n7_; clear hb hbox hg; have hnb11 := NB219_214.out; have hnc11 := NB214_219.out; have hcz12_0 : w10.cell? ⟨gb219, 0, none⟩ = some (.slice none 0 0) := (blk_cell BK219.out 0).trans rfl; have hfz12_0 := blk_frozen BK219.out 0) | ((with_reducible refine gate_builtin (b := .append) (xs := #[.tmp 14, .tmp 16]) rfl ?_); at_builtin; refine Kd.R_append_rows k50 (w0 := w) w.heap.size rfl (.tmp 14) (.tmp 16) 45 50 (.agg #[(.int .i64 0), (.int .i64 0)]) 16 rfl Try.underlying45 info50 rfl (by decide) (by omega) u3 x3_1 ((rd_T47 l0_1 x10_1).f0) _ _ _ (fun _ => True) (fun _ => False) rfl rfl ?aO ?aR (fun _ _ h => h) (fun _ h => h.elim) ?aF ?aB ?aS ?aL ?_; (case aR => exact Kd.C_below HR218_0.out Gv.bw); (case aB => exact Gv.bw); (case aF => exact (fun _ _ => trivial)); (case aO => exact (by (with_reducible repeat (first | apply Kd.R_alloc | apply Kd.R_drewN | apply Kd.R_drew)); exact Kd.R_mono (Kd.R_far (p := ⟨gb219, 0, none⟩) (Kd.R_types HO_3.out BK219.out (by decide)) (fun _ hk => hk.2) (.slice A218_0 ((rd_T47 l0_1 x10_1).f0).length c218_0)) (fun _ hk => trivial))); (case aS => exact (below_size Gv.bw)); (case aL => have := LMc9.out; omega); intro v221 w13 ho hb hg hat; rw [← Ny220.out] at ho; have n0_ := Gv.a0 (blk_grown (g := gb214) (o := .cells #[.int .i64 a0_0, .slice (some ad218) l0_1.length c0_1] 24 (0, 0)) Gv.bkf hg (Kd.R_ne HO_3.out BK214.out (by decide))); have n1_ := Gv.a0 (blk_grown (g := gb219) (o := .cells #[.slice A218_0 ((rd_T47 l0_1 x10_1).f0).length c218_0] 47 (0, 0)) (by (with_reducible repeat (first | refine blk_drewN ?_ _ | refine blk_drew ?_ | refine blk_alloc ?_ _)); refine blk_put (cs := #[.slice none 0 0]) ?_ 0 _ rfl; (with_reducible repeat (first | refine blk_drewN ?_ _ | refine blk_drew ?_ | refine blk_alloc ?_ _)); exact BK219.out) hg (Kd.R_ne HO_3.out BK219.out (by decide))); have n2_ := Gv.a0 (hb); have n3_ := Gv.a0 (ho); clear BK214; clear BK219; clear HB; clear HO_3; have BK214 := n0_; have BK219 := n1_; have HB := n2_; have HO222 := n3_; clear n0_ n1_ n2_ n3_; clear ho hb hg hat))
       go_roundg k1
       case measure => have := HK1.out; omega
       case rel => exact ⟨(y220), (wrap64 (x10_1 + 1)), Gv.rq, H', ⟨by have := HK1.out; omega⟩, ⟨Gv.kr HO222.out⟩, ⟨by (with_reducible repeat (first | refine blk_drewN ?_ _ | refine blk_drew ?_ | refine blk_alloc ?_ _)); exact BK214.out⟩, ⟨Gv.bw⟩⟩
      ·rw [if_neg c9] at H
       exact absurd H (by simp)
     ·rw [if_neg c8] at H
      exact absurd H (by simp)
    ·rw [if_neg c7] at H
     exact absurd H (by simp)
   ·rw [if_neg c6] at H
    have c6b0 : decide (x10_1 < (l0_1.length : Int)) = false := decide_eq_false c6
    clear c6
    obtain rfl := Option.some.inj H
    go_wp2
    go_ret
    exact ⟨_, Gv.rt, Gv.kr HO_3.out, Gv.bw⟩

/-! ### impl_Timer_c45: function 44 over a closure -/
set_option maxHeartbeats 8000000 in
set_option maxRecDepth 100000 in
theorem impl_Timer_c45.idx (g : Nat) (lb : Array Value) (eg : ∀ args w, (callFunc g args).run Try.prog w = .ok (.enter g args) w) (p : S50 → Option Bool) (A0 : Option Addr) (c0 : Nat) (l0 : List S50) (r : Int) (w : World) (hr0 : Kd.C k50 w A0 l0.length l0)
    (hp : ∀ (W : World) (x : S50) (b : Bool), p x = some b → Below w.heap.size w W → Calls Try.prog g (#[.agg #[.int .i64 x.f0, .int .i64 x.f1]] ++ lb) W fun e w' => e = .returned (.bool b) ∧ Below W.heap.size W w') (h : Gv.idxO p l0 0 = some r) :
    Calls Try.prog 51 #[.slice A0 l0.length c0, .func (.func g) #[] lb] w fun e w' => e = .returned (.int .i64 r) ∧ Below w.heap.size w w' := by
  have hu50 := Try.underlying50
  have HR0 := Aside0.mk hr0
  have HP := Aside0.mk hp
  have hlm := hr0.2.1
  have H0 := Aside0.mk h
  clear hr0 hp h
  go_enter Try.func51, Try.ntmps51
  go_wp2
  go_loopg [5, 8] l0.length (fun gg _ s8 wr => ∃ kk : Nat, kk ≤ l0.length ∧ l0.length - kk ≤ gg ∧ s8 = .int .i64 kk ∧ Aside0 (Below w.heap.size w wr) ∧ Aside0 (Gv.idxO p (l0.drop kk) kk = some r))
  case atStart => exact ⟨0, Nat.zero_le _, by omega, rfl, ⟨Below.refl _ w⟩, ⟨H0.out⟩⟩
  case round =>
    obtain ⟨kk, hkk, hg, rfl, HB, HN⟩ := hrel
    by_cases hlt : kk < l0.length
    · have hltz : (kk : Int) < (l0.length : Int) := by omega
      have hk0 : 0 ≤ (kk : Int) := by omega
      obtain ⟨ad, e1, hx0, hx1⟩ := at_T50 (Kd.C_below HR0.out HB.out) (kk : Int) hk0 hltz
      cases e1
      obtain ⟨x_, hx_⟩ : ∃ x_, x_ = rd_T50 l0 kk := ⟨_, rfl⟩
      rw [← hx_, Int.toNat_natCast] at hx0 hx1
      have hN := HN.out
      have hget : l0.drop kk = x_ :: l0.drop (kk + 1) := by
        rw [hx_, List.drop_eq_getElem_cons hlt]
        congr 1
        unfold rd_T50
        rw [Int.toNat_natCast, List.getD_eq_getElem?_getD, List.getElem?_eq_getElem hlt]
        rfl
      rw [hget] at hN
      obtain ⟨b, hq, hN⟩ := Option.bind_eq_some_iff.mp hN
      have hcall := HP.out wr x_ b hq HB.out
      have HC := Aside0.mk hcall
      have HN2 := Aside0.mk hN
      clear hcall hN hq hget HN hx_
      cases b with
      | true =>
        have HRr := Aside0.mk (show (kk : Int) = r from Option.some.inj HN2.out)
        go_wp2_with (first | ((with_reducible refine Gv.gate_load (t := 50) rfl ?_); refine Gv.load_event (cs := [_, _]) rfl rfl rfl ⟨hx0, hx1, trivial⟩ Try.underlying50 rfl (by kernel_rfl) ?_))
        refine HC.out.mono ?_
        rintro e w' ⟨rfl, hb⟩
        have HB' := Aside0.mk (HB.out.trans (hb.mono HB.out.size))
        clear hb
        go_wp2_with fail
        go_ret
        exact ⟨by rw [← HRr.out]; rfl, HB'.out⟩
      | false =>
        go_wp2_with (first | ((with_reducible refine Gv.gate_load (t := 50) rfl ?_); refine Gv.load_event (cs := [_, _]) rfl rfl rfl ⟨hx0, hx1, trivial⟩ Try.underlying50 rfl (by kernel_rfl) ?_))
        refine HC.out.mono ?_
        rintro e w' ⟨rfl, hb⟩
        have HB' := Aside0.mk (HB.out.trans (hb.mono HB.out.size))
        clear hb
        go_wp2_with fail
        go_roundg (l0.length - (kk + 1))
        case measure => omega
        case rel =>
          have e_ : ((kk + 1 : Nat) : Int) = (kk : Int) + 1 := by omega
          exact ⟨kk + 1, by omega, by omega, by go_num, HB', ⟨by rw [e_]; exact HN2.out⟩⟩
    · have hltz : ¬ (kk : Int) < (l0.length : Int) := by omega
      have HRr := Aside0.mk (show (-1 : Int) = r from by
        have hN := HN.out
        rw [List.drop_eq_nil_of_le (by omega)] at hN
        exact Option.some.inj hN)
      go_wp2_with fail
      go_ret
      exact ⟨by rw [← HRr.out]; rfl, HB.out⟩
set_option maxHeartbeats 8000000 in
set_option maxRecDepth 100000 in
theorem impl_Timer_c45.clo (g0 : Nat) (c0_0 : Int) (x : S50) (b : Bool) (W : World) (hc0 : W.heap[g0]? = some (.cells #[.int .i64 c0_0] 3 (0, 0))) (h : (some (x.f0 == c0_0)) = some b) :
    Calls Try.prog 45 (#[.agg #[.int .i64 x.f0, .int .i64 x.f1]] ++ #[.pointer (some ⟨g0, 0, none⟩)]) W fun e w' => e = .returned (.bool b) ∧ Below W.heap.size W w' := by
  obtain rfl := Option.some.inj h
  have HC0 := Aside0.mk hc0
  clear hc0
  go_enter Try.func45, Try.ntmps45
  go_wp2_with (first | ((with_reducible refine gate_dst (N := 2) rfl ?_); refine box_event ?hg (N := 2) ?hd (cs := #[.int .i64 x.f0, .int .i64 x.f1]) (t := 50) ?hr ?_; (case hd => rfl); (case hg => rfl); (case hr => first | (go_simp; done) | (go_simp; rfl)); intro gbx hg w1 hbox hb; have n0_ := Aside0.mk (blk_below HC0.out hb); have HX := Aside0.mk hbox; have HB0 := Aside0.mk hb; clear HC0 hbox hb hg; have HC0 := n0_; clear n0_) | ((with_reducible refine Gv.gate_load (t := 3) rfl ?_); refine Gv.get_event (g := gbx) rfl rfl rfl HX.out rfl Try.underlying3 rfl ?_) | ((with_reducible refine Gv.gate_load (t := 3) rfl ?_); refine Gv.get_event (g := g0) rfl rfl rfl HC0.out rfl Try.underlying3 rfl ?_))
  all_goals go_ret
  all_goals exact ⟨by first | rfl | (simp; done) | (simp [eq_comm]; done), HB0.out⟩
def impl_Timer_c45.f (l0 : List S50) (c0_0 : Int) : Option Bool := (Gv.idxO (fun x : S50 => some (x.f0 == c0_0)) l0 0).bind fun i => some (decide (i ≥ 0))
set_option maxHeartbeats 8000000 in
set_option maxRecDepth 100000 in
theorem impl_Timer_c45.calls (A0 : Option Addr) (c0 : Nat) (l0 : List S50) (g0 : Nat) (c0_0 : Int) (r : Bool) (w : World) (hr0 : Kd.C k50 w A0 l0.length l0) (hc0_ : l0.length ≤ c0) (hc0 : w.heap[g0]? = some (.cells #[.int .i64 c0_0] 3 (0, 0))) (h : impl_Timer_c45.f l0 c0_0 = some r) :
    Calls Try.prog 44 #[.slice A0 l0.length c0, .func (.func 45) #[] #[.pointer (some ⟨g0, 0, none⟩)]] w fun e w' => e = .returned (.bool r) ∧ Below w.heap.size w w' := by
  unfold impl_Timer_c45.f at h
  obtain ⟨i, hi, h⟩ := Option.bind_eq_some_iff.mp h
  obtain rfl := Option.some.inj h
  have HR := Aside0.mk hr0
  have HI := Aside0.mk hi
  clear hr0 hi h
  go_enter Try.func44, Try.ntmps44
  go_wp2_with fail
  refine (impl_Timer_c45.idx 45 #[.pointer (some ⟨g0, 0, none⟩)] (enters_of Try.func45 (by kernel_rfl) rfl) (fun x => some (x.f0 == c0_0)) A0 c0 l0 i w HR.out (fun W x b hb hW => impl_Timer_c45.clo g0 c0_0 x b W (blk_below hc0 hW) hb) HI.out).mono ?_
  rintro e w' ⟨rfl, hb⟩
  have HB := Aside0.mk hb
  clear hb
  go_wp2_with fail
  go_ret
  exact ⟨rfl, HB.out⟩

/-! ### impl_Wheel_hasTimer: function 35 -/
def impl_Wheel_hasTimer.f (k : Nat) (a0_0 : Int) (l0_1 : List (S47)) (a1 : Int) : Option (Bool) := (impl_Wheel_timers.f k a0_0 l0_1).bind fun t225 => ((impl_Timer_c45.f t225 a1).bind fun t228 => (some t228))
theorem impl_Wheel_hasTimer.mono : ∀ a0 a1 a2 k, LeO (impl_Wheel_hasTimer.f k a0 a1 a2) (impl_Wheel_hasTimer.f (k + 1) a0 a1 a2) := by
 intro a0 a1 a2 k
 unfold impl_Wheel_hasTimer.f
 repeat' first
   | (with_reducible exact impl_Wheel_timers.mono _ _ _)
   | (with_reducible exact LeO.refl _)
   | (with_reducible exact LeO.none _)
   | (with_reducible refine LeO.ite ?_ ?_)
   | (with_reducible refine LeO.bind ?_ (fun _ => ?_))
   | exact impl_Wheel_timers.mono _ _ _
   | exact LeO.none _
   | refine LeO.ite ?_ ?_
   | refine LeO.bind ?_ (fun _ => ?_)
set_option maxHeartbeats 8000000 in
set_option maxRecDepth 100000 in
theorem impl_Wheel_hasTimer.calls (k : Nat) (a0_0 : Int) (A0_1 : Option Addr) (c0_1 : Nat) (l0_1 : List (S47)) (a1 : Int) (r : Bool) (w : World) (hr0_1 : Kd.C k47 w A0_1 l0_1.length l0_1) (hc0_1 : l0_1.length ≤ c0_1) (h : impl_Wheel_hasTimer.f k a0_0 l0_1 a1 = some r) :
  Calls Try.prog 35 #[.agg #[.int .i64 a0_0, .slice A0_1 l0_1.length c0_1], .int .i64 a1] w fun e w' => e = .returned (.bool r) ∧ Below w.heap.size w w' := by
 have hu24 := Try.underlying24
 have HR0_1 := Gv.a0 hr0_1
 have HC0_1 := Gv.a0 hc0_1
 clear hr0_1 hc0_1
 have HB := Gv.a0 (Below.refl w.heap.size w)
 have H : ((impl_Wheel_timers.f k a0_0 l0_1).bind fun t225 => ((impl_Timer_c45.f t225 a1).bind fun t228 => (some t228))) = some r := h
 clear h
 replace H := Option.bind_eq_some_iff.mp H
 obtain ⟨t225, A30, H⟩ := H
 replace H : ((impl_Timer_c45.f t225 a1).bind fun t228 => (some t228)) = some r := H
 have A3 := Gv.a0 A30
 clear A30
 replace H := Option.bind_eq_some_iff.mp H
 obtain ⟨t228, A40, H⟩ := H
 replace H : (some t228) = some r := H
 have A4 := Gv.a0 A40
 clear A40
 obtain rfl := Option.some.inj H
 have hmf : ∀ (fn : Fn) (first cap : Array Value) (w : World), (Instr.makeFunc fn first cap).run Try.prog w = .ok (.func fn first cap) w := fun _ _ _ _ => rfl
 go_enter Try.func35, Try.ntmps35
 go_wp2_with (first | ((with_reducible refine gate_dst (N := 2) rfl ?_); refine box_event ?hg (N := 2) ?hd (cs := #[.int .i64 a0_0, .slice A0_1 l0_1.length c0_1]) (t := 24) ?hr ?_; (case hd => rfl); (case hg => rfl); (case hr => first | (go_simp; done) | (go_simp; rfl)); intro gb223 hg w5 hbox hb; have n0_ := Gv.a0 (below_step Gv.bw hb); have n1_ := Gv.a0 (hbox); have n2_ := Gv.a0 ((Gv.ble hg Gv.bw : w.heap.size ≤ gb223)); have n3_ := Gv.a0 ((Gv.ble hg Gv.bw : w.heap.size ≤ gb223)); clear HB; have HB := n0_; have BK223 := n1_; have GW223 := n2_; have GE223 := n3_; clear n0_ n1_ n2_ n3_; clear hb hbox hg) | ((with_reducible refine gate_dst (N := 3) rfl ?_); refine box_event ?hg (N := 3) ?hd (cs := #[.int .i64 a1]) (t := 3) ?hr ?_; (case hd => rfl); (case hg => rfl); (case hr => first | (go_simp; done) | (go_simp; rfl)); intro gb224 hg w6 hbox hb; have n0_ := Gv.a0 (Gv.bb BK223.out hb); have n1_ := Gv.a0 (below_step Gv.bw hb); have n2_ := Gv.a0 (hbox); have n3_ := Gv.a0 ((Gv.ble hg Gv.bw : w.heap.size ≤ gb224)); have n4_ := Gv.a0 ((Gv.ble hg Gv.bw : w.heap.size ≤ gb224)); have n5_ := Gv.a0 ((Gv.nlt hg (Gv.kb BK223.out) : gb223 ≠ gb224)); have n6_ := Gv.a0 ((Gv.ngt hg (Gv.kb BK223.out) : gb224 ≠ gb223)); clear BK223; clear HB; have BK223 := n0_; have HB := n1_; have BK224 := n2_; have GW224 := n3_; have GE224 := n4_; have NB223_224 := n5_; have NB224_223 := n6_; clear n0_ n1_ n2_ n3_ n4_ n5_ n6_; clear hb hbox hg; have hnb7 := NB223_224.out; have hnc7 := NB224_223.out; have hcz8_0 : w6.cell? ⟨gb223, 0, none⟩ = some (.int .i64 a0_0) := (blk_cell BK223.out 0).trans rfl; have hcz8_1 : w6.cell? ⟨gb223, 1, none⟩ = some (.slice A0_1 l0_1.length c0_1) := (blk_cell BK223.out 1).trans rfl; have hfz8_0 := blk_frozen BK223.out 0; have hfz8_1 := blk_frozen BK223.out 1) | ((with_reducible refine gate_callee (f := 32) rfl ?_); refine goesL_ (some 6) rfl rfl Try.func32 (by kernel_rfl) rfl #[.agg #[.int .i64 a0_0, .slice A0_1 l0_1.length c0_1]] rfl Gv.lm ?_; (with_reducible refine (impl_Wheel_timers.calls k a0_0 _ _ l0_1 t225 _ ?side1 ?side2 A3.out).mono ?_); (case side1 => repeat (first | exact (Kd.C_below HR0_1.out HB.out) | (with_reducible refine Kd.C_alloc ?_ _) | (with_reducible refine Kd.C_drewN ?_ _) | (with_reducible refine Kd.C_drew ?_))); (case side2 => exact HC0_1.out); rintro e w9 ⟨v226, rfl, ho0, hb⟩; refine ⟨_, rfl, ?_⟩; have n0_ := Gv.a0 (Kd.R_lower ho0 (below_size Gv.bw)); have n1_ := Gv.a0 (Gv.bb BK223.out hb); have n2_ := Gv.a0 (Gv.bb BK224.out hb); have n3_ := Gv.a0 (below_step Gv.bw hb); clear BK223; clear BK224; clear HB; have HO227 := n0_; have BK223 := n1_; have BK224 := n2_; have HB := n3_; clear n0_ n1_ n2_ n3_; (try clear hb); (try clear hb2); (try clear hk); (try clear hi); (try clear ho0); obtain ⟨Ao10, co10, eo10⟩ := Kd.R_slice HO227.out; subst eo10) | ((with_reducible refine gate_callee (f := 44) rfl ?_); refine goesL_ (some 8) rfl rfl Try.func44 (by kernel_rfl) rfl #[.slice Ao10 t225.length co10, .func (.func 45) #[] #[.pointer (some ⟨gb224, 0, none⟩)]] rfl Gv.lm ?_; (with_reducible refine (impl_Timer_c45.calls _ _ t225 gb224 a1 t228 _ ?side1 ?side2 ?side3 A4.out).mono ?_); (case side1 => repeat (first | exact (Kd.R_reads' HO227.out).2.2 | (with_reducible refine Kd.C_alloc ?_ _) | (with_reducible refine Kd.C_drewN ?_ _) | (with_reducible refine Kd.C_drew ?_))); (case side2 => exact (Kd.R_reads' HO227.out).2.1); (case side3 => exact Gv.bk); rintro e w11 ⟨rfl, hb⟩; refine ⟨_, rfl, ?_⟩; have n0_ := Gv.a0 (Kd.R_below (Gv.kr HO227.out) hb); have n1_ := Gv.a0 (Gv.bb BK223.out hb); have n2_ := Gv.a0 (Gv.bb BK224.out hb); have n3_ := Gv.a0 (below_step Gv.bw hb); clear HO227; clear BK223; clear BK224; clear HB; have HO227 := n0_; have BK223 := n1_; have BK224 := n2_; have HB := n3_; clear n0_ n1_ n2_ n3_; (try clear hb); (try clear hb2); (try clear hk); (try clear hi)))
 go_ret
 exact ⟨Gv.rt, Gv.bw⟩

/-! ### impl_Timer: function 47 -/
def impl_Timer.f (l0 : List (S50)) : Option ((List (S50))) := (some (([] : List (S50)) : List (S50))).bind fun y229 => (if y229.length + l0.length < 8796093022208 then (some (y229 ++ l0)) else (none))
set_option maxHeartbeats 8000000 in
set_option maxRecDepth 100000 in
theorem impl_Timer.calls (A0 : Option Addr) (c0 : Nat) (l0 : List (S50)) (r : List (S50)) (w : World) (hr0 : Kd.C k50 w A0 l0.length l0) (hc0 : l0.length ≤ c0) (h : impl_Timer.f l0 = some r) :
  Calls Try.prog 47 #[.slice A0 l0.length c0] w fun e w' => ∃ v0_ : Value, e = .returned (v0_) ∧ Kd.R k50 50 w' w.heap.size (fun _ => True) v0_ r ∧ Below w.heap.size w w' := by
 have HR0 := Gv.a0 hr0
 have HC0 := Gv.a0 hc0
 clear hr0 hc0
 have HB := Gv.a0 (Below.refl w.heap.size w)
 have H : ((some (([] : List (S50)) : List (S50))).bind fun y229 => (if y229.length + l0.length < 8796093022208 then (some (y229 ++ l0)) else (none))) = some r := h
 clear h
 obtain ⟨y229, hy229⟩ : ∃ y_ : List (S50), y_ = (([] : List (S50))) := ⟨_, rfl⟩
 replace H : (if y229.length + l0.length < 8796093022208 then (some (y229 ++ l0)) else (none)) = some r := by first | (rw [hy229]; with_reducible exact H) | (have H2_ := (Option.bind_some _ _).symm.trans H; rw [hy229]; with_reducible exact H2_) | (have H2_ := (Option.bind_some _ _).symm.trans H; with_reducible exact H2_) | with_reducible exact H | (rw [hy229]; exact H) | exact H
 have Ny229 := Gv.a0 hy229
 clear hy229
 by_cases c2 : y229.length + l0.length < 8796093022208
 ·rw [if_pos c2] at H
  have LMc2 := Gv.a0 c2
  clear c2
  obtain ⟨y232, hy232⟩ : ∃ y_ : List (S50), y_ = (y229 ++ l0) := ⟨_, rfl⟩
  replace H : (some y232) = some r := by first | (rw [hy232]; with_reducible exact H) | (have H2_ := (Option.bind_some _ _).symm.trans H; rw [hy232]; with_reducible exact H2_) | (have H2_ := (Option.bind_some _ _).symm.trans H; with_reducible exact H2_) | with_reducible exact H | (rw [hy232]; exact H) | exact H
  have Ny232 := Gv.a0 hy232
  clear hy232
  obtain rfl := Option.some.inj H
  have q_ : ∀ (w : World) (a : Option Addr) (n c n' c' : Nat), (binOp .eql 45 (.slice a n c) (.slice none n' c')).run Try.prog w = .ok (.bool a.isNone) w := fun w a n c n' c' => Lib.run_eql_slice_nil w _ _ a n c n' c' Try.underlying45
  rcases A0 with _ | a0_
  ·have hl : l0 = [] := by
    rcases Nat.eq_zero_or_pos l0.length with h0 | h0
    ·exact List.length_eq_zero_iff.1 h0
    ·obtain ⟨ad, e, _⟩ := HR0.out.2.2 h0
     cases e
   have e_ : y232 = [] := by rw [Ny232.out, Ny229.out, hl]; rfl
   rw [e_]
   clear e_ hl
   go_enter Try.func47, Try.ntmps47
   go_wp2
   go_ret
   exact ⟨_, rfl, Kd.R_nil _ _ _ _ _, HB.out⟩
  go_enter Try.func47, Try.ntmps47
  go_wp2_with (first | ((with_reducible refine gate_dst (N := 5) rfl ?_); refine Kd.R_lit k50 _ 50 ?hg (N := 5) ?hd (xs := ([] : List (S50))) (inner := []) (ok := fun _ => True) (okp := fun _ => True) ?hr ?hp (fun _ hk => hk) trivial (Below.refl _ _) (Nat.le_refl _) (by simp) ?_; (case hd => rfl); (case hg => rfl); (case hr => first | (go_simp; done) | (go_simp; rfl)); (case hp => exact (Reps.none _ _)); intro v230 w3 ho4 hb hg_ hnew_; clear hg_ hnew_; (first | rw [← Ny229.out] at ho4 | (simp only [Int.reduceToNat] at ho4; rw [← Ny229.out] at ho4)); have n0_ := Gv.a0 (Kd.R_lower ho4 (below_size Gv.bw)); have n1_ := Gv.a0 (below_step Gv.bw hb); clear HB; have HO231 := n0_; have HB := n1_; clear n0_ n1_; clear hb ho4) | ((with_reducible refine gate_builtin (b := .append) (xs := #[.tmp 5, .tmp 6]) rfl ?_); at_builtin; refine Kd.R_append_rows k50 (w0 := w) w.heap.size rfl (.tmp 5) (.tmp 6) 45 50 (.agg #[(.int .i64 0), (.int .i64 0)]) 16 rfl Try.underlying45 info50 rfl (by decide) (by omega) v230 y229 l0 _ _ _ (fun _ => True) (fun _ => False) rfl rfl ?aO ?aR (fun _ _ h => h) (fun _ h => h.elim) ?aF ?aB ?aS ?aL ?_; (case aR => repeat (first | exact (Kd.C_below HR0.out HB.out) | (with_reducible refine Kd.C_alloc ?_ _) | (with_reducible refine Kd.C_drewN ?_ _) | (with_reducible refine Kd.C_drew ?_))); (case aB => exact Gv.bw); (case aF => exact (fun _ _ => trivial)); (case aO => exact (Gv.kr HO231.out)); (case aS => exact (below_size Gv.bw)); (case aL => have := LMc2.out; omega); intro v233 w5 ho hb hg hat; rw [← Ny232.out] at ho; have n0_ := Gv.a0 (hb); have n1_ := Gv.a0 (ho); clear HB; clear HO231; have HB := n0_; have HO234 := n1_; clear n0_ n1_; clear ho hb hg hat))
  go_ret
  exact ⟨_, Gv.rt, Gv.kr HO234.out, Gv.bw⟩
 ·rw [if_neg c2] at H
  exact absurd H (by simp)

/-! ### impl_copyWheel_c37: function 36 over a closure -/
/-- The rest of a row of one's own is overwritten, the row cut ahead of it. -/
theorem Dl.R_clear {α : Type} {d : Kd α} {e base g n cap m : Nat} {ok : Nat → Prop} {W : World} {xs : List α} (h : d.R e W base ok (.slice (some ⟨g, 0, none⟩) n cap) xs) (hm : m ≤ n) (seg : List Value) (hs : m * d.sz + seg.length ≤ n * d.sz) :
    d.R e (W.setCells g (m * d.sz) seg) base ok (.slice (some ⟨g, 0, none⟩) m cap) (xs.take m) ∧ W.grownBy (W.setCells g (m * d.sz) seg) (some g) := by
  obtain ⟨hn, hnc, _⟩ := Kd.R_reads' h
  have ht := Kd.R_take (m := m) h (by omega)
  obtain ⟨hok, inner, ho, hr⟩ := ht
  obtain ⟨ho1, ho2⟩ := ho
  rcases ho2 with ⟨hv, _⟩ | ⟨g', cap', cur, hv, hb, hh, hnc', hcm, hcs, htk⟩
  · cases hv
  injection hv with ha hm' hc
  injection ha with ha
  injection ha with hg
  subst hg; subst hc
  have hfit : m * d.sz + seg.length ≤ cur.size := by
    have : n * d.sz ≤ cap * d.sz := Nat.mul_le_mul_right _ hnc
    omega
  obtain ⟨cur', h3, h4, h5⟩ := setCells_row seg (m * d.sz) W cur hh hfit
  obtain ⟨s1, s2, s3, s4⟩ := setCells_same g seg (m * d.sz) W
  have hfar : ∀ k, k ≠ g → (W.setCells g (m * d.sz) seg).heap[k]? = W.heap[k]? := fun k hk => setCells_far seg _ k hk
  have hl : (xs.take m).length = m := by rw [List.length_take]; omega
  refine ⟨⟨hok, inner, ⟨ho1, .inr ⟨g, cap, cur', by rw [hl], hb, h3, hnc', hcm, by rw [h4, hcs], ?_⟩⟩, hr.1, fun j p hj => ?_⟩, ⟨s1, s2, s3, by rw [s4]; exact Nat.le_refl _, fun k _ hk => hfar k (fun he => hk (by rw [he]))⟩⟩
  · rw [← htk, h5, hl]
    apply List.ext_getElem?
    intro q
    rw [List.getElem?_take, List.getElem?_take, seg_get cur.toList seg (m * d.sz) (by rw [Array.length_toList]; omega) q]
    by_cases hq : q < m * d.sz
    · rw [if_pos hq, if_pos hq, if_pos hq]
    · rw [if_neg hq, if_neg hq]
  · exact Kd.M_step (hr.2 j p hj) (fun k hk _ => hfar k (fun he => hk.2 (by rw [he]; simp [Value.ownBlock])))
set_option maxHeartbeats 8000000 in
set_option maxRecDepth 100000 in
theorem Dl.idxT (g : Nat) (lb : Array Value) (eg : ∀ args w, (callFunc g args).run Try.prog w = .ok (.enter g args) w) (p : S50 → Bool) (A0 : Option Addr) (c0 : Nat) (l0 : List S50) (w : World) (hr0 : Kd.C k50 w A0 l0.length l0)
    (hp : ∀ (W : World) (x : S50), Below w.heap.size w W → Calls Try.prog g (#[.agg #[.int .i64 x.f0, .int .i64 x.f1]] ++ lb) W fun e w' => e = .returned (.bool (p x)) ∧ Below W.heap.size W w') :
    Calls Try.prog 51 #[.slice A0 l0.length c0, .func (.func g) #[] lb] w fun e w' => e = .returned (.int .i64 (Gv.idxOf p l0)) ∧ Below w.heap.size w w' := by
  have hu50 := Try.underlying50
  have HR0 := Aside0.mk hr0
  have HP := Aside0.mk hp
  have hlm := hr0.2.1
  clear hr0 hp
  go_enter Try.func51, Try.ntmps51
  go_wp2
  go_loopg [5, 8] l0.length (fun gg _ s8 wr => ∃ kk : Nat, kk ≤ l0.length ∧ l0.length - kk ≤ gg ∧ s8 = .int .i64 kk ∧ Aside0 (Below w.heap.size w wr) ∧ Aside0 (∀ (j : Nat) y, j < kk → l0[j]? = some y → p y = false))
  case atStart => exact ⟨0, Nat.zero_le _, by omega, rfl, ⟨Below.refl _ w⟩, ⟨fun j _ hj => absurd hj (Nat.not_lt_zero _)⟩⟩
  case round =>
    obtain ⟨kk, hkk, hg, rfl, HB, HN⟩ := hrel
    by_cases hlt : kk < l0.length
    · have hltz : (kk : Int) < (l0.length : Int) := by omega
      have hk0 : 0 ≤ (kk : Int) := by omega
      obtain ⟨ad, e1, hx0, hx1⟩ := at_T50 (Kd.C_below HR0.out HB.out) (kk : Int) hk0 hltz
      cases e1
      rw [Int.toNat_natCast] at hx0 hx1
      have hcall := HP.out wr (rd_T50 l0 kk) HB.out
      have hget : l0[kk]? = some (rd_T50 l0 kk) := by
        unfold rd_T50
        rw [Int.toNat_natCast, List.getD_eq_getElem?_getD, List.getElem?_eq_getElem hlt]
        rfl
      have HG := Aside0.mk hget
      clear hget
      cases hq : p (rd_T50 l0 kk) with
      | true =>
        rw [hq] at hcall
        have HQ := Aside0.mk hq
        clear hq
        have HC := Aside0.mk hcall
        clear hcall
        go_wp2_with fail
        refine HC.out.mono ?_
        rintro e w' ⟨rfl, hb⟩
        have HB' := Aside0.mk (HB.out.trans (hb.mono HB.out.size))
        clear hb
        go_wp2_with fail
        go_ret
        exact ⟨by rw [Gv.idxOf_hit HG.out HQ.out (fun j y hj hy => HN.out j y hj hy)]; rfl, HB'.out⟩
      | false =>
        rw [hq] at hcall
        have HQ := Aside0.mk hq
        clear hq
        have HC := Aside0.mk hcall
        clear hcall
        go_wp2_with fail
        refine HC.out.mono ?_
        rintro e w' ⟨rfl, hb⟩
        have HB' := Aside0.mk (HB.out.trans (hb.mono HB.out.size))
        clear hb
        go_wp2_with fail
        go_roundg (l0.length - (kk + 1))
        case measure => omega
        case rel =>
          refine ⟨kk + 1, by omega, by omega, by go_num, HB', ⟨fun j y hj hy => ?_⟩⟩
          by_cases e : j = kk
          · subst e
            rw [HG.out] at hy
            injection hy with hy
            rw [← hy]
            exact HQ.out
          · exact HN.out j y (by omega) hy
    · have hltz : ¬ (kk : Int) < (l0.length : Int) := by omega
      have hk : kk = l0.length := by omega
      have HK := Aside0.mk hk
      clear hk
      go_wp2_with fail
      go_ret
      exact ⟨by rw [Gv.idxOf_miss (fun j y hj => HN.out j y (by rw [HK.out]; exact (List.getElem?_eq_some_iff.1 hj).1) hj)]; rfl, HB.out⟩
theorem Dl.filt_none {α : Type} {p : α → Bool} : ∀ {l : List α}, Gv.idxOf p l = -1 → l.filter (fun x => !p x) = l := by
  intro l h
  rw [List.filter_eq_self]
  intro x hx
  unfold Gv.idxOf at h
  cases hf : l.findIdx? p with
  | none => rw [List.findIdx?_eq_none_iff] at hf; simp [hf x hx]
  | some i => rw [hf] at h; exact absurd h (by simp only; omega)
theorem Dl.filt_some {α : Type} {p : α → Bool} {l : List α} (h : Gv.idxOf p l ≠ -1) : ∃ i : Nat, i < l.length ∧ Gv.idxOf p l = (i : Int) ∧ l.take i = (l.take (i + 1)).filter (fun x => !p x) := by
  unfold Gv.idxOf at h ⊢
  cases hf : l.findIdx? p with
  | none => rw [hf] at h; exact absurd rfl h
  | some i =>
    obtain ⟨h1, h2, h3⟩ := List.findIdx?_eq_some_iff_getElem.1 hf
    refine ⟨i, h1, rfl, ?_⟩
    rw [List.take_succ_eq_append_getElem h1, List.filter_append, List.filter_cons_of_neg (by simp [h2]), List.filter_nil, List.append_nil, eq_comm, List.filter_eq_self]
    intro x hx
    obtain ⟨j, hj, rfl⟩ := List.getElem_of_mem hx
    have hj' : j < i := by rw [List.length_take] at hj; omega
    have := h3 j hj'
    rw [List.getElem_take]
    simpa using this
theorem Dl.filt_step {α : Type} {p : α → Bool} {l xs : List α} {i j : Nat} (hj : j < l.length) (hxl : xs.length = l.length) (ht : xs.take i = (l.take j).filter (fun x => !p x)) (hd : xs.drop j = l.drop j) (hij : i < j) {x : α} (hx : l[j]? = some x) :
    (p x = true → xs.take i = (l.take (j + 1)).filter (fun x => !p x) ∧ xs.drop (j + 1) = l.drop (j + 1)) ∧
    (p x = false → (xs.set i x).take (i + 1) = (l.take (j + 1)).filter (fun x => !p x) ∧ (xs.set i x).drop (j + 1) = l.drop (j + 1)) := by
  obtain ⟨_, rfl⟩ := List.getElem?_eq_some_iff.1 hx
  have hd' : xs.drop (j + 1) = l.drop (j + 1) := by
    rw [show j + 1 = j + 1 from rfl, ← List.drop_drop, hd, List.drop_drop]
  refine ⟨fun h => ⟨?_, hd'⟩, fun h => ⟨?_, ?_⟩⟩
  · rw [List.take_succ_eq_append_getElem hj, List.filter_append, List.filter_cons_of_neg (by simp [h]), List.filter_nil, List.append_nil, ht]
  · rw [List.take_succ_eq_append_getElem hj, List.filter_append, List.filter_cons_of_pos (by simp [h]), List.filter_nil, ← ht]
    rw [List.take_succ_eq_append_getElem (by rw [List.length_set]; omega), List.getElem_set_self, List.take_set_of_le (Nat.le_refl i)]
  · rw [List.drop_set_of_lt (by omega), hd']
theorem Dl.wp_builtin_run {P : Program} (w : World) {o : Oper} {a : Act} {K : Act → World → Prop} {Q : Exit → Act → World → Prop} (x : Operand) (t : TypeId)
    (ho : o.op = .call { callee := .builtin .clear, args := #[x], argTypes := #[t] }) (vx : Value) (hx : a.eval x = vx) (hd : o.dst = none)
    (v' : Value) (w' : World) (hr : (Builtin.clear_ #[t] o.type #[vx]).run P w = .ok v' w') (h : K a w') : o.wp P a w K Q := by
  unfold Oper.wp execOp
  simp only [ho, resolve, invoke, builtin, Sem.run_bind, Sem.run_pure, Result.andThen_ok, List.map_toArray, List.map_cons, List.map_nil, hx, hr]
  show K (a.put o.dst v') w'
  rw [hd]
  exact h
/-- 'clear' of what follows the first m elements of a row of one's own. -/
theorem Dl.clear_event {α : Type} {P : Program} {ops : Array Oper} {rest : List Oper} {o : Oper} {a : Act} {W : World} {Q : Exit → Act → World → Prop} {d : Kd α} {T t : TypeId} {x : Operand} {g n cap base m c' : Nat} {okr : Nat → Prop} {xs : List α} {z : Value} (hgd : o.guard = none) (hd : o.dst = none) (ho : o.op = .call { callee := .builtin .clear, args := #[x], argTypes := #[t] }) (hx : a.eval x = .slice (some ⟨g, m * d.sz, none⟩) (n - m) c') (hu : P.underlying t = some (.slice T))
    (hzi : (P.info? T).map (·.zero) = some (some z)) {z0 : α} (hzM : d.M W base (fun _ => False) z0 z.cells.toList) (HR : d.R T W base okr (.slice (some ⟨g, 0, none⟩) n cap) xs) (hm : m < n) (hs0 : 0 < d.sz)
    (h : ∀ w1 : World, d.R T w1 base okr (.slice (some ⟨g, 0, none⟩) m cap) (xs.take m) → W.grownBy w1 (some g) → wpList P ops Q rest a w1) : wpList P ops Q (o :: rest) a W := by
  have hzs : z.cells.size = d.sz := by have := d.K_len (d.K_of_M hzM); rwa [Array.length_toList] at this
  have hz1 : z.cells.all (·.oneCell') = true := Array.all_eq_true_iff_forall_mem.2 (fun v hv => d.K_one (d.K_of_M hzM) v (by simpa using hv))
  have hz : ∀ w, (zeroValue T).run P w = .ok z w := by
    intro w
    rw [Option.map_eq_some_iff] at hzi
    obtain ⟨i, hi, hz⟩ := hzi
    simp [zeroValue, typeInfo, hi, hz]
  have hzl : (Builtin.zeroCells z.cells (n - m)).toList.length = (n - m) * d.sz := by rw [Array.length_toList, size_zeroCells, hzs]
  have hz1' : ∀ v ∈ (Builtin.zeroCells z.cells (n - m)).toList, v.oneCell' = true := by
    intro v hv
    unfold Builtin.zeroCells at hv
    simp only [Array.toList_map, List.mem_map, Array.toList_range, List.mem_range] at hv
    obtain ⟨i, hi, rfl⟩ := hv
    have hlt : i % z.cells.size < z.cells.size := Nat.mod_lt _ (by omega)
    rw [getElem!_pos z.cells _ hlt]
    exact Array.all_eq_true_iff_forall_mem.1 hz1 _ (Array.getElem_mem hlt)
  have hle : m * d.sz + (n - m) * d.sz = n * d.sz := by rw [← Nat.add_mul]; congr 1; omega
  obtain ⟨h2, h3⟩ := Dl.R_clear HR (Nat.le_of_lt hm) (Builtin.zeroCells z.cells (n - m)).toList (by rw [hzl]; omega)
  have hblk : ∃ cur, W.heap[g]? = some (.cells cur T (0, 0)) ∧ cap * d.sz = cur.size ∧ n ≤ cap := by
    obtain ⟨_, inner, ho, hr⟩ := HR
    obtain ⟨ho1, ho2⟩ := ho
    rcases ho2 with ⟨hv, _⟩ | ⟨g', cap', cur, hv, hb, hh, hnc', hcm, hcs, htk⟩
    · cases hv
    injection hv with ha hm' hc
    injection ha with ha
    injection ha with hg
    subst hg; subst hc
    exact ⟨cur, hh, hcs.symm, by omega⟩
  obtain ⟨cur, hh, hcs, hnc⟩ := hblk
  have hncs : n * d.sz ≤ cur.size := by rw [← hcs]; exact Nat.mul_le_mul_right _ hnc
  have hst := run_storeCells_cells (P := P) g (m * d.sz) (Builtin.zeroCells z.cells (n - m)).toList 0 W (fun j hj => by
    rw [hzl] at hj
    rw [cell_of_row W g _ cur T (0, 0) hh, Array.getElem?_eq_getElem (by omega)]
    rfl) (fun j _ => blk_frozen hh _) hz1'
  rw [Nat.add_zero] at hst
  have hfar : ∀ j, j ≠ g → (W.setCells g (m * d.sz) (Builtin.zeroCells z.cells (n - m)).toList).heap[j]? = W.heap[j]? := fun j hj => setCells_far _ _ j hj
  obtain ⟨q, hq⟩ : ∃ q, n - m = q + 1 := ⟨n - m - 1, by omega⟩
  have hrun : ∀ ty, (Builtin.clear_ #[t] ty #[.slice (some ⟨g, m * d.sz, none⟩) (n - m) c']).run P W = .ok (.tuple #[]) (W.setCells g (m * d.sz) (Builtin.zeroCells z.cells (n - m)).toList) := by
    intro ty
    rw [hq] at hst ⊢
    simp [Builtin.clear_, run_underlying hu, hz, hst]
  exact wpList_plain hgd fun K hK => Dl.wp_builtin_run W x t ho _ hx hd _ _ (hrun _) (hK _ _ (h _ h2 h3))

theorem Dl.row_store2 {α : Type} {P : Program} {ops : Array Oper} {rest : List Oper} {o : Oper} {a : Act} {W : World} {Q : Exit → Act → World → Prop} {d : Kd α} {T t : TypeId} {p v : Operand} {g n cap base off : Nat} {okr : Nat → Prop} {xs : List α} {cells : Array Value} (i : Int) (x' : α) (hgd : o.guard = none) (ho : o.op = .store t p v) (hd : o.dst = none) (hx : a.eval p = .pointer (some ⟨g, off, none⟩)) (hy : a.eval v = .agg cells) (hi : (P.info? t).map (·.size) = some cells.size)
    (HR : d.R T W base okr (.slice (some ⟨g, 0, none⟩) n cap) xs) (h0 : 0 ≤ i) (hn : i < n) (hoff : off = i.toNat * d.sz) (hsz : cells.size = d.sz) (hM : d.M W base (fun _ => False) x' cells.toList)
    (h : ∀ w1 : World, d.R T w1 base okr (.slice (some ⟨g, 0, none⟩) n cap) (xs.set i.toNat x') → W.grownBy w1 (some g) → wpList P ops Q rest a w1) : wpList P ops Q (o :: rest) a W := by
  subst hoff
  have h1 : cells.all (·.oneCell') = true := Array.all_eq_true_iff_forall_mem.2 (fun v hv => d.K_one (d.K_of_M hM) v (by simpa using hv))
  obtain ⟨c, hcl, _, hcc, hfr⟩ := Kd.R_elem HR x' i h0 hn
  have ht : W.there g (i.toNat * d.sz) cells.size := fun j hj => ⟨by
    have hj' : j < c.length := by omega
    rw [hcc j _ (List.getElem?_eq_getElem hj')]
    rfl, hfr j⟩
  obtain ⟨hR, hG⟩ := Kd.R_seg HR i h0 hn (c := c) (seg := cells.toList) (j := 0) hcl hcc (by simp [hsz]) (x' := x') (okp := fun _ => False) (by
    rw [List.take_zero, List.nil_append, List.drop_eq_nil_of_le (by simp; omega), List.append_nil]
    exact hM) (fun _ hk => hk.elim)
  rw [Nat.add_zero] at hR hG
  refine wpList_store_mid hgd t p v ho g (i.toNat * d.sz) cells hx hy ht hi h1 ?_
  rw [hd]
  have hfar : ∀ j, j ≠ g → (W.setCells g (i.toNat * d.sz) cells.toList).heap[j]? = W.heap[j]? := fun j hj => setCells_far _ _ j hj
  exact h _ hR hG
theorem Dl.below_grown {B : Nat} {w0 W w1 : World} {g : Nat} (h : Below B w0 W) (hG : W.grownBy w1 (some g)) (hle : w0.heap.size ≤ g) (hB : B = w0.heap.size) : Below w0.heap.size w0 w1 := by
  subst hB
  refine h.trans ⟨hG.os, hG.tape, hG.output, hG.size, fun k hk => ?_⟩
  exact hG.block k (by have := h.size; omega) (fun e => by injection e with e; omega)
set_option maxHeartbeats 8000000 in
set_option maxRecDepth 100000 in
/-- slices.DeleteFunc over a row of one's own. -/
theorem Dl.del (g : Nat) (lb : Array Value) (eg : ∀ args w, (callFunc g args).run Try.prog w = .ok (.enter g args) w) (p : S50 → Bool) (P0 : Nat → Prop) (A0 : Option Addr) (c0 : Nat) (l0 : List S50) (w0 w : World) (hB : Below w0.heap.size w0 w)
    (ho : Kd.R k50 50 w w0.heap.size P0 (.slice A0 l0.length c0) l0) (hp : ∀ (W : World) (x : S50), Kept w W P0 → Calls Try.prog g (#[.agg #[.int .i64 x.f0, .int .i64 x.f1]] ++ lb) W fun e w' => e = .returned (.bool (p x)) ∧ Below W.heap.size W w') :
    Calls Try.prog 46 #[.slice A0 l0.length c0, .func (.func g) #[] lb] w fun e w' => ∃ v : Value, e = .returned v ∧ Kd.R k50 50 w' w0.heap.size P0 v (l0.filter fun x => !p x) ∧ Below w0.heap.size w0 w' ∧ Kept w w' P0 := by
  have hu50 := Try.underlying50
  have hu45 := Try.underlying45
  have hC := (Kd.R_reads' ho).2.2
  have HC := Gv.a0 hC
  have HP := Gv.a0 hp
  have HB := Gv.a0 hB
  have HO := Gv.a0 ho
  have eg' := Gv.a0 eg
  clear hC hp hB ho eg
  by_cases hn : Gv.idxOf p l0 = -1
  · have HF := Gv.a0 (Dl.filt_none hn)
    have HI : Aside0 (Calls Try.prog 51 #[.slice A0 l0.length c0, .func (.func g) #[] lb] w fun e w' => e = .returned (.int .i64 (-1)) ∧ Below w.heap.size w w') := Gv.a0 (hn ▸ Dl.idxT g lb eg'.out p A0 c0 l0 w HC.out (fun W x hW => HP.out W x (Kept.of_below hW _)))
    clear hn
    go_enter Try.func46, Try.ntmps46
    go_wp2_with (go_at_call 51; refine HI.out.mono ?_; rintro e w' ⟨rfl, hb⟩; have HB1 := Gv.a0 hb; clear hb)
    go_ret
    exact ⟨_, rfl, by rw [HF.out]; exact Kd.R_below HO.out HB1.out, below_step HB.out HB1.out, Kept.of_below HB1.out _⟩
  · obtain ⟨i0, hi0, hix, hft⟩ := Dl.filt_some hn
    obtain ⟨gb, cap, e0, hbase, hlt, _⟩ := Kd.R_form HO.out (by omega)
    have HI : Aside0 (Calls Try.prog 51 #[.slice A0 l0.length c0, .func (.func g) #[] lb] w fun e w' => e = .returned (.int .i64 (i0 : Int)) ∧ Below w.heap.size w w') := Gv.a0 (hix ▸ Dl.idxT g lb eg'.out p A0 c0 l0 w HC.out (fun W x hW => HP.out W x (Kept.of_below hW _)))
    injection e0 with e1 _ e2
    subst e1
    subst e2
    have HP0 := Gv.a0 (HO.out.1 gb (by simp [Value.ownBlock]))
    have hcap := (Kd.R_reads' HO.out).2.1
    have hlm := HC.out.2.1
    have HFT := Gv.a0 hft
    clear hn hix hft HC
    go_enter Try.func46, Try.ntmps46
    go_wp2_with (go_at_call 51; refine HI.out.mono ?_; rintro e w' ⟨rfl, hb⟩; have HB1 := Gv.a0 hb; clear hb)
    have HO1 := Gv.a0 (Kd.R_below HO.out HB1.out)
    have HK := Gv.a0 (Kept.of_below HB1.out P0)
    have HBB := Gv.a0 (below_step HB.out HB1.out)
    have hz := HB1.out.size
    have HX : Aside0 (l0.length = l0.length ∧ l0.take i0 = (l0.take (i0 + 1)).filter (fun x => !p x) ∧ l0.drop (i0 + 1) = l0.drop (i0 + 1)) := Gv.a0 ⟨rfl, HFT.out, rfl⟩
    go_loopg [5, 6] l0.length (fun gg s5 s6 wr => ∃ (i j : Nat) (xs : List S50), i < j ∧ j ≤ l0.length ∧ l0.length - j ≤ gg ∧ s5 = .int .i64 (i : Int) ∧ s6 = .int .i64 (j : Int) ∧ Aside0 (Kd.R k50 50 wr w0.heap.size P0 (.slice (some ⟨gb, 0, none⟩) l0.length c0) xs) ∧ Aside0 (xs.length = l0.length ∧ xs.take i = (l0.take j).filter (fun x => !p x) ∧ xs.drop j = l0.drop j) ∧ Aside0 (Below w0.heap.size w0 wr) ∧ Aside0 (Kept w wr P0))
    case atStart => exact ⟨i0, i0 + 1, l0, by omega, by omega, by omega, rfl, by go_num, HO1, HX, HBB, HK⟩
    case round =>
      clear HO1 HX HBB HK HB1 HI hz
      obtain ⟨i, j, xs, hij, hj, hgg, rfl, rfl, HO1, HX, HBB, HK⟩ := hrel
      by_cases hlt : j < l0.length
      · have hltz : (j : Int) < (l0.length : Int) := by omega
        have hk0 : 0 ≤ (j : Int) := by omega
        have hlx : j < xs.length := by have := HX.out.1; omega
        obtain ⟨ad, e1, hx0, hx1⟩ := at_T50 (Kd.R_reads' HO1.out).2.2 (j : Int) hk0 (by have := HX.out.1; omega)
        injection e1 with e1
        subst e1
        obtain ⟨x_, hx_⟩ : ∃ x_, x_ = rd_T50 xs (j : Int) := ⟨_, rfl⟩
        rw [← hx_, Int.toNat_natCast] at hx0 hx1
        simp only [add_plain] at hx0 hx1
        have hget : l0[j]? = some x_ := by
          have h1 : xs[j]? = l0[j]? := by
            have h2 := congrArg (fun l => l[0]?) HX.out.2.2
            simpa [List.getElem?_drop] using h2
          rw [hx_, ← h1, List.getElem?_eq_getElem hlx]
          unfold rd_T50
          rw [Int.toNat_natCast, List.getD_eq_getElem?_getD, List.getElem?_eq_getElem hlx]
          rfl
        have HS := Gv.a0 (Dl.filt_step (p := p) hlt HX.out.1 HX.out.2.1 HX.out.2.2 hij hget)
        have HLX := Gv.a0 hlx
        have HGG := Gv.a0 hgg
        clear hget hx_ hlx hgg
        have HI2 := Gv.a0 (HP.out · x_)
        have eg := eg'.out
        cases hq : p x_ with
        | true =>
          have HQ := Gv.a0 hq
          clear hq
          go_wp2_with (first
            | ((with_reducible refine gate_dst (N := 7) rfl ?_); refine box_event ?hg (N := 7) ?hd (cs := #[.int .i64 0, .int .i64 0]) (t := 50) ?hr ?_; (case hd => rfl); (case hg => rfl); (case hr => first | (go_simp; done) | (go_simp; rfl)); intro gb7 hg w5 hbox hb; have BK7 := Gv.a0 hbox; have GE7 : Aside0 (wr.heap.size ≤ gb7) := Gv.a0 (Nat.le_of_eq hg.symm); have HO5 := Gv.a0 (Kd.R_below HO1.out hb); have HBB5 := Gv.a0 (below_step HBB.out hb); have HK5 := Gv.a0 (Kept.below HK.out hb); have HB5 := Gv.a0 hb; clear hbox hb hg)
            | ((with_reducible refine gate_store (t := 50) (p := 7) rfl ?_); (refine Gv.store_event (g := gb7) (cells := #[.int .i64 x_.f0, .int .i64 x_.f1]) rfl rfl rfl rfl rfl BK7.out (by kernel_rfl) rfl (by simp; and_intros <;> rfl) ?_; intro w6 hbox hoth hbel; have BK8 := Gv.a0 hbox; have HB6 := Gv.a0 (hbel wr HB5.out GE7.out); have HO6 := Gv.a0 (Kd.R_below HO1.out HB6.out); have HBB6 := Gv.a0 (below_step HBB.out HB6.out); have HK6 := Gv.a0 (Kept.below HK.out HB6.out); clear hbox hoth hbel))
            | ((with_reducible refine Gv.gate_load (t := 50) rfl ?_); refine wpList_load_row rfl 50 _ rfl gb7 rfl 50 _ _ _ BK8.out Try.underlying50 rfl (by kernel_rfl) ?_))
          refine (HI2.out _ HK6.out).mono ?_
          rintro e w7 ⟨rfl, hb⟩
          have BK9 := Gv.a0 (blk_below BK8.out hb)
          have HO7 := Gv.a0 (Kd.R_below HO6.out hb)
          have HBB7 := Gv.a0 (below_step HBB6.out hb)
          have HK7 := Gv.a0 (Kept.below HK6.out hb)
          clear hb
          have HQ' := HQ.out
          go_wp2_with fail
          go_roundg (l0.length - (j + 1))
          case measure => have := HGG.out; omega
          case rel =>
            have hz := HX.out.1
            exact ⟨i, j + 1, xs, by omega, by omega, by omega, rfl, by go_num, HO7, Gv.a0 ⟨HX.out.1, HS.out.1 HQ.out⟩, HBB7, HK7⟩
        | false =>
          have HQ := Gv.a0 hq
          clear hq
          go_wp2_with (first
            | ((with_reducible refine gate_dst (N := 7) rfl ?_); refine box_event ?hg (N := 7) ?hd (cs := #[.int .i64 0, .int .i64 0]) (t := 50) ?hr ?_; (case hd => rfl); (case hg => rfl); (case hr => first | (go_simp; done) | (go_simp; rfl)); intro gb7 hg w5 hbox hb; have BK7 := Gv.a0 hbox; have GE7 : Aside0 (wr.heap.size ≤ gb7) := Gv.a0 (Nat.le_of_eq hg.symm); have HO5 := Gv.a0 (Kd.R_below HO1.out hb); have HBB5 := Gv.a0 (below_step HBB.out hb); have HK5 := Gv.a0 (Kept.below HK.out hb); have HB5 := Gv.a0 hb; clear hbox hb hg)
            | ((with_reducible refine gate_store (t := 50) (p := 7) rfl ?_); (refine Gv.store_event (g := gb7) (cells := #[.int .i64 x_.f0, .int .i64 x_.f1]) rfl rfl rfl rfl rfl BK7.out (by kernel_rfl) rfl (by simp; and_intros <;> rfl) ?_; intro w6 hbox hoth hbel; have BK8 := Gv.a0 hbox; have HB6 := Gv.a0 (hbel wr HB5.out GE7.out); have HO6 := Gv.a0 (Kd.R_below HO1.out HB6.out); have HBB6 := Gv.a0 (below_step HBB.out HB6.out); have HK6 := Gv.a0 (Kept.below HK.out HB6.out); clear hbox hoth hbel))
            | ((with_reducible refine Gv.gate_load (t := 50) rfl ?_); refine wpList_load_row rfl 50 _ rfl gb7 rfl 50 _ _ _ BK8.out Try.underlying50 rfl (by kernel_rfl) ?_))
          refine (HI2.out _ HK6.out).mono ?_
          rintro e w7 ⟨rfl, hb⟩
          have BK9 := Gv.a0 (blk_below BK8.out hb)
          have HO7 := Gv.a0 (Kd.R_below HO6.out hb)
          have HBB7 := Gv.a0 (below_step HBB6.out hb)
          have HK7 := Gv.a0 (Kept.below HK6.out hb)
          clear hb
          have HQ' := HQ.out
          go_wp2_with (first
            | ((with_reducible refine Gv.gate_load (t := 50) rfl ?_); refine wpList_load_row rfl 50 _ rfl gb7 rfl 50 _ _ _ BK9.out Try.underlying50 rfl (by kernel_rfl) ?_)
            | ((with_reducible refine gate_store (t := 50) (p := 33) rfl ?_); refine Dl.row_store2 (d := k50) (i : Int) x_ rfl rfl rfl rfl rfl (by kernel_rfl) HO7.out (by omega) (by omega) rfl rfl (k50_mkM _ _ _ x_) ?_; intro w8 hR hG; have HO8 := Gv.a0 hR; have HBB8 := Gv.a0 (Dl.below_grown HBB7.out hG hbase rfl); have HK8 := Gv.a0 (Kept.of_grown (S := P0) hG HK7.out (fun k e => by injection e with e; rw [← e]; exact .inl HP0.out)); clear hR hG))
          go_roundg (l0.length - (j + 1))
          case measure => have := HGG.out; omega
          case rel =>
            have hz := HX.out.1
            exact ⟨i + 1, j + 1, xs.set i x_, by omega, by omega, by omega, by go_num, by go_num, HO8, Gv.a0 ⟨by rw [List.length_set]; exact HX.out.1, HS.out.2 HQ.out⟩, HBB8, HK8⟩
      · have hltz : ¬ (j : Int) < (l0.length : Int) := by omega
        have hicap : i < c0 := by omega
        have hil : i < l0.length := by omega
        have hji : j = l0.length := by omega
        have HX2 : Aside0 (xs.take i = l0.filter (fun x => !p x)) := Gv.a0 (by have := HX.out.2.1; rwa [hji, List.take_length] at this)
        clear hji hgg
        go_wp2_with (refine Dl.clear_event (d := k50) (m := i) (z := .agg #[.int .i64 0, .int .i64 0]) rfl rfl rfl rfl hu45 (by kernel_rfl) (k50_mkM _ _ _ z50) HO1.out hil (by decide) ?_; intro w1 hR hG; have HR := Gv.a0 hR; have HB2 := Gv.a0 (Dl.below_grown HBB.out hG hbase rfl); have HK2 := Gv.a0 (Kept.of_grown (S := P0) hG HK.out (fun k e => by injection e with e; rw [← e]; exact .inl HP0.out)); clear hR hG)
        go_ret
        exact ⟨_, rfl, by rw [← HX2.out]; exact HR.out, HB2.out, HK2.out⟩
theorem clone_f {l : List S50} (h : l.length ≤ 1048577) : impl_Timer.f l = some l := by
  unfold impl_Timer.f
  rw [Option.bind_some, if_pos (by simp; omega)]
  rfl
set_option maxHeartbeats 8000000 in
set_option maxRecDepth 100000 in
/-- copyWheel over any function value. -/
theorem Dl.copy (g : Nat) (lb : Array Value) (eg : ∀ args w, (callFunc g args).run Try.prog w = .ok (.enter g args) w) (p : S50 → Bool) (a0 : Int) (A1 : Option Addr) (c1 : Nat) (l1 : List S47) (w : World) (hr : Kd.C k47 w A1 l1.length l1)
    (hl : l1.length ≤ 1048577) (hm : ∀ s ∈ l1, s.f0.length ≤ 1048577) (hp : ∀ (W : World) (x : S50), Kept w W (fun _ => False) → Calls Try.prog g (#[.agg #[.int .i64 x.f0, .int .i64 x.f1]] ++ lb) W fun e w' => e = .returned (.bool (p x)) ∧ Below W.heap.size W w') :
    Calls Try.prog 36 #[.agg #[.int .i64 a0, .slice A1 l1.length c1], .func (.func g) #[] lb] w fun e w' => ∃ v : Value, e = .returned (.agg #[.int .i64 a0, v]) ∧ Kd.S k47 47 w' w.heap.size (fun _ => True) v (l1.map fun s => ⟨s.f0.filter fun x => !p x⟩) ∧ Below w.heap.size w w' := by
  have hu24 := Try.underlying24
  have hu47 := Try.underlying47
  have HC := Gv.a0 hr
  have HP := Gv.a0 hp
  have HM := Gv.a0 hm
  have HL := Gv.a0 hl
  have hlm : l1.length ≤ 9223372036854775807 := by omega
  have eg' := Gv.a0 eg
  clear hr hp hm hl eg
  obtain ⟨F, hF⟩ : ∃ F : S47 → S47, F = (fun s : S47 => (⟨s.f0.filter fun x => !p x⟩ : S47)) := ⟨_, rfl⟩
  rw [← hF]
  have HF := Gv.a0 hF
  clear hF
  go_enter Try.func36, Try.ntmps36
  go_wp2_with (first
    | ((with_reducible refine gate_dst (N := 2) rfl ?_); refine box_event ?hg (N := 2) ?hd (cs := #[.int .i64 a0, .slice A1 l1.length c1]) (t := 24) ?hr ?_; (case hd => rfl); (case hg => rfl); (case hr => first | (go_simp; done) | (go_simp; rfl)); intro gb2 hg w2 hbox hb; have HB2 := Gv.a0 hb; have BK2 := Gv.a0 hbox; have GE2 := Gv.a0 (Nat.le_of_eq hg.symm); clear hbox hb hg)
    | ((with_reducible refine gate_dst (N := 4) rfl ?_); refine box_event ?hg (N := 4) ?hd (cs := #[.int .i64 0, .slice none 0 0]) (t := 24) ?hr ?_; (case hd => rfl); (case hg => rfl); (case hr => first | (go_simp; done) | (go_simp; rfl)); intro gb4 hg w4 hbox hb; have HB4 := Gv.a0 (below_step HB2.out hb); have NB2 : Aside0 (gb2 ≠ gb4) := Gv.a0 (Gv.nlt hg BK2.out); have BK2' := Gv.a0 (blk_below BK2.out hb); have BK4 := Gv.a0 hbox; have GE4 := Gv.a0 (Gv.ble hg HB2.out); clear hbox hb hg)
    | ((with_reducible refine gate_dst (N := 8) rfl ?_); refine Kd.S_lit k47 _ 47 ?hg (N := 8) ?hd (xs := ([] : List S47)) (inner := []) (ok := fun _ => True) (okp := fun _ => True) ?hr ?hp (fun _ hk => hk) trivial (Below.refl _ _) (Nat.le_refl _) (by simp) ?_; (case hd => rfl); (case hg => rfl); (case hr => first | (go_simp; done) | (go_simp; rfl)); (case hp => exact (Reps.none _ _)); intro v5 w5 ho hb _ _; have HB5 := Gv.a0 (below_step HB4.out hb); have BK2'' := Gv.a0 (blk_below BK2'.out hb); have BK4' := Gv.a0 (blk_below BK4.out hb); have HO5 := Gv.a0 (Kd.S_lower ho HB4.out.size); have hz0 := (blk_cell BK2''.out 1).trans (rfl : _ = (some (.slice A1 l1.length c1) : Option Value)); clear hb ho))
  go_loopg [5, 12] l1.length (fun gg s5 s12 wr => ∃ kk : Nat, kk ≤ l1.length ∧ l1.length - kk ≤ gg ∧ s12 = .int .i64 (kk : Int) ∧ Aside0 (Kd.S k47 47 wr w.heap.size (fun _ => True) s5 ((l1.take kk).map F)) ∧ Aside0 (wr.heap[gb2]? = some (.cells #[.int .i64 a0, .slice A1 l1.length c1] 24 (0, 0))) ∧ Aside0 (wr.heap[gb4]? = some (.cells #[.int .i64 0, .slice none 0 0] 24 (0, 0))) ∧ Aside0 (Below w.heap.size w wr))
  case atStart => exact ⟨0, Nat.zero_le _, by omega, rfl, Gv.a0 (by rw [List.take_zero]; exact HO5.out), BK2'', BK4', HB5⟩
  case round =>
    clear HO5 BK2'' BK4' HB5 HB2 BK2 BK2' BK4 HB4 hz0
    obtain ⟨kk, hkk, hgg, rfl, HO, BK2, BK4, HB⟩ := hrel
    by_cases hlt : kk < l1.length
    · have hltz : (kk : Int) < (l1.length : Int) := by omega
      have hk0 : 0 ≤ (kk : Int) := by omega
      obtain ⟨ad, A2, c2, e1, hx, hl2, hi2⟩ := at_T47 (Kd.C_below HC.out HB.out) (kk : Int) hk0 hltz
      cases e1
      obtain ⟨s_, hs_⟩ : ∃ s_, s_ = rd_T47 l1 (kk : Int) := ⟨_, rfl⟩
      rw [← hs_, Int.toNat_natCast] at hx
      rw [← hs_] at hl2 hi2
      have hsl : l1[kk] = s_ := by
        rw [hs_]
        unfold rd_T47
        rw [Int.toNat_natCast, List.getD_eq_getElem?_getD, List.getElem?_eq_getElem hlt]
        rfl
      obtain ⟨y8, hy8⟩ : ∃ y_, y_ = s_.f0.filter (fun x => !p x) := ⟨_, rfl⟩
      have HY := Gv.a0 hy8
      clear hy8
      have HSL := Gv.a0 (show l1[kk]? = some s_ by rw [List.getElem?_eq_getElem hlt, hsl])
      have HSM := Gv.a0 (HM.out s_ (by rw [← hsl]; exact List.getElem_mem hlt))
      have HI2 := Gv.a0 hi2
      have HL2 := Gv.a0 hl2
      have HLT := Gv.a0 hlt
      have HGG := Gv.a0 hgg
      have HKK := Gv.a0 hkk
      clear hi2 hl2 hs_ hsl hlt hgg hkk
      go_wp2_with (first
        | ((with_reducible refine gate_dst (N := 7) rfl ?_); refine box_event ?hg (N := 7) ?hd (cs := #[.slice none 0 0]) (t := 47) ?hr ?_; (case hd => rfl); (case hg => rfl); (case hr => first | (go_simp; done) | (go_simp; rfl)); intro gb7 hg w5 hbox hb; have BK7 := Gv.a0 hbox; have GE7 : Aside0 (wr.heap.size ≤ gb7) := Gv.a0 (Nat.le_of_eq hg.symm); have HB5 := Gv.a0 hb; clear hbox hb hg)
        | ((with_reducible refine gate_store (t := 47) (p := 7) rfl ?_); refine Gv.store_event (g := gb7) (cells := #[.slice A2 s_.f0.length c2]) rfl rfl rfl rfl rfl BK7.out (by kernel_rfl) rfl (by simp; and_intros <;> rfl) ?_; intro w6 hbox hoth hbel; have BK8 := Gv.a0 hbox; have HB6 := Gv.a0 (hbel wr HB5.out GE7.out); have hz7 := (blk_cell hbox 0).trans (rfl : _ = (some (.slice A2 s_.f0.length c2) : Option Value)); clear hbox hoth hbel)
        | (go_at_call 47; refine (impl_Timer.calls A2 c2 s_.f0 s_.f0 _ (Kd.C_below HI2.out HB6.out) HL2.out (clone_f HSM.out)).mono ?_; rintro e w7 ⟨v7, rfl, ho, hb⟩; obtain ⟨A7, c7, rfl⟩ := Kd.R_slice ho; have HO7 := Gv.a0 (Kd.R_tight rfl ho); have HB7 := Gv.a0 (below_step HB6.out hb); have HN7 : Aside0 (∀ k, some k = (Value.slice A7 s_.f0.length c7).ownBlock → wr.heap.size ≤ k) := Gv.a0 (fun k hk => Nat.le_trans HB6.out.size (Kd.R_base ho k hk.symm)); clear hb ho)
        | (go_at_call 46; refine (Dl.del g lb eg'.out p (fun k => some k = (Value.slice A7 s_.f0.length c7).ownBlock) A7 c7 s_.f0 wr w7 HB7.out (Kd.R_lower HO7.out HB6.out.size) (fun W x hW => HP.out W x (((Kept.of_below HB.out (fun _ => False)).below HB7.out).then_ hW (fun k hk => .inr (Nat.le_trans HB.out.size (HN7.out k hk)))))).mono ?_; rintro e w8 ⟨v8, rfl, ho, hb, hk⟩; rw [← HY.out] at ho; obtain ⟨A8, c8, rfl⟩ := Kd.R_slice ho; have HO8 := Gv.a0 ho; have HB8 := Gv.a0 hb; clear ho hb hk)
        | ((with_reducible refine gate_builtin (b := .append) (xs := #[.tmp 16, .tmp 23]) rfl ?_); at_builtin; refine Kd.S_append k47 (w0 := w) w.heap.size rfl (.tmp 16) (.tmp 23) 22 47 (.agg #[.slice none 0 0]) 24 rfl Try.underlying22 info47 rfl (by decide) (by omega) u5 ((l1.take kk).map F) ⟨y8⟩ [.slice A8 y8.length c8] (fun _ => True) (fun k => some k = (Value.slice A7 s_.f0.length c7).ownBlock) rfl rfl (k47_mkM _ _ _ (⟨y8⟩ : S47) (Kd.R_lower HO8.out HB.out.size)) (fun k hk => ⟨trivial, fun e => by have h1 := HN7.out k hk; have h2 := Kd.S_lt HO.out k e.symm; omega⟩) (fun _ _ => trivial) (Kd.S_mono (Kd.S_below (Kd.S_bound HO.out) HB8.out) (fun k hk => ⟨trivial, fun e => by have h1 := HN7.out k e; have h2 := hk.2.2.1; omega⟩)) (below_step HB.out HB8.out) (Nat.le_trans HB.out.size HB8.out.size) (by have := HL.out; simp only [List.length_map, List.length_take]; omega) ?_; intro v9 w9 ho hb hgr hat; have HO9 := Gv.a0 ho; have HB9 := Gv.a0 hb; have BK2' := Gv.a0 (blk_grown (blk_below BK2.out HB8.out) hgr (Kd.S_ne HO.out BK2.out (by decide))); have BK4' := Gv.a0 (blk_grown (blk_below BK4.out HB8.out) hgr (Kd.S_ne HO.out BK4.out (by decide))); clear ho hb hgr hat))
      go_roundg (l1.length - (kk + 1))
      case measure => have := HGG.out; have := HLT.out; omega
      case rel =>
        have h1 := HLT.out
        have h2 := HGG.out
        refine ⟨kk + 1, by omega, by omega, by go_num, Gv.a0 ?_, BK2', BK4', HB9⟩
        rw [List.take_add_one, HSL.out, List.map_append]
        have h3 := HO9.out
        rw [show (⟨y8⟩ : S47) = F s_ by rw [HF.out, HY.out]] at h3
        exact h3
    · have hltz : ¬ (kk : Int) < (l1.length : Int) := by omega
      have hk : l1.take kk = l1 := List.take_of_length_le (by omega)
      rw [hk] at HO
      have HO2 := Gv.a0 HO.out
      obtain ⟨A9, c9, e9⟩ := Kd.S_slice HO2.out
      rw [List.length_map] at e9
      subst e9
      clear hk hgg hkk HO
      have hz0 := (blk_cell BK2.out 0).trans (rfl : _ = (some (.int .i64 a0) : Option Value))
      go_wp2_with (first
        | ((with_reducible refine gate_store (t := 24) (p := 4) rfl ?_); refine Gv.store_event (g := gb4) (cells := #[.int .i64 a0, .slice A9 l1.length c9]) rfl rfl rfl rfl rfl BK4.out (by kernel_rfl) rfl (by simp; and_intros <;> rfl) ?_; intro w6 hbox hoth hbel; have BK8 := Gv.a0 hbox; have HB6 := Gv.a0 (hbel w HB.out GE4.out); have HO6 := Gv.a0 (Kd.S_move (Kd.S_types HO2.out BK4.out (by decide)) (fun k hk => hoth k hk.2)); clear hbox hoth hbel))
      refine bodyPost_ret (results_cell_row rfl _ _ gb4 24 #[.int .i64 a0, .slice A9 l1.length c9] (0, 0) _ rfl BK8.out Try.underlying24 rfl (by kernel_rfl)) rfl ?_
      exact ⟨_, rfl, Kd.S_mono HO6.out (fun _ _ => trivial), HB6.out⟩
set_option maxHeartbeats 8000000 in
set_option maxRecDepth 100000 in
theorem impl_copyWheel_c37.clo (g0 : Nat) (c0_0 : Int) (x : S50) (b : Bool) (W : World) (hc0 : W.heap[g0]? = some (.cells #[.int .i64 c0_0] 3 (0, 0))) (h : (some (x.f0 == c0_0)) = some b) :
    Calls Try.prog 37 (#[.agg #[.int .i64 x.f0, .int .i64 x.f1]] ++ #[.pointer (some ⟨g0, 0, none⟩)]) W fun e w' => e = .returned (.bool b) ∧ Below W.heap.size W w' := by
  obtain rfl := Option.some.inj h
  have HC0 := Aside0.mk hc0
  clear hc0
  go_enter Try.func37, Try.ntmps37
  go_wp2_with (first | ((with_reducible refine gate_dst (N := 2) rfl ?_); refine box_event ?hg (N := 2) ?hd (cs := #[.int .i64 x.f0, .int .i64 x.f1]) (t := 50) ?hr ?_; (case hd => rfl); (case hg => rfl); (case hr => first | (go_simp; done) | (go_simp; rfl)); intro gbx hg w1 hbox hb; have n0_ := Aside0.mk (blk_below HC0.out hb); have HX := Aside0.mk hbox; have HB0 := Aside0.mk hb; clear HC0 hbox hb hg; have HC0 := n0_; clear n0_) | ((with_reducible refine Gv.gate_load (t := 3) rfl ?_); refine Gv.get_event (g := gbx) rfl rfl rfl HX.out rfl Try.underlying3 rfl ?_) | ((with_reducible refine Gv.gate_load (t := 3) rfl ?_); refine Gv.get_event (g := g0) rfl rfl rfl HC0.out rfl Try.underlying3 rfl ?_))
  all_goals go_ret
  all_goals exact ⟨by first | rfl | (simp; done) | (simp [eq_comm]; done), HB0.out⟩
def impl_copyWheel_c37.f (a0_0 : Int) (l0_1 : List (S47)) (c0_0 : Int) : Option (Int × List (S47)) := if l0_1.length ≤ 1048577 ∧ ∀ s ∈ l0_1, s.f0.length ≤ 1048577 then some (a0_0, l0_1.map fun s => ⟨s.f0.filter fun x => !(x.f0 == c0_0)⟩) else none
theorem impl_copyWheel_c37.calls (a0_0 : Int) (A0_1 : Option Addr) (c0_1 : Nat) (l0_1 : List (S47)) (g0 : Nat) (c0_0 : Int) (r1 : Int) (r2 : List (S47)) (w : World) (hr0_1 : Kd.C k47 w A0_1 l0_1.length l0_1) (hc0_1 : l0_1.length ≤ c0_1) (hc0 : w.heap[g0]? = some (.cells #[.int .i64 c0_0] 3 (0, 0))) (h : impl_copyWheel_c37.f a0_0 l0_1 c0_0 = some (r1, r2)) :
    Calls Try.prog 36 #[.agg #[.int .i64 a0_0, .slice A0_1 l0_1.length c0_1], .func (.func 37) #[] #[.pointer (some ⟨g0, 0, none⟩)]] w fun e w' => ∃ v1_ : Value, e = .returned (.agg #[.int .i64 r1, v1_]) ∧ Kd.S k47 47 w' w.heap.size (fun _ => True) v1_ r2 ∧ Below w.heap.size w w' := by
  unfold impl_copyWheel_c37.f at h
  by_cases hb : l0_1.length ≤ 1048577 ∧ ∀ s ∈ l0_1, s.f0.length ≤ 1048577
  rotate_left
  · rw [if_neg hb] at h
    cases h
  rw [if_pos hb] at h
  obtain ⟨rfl, rfl⟩ := Prod.mk.inj (Option.some.inj h)
  exact Dl.copy 37 #[.pointer (some ⟨g0, 0, none⟩)] (enters_of Try.func37 (by kernel_rfl) rfl) (fun x => x.f0 == c0_0) a0_0 A0_1 c0_1 l0_1 w hr0_1 hb.1 hb.2 (fun W x hk => impl_copyWheel_c37.clo g0 c0_0 x _ W ((hk.2 g0 (blk_lt hc0) (fun e => e)).trans hc0) rfl)

/-! ### impl_WheelDrop: function 20 -/
def impl_WheelDrop.f (k : Nat) (a0_0 : Int) (l0_1 : List (S47)) (a1 : Int) : Option (Int × (List (S47)) × Int) := (impl_WheelOk.f a0_0 l0_1).bind fun t238 => (if t238 = true then ((impl_Wheel_hasTimer.f k a0_0 l0_1 a1).bind fun t239 => (if t239 = true then ((impl_copyWheel_c37.f a0_0 l0_1 a1).bind fun bt240 => (some (bt240.1, bt240.2, 0))) else (some (0, ([] : List (S47)), 4)))) else (some (0, ([] : List (S47)), 1)))
theorem impl_WheelDrop.mono : ∀ a0 a1 a2 k, LeO (impl_WheelDrop.f k a0 a1 a2) (impl_WheelDrop.f (k + 1) a0 a1 a2) := by
 intro a0 a1 a2 k
 unfold impl_WheelDrop.f
 repeat' first
   | (with_reducible exact impl_Wheel_hasTimer.mono _ _ _ _)
   | (with_reducible exact LeO.refl _)
   | (with_reducible exact LeO.none _)
   | (with_reducible refine LeO.ite ?_ ?_)
   | (with_reducible refine LeO.bind ?_ (fun _ => ?_))
   | exact impl_Wheel_hasTimer.mono _ _ _ _
   | exact LeO.none _
   | refine LeO.ite ?_ ?_
   | refine LeO.bind ?_ (fun _ => ?_)
set_option maxHeartbeats 8000000 in
set_option maxRecDepth 100000 in
theorem impl_WheelDrop.calls (k : Nat) (a0_0 : Int) (A0_1 : Option Addr) (c0_1 : Nat) (l0_1 : List (S47)) (a1 : Int) (r1 : Int) (r2 : List (S47)) (r3 : Int) (w : World) (hr0_1 : Kd.C k47 w A0_1 l0_1.length l0_1) (hc0_1 : l0_1.length ≤ c0_1) (h : impl_WheelDrop.f k a0_0 l0_1 a1 = some (r1, r2, r3)) :
  Calls Try.prog 20 #[.agg #[.int .i64 a0_0, .slice A0_1 l0_1.length c0_1], .int .i64 a1] w fun e w' => ∃ v1_ : Value, e = .returned (.tuple #[.agg #[.int .i64 r1, v1_], .int .i64 r3]) ∧ Kd.S k47 47 w' w.heap.size (fun _ => True) v1_ r2 ∧ Below w.heap.size w w' := by
 have hu24 := Try.underlying24
 have HR0_1 := Gv.a0 hr0_1
 have HC0_1 := Gv.a0 hc0_1
 clear hr0_1 hc0_1
 have HB := Gv.a0 (Below.refl w.heap.size w)
 have H : ((impl_WheelOk.f a0_0 l0_1).bind fun t238 => (if t238 = true then ((impl_Wheel_hasTimer.f k a0_0 l0_1 a1).bind fun t239 => (if t239 = true then ((impl_copyWheel_c37.f a0_0 l0_1 a1).bind fun bt240 => (some (bt240.1, bt240.2, 0))) else (some (0, ([] : List (S47)), 4)))) else (some (0, ([] : List (S47)), 1)))) = some (r1, r2, r3) := h
 clear h
 replace H := Option.bind_eq_some_iff.mp H
 obtain ⟨t238, A30, H⟩ := H
 replace H : (if t238 = true then ((impl_Wheel_hasTimer.f k a0_0 l0_1 a1).bind fun t239 => (if t239 = true then ((impl_copyWheel_c37.f a0_0 l0_1 a1).bind fun bt240 => (some (bt240.1, bt240.2, 0))) else (some (0, ([] : List (S47)), 4)))) else (some (0, ([] : List (S47)), 1))) = some (r1, r2, r3) := H
 have A3 := Gv.a0 A30
 clear A30
 by_cases c4 : t238 = true
 ·subst c4
  have H1 : ((impl_Wheel_hasTimer.f k a0_0 l0_1 a1).bind fun t239 => (if t239 = true then ((impl_copyWheel_c37.f a0_0 l0_1 a1).bind fun bt240 => (some (bt240.1, bt240.2, 0))) else (some (0, ([] : List (S47)), 4)))) = some (r1, r2, r3) := by rw [if_pos rfl] at H; exact H
  clear H
  have H := H1
  clear H1
  replace H := Option.bind_eq_some_iff.mp H
  obtain ⟨t239, A50, H⟩ := H
  replace H : (if t239 = true then ((impl_copyWheel_c37.f a0_0 l0_1 a1).bind fun bt240 => (some (bt240.1, bt240.2, 0))) else (some (0, ([] : List (S47)), 4))) = some (r1, r2, r3) := H
  have A5 := Gv.a0 A50
  clear A50
  by_cases c6 : t239 = true
  ·subst c6
   have H1 : ((impl_copyWheel_c37.f a0_0 l0_1 a1).bind fun bt240 => (some (bt240.1, bt240.2, 0))) = some (r1, r2, r3) := by rw [if_pos rfl] at H; exact H
   clear H
   have H := H1
   clear H1
   replace H := Option.bind_eq_some_iff.mp H
   obtain ⟨⟨t240, t241⟩, A70, H⟩ := H
   replace H : (some (t240, t241, 0)) = some (r1, r2, r3) := H
   have A7 := Gv.a0 A70
   clear A70
   simp only [Option.some.injEq, Prod.mk.injEq] at H
   obtain ⟨rfl, rfl, rfl⟩ := H
   have hmf : ∀ (fn : Fn) (first cap : Array Value) (w : World), (Instr.makeFunc fn first cap).run Try.prog w = .ok (.func fn first cap) w := fun _ _ _ _ => rfl
   go_enter Try.func20, Try.ntmps20
   go_wp2_with (first | ((with_reducible refine gate_dst (N := 2) rfl ?_); refine box_event ?hg (N := 2) ?hd (cs := #[.int .i64 a0_0, .slice A0_1 l0_1.length c0_1]) (t := 24) ?hr ?_; (case hd => rfl); (case hg => rfl); (case hr => first | (go_simp; done) | (go_simp; rfl)); intro gb235 hg w8 hbox hb; have n0_ := Gv.a0 (below_step Gv.bw hb); have n1_ := Gv.a0 (hbox); have n2_ := Gv.a0 ((Gv.ble hg Gv.bw : w.heap.size ≤ gb235)); have n3_ := Gv.a0 ((Gv.ble hg Gv.bw : w.heap.size ≤ gb235)); clear HB; have HB := n0_; have BK235 := n1_; have GW235 := n2_; have GE235 := n3_; clear n0_ n1_ n2_ n3_; clear hb hbox hg) | ((with_reducible refine gate_dst (N := 3) rfl ?_); refine box_event ?hg (N := 3) ?hd (cs := #[.int .i64 a1]) (t := 3) ?hr ?_; (case hd => rfl); (case hg => rfl); (case hr => first | (go_simp; done) | (go_simp; rfl)); intro gb236 hg w9 hbox hb; have n0_ := Gv.a0 (Gv.bb BK235.out hb); have n1_ := Gv.a0 (below_step Gv.bw hb); have n2_ := Gv.a0 (hbox); have n3_ := Gv.a0 ((Gv.ble hg Gv.bw : w.heap.size ≤ gb236)); have n4_ := Gv.a0 ((Gv.ble hg Gv.bw : w.heap.size ≤ gb236)); have n5_ := Gv.a0 ((Gv.nlt hg (Gv.kb BK235.out) : gb235 ≠ gb236)); have n6_ := Gv.a0 ((Gv.ngt hg (Gv.kb BK235.out) : gb236 ≠ gb235)); clear BK235; clear HB; have BK235 := n0_; have HB := n1_; have BK236 := n2_; have GW236 := n3_; have GE236 := n4_; have NB235_236 := n5_; have NB236_235 := n6_; clear n0_ n1_ n2_ n3_ n4_ n5_ n6_; clear hb hbox hg) | ((with_reducible refine gate_dst (N := 4) rfl ?_); refine box_event ?hg (N := 4) ?hd (cs := #[.int .i64 0, .slice none 0 0]) (t := 24) ?hr ?_; (case hd => rfl); (case hg => rfl); (case hr => first | (go_simp; done) | (go_simp; rfl)); intro gb237 hg w10 hbox hb; have n0_ := Gv.a0 (Gv.bb BK235.out hb); have n1_ := Gv.a0 (Gv.bb BK236.out hb); have n2_ := Gv.a0 (below_step Gv.bw hb); have n3_ := Gv.a0 (hbox); have n4_ := Gv.a0 ((Gv.ble hg Gv.bw : w.heap.size ≤ gb237)); have n5_ := Gv.a0 ((Gv.ble hg Gv.bw : w.heap.size ≤ gb237)); have n6_ := Gv.a0 ((Gv.nlt hg (Gv.kb BK235.out) : gb235 ≠ gb237)); have n7_ := Gv.a0 ((Gv.ngt hg (Gv.kb BK235.out) : gb237 ≠ gb235)); have n8_ := Gv.a0 ((Gv.nlt hg (Gv.kb BK236.out) : gb236 ≠ gb237)); have n9_ := Gv.a0 ((Gv.ngt hg (Gv.kb BK236.out) : gb237 ≠ gb236)); clear BK235; clear BK236; clear HB; have BK235 := n0_; have BK236 := n1_; have HB := n2_; have BK237 := n3_; have GW237 := n4_; have GE237 := n5_; have NB235_237 := n6_; have NB237_235 := n7_; have NB236_237 := n8_; have NB237_236 := n9_; clear n0_ n1_ n2_ n3_ n4_ n5_ n6_ n7_ n8_ n9_; clear hb hbox hg; have hnb11 := NB235_236.out; have hnc11 := NB236_235.out; have hnb12 := NB235_237.out; have hnc12 := NB237_235.out; have hcz13_0 : w10.cell? ⟨gb235, 0, none⟩ = some (.int .i64 a0_0) := (blk_cell BK235.out 0).trans rfl; have hcz13_1 : w10.cell? ⟨gb235, 1, none⟩ = some (.slice A0_1 l0_1.length c0_1) := (blk_cell BK235.out 1).trans rfl; have hfz13_0 := blk_frozen BK235.out 0; have hfz13_1 := blk_frozen BK235.out 1) | ((with_reducible refine gate_callee (f := 16) rfl ?_); refine goesL_ (some 8) rfl rfl Try.func16 (by kernel_rfl) rfl #[.agg #[.int .i64 a0_0, .slice A0_1 l0_1.length c0_1]] rfl Gv.lm ?_; (with_reducible refine (impl_WheelOk.calls a0_0 _ _ l0_1 true _ ?side1 ?side2 A3.out).mono ?_); (case side1 => repeat (first | exact (Kd.C_below HR0_1.out HB.out) | (with_reducible refine Kd.C_alloc ?_ _) | (with_reducible refine Kd.C_drewN ?_ _) | (with_reducible refine Kd.C_drew ?_))); (case side2 => exact HC0_1.out); rintro e w14 ⟨rfl, hb⟩; refine ⟨_, rfl, ?_⟩; have n0_ := Gv.a0 (Gv.bb BK235.out hb); have n1_ := Gv.a0 (Gv.bb BK236.out hb); have n2_ := Gv.a0 (Gv.bb BK237.out hb); have n3_ := Gv.a0 (below_step Gv.bw hb); clear BK235; clear BK236; clear BK237; clear HB; have BK235 := n0_; have BK236 := n1_; have BK237 := n2_; have HB := n3_; clear n0_ n1_ n2_ n3_; (try clear hb); (try clear hb2); (try clear hk); (try clear hi); have hcz15_0 : w14.cell? ⟨gb235, 0, none⟩ = some (.int .i64 a0_0) := (blk_cell BK235.out 0).trans rfl; have hcz15_1 : w14.cell? ⟨gb235, 1, none⟩ = some (.slice A0_1 l0_1.length c0_1) := (blk_cell BK235.out 1).trans rfl; have hfz15_0 := blk_frozen BK235.out 0; have hfz15_1 := blk_frozen BK235.out 1; have hnb16 := NB236_237.out; have hnc16 := NB237_236.out; have hcz17_0 : w14.cell? ⟨gb236, 0, none⟩ = some (.int .i64 a1) := (blk_cell BK236.out 0).trans rfl; have hfz17_0 := blk_frozen BK236.out 0) | ((with_reducible refine gate_callee (f := 35) rfl ?_); refine goesL_ (some 14) rfl rfl Try.func35 (by kernel_rfl) rfl #[.agg #[.int .i64 a0_0, .slice A0_1 l0_1.length c0_1], .int .i64 a1] rfl Gv.lm ?_; (with_reducible refine (impl_Wheel_hasTimer.calls k a0_0 _ _ l0_1 a1 true _ ?side1 ?side2 A5.out).mono ?_); (case side1 => repeat (first | exact (Kd.C_below HR0_1.out HB.out) | (with_reducible refine Kd.C_alloc ?_ _) | (with_reducible refine Kd.C_drewN ?_ _) | (with_reducible refine Kd.C_drew ?_))); (case side2 => exact HC0_1.out); rintro e w18 ⟨rfl, hb⟩; refine ⟨_, rfl, ?_⟩; have n0_ := Gv.a0 (Gv.bb BK235.out hb); have n1_ := Gv.a0 (Gv.bb BK236.out hb); have n2_ := Gv.a0 (Gv.bb BK237.out hb); have n3_ := Gv.a0 (below_step Gv.bw hb); clear BK235; clear BK236; clear BK237; clear HB; have BK235 := n0_; have BK236 := n1_; have BK237 := n2_; have HB := n3_; clear n0_ n1_ n2_ n3_; (try clear hb); (try clear hb2); (try clear hk); (try clear hi); have hcz19_0 : w18.cell? ⟨gb235, 0, none⟩ = some (.int .i64 a0_0) := (blk_cell BK235.out 0).trans rfl; have hcz19_1 : w18.cell? ⟨gb235, 1, none⟩ = some (.slice A0_1 l0_1.length c0_1) := (blk_cell BK235.out 1).trans rfl; have hfz19_0 := blk_frozen BK235.out 0; have hfz19_1 := blk_frozen BK235.out 1) | ((with_reducible refine gate_callee (f := 36) rfl ?_); refine goesL_ (some 19) rfl rfl Try.func36 (by kernel_rfl) rfl #[.agg #[.int .i64 a0_0, .slice A0_1 l0_1.length c0_1], .func (.func 37) #[] #[.pointer (some ⟨gb236, 0, none⟩)]] rfl Gv.lm ?_; (with_reducible refine (impl_copyWheel_c37.calls a0_0 _ _ l0_1 gb236 a1 t240 t241 _ ?side1 ?side2 ?side3 A7.out).mono ?_); (case side1 => repeat (first | exact (Kd.C_below HR0_1.out HB.out) | (with_reducible refine Kd.C_alloc ?_ _) | (with_reducible refine Kd.C_drewN ?_ _) | (with_reducible refine Kd.C_drew ?_))); (case side2 => exact HC0_1.out); (case side3 => exact Gv.bk); rintro e w20 ⟨v242, rfl, ho0, hb⟩; refine ⟨_, rfl, ?_⟩; have n0_ := Gv.a0 (Kd.S_lower ho0 (below_size Gv.bw)); have n1_ := Gv.a0 (Gv.bb BK235.out hb); have n2_ := Gv.a0 (Gv.bb BK236.out hb); have n3_ := Gv.a0 (Gv.bb BK237.out hb); have n4_ := Gv.a0 (below_step Gv.bw hb); clear BK235; clear BK236; clear BK237; clear HB; have HO243 := n0_; have BK235 := n1_; have BK236 := n2_; have BK237 := n3_; have HB := n4_; clear n0_ n1_ n2_ n3_ n4_; (try clear hb); (try clear hb2); (try clear hk); (try clear hi); (try clear ho0); have hcz21_0 : w20.cell? ⟨gb237, 0, none⟩ = some (.int .i64 0) := (blk_cell BK237.out 0).trans rfl; have hcz21_1 : w20.cell? ⟨gb237, 1, none⟩ = some (.slice none 0 0) := (blk_cell BK237.out 1).trans rfl; have hfz21_0 := blk_frozen BK237.out 0; have hfz21_1 := blk_frozen BK237.out 1; obtain ⟨Ao22, co22, eo22⟩ := Kd.S_slice HO243.out; subst eo22))
   refine bodyPost_ret (results_ct rfl _ _ gb237 24 #[.int .i64 t240, .slice Ao22 t241.length co22] (0, 0) _ rfl (by (with_reducible repeat (first | refine blk_drewN ?_ _ | refine blk_drew ?_ | refine blk_alloc ?_ _)); refine blk_put (cs := #[.int .i64 t240, .slice none 0 0]) ?_ 1 _ rfl; (with_reducible repeat (first | refine blk_drewN ?_ _ | refine blk_drew ?_ | refine blk_alloc ?_ _)); refine blk_put (cs := #[.int .i64 0, .slice none 0 0]) ?_ 0 _ rfl; (with_reducible repeat (first | refine blk_drewN ?_ _ | refine blk_drew ?_ | refine blk_alloc ?_ _)); exact BK237.out) Try.underlying24 rfl (by kernel_rfl)) rfl ?_
   exact ⟨_, Gv.rt, by (with_reducible repeat (first | apply Kd.S_alloc | apply Kd.S_drewN | apply Kd.S_drew)); exact Kd.S_mono (Kd.S_far (p := ⟨gb237, 1, none⟩) (Kd.S_far (p := ⟨gb237, 0, none⟩) (Kd.S_types HO243.out BK237.out (by decide)) (fun _ hk => hk.2) (.int .i64 t240)) (fun _ hk => hk.2) (.slice Ao22 t241.length co22)) (fun _ hk => trivial), Gv.bw⟩
  ·replace c6 := Bool.eq_false_iff.mpr c6
   subst c6
   have H1 : (some (0, ([] : List (S47)), 4)) = some (r1, r2, r3) := by rw [if_neg (show ¬ (false = true) by decide)] at H; exact H
   clear H
   have H := H1
   clear H1
   simp only [Option.some.injEq, Prod.mk.injEq] at H
   obtain ⟨rfl, rfl, rfl⟩ := H
   have hmf : ∀ (fn : Fn) (first cap : Array Value) (w : World), (Instr.makeFunc fn first cap).run Try.prog w = .ok (.func fn first cap) w := fun _ _ _ _ => rfl
   go_enter Try.func20, Try.ntmps20
   go_wp2_with (first | ((with_reducible refine gate_dst (N := 2) rfl ?_); refine box_event ?hg (N := 2) ?hd (cs := #[.int .i64 a0_0, .slice A0_1 l0_1.length c0_1]) (t := 24) ?hr ?_; (case hd => rfl); (case hg => rfl); (case hr => first | (go_simp; done) | (go_simp; rfl)); intro gb235 hg w23 hbox hb; have n0_ := Gv.a0 (below_step Gv.bw hb); have n1_ := Gv.a0 (hbox); have n2_ := Gv.a0 ((Gv.ble hg Gv.bw : w.heap.size ≤ gb235)); have n3_ := Gv.a0 ((Gv.ble hg Gv.bw : w.heap.size ≤ gb235)); clear HB; have HB := n0_; have BK235 := n1_; have GW235 := n2_; have GE235 := n3_; clear n0_ n1_ n2_ n3_; clear hb hbox hg) | ((with_reducible refine gate_dst (N := 3) rfl ?_); refine box_event ?hg (N := 3) ?hd (cs := #[.int .i64 a1]) (t := 3) ?hr ?_; (case hd => rfl); (case hg => rfl); (case hr => first | (go_simp; done) | (go_simp; rfl)); intro gb236 hg w24 hbox hb; have n0_ := Gv.a0 (Gv.bb BK235.out hb); have n1_ := Gv.a0 (below_step Gv.bw hb); have n2_ := Gv.a0 (hbox); have n3_ := Gv.a0 ((Gv.ble hg Gv.bw : w.heap.size ≤ gb236)); have n4_ := Gv.a0 ((Gv.ble hg Gv.bw : w.heap.size ≤ gb236)); have n5_ := Gv.a0 ((Gv.nlt hg (Gv.kb BK235.out) : gb235 ≠ gb236)); have n6_ := Gv.a0 ((Gv.ngt hg (Gv.kb BK235.out) : gb236 ≠ gb235)); clear BK235; clear HB; have BK235 := n0_; have HB := n1_; have BK236 := n2_; have GW236 := n3_; have GE236 := n4_; have NB235_236 := n5_; have NB236_235 := n6_; clear n0_ n1_ n2_ n3_ n4_ n5_ n6_; clear hb hbox hg) | ((with_reducible refine gate_dst (N := 4) rfl ?_); refine box_event ?hg (N := 4) ?hd (cs := #[.int .i64 0, .slice none 0 0]) (t := 24) ?hr ?_; (case hd => rfl); (case hg => rfl); (case hr => first | (go_simp; done) | (go_simp; rfl)); intro gb237 hg w25 hbox hb; have n0_ := Gv.a0 (Gv.bb BK235.out hb); have n1_ := Gv.a0 (Gv.bb BK236.out hb); have n2_ := Gv.a0 (below_step Gv.bw hb); have n3_ := Gv.a0 (hbox); have n4_ := Gv.a0 ((Gv.ble hg Gv.bw : w.heap.size ≤ gb237)); have n5_ := Gv.a0 ((Gv.ble hg Gv.bw : w.heap.size ≤ gb237)); have n6_ := Gv.a0 ((Gv.nlt hg (Gv.kb BK235.out) : gb235 ≠ gb237)); have n7_ := Gv.a0 ((Gv.ngt hg (Gv.kb BK235.out) : gb237 ≠ gb235)); have n8_ := Gv.a0 ((Gv.nlt hg (Gv.kb BK236.out) : gb236 ≠ gb237)); have n9_ := Gv.a0 ((Gv.ngt hg (Gv.kb BK236.out) : gb237 ≠ gb236)); clear BK235; clear BK236; clear HB; have BK235 := n0_; have BK236 := n1_; have HB := n2_; have BK237 := n3_; have GW237 := n4_; have GE237 := n5_; have NB235_237 := n6_; have NB237_235 := n7_; have NB236_237 := n8_; have NB237_236 := n9_; clear n0_ n1_ n2_ n3_ n4_ n5_ n6_ n7_ n8_ n9_; clear hb hbox hg; have hnb26 := NB235_236.out; have hnc26 := NB236_235.out; have hnb27 := NB235_237.out; have hnc27 := NB237_235.out; have hcz28_0 : w25.cell? ⟨gb235, 0, none⟩ = some (.int .i64 a0_0) := (blk_cell BK235.out 0).trans rfl; have hcz28_1 : w25.cell? ⟨gb235, 1, none⟩ = some (.slice A0_1 l0_1.length c0_1) := (blk_cell BK235.out 1).trans rfl; have hfz28_0 := blk_frozen BK235.out 0; have hfz28_1 := blk_frozen BK235.out 1) | ((with_reducible refine gate_callee (f := 16) rfl ?_); refine goesL_ (some 8) rfl rfl Try.func16 (by kernel_rfl) rfl #[.agg #[.int .i64 a0_0, .slice A0_1 l0_1.length c0_1]] rfl Gv.lm ?_; (with_reducible refine (impl_WheelOk.calls a0_0 _ _ l0_1 true _ ?side1 ?side2 A3.out).mono ?_); (case side1 => repeat (first | exact (Kd.C_below HR0_1.out HB.out) | (with_reducible refine Kd.C_alloc ?_ _) | (with_reducible refine Kd.C_drewN ?_ _) | (with_reducible refine Kd.C_drew ?_))); (case side2 => exact HC0_1.out); rintro e w29 ⟨rfl, hb⟩; refine ⟨_, rfl, ?_⟩; have n0_ := Gv.a0 (Gv.bb BK235.out hb); have n1_ := Gv.a0 (Gv.bb BK236.out hb); have n2_ := Gv.a0 (Gv.bb BK237.out hb); have n3_ := Gv.a0 (below_step Gv.bw hb); clear BK235; clear BK236; clear BK237; clear HB; have BK235 := n0_; have BK236 := n1_; have BK237 := n2_; have HB := n3_; clear n0_ n1_ n2_ n3_; (try clear hb); (try clear hb2); (try clear hk); (try clear hi); have hcz30_0 : w29.cell? ⟨gb235, 0, none⟩ = some (.int .i64 a0_0) := (blk_cell BK235.out 0).trans rfl; have hcz30_1 : w29.cell? ⟨gb235, 1, none⟩ = some (.slice A0_1 l0_1.length c0_1) := (blk_cell BK235.out 1).trans rfl; have hfz30_0 := blk_frozen BK235.out 0; have hfz30_1 := blk_frozen BK235.out 1; have hnb31 := NB236_237.out; have hnc31 := NB237_236.out; have hcz32_0 : w29.cell? ⟨gb236, 0, none⟩ = some (.int .i64 a1) := (blk_cell BK236.out 0).trans rfl; have hfz32_0 := blk_frozen BK236.out 0) | ((with_reducible refine gate_callee (f := 35) rfl ?_); refine goesL_ (some 14) rfl rfl Try.func35 (by kernel_rfl) rfl #[.agg #[.int .i64 a0_0, .slice A0_1 l0_1.length c0_1], .int .i64 a1] rfl Gv.lm ?_; (with_reducible refine (impl_Wheel_hasTimer.calls k a0_0 _ _ l0_1 a1 false _ ?side1 ?side2 A5.out).mono ?_); (case side1 => repeat (first | exact (Kd.C_below HR0_1.out HB.out) | (with_reducible refine Kd.C_alloc ?_ _) | (with_reducible refine Kd.C_drewN ?_ _) | (with_reducible refine Kd.C_drew ?_))); (case side2 => exact HC0_1.out); rintro e w33 ⟨rfl, hb⟩; refine ⟨_, rfl, ?_⟩; have n0_ := Gv.a0 (Gv.bb BK235.out hb); have n1_ := Gv.a0 (Gv.bb BK236.out hb); have n2_ := Gv.a0 (Gv.bb BK237.out hb); have n3_ := Gv.a0 (below_step Gv.bw hb); clear BK235; clear BK236; clear BK237; clear HB; have BK235 := n0_; have BK236 := n1_; have BK237 := n2_; have HB := n3_; clear n0_ n1_ n2_ n3_; (try clear hb); (try clear hb2); (try clear hk); (try clear hi); have hcz34_0 : w33.cell? ⟨gb237, 0, none⟩ = some (.int .i64 0) := (blk_cell BK237.out 0).trans rfl; have hcz34_1 : w33.cell? ⟨gb237, 1, none⟩ = some (.slice none 0 0) := (blk_cell BK237.out 1).trans rfl; have hfz34_0 := blk_frozen BK237.out 0; have hfz34_1 := blk_frozen BK237.out 1))
   refine bodyPost_ret (results_ct rfl _ _ gb237 24 #[.int .i64 0, .slice none 0 0] (0, 0) _ rfl (by (with_reducible repeat (first | refine blk_drewN ?_ _ | refine blk_drew ?_ | refine blk_alloc ?_ _)); refine blk_put (cs := #[.int .i64 0, .slice none 0 0]) ?_ 1 _ rfl; (with_reducible repeat (first | refine blk_drewN ?_ _ | refine blk_drew ?_ | refine blk_alloc ?_ _)); refine blk_put (cs := #[.int .i64 0, .slice none 0 0]) ?_ 0 _ rfl; (with_reducible repeat (first | refine blk_drewN ?_ _ | refine blk_drew ?_ | refine blk_alloc ?_ _)); exact BK237.out) Try.underlying24 rfl (by kernel_rfl)) rfl ?_
   exact ⟨_, Gv.rt, by first | exact Kd.S_nil _ _ _ _ _ | exact Kd.N_nil _ _ _ _ _ | exact Kd.V_nil _ _ _ _ _ | exact Kd.Q_nil _ _ _ _ _ | exact Kd.R_nil _ _ _ _ _, Gv.bw⟩
 ·replace c4 := Bool.eq_false_iff.mpr c4
  subst c4
  have H1 : (some (0, ([] : List (S47)), 1)) = some (r1, r2, r3) := by rw [if_neg (show ¬ (false = true) by decide)] at H; exact H
  clear H
  have H := H1
  clear H1
  simp only [Option.some.injEq, Prod.mk.injEq] at H
  obtain ⟨rfl, rfl, rfl⟩ := H
  have hmf : ∀ (fn : Fn) (first cap : Array Value) (w : World), (Instr.makeFunc fn first cap).run Try.prog w = .ok (.func fn first cap) w := fun _ _ _ _ => rfl
  go_enter Try.func20, Try.ntmps20
  go_wp2_with (first | ((with_reducible refine gate_dst (N := 2) rfl ?_); refine box_event ?hg (N := 2) ?hd (cs := #[.int .i64 a0_0, .slice A0_1 l0_1.length c0_1]) (t := 24) ?hr ?_; (case hd => rfl); (case hg => rfl); (case hr => first | (go_simp; done) | (go_simp; rfl)); intro gb235 hg w35 hbox hb; have n0_ := Gv.a0 (below_step Gv.bw hb); have n1_ := Gv.a0 (hbox); have n2_ := Gv.a0 ((Gv.ble hg Gv.bw : w.heap.size ≤ gb235)); have n3_ := Gv.a0 ((Gv.ble hg Gv.bw : w.heap.size ≤ gb235)); clear HB; have HB := n0_; have BK235 := n1_; have GW235 := n2_; have GE235 := n3_; clear n0_ n1_ n2_ n3_; clear hb hbox hg) | ((with_reducible refine gate_dst (N := 3) rfl ?_); refine box_event ?hg (N := 3) ?hd (cs := #[.int .i64 a1]) (t := 3) ?hr ?_; (case hd => rfl); (case hg => rfl); (case hr => first | (go_simp; done) | (go_simp; rfl)); intro gb236 hg w36 hbox hb; have n0_ := Gv.a0 (Gv.bb BK235.out hb); have n1_ := Gv.a0 (below_step Gv.bw hb); have n2_ := Gv.a0 (hbox); have n3_ := Gv.a0 ((Gv.ble hg Gv.bw : w.heap.size ≤ gb236)); have n4_ := Gv.a0 ((Gv.ble hg Gv.bw : w.heap.size ≤ gb236)); have n5_ := Gv.a0 ((Gv.nlt hg (Gv.kb BK235.out) : gb235 ≠ gb236)); have n6_ := Gv.a0 ((Gv.ngt hg (Gv.kb BK235.out) : gb236 ≠ gb235)); clear BK235; clear HB; have BK235 := n0_; have HB := n1_; have BK236 := n2_; have GW236 := n3_; have GE236 := n4_; have NB235_236 := n5_; have NB236_235 := n6_; clear n0_ n1_ n2_ n3_ n4_ n5_ n6_; clear hb hbox hg) | ((with_reducible refine gate_dst (N := 4) rfl ?_); refine box_event ?hg (N := 4) ?hd (cs := #[.int .i64 0, .slice none 0 0]) (t := 24) ?hr ?_; (case hd => rfl); (case hg => rfl); (case hr => first | (go_simp; done) | (go_simp; rfl)); intro gb237 hg w37 hbox hb; have n0_ := Gv.a0 (Gv.bb BK235.out hb); have n1_ := Gv.a0 (Gv.bb BK236.out hb); have n2_ := Gv.a0 (below_step Gv.bw hb); have n3_ := Gv.a0 (hbox); have n4_ := Gv.a0 ((Gv.ble hg Gv.bw : w.heap.size ≤ gb237)); have n5_ := Gv.a0 ((Gv.ble hg Gv.bw : w.heap.size ≤ gb237)); have n6_ := Gv.a0 ((Gv.nlt hg (Gv.kb BK235.out) : gb235 ≠ gb237)); have n7_ := Gv.a0 ((Gv.ngt hg (Gv.kb BK235.out) : gb237 ≠ gb235)); have n8_ := Gv.a0 ((Gv.nlt hg (Gv.kb BK236.out) : gb236 ≠ gb237)); have n9_ := Gv.a0 ((Gv.ngt hg (Gv.kb BK236.out) : gb237 ≠ gb236)); clear BK235; clear BK236; clear HB; have BK235 := n0_; have BK236 := n1_; have HB := n2_; have BK237 := n3_; have GW237 := n4_; have GE237 := n5_; have NB235_237 := n6_; have NB237_235 := n7_; have NB236_237 := n8_; have NB237_236 := n9_; clear n0_ n1_ n2_ n3_ n4_ n5_ n6_ n7_ n8_ n9_; clear hb hbox hg; have hnb38 := NB235_236.out; have hnc38 := NB236_235.out; have hnb39 := NB235_237.out; have hnc39 := NB237_235.out; have hcz40_0 : w37.cell? ⟨gb235, 0, none⟩ = some (.int .i64 a0_0) := (blk_cell BK235.out 0).trans rfl; have hcz40_1 : w37.cell? ⟨gb235, 1, none⟩ = some (.slice A0_1 l0_1.length c0_1) := (blk_cell BK235.out 1).trans rfl; have hfz40_0 := blk_frozen BK235.out 0; have hfz40_1 := blk_frozen BK235.out 1) | ((with_reducible refine gate_callee (f := 16) rfl ?_); refine goesL_ (some 8) rfl rfl Try.func16 (by kernel_rfl) rfl #[.agg #[.int .i64 a0_0, .slice A0_1 l0_1.length c0_1]] rfl Gv.lm ?_; (with_reducible refine (impl_WheelOk.calls a0_0 _ _ l0_1 false _ ?side1 ?side2 A3.out).mono ?_); (case side1 => repeat (first | exact (Kd.C_below HR0_1.out HB.out) | (with_reducible refine Kd.C_alloc ?_ _) | (with_reducible refine Kd.C_drewN ?_ _) | (with_reducible refine Kd.C_drew ?_))); (case side2 => exact HC0_1.out); rintro e w41 ⟨rfl, hb⟩; refine ⟨_, rfl, ?_⟩; have n0_ := Gv.a0 (Gv.bb BK235.out hb); have n1_ := Gv.a0 (Gv.bb BK236.out hb); have n2_ := Gv.a0 (Gv.bb BK237.out hb); have n3_ := Gv.a0 (below_step Gv.bw hb); clear BK235; clear BK236; clear BK237; clear HB; have BK235 := n0_; have BK236 := n1_; have BK237 := n2_; have HB := n3_; clear n0_ n1_ n2_ n3_; (try clear hb); (try clear hb2); (try clear hk); (try clear hi); have hnb42 := NB237_236.out; have hnc42 := NB236_237.out; have hcz43_0 : w41.cell? ⟨gb237, 0, none⟩ = some (.int .i64 0) := (blk_cell BK237.out 0).trans rfl; have hcz43_1 : w41.cell? ⟨gb237, 1, none⟩ = some (.slice none 0 0) := (blk_cell BK237.out 1).trans rfl; have hfz43_0 := blk_frozen BK237.out 0; have hfz43_1 := blk_frozen BK237.out 1))
  refine bodyPost_ret (results_ct rfl _ _ gb237 24 #[.int .i64 0, .slice none 0 0] (0, 0) _ rfl (by (with_reducible repeat (first | refine blk_drewN ?_ _ | refine blk_drew ?_ | refine blk_alloc ?_ _)); refine blk_put (cs := #[.int .i64 0, .slice none 0 0]) ?_ 1 _ rfl; (with_reducible repeat (first | refine blk_drewN ?_ _ | refine blk_drew ?_ | refine blk_alloc ?_ _)); refine blk_put (cs := #[.int .i64 0, .slice none 0 0]) ?_ 0 _ rfl; (with_reducible repeat (first | refine blk_drewN ?_ _ | refine blk_drew ?_ | refine blk_alloc ?_ _)); exact BK237.out) Try.underlying24 rfl (by kernel_rfl)) rfl ?_
  exact ⟨_, Gv.rt, by first | exact Kd.S_nil _ _ _ _ _ | exact Kd.N_nil _ _ _ _ _ | exact Kd.V_nil _ _ _ _ _ | exact Kd.Q_nil _ _ _ _ _ | exact Kd.R_nil _ _ _ _ _, Gv.bw⟩

/-! ### laws_FnExactWheelDrop: function 6 -/
/-- Every cell of every spoke's row takes a number of its own. -/
def Mk.markP : List S47 → Int → List S47 × Int
 | [], a => ([], a)
 | s :: l, a => (⟨Gv.mkL (fun a : Int => (⟨(Gv.stepN Gv.nx 0 a), (Gv.stepN Gv.nx 1 a)⟩ : S50)) (Gv.stepN Gv.nx 2) s.f0.length a⟩ :: (Mk.markP l (Gv.stepN (Gv.stepN Gv.nx 2) s.f0.length a)).1, (Mk.markP l (Gv.stepN (Gv.stepN Gv.nx 2) s.f0.length a)).2)
theorem Mk.markP_len : ∀ (l : List S47) (a : Int), (Mk.markP l a).1.length = l.length
 | [], a => rfl
 | s :: l, a => by simp [Mk.markP, Mk.markP_len l]
theorem Mk.markP_snoc : ∀ (l : List S47) (s : S47) (a : Int), Mk.markP (l ++ [s]) a = ((Mk.markP l a).1 ++ [⟨Gv.mkL (fun a : Int => (⟨(Gv.stepN Gv.nx 0 a), (Gv.stepN Gv.nx 1 a)⟩ : S50)) (Gv.stepN Gv.nx 2) s.f0.length (Mk.markP l a).2⟩], Gv.stepN (Gv.stepN Gv.nx 2) s.f0.length (Mk.markP l a).2)
 | [], s, a => rfl
 | x :: l, s, a => by simp [Mk.markP, Mk.markP_snoc l]
/-- A row of rows that lies in the span of blocks from lo on, below hi. -/
def Mk.Row (b lo hi : Nat) (W : World) (v : Value) (l : List S47) : Prop := b ≤ lo ∧ hi ≤ W.heap.size ∧ Kd.S k47 47 W b (fun k => lo ≤ k ∧ k < hi) v l
def Mk.foot (lo hi : Nat) (W : World) (k : Nat) : Prop := (lo ≤ k ∧ k < hi) ∧ ∃ q, q ∈ 47 :: k47.E ∧ ∃ cells, W.heap[k]? = some (.cells cells q (0, 0))
section
variable {b lo hi lo2 hi2 g t : Nat} {V W W' : World} {v u : Value} {l m : List S47} {cs : Array Value}
theorem Mk.Row.new (hb : b ≤ V.heap.size) (h : Kd.S k47 47 W V.heap.size (fun _ => True) v l) : Mk.Row b V.heap.size W.heap.size W v l :=
 ⟨hb, Nat.le_refl _, Kd.S_lower (Kd.S_mono (Kd.S_bound h) (fun k hk => ⟨hk.2.1, hk.2.2.1⟩)) hb⟩
theorem Mk.Row.below (h : Mk.Row b lo hi W v l) (hb : Below W.heap.size W W') : Mk.Row b lo hi W' v l := ⟨h.1, Nat.le_trans h.2.1 hb.size, Kd.S_below h.2.2 hb⟩
theorem Mk.Row.drew (h : Mk.Row b lo hi W v l) : Mk.Row b lo hi W.drew v l := ⟨h.1, h.2.1, Kd.S_drew h.2.2⟩
theorem Mk.Row.reads {A : Option Addr} {n c : Nat} (h : Mk.Row b lo hi W (.slice A n c) l) : n = l.length ∧ n ≤ c ∧ k47.C W A l.length l := Kd.S_reads' h.2.2
theorem Mk.Row.kept (h : Mk.Row b lo hi W v l) (p : Mk.Row b lo2 hi2 W u m) (hk : Kept W W' (Mk.foot lo2 hi2 W)) (hd : hi ≤ lo2 ∨ hi2 ≤ lo) : Mk.Row b lo hi W' v l :=
 ⟨h.1, Nat.le_trans h.2.1 hk.1, Kd.S_kept h.2.2 hk (fun k hk hf => by have := hf.1; omega)⟩
theorem Mk.Row.box (hg : W.heap[g]? = some (.cells cs t (0, 0))) (hk : Kept W W' (Mk.foot lo hi W)) (ht : ∀ q, q ∈ 47 :: k47.E → q ≠ t) : W'.heap[g]? = some (.cells cs t (0, 0)) :=
 (hk.2 g (blk_lt hg) (fun hf => by
  obtain ⟨_, q, hq, cells, hc⟩ := hf
  rw [hg] at hc
  injection hc with hc
  injection hc with _ hc
  exact ht q hq hc.symm)).trans hg
theorem Mk.kept_before (hb : Below W.heap.size W V) (hk : Kept V W' (Mk.foot lo hi V)) (hh : hi ≤ W.heap.size) : Kept W W' (Mk.foot lo hi W) :=
 ⟨Nat.le_trans hb.size hk.1, fun i hi' hn => (hk.2 i (Nat.lt_of_lt_of_le hi' hb.size) (fun hf => hn ⟨hf.1, by
  obtain ⟨q, hq, cells, hc⟩ := hf.2
  exact ⟨q, hq, cells, (hb.block i hi').symm.trans hc⟩⟩)).trans (hb.block i hi')⟩
end
set_option maxHeartbeats 8000000 in
set_option maxRecDepth 100000 in
theorem laws_markSpokeS.own (lo hi : Nat) (A : Option Addr) (c : Nat) (l0 : List S47) (a1 : Int) (w0 w : World) (hB : Below w0.heap.size w0 w) (hR : Mk.Row w0.heap.size lo hi w (.slice A l0.length c) l0) :
  Calls Try.prog 25 #[.slice A l0.length c, .int .i64 a1] w fun e w' => e = .returned (.int .i64 (Mk.markP l0 a1).2) ∧ Mk.Row w0.heap.size lo hi w' (.slice A l0.length c) (Mk.markP l0 a1).1 ∧ Below w0.heap.size w0 w' ∧ Kept w w' (Mk.foot lo hi w) := by
 have hu47 := Try.underlying47
 have HS0 := Gv.a0 (Kd.S_mono (Kd.S_bound hR.2.2) (fun k hk => (⟨hk.1, hk.2.2.2⟩ : Mk.foot lo hi w k)))
 have hlm := (Mk.Row.reads hR).2.2.2.1
 have HR := Gv.a0 hR
 have HB := Gv.a0 hB
 clear hR hB
 by_cases hl : l0.length = 0
 ·have e : l0 = [] := List.length_eq_zero_iff.1 hl
  subst e
  clear hl
  go_enter Try.func25, Try.ntmps25
  go_wp2
  go_loopg [1, 5] 0 (fun gg s1 s5 wr => s1 = .int .i64 a1 ∧ s5 = .int .i64 0 ∧ wr = w)
  case atStart => exact ⟨rfl, rfl, rfl⟩
  case round =>
   obtain ⟨rfl, rfl, rfl⟩ := hrel
   go_wp2_with fail
   go_ret
   exact ⟨rfl, HR.out, HB.out, Kept.refl _ _⟩
 ·obtain ⟨g, cap, e0, hbase, hlt, _⟩ := Kd.S_form HR.out.2.2 (by omega)
  injection e0 with e1 _ e2
  subst e1
  subst e2
  clear hl
  go_enter Try.func25, Try.ntmps25
  go_wp2
  go_loopg [1, 5] l0.length (fun gg s1 s5 wr => ∃ kk : Nat, kk ≤ l0.length ∧ l0.length - kk ≤ gg ∧ s1 = .int .i64 (Mk.markP (l0.take kk) a1).2 ∧ s5 = .int .i64 (kk : Int) ∧ Aside0 (Kd.S k47 47 wr w0.heap.size (Mk.foot lo hi w) (.slice (some ⟨g, 0, none⟩) l0.length c) ((Mk.markP (l0.take kk) a1).1 ++ l0.drop kk)) ∧ Aside0 (Below w0.heap.size w0 wr) ∧ Aside0 (Kept w wr (Mk.foot lo hi w)))
  case atStart => exact ⟨0, Nat.zero_le _, by omega, rfl, rfl, Gv.a0 (by rw [List.take_zero, List.drop_zero]; exact HS0.out), HB, Gv.a0 (Kept.refl _ _)⟩
  case round =>
   obtain ⟨kk, hkk, hgg, rfl, rfl, HS, HBr, HK⟩ := hrel
   obtain ⟨x_, hx_⟩ : ∃ x_, x_ = (Mk.markP (l0.take kk) a1).2 := ⟨_, rfl⟩
   rw [← hx_]
   have HX := Gv.a0 hx_
   clear hx_
   by_cases hlt : kk < l0.length
   ·have hltz : (kk : Int) < (l0.length : Int) := by omega
    have hk0 : 0 ≤ (kk : Int) := by omega
    obtain ⟨oki, c_, hcl, hM, hcc, hoki, hH⟩ := Kd.S_lend HS.out z47 (kk : Int) hk0 hltz
    have hget : ((Mk.markP (l0.take kk) a1).1 ++ l0.drop kk).getD (kk : Int).toNat z47 = l0[kk] := by
     rw [Int.toNat_natCast, List.getD_eq_getElem?_getD, List.getElem?_append_right (by rw [Mk.markP_len, List.length_take]; omega), Mk.markP_len, List.length_take, List.getElem?_drop]
     rw [show kk + (kk - min kk l0.length) = kk by omega, List.getElem?_eq_getElem hlt]
     rfl
    rw [hget] at hM
    obtain ⟨s_, hs_⟩ : ∃ s_, s_ = l0[kk] := ⟨_, rfl⟩
    rw [← hs_] at hM
    obtain ⟨v0, rfl, hR0⟩ := k47_openM hM
    obtain ⟨A1, c1, rfl⟩ := Kd.R_slice hR0
    have hx := hcc 0 _ rfl
    simp only [show (k47).sz = 1 from rfl, Nat.mul_one, Nat.add_zero, Int.toNat_natCast] at hx
    have HSL := Gv.a0 (show l0[kk]? = some s_ by rw [List.getElem?_eq_getElem hlt, hs_])
    have HR0 := Gv.a0 hR0
    have HH := Gv.a0 hH
    have HO := Gv.a0 hoki
    have HLT := Gv.a0 hlt
    have HGG := Gv.a0 hgg
    have HKK := Gv.a0 hkk
    clear hget hs_ hM hR0 hcc hcl hoki hH hlt hgg hkk
    go_wp2_with (go_at_call 40; refine (laws_markTimerS.calls oki (.slice A1 s_.f0.length c1) s_.f0 x_ _ _ w0 wr HBr.out HR0.out rfl).mono ?_; rintro e w1 ⟨rfl, ho, hb, hk⟩; have HR1 := Gv.a0 (Kd.R_reok rfl ho (fun k e => HR0.out.1 k e)); have HB1 := Gv.a0 hb; have HK1 := Gv.a0 hk; clear ho hb hk)
    go_roundg (l0.length - (kk + 1))
    case measure => have := HLT.out; have := HGG.out; omega
    case rel =>
     have h1 := HLT.out
     have h2 := HGG.out
     have hS := Kd.H_back (i := (kk : Int)) ⟨HH.out.1, HH.out.2.imp (fun f h => Kd.R_kept h HK1.out (fun k hk => hk.2))⟩ (k47_mkM w1 w0.heap.size oki (⟨Gv.mkL (fun a : Int => (⟨(Gv.stepN Gv.nx 0 a), (Gv.stepN Gv.nx 1 a)⟩ : S50)) (Gv.stepN Gv.nx 2) s_.f0.length x_⟩ : S47) HR1.out) (fun k hk => hk)
     have e1 : l0.take (kk + 1) = l0.take kk ++ [s_] := by rw [List.take_add_one, HSL.out]; rfl
     have e2 : l0.drop kk = s_ :: l0.drop (kk + 1) := by rw [List.drop_eq_getElem_cons h1]; congr 1; have := HSL.out; rw [List.getElem?_eq_getElem h1] at this; injection this
     refine ⟨kk + 1, by omega, by omega, by rw [e1, Mk.markP_snoc, ← HX.out], by go_num, Gv.a0 ?_, HB1, Gv.a0 (HK.out.then_ HK1.out (fun k hk => .inl (HO.out k hk).1))⟩
     rw [e1, Mk.markP_snoc, ← HX.out, List.append_assoc, List.singleton_append]
     rw [e2, Int.toNat_natCast, List.set_append_right _ _ (by rw [Mk.markP_len, List.length_take]; omega), Mk.markP_len, List.length_take, show kk - min kk l0.length = 0 by omega, List.set_cons_zero] at hS
     exact hS
   ·have hltz : ¬ (kk : Int) < (l0.length : Int) := by omega
    have hk : kk = l0.length := by omega
    have HKE := Gv.a0 hk
    clear hk
    go_wp2_with fail
    go_ret
    have hk := HKE.out
    have h1 := HS.out
    have h2 := HX.out
    rw [hk, List.take_length] at h2
    rw [hk, List.take_length, List.drop_length, List.append_nil] at h1
    exact ⟨by rw [h2]; rfl, ⟨HR.out.1, Nat.le_trans HR.out.2.1 HK.out.1, Kd.S_mono h1 (fun k hk => hk.1)⟩, HBr.out, HK.out⟩
set_option maxHeartbeats 8000000 in
set_option maxRecDepth 100000 in
theorem laws_markWheel.own (a0 : Int) (lo hi : Nat) (A : Option Addr) (c : Nat) (l0 : List S47) (a1 : Int) (w0 w : World) (hB : Below w0.heap.size w0 w) (hR : Mk.Row w0.heap.size lo hi w (.slice A l0.length c) l0) :
  Calls Try.prog 11 #[.agg #[.int .i64 a0, .slice A l0.length c], .int .i64 a1] w fun e w' => e = .returned (.int .i64 (Mk.markP l0 a1).2) ∧ Mk.Row w0.heap.size lo hi w' (.slice A l0.length c) (Mk.markP l0 a1).1 ∧ Below w0.heap.size w0 w' ∧ Kept w w' (Mk.foot lo hi w) := by
 have hu24 := Try.underlying24
 have HR := Gv.a0 hR
 have HB := Gv.a0 hB
 clear hR hB
 go_enter Try.func11, Try.ntmps11
 go_wp2_with (first
  | ((with_reducible refine gate_dst (N := 2) rfl ?_); refine box_event ?hg (N := 2) ?hd (cs := #[.int .i64 a0, .slice A l0.length c]) (t := 24) ?hr ?_; (case hd => rfl); (case hg => rfl); (case hr => first | (go_simp; done) | (go_simp; rfl)); intro gb2 hg w2 hbox hb; have HB2 := Gv.a0 hb; have hz0 := (blk_cell hbox 1).trans (rfl : _ = (some (.slice A l0.length c) : Option Value)); clear hbox hb hg)
  | (go_at_call 25; refine (laws_markSpokeS.own lo hi A c l0 a1 w0 _ (below_step HB.out HB2.out) (Mk.Row.below HR.out HB2.out)).mono ?_; rintro e w3 ⟨rfl, hR, hb, hk⟩; have HR3 := Gv.a0 hR; have HB3 := Gv.a0 hb; have HK3 := Gv.a0 (Mk.kept_before HB2.out hk HR.out.2.1); clear hR hb hk))
 go_ret
 exact ⟨rfl, HR3.out, HB3.out, HK3.out⟩
theorem laws_heldWheel.own (k : Nat) (g1 : Int) (b lo hi : Nat) (A : Option Addr) (c : Nat) (l m : List S47) (a r : Int) (W : World) (hlen : m.length = l.length) (hR : Mk.Row b lo hi W (.slice A l.length c) m) (h : laws_heldWheel.f k g1 m a = some r) :
  Calls Try.prog 12 #[.agg #[.int .i64 g1, .slice A l.length c], .int .i64 a] W fun e w' => e = .returned (.int .i64 r) ∧ Below W.heap.size W w' := by
 have hh := Mk.Row.reads hR
 rw [← hlen]
 exact laws_heldWheel.calls k g1 A c m a r W hh.2.2 (by have := hh.2.1; omega) h
def laws_FnExactWheelDrop.f (k : Nat) (a0_0 : Int) (l0_1 : List (S65)) (a1 : Int) : Option (Bool) := (laws_szWheel.f k a0_0 l0_1 1048576).bind fun t1 => if t1 < 0 then some true else (laws_toWheel.f k a0_0 l0_1).bind fun x => (spec_WheelDrop.f k x.1 x.2 a1).bind fun wv => (impl_WheelDrop.f k x.1 x.2 a1).bind fun g => (laws_eqWheel.f k g.1 g.2.1 wv.1 wv.2.1).bind fun e1 => (laws_eqWheel.f k x.1 x.2 x.1 x.2).bind fun e2 => (laws_heldWheel.f k g.1 (Mk.markP g.2.1 1).1 1).bind fun q => if e1 = true ∧ e2 = true ∧ g.2.2 = wv.2.2 ∧ 0 ≤ (Mk.markP x.2 1).2 ∧ 0 ≤ q ∧ q = (Mk.markP g.2.1 1).2 then some true else none
theorem laws_FnExactWheelDrop.mono : ∀ a0 a1 a2 k, LeO (laws_FnExactWheelDrop.f k a0 a1 a2) (laws_FnExactWheelDrop.f (k + 1) a0 a1 a2) := by
 intro a0 a1 a2 k
 unfold laws_FnExactWheelDrop.f
 repeat' first
   | (with_reducible exact impl_WheelDrop.mono _ _ _ _)
   | (with_reducible exact laws_eqWheel.mono _ _ _ _ _)
   | (with_reducible exact laws_heldWheel.mono _ _ _ _)
   | (with_reducible exact laws_szWheel.mono _ _ _ _)
   | (with_reducible exact laws_toWheel.mono _ _ _)
   | (with_reducible exact spec_WheelDrop.mono _ _ _ _)
   | (with_reducible exact LeO.refl _)
   | (with_reducible exact LeO.none _)
   | (with_reducible refine LeO.ite ?_ ?_)
   | (with_reducible refine LeO.bind ?_ (fun _ => ?_))
   | exact impl_WheelDrop.mono _ _ _ _
   | exact laws_eqWheel.mono _ _ _ _ _
   | exact laws_heldWheel.mono _ _ _ _
   | exact laws_szWheel.mono _ _ _ _
   | exact laws_toWheel.mono _ _ _
   | exact spec_WheelDrop.mono _ _ _ _
   | exact LeO.none _
   | refine LeO.ite ?_ ?_
   | refine LeO.bind ?_ (fun _ => ?_)
set_option maxHeartbeats 8000000 in
set_option maxRecDepth 100000 in
theorem laws_FnExactWheelDrop.calls (k : Nat) (a0_0 : Int) (A0_1 : Option Addr) (c0_1 : Nat) (l0_1 : List (S65)) (a1 : Int) (r : Bool) (w : World) (hr0_1 : Kd.C k65 w A0_1 l0_1.length l0_1) (hc0_1 : l0_1.length ≤ c0_1) (h : laws_FnExactWheelDrop.f k a0_0 l0_1 a1 = some r) :
  Calls Try.prog 6 #[.agg #[.int .i64 a0_0, .slice A0_1 l0_1.length c0_1], .int .i64 a1] w fun e w' => e = .returned (.bool r) ∧ Below w.heap.size w w' := by
 have hu31 := Try.underlying31
 have hu24 := Try.underlying24
 have HR := Gv.a0 hr0_1
 have HC := Gv.a0 hc0_1
 unfold laws_FnExactWheelDrop.f at h
 replace h := Option.bind_eq_some_iff.mp h
 obtain ⟨t1, h1, h⟩ := h
 have A1 := Gv.a0 h1
 by_cases c : t1 < 0
 ·rw [if_pos c] at h
  obtain rfl := Option.some.inj h
  have c0 : decide (t1 < 0) = true := decide_eq_true c
  clear c h h1 hr0_1 hc0_1
  go_enter Try.func6, Try.ntmps6
  go_wp2_with (first
    | ((with_reducible refine gate_dst (N := 2) rfl ?_); refine box_event ?hg (N := 2) ?hd (cs := #[.int .i64 a0_0, .slice A0_1 l0_1.length c0_1]) (t := 31) ?hr ?_; (case hd => rfl); (case hg => rfl); (case hr => first | (go_simp; done) | (go_simp; rfl)); intro gbA hg wn_ hbox hb; have HB := Gv.a0 hb; have BKA := Gv.a0 hbox; clear hg hbox hb)
    | ((with_reducible refine Gv.gate_load (t := 31) rfl ?_); (try (refine gate_guard (by rfl) ?_; dsimp only)); refine wpList_load_row rfl 31 _ rfl gbA rfl 31 _ _ _ BKA.out Try.underlying31 rfl (by kernel_rfl) ?_)
    | ((with_reducible refine gate_callee (f := 13) rfl ?_); refine goesL_ (some 18) rfl rfl Try.func13 (by kernel_rfl) rfl #[.agg #[.int .i64 a0_0, .slice A0_1 l0_1.length c0_1], .int .i64 1048576] rfl Gv.lm ?_; (with_reducible refine (laws_szWheel.calls k a0_0 _ _ l0_1 1048576 t1 _ (Kd.C_below HR.out HB.out) HC.out A1.out).mono ?_); rintro e wn_ ⟨rfl, hb⟩; refine ⟨_, rfl, ?_⟩; replace HB := Gv.a0 (below_step HB.out hb); replace BKA := Gv.a0 (blk_below BKA.out hb); clear hb))
  go_ret
  exact ⟨rfl, HB.out⟩
 rw [if_neg c] at h
 have c0 : decide (t1 < 0) = false := decide_eq_false c
 replace h := Option.bind_eq_some_iff.mp h
 obtain ⟨⟨x1, x2⟩, h2, h⟩ := h
 replace h := Option.bind_eq_some_iff.mp h
 obtain ⟨⟨w1, w2, w3⟩, h3, h⟩ := h
 replace h := Option.bind_eq_some_iff.mp h
 obtain ⟨⟨g1, g2, g3⟩, h4, h⟩ := h
 replace h := Option.bind_eq_some_iff.mp h
 obtain ⟨e1, h5, h⟩ := h
 replace h := Option.bind_eq_some_iff.mp h
 obtain ⟨e2, h6, h⟩ := h
 replace h := Option.bind_eq_some_iff.mp h
 obtain ⟨q, h7, h⟩ := h
 dsimp only at h2 h3 h4 h5 h6 h7 h
 by_cases hc : e1 = true ∧ e2 = true ∧ g3 = w3 ∧ 0 ≤ (Mk.markP x2 1).2 ∧ 0 ≤ q ∧ q = (Mk.markP g2 1).2
 rotate_left
 ·rw [if_neg hc] at h
  cases h
 rw [if_pos hc] at h
 obtain rfl := Option.some.inj h
 obtain ⟨rfl, rfl, e3, m0, q0, rfl⟩ := hc
 have e3' : w3 = g3 := e3.symm
 subst e3'
 have m1 : decide ((Mk.markP x2 1).2 < 0) = false := decide_eq_false (by omega)
 have q1 : decide ((Mk.markP g2 1).2 < 0) = false := decide_eq_false (by omega)
 have A2 := Gv.a0 h2
 have A3 := Gv.a0 h3
 have A4 := Gv.a0 h4
 have A5 := Gv.a0 h5
 have A6 := Gv.a0 h6
 have A7 := Gv.a0 h7
 clear h1 h2 h3 h4 h5 h6 h7 h c e3 m0 q0 hr0_1 hc0_1
 go_enter Try.func6, Try.ntmps6
 go_wp2_with (first
   | ((with_reducible refine gate_dst (N := 2) rfl ?_); refine box_event ?hg (N := 2) ?hd (cs := #[.int .i64 a0_0, .slice A0_1 l0_1.length c0_1]) (t := 31) ?hr ?_; (case hd => rfl); (case hg => rfl); (case hr => first | (go_simp; done) | (go_simp; rfl)); intro gbA hg wn_ hbox hb; have HB := Gv.a0 hb; have BKA := Gv.a0 hbox; clear hg hbox hb)
   | ((with_reducible refine Gv.gate_load (t := 31) rfl ?_); (try (refine gate_guard (by rfl) ?_; dsimp only)); refine wpList_load_row rfl 31 _ rfl gbA rfl 31 _ _ _ BKA.out Try.underlying31 rfl (by kernel_rfl) ?_)
   | ((with_reducible refine gate_callee (f := 13) rfl ?_); refine goesL_ (some 18) rfl rfl Try.func13 (by kernel_rfl) rfl #[.agg #[.int .i64 a0_0, .slice A0_1 l0_1.length c0_1], .int .i64 1048576] rfl Gv.lm ?_; (with_reducible refine (laws_szWheel.calls k a0_0 _ _ l0_1 1048576 t1 _ (Kd.C_below HR.out HB.out) HC.out A1.out).mono ?_); rintro e wn_ ⟨rfl, hb⟩; refine ⟨_, rfl, ?_⟩; replace HB := Gv.a0 (below_step HB.out hb); replace BKA := Gv.a0 (blk_below BKA.out hb); clear hb)
   | ((with_reducible refine gate_callee (f := 15) rfl ?_); refine goesL_ (some 23) rfl rfl Try.func15 (by kernel_rfl) rfl #[.agg #[.int .i64 a0_0, .slice A0_1 l0_1.length c0_1]] rfl Gv.lm ?_; (with_reducible refine (laws_toWheel.calls k a0_0 _ _ l0_1 x1 x2 _ (Kd.C_below HR.out HB.out) HC.out A2.out).mono ?_); rintro e wn_ ⟨v_, rfl, ho, hb⟩; refine ⟨_, rfl, ?_⟩; obtain ⟨AS, cS, rfl⟩ := Kd.S_slice ho; have rn_ := Gv.a0 (Mk.Row.new HB.out.size ho); replace HB := Gv.a0 (below_step HB.out hb); replace BKA := Gv.a0 (blk_below BKA.out hb); have RS := rn_; clear ho hb rn_)
   | ((with_reducible refine gate_callee (f := 19) rfl ?_); refine goesL_ (some 25) rfl rfl Try.func19 (by kernel_rfl) rfl #[.agg #[.int .i64 x1, .slice AS x2.length cS], .int .i64 a1] rfl Gv.lm ?_; (with_reducible refine (spec_WheelDrop.calls k x1 _ _ x2 a1 w1 w2 w3 _ (Mk.Row.reads RS.out).2.2 (Mk.Row.reads RS.out).2.1 A3.out).mono ?_); rintro e wn_ ⟨v_, rfl, ho, hb⟩; refine ⟨_, rfl, ?_⟩; obtain ⟨AW, cW, rfl⟩ := Kd.S_slice ho; have rn_ := Gv.a0 (Mk.Row.new HB.out.size ho); clear RS; replace HB := Gv.a0 (below_step HB.out hb); replace BKA := Gv.a0 (blk_below BKA.out hb); have RW := rn_; clear ho hb rn_)
   | ((with_reducible refine gate_dst (N := 6) rfl ?_); refine box_event ?hg (N := 6) ?hd (cs := #[.int .i64 0, .slice none 0 0]) (t := 24) ?hr ?_; (case hd => rfl); (case hg => rfl); (case hr => first | (go_simp; done) | (go_simp; rfl)); intro gbW hg wa_ hbox hb; have BKW := Gv.a0 hbox; have HA_ := Gv.a0 hb; have HG_ := Gv.a0 (Nat.le_of_eq hg.symm); clear hg hbox hb)
   | ((with_reducible refine gate_store (t := 24) (p := 6) rfl ?_); refine Gv.store_event (g := gbW) (cells := #[.int .i64 w1, .slice AW w2.length cW]) rfl rfl rfl rfl rfl BKW.out (by kernel_rfl) rfl (by simp; and_intros <;> rfl) ?_; intro wn_ hbox hoth hbel; have hb := hbel _ HA_.out HG_.out; replace HB := Gv.a0 (below_step HB.out hb); replace BKA := Gv.a0 (blk_below BKA.out hb); replace RW := Gv.a0 (Mk.Row.below RW.out hb); replace BKW := Gv.a0 hbox; clear hb hbox hoth hbel HA_ HG_)
   | ((with_reducible refine gate_callee (f := 15) rfl ?_); refine goesL_ (some 29) rfl rfl Try.func15 (by kernel_rfl) rfl #[.agg #[.int .i64 a0_0, .slice A0_1 l0_1.length c0_1]] rfl Gv.lm ?_; (with_reducible refine (laws_toWheel.calls k a0_0 _ _ l0_1 x1 x2 _ (Kd.C_below HR.out HB.out) HC.out A2.out).mono ?_); rintro e wn_ ⟨v_, rfl, ho, hb⟩; refine ⟨_, rfl, ?_⟩; obtain ⟨AX, cX, rfl⟩ := Kd.S_slice ho; have DWX := Gv.a0 RW.out.2.1; have rn_ := Gv.a0 (Mk.Row.new HB.out.size ho); replace HB := Gv.a0 (below_step HB.out hb); replace BKA := Gv.a0 (blk_below BKA.out hb); replace BKW := Gv.a0 (blk_below BKW.out hb); replace RW := Gv.a0 (Mk.Row.below RW.out hb); have RX := rn_; clear ho hb rn_)
   | ((with_reducible refine gate_dst (N := 8) rfl ?_); refine box_event ?hg (N := 8) ?hd (cs := #[.int .i64 0, .slice none 0 0]) (t := 24) ?hr ?_; (case hd => rfl); (case hg => rfl); (case hr => first | (go_simp; done) | (go_simp; rfl)); intro gbX hg wa_ hbox hb; have BKX := Gv.a0 hbox; have HA_ := Gv.a0 hb; have HG_ := Gv.a0 (Nat.le_of_eq hg.symm); clear hg hbox hb)
   | ((with_reducible refine gate_store (t := 24) (p := 8) rfl ?_); refine Gv.store_event (g := gbX) (cells := #[.int .i64 x1, .slice AX x2.length cX]) rfl rfl rfl rfl rfl BKX.out (by kernel_rfl) rfl (by simp; and_intros <;> rfl) ?_; intro wn_ hbox hoth hbel; have hb := hbel _ HA_.out HG_.out; replace HB := Gv.a0 (below_step HB.out hb); replace BKA := Gv.a0 (blk_below BKA.out hb); replace BKW := Gv.a0 (blk_below BKW.out hb); replace RW := Gv.a0 (Mk.Row.below RW.out hb); replace RX := Gv.a0 (Mk.Row.below RX.out hb); replace BKX := Gv.a0 hbox; clear hb hbox hoth hbel HA_ HG_)
   | ((with_reducible refine Gv.gate_load (t := 24) rfl ?_); (try (refine gate_guard (by rfl) ?_; dsimp only)); refine wpList_load_row rfl 24 _ rfl gbX rfl 24 _ _ _ BKX.out Try.underlying24 rfl (by kernel_rfl) ?_)
   | ((with_reducible refine gate_callee (f := 20) rfl ?_); refine goesL_ (some 33) rfl rfl Try.func20 (by kernel_rfl) rfl #[.agg #[.int .i64 x1, .slice AX x2.length cX], .int .i64 a1] rfl Gv.lm ?_; (with_reducible refine (impl_WheelDrop.calls k x1 _ _ x2 a1 g1 g2 w3 _ (Mk.Row.reads RX.out).2.2 (Mk.Row.reads RX.out).2.1 A4.out).mono ?_); rintro e wn_ ⟨v_, rfl, ho, hb⟩; refine ⟨_, rfl, ?_⟩; obtain ⟨AG, cG, rfl⟩ := Kd.S_slice ho; have DWG := Gv.a0 RW.out.2.1; have DXG := Gv.a0 RX.out.2.1; have rn_ := Gv.a0 (Mk.Row.new HB.out.size ho); replace HB := Gv.a0 (below_step HB.out hb); replace BKA := Gv.a0 (blk_below BKA.out hb); replace BKW := Gv.a0 (blk_below BKW.out hb); replace BKX := Gv.a0 (blk_below BKX.out hb); replace RW := Gv.a0 (Mk.Row.below RW.out hb); replace RX := Gv.a0 (Mk.Row.below RX.out hb); have RG := rn_; clear ho hb rn_)
   | ((with_reducible refine gate_dst (N := 9) rfl ?_); refine box_event ?hg (N := 9) ?hd (cs := #[.int .i64 0, .slice none 0 0]) (t := 24) ?hr ?_; (case hd => rfl); (case hg => rfl); (case hr => first | (go_simp; done) | (go_simp; rfl)); intro gbG hg wa_ hbox hb; have BKG := Gv.a0 hbox; have HA_ := Gv.a0 hb; have HG_ := Gv.a0 (Nat.le_of_eq hg.symm); clear hg hbox hb)
   | ((with_reducible refine gate_store (t := 24) (p := 9) rfl ?_); refine Gv.store_event (g := gbG) (cells := #[.int .i64 g1, .slice AG g2.length cG]) rfl rfl rfl rfl rfl BKG.out (by kernel_rfl) rfl (by simp; and_intros <;> rfl) ?_; intro wn_ hbox hoth hbel; have hb := hbel _ HA_.out HG_.out; replace HB := Gv.a0 (below_step HB.out hb); replace BKA := Gv.a0 (blk_below BKA.out hb); replace BKW := Gv.a0 (blk_below BKW.out hb); replace BKX := Gv.a0 (blk_below BKX.out hb); replace RW := Gv.a0 (Mk.Row.below RW.out hb); replace RX := Gv.a0 (Mk.Row.below RX.out hb); replace RG := Gv.a0 (Mk.Row.below RG.out hb); replace BKG := Gv.a0 hbox; clear hb hbox hoth hbel HA_ HG_)
   | ((with_reducible refine Gv.gate_load (t := 24) rfl ?_); (try (refine gate_guard (by rfl) ?_; dsimp only)); refine wpList_load_row rfl 24 _ rfl gbG rfl 24 _ _ _ BKG.out Try.underlying24 rfl (by kernel_rfl) ?_)
   | ((with_reducible refine Gv.gate_load (t := 24) rfl ?_); (try (refine gate_guard (by rfl) ?_; dsimp only)); refine wpList_load_row rfl 24 _ rfl gbW rfl 24 _ _ _ BKW.out Try.underlying24 rfl (by kernel_rfl) ?_)
   | ((with_reducible refine gate_callee (f := 10) rfl ?_); refine goesL_ (some 38) rfl rfl Try.func10 (by kernel_rfl) rfl #[.agg #[.int .i64 g1, .slice AG g2.length cG], .agg #[.int .i64 w1, .slice AW w2.length cW]] rfl Gv.lm ?_; (with_reducible refine (laws_eqWheel.calls k g1 _ _ g2 w1 _ _ w2 true _ (Mk.Row.reads RG.out).2.2 (Mk.Row.reads RG.out).2.1 (Mk.Row.reads RW.out).2.2 (Mk.Row.reads RW.out).2.1 A5.out).mono ?_); rintro e wn_ ⟨rfl, hb⟩; refine ⟨_, rfl, ?_⟩; replace HB := Gv.a0 (below_step HB.out hb); replace BKA := Gv.a0 (blk_below BKA.out hb); replace BKW := Gv.a0 (blk_below BKW.out hb); replace BKX := Gv.a0 (blk_below BKX.out hb); replace BKG := Gv.a0 (blk_below BKG.out hb); replace RW := Gv.a0 (Mk.Row.below RW.out hb); replace RX := Gv.a0 (Mk.Row.below RX.out hb); replace RG := Gv.a0 (Mk.Row.below RG.out hb); clear hb))
 replace HB := Gv.a0 (below_drew1 HB.out)
 replace BKA := Gv.a0 (blk_drew BKA.out)
 replace BKW := Gv.a0 (blk_drew BKW.out)
 replace BKX := Gv.a0 (blk_drew BKX.out)
 replace BKG := Gv.a0 (blk_drew BKG.out)
 replace RW := Gv.a0 (Mk.Row.drew RW.out)
 replace RX := Gv.a0 (Mk.Row.drew RX.out)
 replace RG := Gv.a0 (Mk.Row.drew RG.out)
 refine start_ (n := 5) (S := fun w' => w'.cell? ⟨gbX, 0, none⟩ = some (.int .i64 x1) ∧ w'.cell? ⟨gbX, 1, none⟩ = some (.slice AX x2.length cX) ∧ w'.cell? ⟨gbA, 0, none⟩ = some (.int .i64 a0_0) ∧ w'.cell? ⟨gbA, 1, none⟩ = some (.slice A0_1 l0_1.length c0_1)) (ds := []) #[false, false, false, false, false] (by kernel_rfl) rfl rfl ⟨(blk_cell BKX.out 0).trans rfl, (blk_cell BKX.out 1).trans rfl, (blk_cell BKA.out 0).trans rfl, (blk_cell BKA.out 1).trans rfl⟩ (fun hHeld => ?_)
 generalize World.drew _ = wd_ at BKA BKW BKX BKG RW RX RG HB hHeld ⊢
 refine take_ (i := 0) (N := some 45) (v := ?_) (a' := ?_) #[true, false, false, false, false] rfl rfl (by kernel_rfl) (fun _ _ _ h => h) (Or.inl ⟨by rfl, ?_⟩) hHeld ?_ ?_
 rotate_left
 ·rintro w' ⟨s0, s1, s2, s3⟩
  go_simp
  with_reducible rfl
 rotate_left
 ·simp only [Act.put, List.setIfInBounds_toArray, List.set_cons_zero, List.set_cons_succ, i64_w, i32_w]
  rfl
 refine take_ (i := 1) (N := some 46) (v := ?_) (a' := ?_) #[true, true, false, false, false] rfl rfl (by kernel_rfl) (fun _ _ _ h => h) (Or.inl ⟨by rfl, ?_⟩) hHeld ?_ ?_
 rotate_left
 ·rintro w' ⟨s0, s1, s2, s3⟩
  go_simp
  with_reducible rfl
 rotate_left
 ·simp only [Act.put, List.setIfInBounds_toArray, List.set_cons_zero, List.set_cons_succ, i64_w, i32_w]
  rfl
 refine one_ (i := 2) (N := some 47) #[true, true, true, false, false] rfl rfl (by kernel_rfl) (by decide) (fun K hK => ?_)
 refine goes_ Try.func15 (by kernel_rfl) rfl #[.agg #[.int .i64 a0_0, .slice A0_1 l0_1.length c0_1]] (by rfl) rfl rfl Gv.lm ?_
 with_reducible refine (laws_toWheel.calls k a0_0 _ _ l0_1 x1 x2 _ (Kd.C_below HR.out HB.out) HC.out A2.out).mono ?_
 rintro e wn_ ⟨v_, rfl, ho, hb⟩
 refine ⟨_, rfl, ?_⟩
 obtain ⟨AY, cY, rfl⟩ := Kd.S_slice ho
 have rn_ := Gv.a0 (Mk.Row.new HB.out.size ho)
 replace HB := Gv.a0 (below_step HB.out hb)
 replace BKA := Gv.a0 (blk_below BKA.out hb)
 replace BKW := Gv.a0 (blk_below BKW.out hb)
 replace BKX := Gv.a0 (blk_below BKX.out hb)
 replace BKG := Gv.a0 (blk_below BKG.out hb)
 replace RW := Gv.a0 (Mk.Row.below RW.out hb)
 replace RX := Gv.a0 (Mk.Row.below RX.out hb)
 replace RG := Gv.a0 (Mk.Row.below RG.out hb)
 have RY := rn_
 clear ho hb rn_
 refine hK.out _ _ ⟨(blk_cell BKX.out 0).trans rfl, (blk_cell BKX.out 1).trans rfl, (blk_cell BKA.out 0).trans rfl, (blk_cell BKA.out 1).trans rfl⟩ (fun hHeld => ?_)
 clear hK K
 refine norm_ (a' := ?_) ?_ ?_
 rotate_left
 ·show Act.put _ (some 47) _ = _
  simp only [Act.put, List.setIfInBounds_toArray, List.set_cons_zero, List.set_cons_succ, i64_w, i32_w]
  rfl
 refine one_ (i := 3) (N := some 48) #[true, true, true, true, false] rfl rfl (by kernel_rfl) (by decide) (fun K hK => ?_)
 refine goes_ Try.func10 (by kernel_rfl) rfl #[.agg #[.int .i64 x1, .slice AX x2.length cX], .agg #[.int .i64 x1, .slice AY x2.length cY]] (by rfl) rfl rfl Gv.lm ?_
 with_reducible refine (laws_eqWheel.calls k x1 _ _ x2 x1 _ _ x2 true _ (Mk.Row.reads RX.out).2.2 (Mk.Row.reads RX.out).2.1 (Mk.Row.reads RY.out).2.2 (Mk.Row.reads RY.out).2.1 A6.out).mono ?_
 rintro e wn_ ⟨rfl, hb⟩
 refine ⟨_, rfl, ?_⟩
 replace HB := Gv.a0 (below_step HB.out hb)
 replace BKA := Gv.a0 (blk_below BKA.out hb)
 replace BKW := Gv.a0 (blk_below BKW.out hb)
 replace BKX := Gv.a0 (blk_below BKX.out hb)
 replace BKG := Gv.a0 (blk_below BKG.out hb)
 replace RW := Gv.a0 (Mk.Row.below RW.out hb)
 replace RX := Gv.a0 (Mk.Row.below RX.out hb)
 replace RG := Gv.a0 (Mk.Row.below RG.out hb)
 clear hb RY
 refine hK.out _ _ ⟨(blk_cell BKX.out 0).trans rfl, (blk_cell BKX.out 1).trans rfl, (blk_cell BKA.out 0).trans rfl, (blk_cell BKA.out 1).trans rfl⟩ (fun hHeld => ?_)
 clear hK K
 refine norm_ (a' := ?_) ?_ ?_
 rotate_left
 ·show Act.put _ (some 48) _ = _
  simp only [Act.put, List.setIfInBounds_toArray, List.set_cons_zero, List.set_cons_succ, i64_w, i32_w]
  rfl
 refine pure_ (i := 4) (N := some 49) (v := ?_) (a' := ?_) #[true, true, true, true, true] rfl rfl (by kernel_rfl) (fun _ _ _ h => h) (Or.inl ⟨by rfl, ?_⟩) ?_ ?_
 rotate_left
 ·intro w'
  go_simp
  with_reducible rfl
 rotate_left
 ·simp only [Act.put, List.setIfInBounds_toArray, List.set_cons_zero, List.set_cons_succ, i64_w, i32_w]
  rfl
 refine done_ (by kernel_rfl) ?_
 go_wp2_with (first
   | ((with_reducible refine Gv.gate_load (t := 24) rfl ?_); (try (refine gate_guard (by rfl) ?_; dsimp only)); refine wpList_load_row rfl 24 _ rfl gbX rfl 24 _ _ _ BKX.out Try.underlying24 rfl (by kernel_rfl) ?_)
   | ((with_reducible refine Gv.gate_load (t := 24) rfl ?_); (try (refine gate_guard (by rfl) ?_; dsimp only)); refine wpList_load_row rfl 24 _ rfl gbG rfl 24 _ _ _ BKG.out Try.underlying24 rfl (by kernel_rfl) ?_)
   | ((with_reducible refine Gv.gate_load (t := 24) rfl ?_); (try (refine gate_guard (by rfl) ?_; dsimp only)); refine wpList_load_row rfl 24 _ rfl gbW rfl 24 _ _ _ BKW.out Try.underlying24 rfl (by kernel_rfl) ?_)
   | ((with_reducible refine Gv.gate_load (t := 31) rfl ?_); (try (refine gate_guard (by rfl) ?_; dsimp only)); refine wpList_load_row rfl 31 _ rfl gbA rfl 31 _ _ _ BKA.out Try.underlying31 rfl (by kernel_rfl) ?_)
   | ((with_reducible refine gate_callee (f := 11) rfl ?_); refine goesL_ (some 52) rfl rfl Try.func11 (by kernel_rfl) rfl #[.agg #[.int .i64 x1, .slice AX x2.length cX], .int .i64 1] rfl Gv.lm ?_; (with_reducible refine (laws_markWheel.own x1 _ _ _ _ x2 1 w _ HB.out RX.out).mono ?_); rintro e wn_ ⟨rfl, ho, hb, hk⟩; refine ⟨_, rfl, ?_⟩; replace HB := Gv.a0 hb; replace BKA := Gv.a0 (Mk.Row.box BKA.out hk (by decide)); replace BKW := Gv.a0 (Mk.Row.box BKW.out hk (by decide)); replace BKG := Gv.a0 (Mk.Row.box BKG.out hk (by decide)); replace RW := Gv.a0 (Mk.Row.kept RW.out RX.out hk (.inl DWX.out)); replace RG := Gv.a0 (Mk.Row.kept RG.out RX.out hk (.inr DXG.out)); clear ho hb hk RX BKX)
   | (go_at_call 10; (with_reducible refine (laws_eqWheel.calls k g1 _ _ g2 w1 _ _ w2 true _ (Mk.Row.reads RG.out).2.2 (Mk.Row.reads RG.out).2.1 (Mk.Row.reads RW.out).2.2 (Mk.Row.reads RW.out).2.1 A5.out).mono ?_); rintro e wn_ ⟨rfl, hb⟩; replace HB := Gv.a0 (below_step HB.out hb); replace BKA := Gv.a0 (blk_below BKA.out hb); replace BKW := Gv.a0 (blk_below BKW.out hb); replace BKG := Gv.a0 (blk_below BKG.out hb); replace RW := Gv.a0 (Mk.Row.below RW.out hb); replace RG := Gv.a0 (Mk.Row.below RG.out hb); clear hb; have TK_ := Gv.a0 trivial)
   | ((with_reducible refine gate_callee (f := 11) rfl ?_); refine goesL_ (some 68) rfl rfl Try.func11 (by kernel_rfl) rfl #[.agg #[.int .i64 g1, .slice AG g2.length cG], .int .i64 1] rfl Gv.lm ?_; (with_reducible refine (laws_markWheel.own g1 _ _ _ _ g2 1 w _ HB.out RG.out).mono ?_); rintro e wn_ ⟨rfl, ho, hb, hk⟩; refine ⟨_, rfl, ?_⟩; replace HB := Gv.a0 hb; replace BKA := Gv.a0 (Mk.Row.box BKA.out hk (by decide)); replace BKW := Gv.a0 (Mk.Row.box BKW.out hk (by decide)); replace BKG := Gv.a0 (Mk.Row.box BKG.out hk (by decide)); replace RW := Gv.a0 (Mk.Row.kept RW.out RG.out hk (.inl DWG.out)); replace RG := Gv.a0 ho; clear ho hb hk)
   | ((with_reducible refine gate_callee (f := 12) rfl ?_); refine goesL_ (some 71) rfl rfl Try.func12 (by kernel_rfl) rfl #[.agg #[.int .i64 g1, .slice AG g2.length cG], .int .i64 1] rfl Gv.lm ?_; (with_reducible refine (laws_heldWheel.own k g1 _ _ _ _ _ g2 (Mk.markP g2 1).1 1 (Mk.markP g2 1).2 _ (Mk.markP_len g2 1) RG.out A7.out).mono ?_); rintro e wn_ ⟨rfl, hb⟩; refine ⟨_, rfl, ?_⟩; replace HB := Gv.a0 (below_step HB.out hb); replace BKA := Gv.a0 (blk_below BKA.out hb); replace BKW := Gv.a0 (blk_below BKW.out hb); replace BKG := Gv.a0 (blk_below BKG.out hb); replace RW := Gv.a0 (Mk.Row.below RW.out hb); replace RG := Gv.a0 (Mk.Row.below RG.out hb); clear hb)
   | ((with_reducible refine gate_callee (f := 15) rfl ?_); refine goesL_ (some 79) rfl rfl Try.func15 (by kernel_rfl) rfl #[.agg #[.int .i64 a0_0, .slice A0_1 l0_1.length c0_1]] rfl Gv.lm ?_; (with_reducible refine (laws_toWheel.calls k a0_0 _ _ l0_1 x1 x2 _ (Kd.C_below HR.out HB.out) HC.out A2.out).mono ?_); rintro e wn_ ⟨v_, rfl, ho, hb⟩; refine ⟨_, rfl, ?_⟩; obtain ⟨AZ, cZ, rfl⟩ := Kd.S_slice ho; have rn_ := Gv.a0 (Mk.Row.new HB.out.size ho); replace HB := Gv.a0 (below_step HB.out hb); replace BKA := Gv.a0 (blk_below BKA.out hb); replace BKW := Gv.a0 (blk_below BKW.out hb); replace BKG := Gv.a0 (blk_below BKG.out hb); replace RW := Gv.a0 (Mk.Row.below RW.out hb); replace RG := Gv.a0 (Mk.Row.below RG.out hb); have RZ := rn_; clear ho hb rn_)
   | ((with_reducible refine gate_callee (f := 20) rfl ?_); refine goesL_ (some 81) rfl rfl Try.func20 (by kernel_rfl) rfl #[.agg #[.int .i64 x1, .slice AZ x2.length cZ], .int .i64 a1] rfl Gv.lm ?_; (with_reducible refine (impl_WheelDrop.calls k x1 _ _ x2 a1 g1 g2 w3 _ (Mk.Row.reads RZ.out).2.2 (Mk.Row.reads RZ.out).2.1 A4.out).mono ?_); rintro e wn_ ⟨v_, rfl, ho, hb⟩; refine ⟨_, rfl, ?_⟩; obtain ⟨AH, cH, rfl⟩ := Kd.S_slice ho; have rn_ := Gv.a0 (Mk.Row.new HB.out.size ho); clear RZ; replace HB := Gv.a0 (below_step HB.out hb); replace BKA := Gv.a0 (blk_below BKA.out hb); replace BKW := Gv.a0 (blk_below BKW.out hb); replace BKG := Gv.a0 (blk_below BKG.out hb); replace RW := Gv.a0 (Mk.Row.below RW.out hb); replace RG := Gv.a0 (Mk.Row.below RG.out hb); have RH := rn_; clear ho hb rn_)
   | ((with_reducible refine gate_dst (N := 14) rfl ?_); refine box_event ?hg (N := 14) ?hd (cs := #[.int .i64 0, .slice none 0 0]) (t := 24) ?hr ?_; (case hd => rfl); (case hg => rfl); (case hr => first | (go_simp; done) | (go_simp; rfl)); intro gbH hg wa_ hbox hb; have BKH := Gv.a0 hbox; have HA_ := Gv.a0 hb; have HG_ := Gv.a0 (Nat.le_of_eq hg.symm); clear hg hbox hb)
   | ((with_reducible refine gate_store (t := 24) (p := 14) rfl ?_); refine Gv.store_event (g := gbH) (cells := #[.int .i64 g1, .slice AH g2.length cH]) rfl rfl rfl rfl rfl BKH.out (by kernel_rfl) rfl (by simp; and_intros <;> rfl) ?_; intro wn_ hbox hoth hbel; have hb := hbel _ HA_.out HG_.out; replace HB := Gv.a0 (below_step HB.out hb); replace BKA := Gv.a0 (blk_below BKA.out hb); replace BKW := Gv.a0 (blk_below BKW.out hb); replace BKG := Gv.a0 (blk_below BKG.out hb); replace RW := Gv.a0 (Mk.Row.below RW.out hb); replace RG := Gv.a0 (Mk.Row.below RG.out hb); replace RH := Gv.a0 (Mk.Row.below RH.out hb); replace BKH := Gv.a0 hbox; clear hb hbox hoth hbel HA_ HG_)
   | ((with_reducible refine Gv.gate_load (t := 24) rfl ?_); (try (refine gate_guard (by rfl) ?_; dsimp only)); refine wpList_load_row rfl 24 _ rfl gbH rfl 24 _ _ _ BKH.out Try.underlying24 rfl (by kernel_rfl) ?_)
   | ((with_reducible refine gate_callee (f := 10) rfl ?_); refine goesL_ (some 86) rfl rfl Try.func10 (by kernel_rfl) rfl #[.agg #[.int .i64 g1, .slice AH g2.length cH], .agg #[.int .i64 w1, .slice AW w2.length cW]] rfl Gv.lm ?_; (with_reducible refine (laws_eqWheel.calls k g1 _ _ g2 w1 _ _ w2 true _ (Mk.Row.reads RH.out).2.2 (Mk.Row.reads RH.out).2.1 (Mk.Row.reads RW.out).2.2 (Mk.Row.reads RW.out).2.1 A5.out).mono ?_); rintro e wn_ ⟨rfl, hb⟩; refine ⟨_, rfl, ?_⟩; replace HB := Gv.a0 (below_step HB.out hb); replace BKA := Gv.a0 (blk_below BKA.out hb); replace BKW := Gv.a0 (blk_below BKW.out hb); replace BKG := Gv.a0 (blk_below BKG.out hb); replace BKH := Gv.a0 (blk_below BKH.out hb); replace RW := Gv.a0 (Mk.Row.below RW.out hb); replace RG := Gv.a0 (Mk.Row.below RG.out hb); replace RH := Gv.a0 (Mk.Row.below RH.out hb); clear hb)
   | ((with_reducible refine gate_callee (f := 12) rfl ?_); refine goesL_ (some 95) rfl rfl Try.func12 (by kernel_rfl) rfl #[.agg #[.int .i64 g1, .slice AG g2.length cG], .int .i64 1] rfl Gv.lm ?_; (with_reducible refine (laws_heldWheel.own k g1 _ _ _ _ _ g2 (Mk.markP g2 1).1 1 (Mk.markP g2 1).2 _ (Mk.markP_len g2 1) RG.out A7.out).mono ?_); rintro e wn_ ⟨rfl, hb⟩; refine ⟨_, rfl, ?_⟩; replace HB := Gv.a0 (below_step HB.out hb); replace BKA := Gv.a0 (blk_below BKA.out hb); replace BKW := Gv.a0 (blk_below BKW.out hb); replace BKG := Gv.a0 (blk_below BKG.out hb); replace BKH := Gv.a0 (blk_below BKH.out hb); replace RW := Gv.a0 (Mk.Row.below RW.out hb); replace RG := Gv.a0 (Mk.Row.below RG.out hb); replace RH := Gv.a0 (Mk.Row.below RH.out hb); clear hb))
 go_ret
 exact ⟨rfl, HB.out⟩

end Go.Proofs.Ytbfbfaoolkbodaa.PWd
