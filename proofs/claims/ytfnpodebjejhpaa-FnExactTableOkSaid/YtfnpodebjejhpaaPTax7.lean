/- Plain Lean functions of a law's Go functions, their contracts, by a program of this session (wip/pr.py over the kit's print). -/
import Derived.Test.YtfnpodebjejhpaaPTax0
import Derived.Test.YtfnpodebjejhpaaPTax1
import Derived.Test.YtfnpodebjejhpaaPTax2
import Derived.Test.YtfnpodebjejhpaaPTax3
import Derived.Test.YtfnpodebjejhpaaPTax5
import Derived.Test.YtfnpodebjejhpaaPTax6
namespace Go.Proofs.Ytfnpodebjejhpaa.PTa
open Go.RowKit Go.Proofs.YtfnpodebjejhpaaW.PrintWords Go.Proofs.YtfnpodebjejhpaaW.PrintLast Go.Proofs.YtfnpodebjejhpaaW.PrintMore
attribute [local go_sem] max2_int min2_int max_two min_two max_three min_three max_four min_four   -- for this text's walks alone
set_option linter.unusedVariables false
set_option linter.unusedSimpArgs false

attribute [local go_sem high] eqA33 eqA75
/-! ### impl_Table_probe: function 58 -/
def impl_Table_probe.l0 : Nat → Int → Int → Int → Int → Int → List (S75) → Int → Int → Int → Int → Int → Int → Int → Int → Int → Int → Int → Int → Int → Int → Option (Int)
 | 0, _, _, _, _, _, _, _, _, _, _, _, _, _, _, _, _, _, _, _, _ => none
 | k + 1, x5, x6, x18, x19, x407000, x407001, x408000, x408001, x408002, x408003, x408004, x408005, x408006, x408007, x408008, x408009, x408010, x408011, x408012, x408013 => if x19 < x18 then (if x5 = 0 then (none) else (if 0 ≤ (Int.tmod (wrap64 (x6 + x19)) x5) then (if (Int.tmod (wrap64 (x6 + x19)) x5) < (x407001.length : Int) then (if ((rd_T75 x407001 (Int.tmod (wrap64 (x6 + x19)) x5)).f0 = true) then (if (((rd_T75 x407001 (Int.tmod (wrap64 (x6 + x19)) x5)).f1.f0) == x408000 && (((((rd_T75 x407001 (Int.tmod (wrap64 (x6 + x19)) x5)).f1.f1.f0.f0) == x408001 && (((rd_T75 x407001 (Int.tmod (wrap64 (x6 + x19)) x5)).f1.f1.f0.f1) == x408002 && (((rd_T75 x407001 (Int.tmod (wrap64 (x6 + x19)) x5)).f1.f1.f0.f2) == x408003 && (((rd_T75 x407001 (Int.tmod (wrap64 (x6 + x19)) x5)).f1.f1.f0.f3) == x408004 && (((rd_T75 x407001 (Int.tmod (wrap64 (x6 + x19)) x5)).f1.f1.f0.f4) == x408005))))) && ((((rd_T75 x407001 (Int.tmod (wrap64 (x6 + x19)) x5)).f1.f1.f1.f0) == x408006 && (((rd_T75 x407001 (Int.tmod (wrap64 (x6 + x19)) x5)).f1.f1.f1.f1) == x408007 && (((rd_T75 x407001 (Int.tmod (wrap64 (x6 + x19)) x5)).f1.f1.f1.f2) == x408008 && (((rd_T75 x407001 (Int.tmod (wrap64 (x6 + x19)) x5)).f1.f1.f1.f3) == x408009 && (((rd_T75 x407001 (Int.tmod (wrap64 (x6 + x19)) x5)).f1.f1.f1.f4) == x408010))))) && (((rd_T75 x407001 (Int.tmod (wrap64 (x6 + x19)) x5)).f1.f1.f2) == x408011 && (((rd_T75 x407001 (Int.tmod (wrap64 (x6 + x19)) x5)).f1.f1.f3) == x408012 && (((rd_T75 x407001 (Int.tmod (wrap64 (x6 + x19)) x5)).f1.f1.f4) == x408013))))))) = true then (some (Int.tmod (wrap64 (x6 + x19)) x5)) else (impl_Table_probe.l0 k x5 x6 x18 (wrap64 (x19 + 1)) x407000 x407001 x408000 x408001 x408002 x408003 x408004 x408005 x408006 x408007 x408008 x408009 x408010 x408011 x408012 x408013)) else (some (Int.tmod (wrap64 (x6 + x19)) x5))) else (none)) else (none))) else (some (-1))
def impl_Table_probe.f (k : Nat) (a0_0 : Int) (l0_1 : List (S75)) (a1_0 : Int) (a1_1 : Int) (a1_2 : Int) (a1_3 : Int) (a1_4 : Int) (a1_5 : Int) (a1_6 : Int) (a1_7 : Int) (a1_8 : Int) (a1_9 : Int) (a1_10 : Int) (a1_11 : Int) (a1_12 : Int) (a1_13 : Int) : Option (Int) := (impl_hashOf.f k a0_0 a1_0 a1_1 a1_2 a1_3 a1_4 a1_5 a1_6 a1_7 a1_8 a1_9 a1_10 a1_11 a1_12 a1_13).bind fun t408 => (if (l0_1.length : Int) = 0 then (none) else (impl_Table_probe.l0 k (l0_1.length : Int) (Int.tmod t408 (l0_1.length : Int)) (l0_1.length : Int) 0 a0_0 l0_1 a1_0 a1_1 a1_2 a1_3 a1_4 a1_5 a1_6 a1_7 a1_8 a1_9 a1_10 a1_11 a1_12 a1_13))
theorem impl_Table_probe.mono_l : ∀ k, (∀ y0 y1 y2 y3 y4 y5 y6 y7 y8 y9 y10 y11 y12 y13 y14 y15 y16 y17 y18 y19, LeO (impl_Table_probe.l0 k y0 y1 y2 y3 y4 y5 y6 y7 y8 y9 y10 y11 y12 y13 y14 y15 y16 y17 y18 y19) (impl_Table_probe.l0 (k + 1) y0 y1 y2 y3 y4 y5 y6 y7 y8 y9 y10 y11 y12 y13 y14 y15 y16 y17 y18 y19))
 | 0 => fun _ _ _ _ _ _ _ _ _ _ _ _ _ _ _ _ _ _ _ _ r h => by simp [impl_Table_probe.l0] at h
 | k + 1 => by
  have ih0 := impl_Table_probe.mono_l k
  ·intro y0 y1 y2 y3 y4 y5 y6 y7 y8 y9 y10 y11 y12 y13 y14 y15 y16 y17 y18 y19
   unfold impl_Table_probe.l0
   repeat' first
   | (with_reducible exact ih0 _ _ _ _ _ _ _ _ _ _ _ _ _ _ _ _ _ _ _ _)
   | (with_reducible exact impl_hashOf.mono _ _ _ _ _ _ _ _ _ _ _ _ _ _ _ _)
   | (with_reducible exact LeO.refl _)
   | (with_reducible exact LeO.none _)
   | (with_reducible refine LeO.ite ?_ ?_)
   | (with_reducible refine LeO.bind ?_ (fun _ => ?_))
   | exact ih0 _ _ _ _ _ _ _ _ _ _ _ _ _ _ _ _ _ _ _ _
   | exact impl_hashOf.mono _ _ _ _ _ _ _ _ _ _ _ _ _ _ _ _
   | exact LeO.none _
   | refine LeO.ite ?_ ?_
   | refine LeO.bind ?_ (fun _ => ?_)
theorem impl_Table_probe.mono : ∀ a0 a1 a2 a3 a4 a5 a6 a7 a8 a9 a10 a11 a12 a13 a14 a15 k, LeO (impl_Table_probe.f k a0 a1 a2 a3 a4 a5 a6 a7 a8 a9 a10 a11 a12 a13 a14 a15) (impl_Table_probe.f (k + 1) a0 a1 a2 a3 a4 a5 a6 a7 a8 a9 a10 a11 a12 a13 a14 a15) := by
 intro a0 a1 a2 a3 a4 a5 a6 a7 a8 a9 a10 a11 a12 a13 a14 a15 k
 have ih0 := impl_Table_probe.mono_l k
 unfold impl_Table_probe.f
 repeat' first
   | (with_reducible exact ih0 _ _ _ _ _ _ _ _ _ _ _ _ _ _ _ _ _ _ _ _)
   | (with_reducible exact impl_hashOf.mono _ _ _ _ _ _ _ _ _ _ _ _ _ _ _ _)
   | (with_reducible exact LeO.refl _)
   | (with_reducible exact LeO.none _)
   | (with_reducible refine LeO.ite ?_ ?_)
   | (with_reducible refine LeO.bind ?_ (fun _ => ?_))
   | exact ih0 _ _ _ _ _ _ _ _ _ _ _ _ _ _ _ _ _ _ _ _
   | exact impl_hashOf.mono _ _ _ _ _ _ _ _ _ _ _ _ _ _ _ _
   | exact LeO.none _
   | refine LeO.ite ?_ ?_
   | refine LeO.bind ?_ (fun _ => ?_)
set_option maxHeartbeats 8000000 in
set_option maxRecDepth 100000 in
theorem impl_Table_probe.calls (k : Nat) (a0_0 : Int) (A0_1 : Option Addr) (c0_1 : Nat) (l0_1 : List (S75)) (a1_0 : Int) (a1_1 : Int) (a1_2 : Int) (a1_3 : Int) (a1_4 : Int) (a1_5 : Int) (a1_6 : Int) (a1_7 : Int) (a1_8 : Int) (a1_9 : Int) (a1_10 : Int) (a1_11 : Int) (a1_12 : Int) (a1_13 : Int) (r : Int) (w : World) (hr0_1 : Kd.C k75 w A0_1 l0_1.length l0_1) (hc0_1 : l0_1.length ≤ c0_1) (h : impl_Table_probe.f k a0_0 l0_1 a1_0 a1_1 a1_2 a1_3 a1_4 a1_5 a1_6 a1_7 a1_8 a1_9 a1_10 a1_11 a1_12 a1_13 = some r) :
  Calls Try.prog 58 #[.agg #[.int .i64 a0_0, .slice A0_1 l0_1.length c0_1], .agg #[.int .i64 a1_0, .int .i64 a1_1, .int .i64 a1_2, .int .i64 a1_3, .int .i64 a1_4, .int .i64 a1_5, .int .i64 a1_6, .int .i64 a1_7, .int .i64 a1_8, .int .i64 a1_9, .int .i64 a1_10, .int .i64 a1_11, .int .i64 a1_12, .int .i64 a1_13]] w fun e w' => e = .returned (.int .i64 r) ∧ Below w.heap.size w w' := by
 have hu40 := Try.underlying40
 have hu33 := Try.underlying33
 have HR0_1 := Gv.a0 hr0_1
 have HC0_1 := Gv.a0 hc0_1
 clear hr0_1 hc0_1
 have HB := Gv.a0 (Below.refl w.heap.size w)
 have H : ((impl_hashOf.f k a0_0 a1_0 a1_1 a1_2 a1_3 a1_4 a1_5 a1_6 a1_7 a1_8 a1_9 a1_10 a1_11 a1_12 a1_13).bind fun t408 => (if (l0_1.length : Int) = 0 then (none) else (impl_Table_probe.l0 k (l0_1.length : Int) (Int.tmod t408 (l0_1.length : Int)) (l0_1.length : Int) 0 a0_0 l0_1 a1_0 a1_1 a1_2 a1_3 a1_4 a1_5 a1_6 a1_7 a1_8 a1_9 a1_10 a1_11 a1_12 a1_13))) = some r := h
 clear h
 replace H := Option.bind_eq_some_iff.mp H
 obtain ⟨t408, A30, H⟩ := H
 replace H : (if (l0_1.length : Int) = 0 then (none) else (impl_Table_probe.l0 k (l0_1.length : Int) (Int.tmod t408 (l0_1.length : Int)) (l0_1.length : Int) 0 a0_0 l0_1 a1_0 a1_1 a1_2 a1_3 a1_4 a1_5 a1_6 a1_7 a1_8 a1_9 a1_10 a1_11 a1_12 a1_13)) = some r := H
 have A3 := Gv.a0 A30
 clear A30
 by_cases c4 : (l0_1.length : Int) = 0
 ·rw [if_pos c4] at H
  exact absurd H (by simp)
 ·rw [if_neg c4] at H
  have c4b0 : ((l0_1.length : Int) == 0) = false := beq_eq_false_iff_ne.mpr c4
  have c4b1 : ((l0_1.length : Int) != 0) = true := bne_iff_ne.mpr c4
  have c4b2 : ¬ (l0_1 = []) := fun h_ => c4 (by rw [h_]; rfl)
  have H' := Gv.a0 H
  clear H
  go_enter Try.func58, Try.ntmps58
  go_wp2_with (first | ((with_reducible refine gate_dst (N := 2) rfl ?_); refine box_event ?hg (N := 2) ?hd (cs := #[.int .i64 a0_0, .slice A0_1 l0_1.length c0_1]) (t := 40) ?hr ?_; (case hd => rfl); (case hg => rfl); (case hr => first | (go_simp; done) | (go_simp; rfl)); intro gb406 hg w5 hbox hb; have n0_ := Gv.a0 (below_step Gv.bw hb); have n1_ := Gv.a0 (hbox); have n2_ := Gv.a0 ((Gv.ble hg Gv.bw : w.heap.size ≤ gb406)); have n3_ := Gv.a0 ((Gv.ble hg Gv.bw : w.heap.size ≤ gb406)); clear HB; have HB := n0_; have BK406 := n1_; have GW406 := n2_; have GE406 := n3_; clear n0_ n1_ n2_ n3_; clear hb hbox hg) | ((with_reducible refine gate_dst (N := 3) rfl ?_); refine box_event ?hg (N := 3) ?hd (cs := #[.int .i64 a1_0, .int .i64 a1_1, .int .i64 a1_2, .int .i64 a1_3, .int .i64 a1_4, .int .i64 a1_5, .int .i64 a1_6, .int .i64 a1_7, .int .i64 a1_8, .int .i64 a1_9, .int .i64 a1_10, .int .i64 a1_11, .int .i64 a1_12, .int .i64 a1_13]) (t := 33) ?hr ?_; (case hd => rfl); (case hg => rfl); (case hr => first | (go_simp; done) | (go_simp; rfl)); intro gb407 hg w6 hbox hb; have n0_ := Gv.a0 (Gv.bb BK406.out hb); have n1_ := Gv.a0 (below_step Gv.bw hb); have n2_ := Gv.a0 (hbox); have n3_ := Gv.a0 ((Gv.ble hg Gv.bw : w.heap.size ≤ gb407)); have n4_ := Gv.a0 ((Gv.ble hg Gv.bw : w.heap.size ≤ gb407)); have n5_ := Gv.a0 ((Gv.nlt hg (Gv.kb BK406.out) : gb406 ≠ gb407)); have n6_ := Gv.a0 ((Gv.ngt hg (Gv.kb BK406.out) : gb407 ≠ gb406)); clear BK406; clear HB; have BK406 := n0_; have HB := n1_; have BK407 := n2_; have GW407 := n3_; have GE407 := n4_; have NB406_407 := n5_; have NB407_406 := n6_; clear n0_ n1_ n2_ n3_ n4_ n5_ n6_; clear hb hbox hg; have hnb7 := NB406_407.out; have hnc7 := NB407_406.out; have hcz8_0 : w6.cell? ⟨gb406, 0, none⟩ = some (.int .i64 a0_0) := (blk_cell BK406.out 0).trans rfl; have hcz8_1 : w6.cell? ⟨gb406, 1, none⟩ = some (.slice A0_1 l0_1.length c0_1) := (blk_cell BK406.out 1).trans rfl; have hfz8_0 := blk_frozen BK406.out 0; have hfz8_1 := blk_frozen BK406.out 1; obtain ⟨hcz9_0, hcz9_1, hcz9_2, hcz9_3, hcz9_4, hcz9_5, hcz9_6, hcz9_7, hcz9_8, hcz9_9, hcz9_10, hcz9_11, hcz9_12, hcz9_13⟩ := Gv.c14 BK407.out; obtain ⟨hfz9_0, hfz9_1, hfz9_2, hfz9_3, hfz9_4, hfz9_5, hfz9_6, hfz9_7, hfz9_8, hfz9_9, hfz9_10, hfz9_11, hfz9_12, hfz9_13⟩ := Gv.f14 BK407.out) | (go_at_call 47; (with_reducible refine (impl_hashOf.calls k a0_0 a1_0 a1_1 a1_2 a1_3 a1_4 a1_5 a1_6 a1_7 a1_8 a1_9 a1_10 a1_11 a1_12 a1_13 t408 _ A3.out).mono ?_); rintro e w10 ⟨rfl, hb⟩; have n0_ := Gv.a0 (Gv.bb BK406.out hb); have n1_ := Gv.a0 (Gv.bb BK407.out hb); have n2_ := Gv.a0 (below_step Gv.bw hb); clear BK406; clear BK407; clear HB; have BK406 := n0_; have BK407 := n1_; have HB := n2_; clear n0_ n1_ n2_; (try clear hb); (try clear hb2); (try clear hk); (try clear hi)))
  repeat (go_quiet (first | ((with_reducible refine gate_dst (N := 2) rfl ?_); refine box_event ?hg (N := 2) ?hd (cs := #[.int .i64 a0_0, .slice A0_1 l0_1.length c0_1]) (t := 40) ?hr ?_; (case hd => rfl); (case hg => rfl); (case hr => first | (go_simp; done) | (go_simp; rfl)); intro gb406 hg w5 hbox hb; have n0_ := Gv.a0 (below_step Gv.bw hb); have n1_ := Gv.a0 (hbox); have n2_ := Gv.a0 ((Gv.ble hg Gv.bw : w.heap.size ≤ gb406)); have n3_ := Gv.a0 ((Gv.ble hg Gv.bw : w.heap.size ≤ gb406)); clear HB; have HB := n0_; have BK406 := n1_; have GW406 := n2_; have GE406 := n3_; clear n0_ n1_ n2_ n3_; clear hb hbox hg) | ((with_reducible refine gate_dst (N := 3) rfl ?_); refine box_event ?hg (N := 3) ?hd (cs := #[.int .i64 a1_0, .int .i64 a1_1, .int .i64 a1_2, .int .i64 a1_3, .int .i64 a1_4, .int .i64 a1_5, .int .i64 a1_6, .int .i64 a1_7, .int .i64 a1_8, .int .i64 a1_9, .int .i64 a1_10, .int .i64 a1_11, .int .i64 a1_12, .int .i64 a1_13]) (t := 33) ?hr ?_; (case hd => rfl); (case hg => rfl); (case hr => first | (go_simp; done) | (go_simp; rfl)); intro gb407 hg w6 hbox hb; have n0_ := Gv.a0 (Gv.bb BK406.out hb); have n1_ := Gv.a0 (below_step Gv.bw hb); have n2_ := Gv.a0 (hbox); have n3_ := Gv.a0 ((Gv.ble hg Gv.bw : w.heap.size ≤ gb407)); have n4_ := Gv.a0 ((Gv.ble hg Gv.bw : w.heap.size ≤ gb407)); have n5_ := Gv.a0 ((Gv.nlt hg (Gv.kb BK406.out) : gb406 ≠ gb407)); have n6_ := Gv.a0 ((Gv.ngt hg (Gv.kb BK406.out) : gb407 ≠ gb406)); clear BK406; clear HB; have BK406 := n0_; have HB := n1_; have BK407 := n2_; have GW407 := n3_; have GE407 := n4_; have NB406_407 := n5_; have NB407_406 := n6_; clear n0_ n1_ n2_ n3_ n4_ n5_ n6_; clear hb hbox hg; have hnb7 := NB406_407.out; have hnc7 := NB407_406.out; have hcz8_0 : w6.cell? ⟨gb406, 0, none⟩ = some (.int .i64 a0_0) := (blk_cell BK406.out 0).trans rfl; have hcz8_1 : w6.cell? ⟨gb406, 1, none⟩ = some (.slice A0_1 l0_1.length c0_1) := (blk_cell BK406.out 1).trans rfl; have hfz8_0 := blk_frozen BK406.out 0; have hfz8_1 := blk_frozen BK406.out 1; obtain ⟨hcz9_0, hcz9_1, hcz9_2, hcz9_3, hcz9_4, hcz9_5, hcz9_6, hcz9_7, hcz9_8, hcz9_9, hcz9_10, hcz9_11, hcz9_12, hcz9_13⟩ := Gv.c14 BK407.out; obtain ⟨hfz9_0, hfz9_1, hfz9_2, hfz9_3, hfz9_4, hfz9_5, hfz9_6, hfz9_7, hfz9_8, hfz9_9, hfz9_10, hfz9_11, hfz9_12, hfz9_13⟩ := Gv.f14 BK407.out) | (go_at_call 47; (with_reducible refine (impl_hashOf.calls k a0_0 a1_0 a1_1 a1_2 a1_3 a1_4 a1_5 a1_6 a1_7 a1_8 a1_9 a1_10 a1_11 a1_12 a1_13 t408 _ A3.out).mono ?_); rintro e w10 ⟨rfl, hb⟩; have n0_ := Gv.a0 (Gv.bb BK406.out hb); have n1_ := Gv.a0 (Gv.bb BK407.out hb); have n2_ := Gv.a0 (below_step Gv.bw hb); clear BK406; clear BK407; clear HB; have BK406 := n0_; have BK407 := n1_; have HB := n2_; clear n0_ n1_ n2_; (try clear hb); (try clear hb2); (try clear hk); (try clear hi))); try go_wp2_with (first | ((with_reducible refine gate_dst (N := 2) rfl ?_); refine box_event ?hg (N := 2) ?hd (cs := #[.int .i64 a0_0, .slice A0_1 l0_1.length c0_1]) (t := 40) ?hr ?_; (case hd => rfl); (case hg => rfl); (case hr => first | (go_simp; done) | (go_simp; rfl)); intro gb406 hg w5 hbox hb; have n0_ := Gv.a0 (below_step Gv.bw hb); have n1_ := Gv.a0 (hbox); have n2_ := Gv.a0 ((Gv.ble hg Gv.bw : w.heap.size ≤ gb406)); have n3_ := Gv.a0 ((Gv.ble hg Gv.bw : w.heap.size ≤ gb406)); clear HB; have HB := n0_; have BK406 := n1_; have GW406 := n2_; have GE406 := n3_; clear n0_ n1_ n2_ n3_; clear hb hbox hg) | ((with_reducible refine gate_dst (N := 3) rfl ?_); refine box_event ?hg (N := 3) ?hd (cs := #[.int .i64 a1_0, .int .i64 a1_1, .int .i64 a1_2, .int .i64 a1_3, .int .i64 a1_4, .int .i64 a1_5, .int .i64 a1_6, .int .i64 a1_7, .int .i64 a1_8, .int .i64 a1_9, .int .i64 a1_10, .int .i64 a1_11, .int .i64 a1_12, .int .i64 a1_13]) (t := 33) ?hr ?_; (case hd => rfl); (case hg => rfl); (case hr => first | (go_simp; done) | (go_simp; rfl)); intro gb407 hg w6 hbox hb; have n0_ := Gv.a0 (Gv.bb BK406.out hb); have n1_ := Gv.a0 (below_step Gv.bw hb); have n2_ := Gv.a0 (hbox); have n3_ := Gv.a0 ((Gv.ble hg Gv.bw : w.heap.size ≤ gb407)); have n4_ := Gv.a0 ((Gv.ble hg Gv.bw : w.heap.size ≤ gb407)); have n5_ := Gv.a0 ((Gv.nlt hg (Gv.kb BK406.out) : gb406 ≠ gb407)); have n6_ := Gv.a0 ((Gv.ngt hg (Gv.kb BK406.out) : gb407 ≠ gb406)); clear BK406; clear HB; have BK406 := n0_; have HB := n1_; have BK407 := n2_; have GW407 := n3_; have GE407 := n4_; have NB406_407 := n5_; have NB407_406 := n6_; clear n0_ n1_ n2_ n3_ n4_ n5_ n6_; clear hb hbox hg; have hnb7 := NB406_407.out; have hnc7 := NB407_406.out; have hcz8_0 : w6.cell? ⟨gb406, 0, none⟩ = some (.int .i64 a0_0) := (blk_cell BK406.out 0).trans rfl; have hcz8_1 : w6.cell? ⟨gb406, 1, none⟩ = some (.slice A0_1 l0_1.length c0_1) := (blk_cell BK406.out 1).trans rfl; have hfz8_0 := blk_frozen BK406.out 0; have hfz8_1 := blk_frozen BK406.out 1; obtain ⟨hcz9_0, hcz9_1, hcz9_2, hcz9_3, hcz9_4, hcz9_5, hcz9_6, hcz9_7, hcz9_8, hcz9_9, hcz9_10, hcz9_11, hcz9_12, hcz9_13⟩ := Gv.c14 BK407.out; obtain ⟨hfz9_0, hfz9_1, hfz9_2, hfz9_3, hfz9_4, hfz9_5, hfz9_6, hfz9_7, hfz9_8, hfz9_9, hfz9_10, hfz9_11, hfz9_12, hfz9_13⟩ := Gv.f14 BK407.out) | (go_at_call 47; (with_reducible refine (impl_hashOf.calls k a0_0 a1_0 a1_1 a1_2 a1_3 a1_4 a1_5 a1_6 a1_7 a1_8 a1_9 a1_10 a1_11 a1_12 a1_13 t408 _ A3.out).mono ?_); rintro e w10 ⟨rfl, hb⟩; have n0_ := Gv.a0 (Gv.bb BK406.out hb); have n1_ := Gv.a0 (Gv.bb BK407.out hb); have n2_ := Gv.a0 (below_step Gv.bw hb); clear BK406; clear BK407; clear HB; have BK406 := n0_; have BK407 := n1_; have HB := n2_; clear n0_ n1_ n2_; (try clear hb); (try clear hb2); (try clear hk); (try clear hi))))
  go_loopg [19] k (fun kq v19 w' => ∃ (x19_1 : Int), v19 = .int .i64 x19_1 ∧ Aside0 (impl_Table_probe.l0 kq (l0_1.length : Int) (Int.tmod t408 (l0_1.length : Int)) (l0_1.length : Int) x19_1 a0_0 l0_1 a1_0 a1_1 a1_2 a1_3 a1_4 a1_5 a1_6 a1_7 a1_8 a1_9 a1_10 a1_11 a1_12 a1_13 = some r) ∧ Aside0 (kq ≤ k) ∧ Aside0 (w'.heap[gb406]? = some (.cells #[.int .i64 a0_0, (.slice A0_1 l0_1.length c0_1)] 40 (0, 0))) ∧ Aside0 (w'.heap[gb407]? = some (.cells #[.int .i64 a1_0, .int .i64 a1_1, .int .i64 a1_2, .int .i64 a1_3, .int .i64 a1_4, .int .i64 a1_5, .int .i64 a1_6, .int .i64 a1_7, .int .i64 a1_8, .int .i64 a1_9, .int .i64 a1_10, .int .i64 a1_11, .int .i64 a1_12, .int .i64 a1_13] 33 (0, 0))) ∧ Aside0 (Below w.heap.size w w'))
  case atStart => exact ⟨(0), (by first | rfl | (simp; done) | (simp [Int.tdiv_eq_ediv_of_nonneg]; done) | (simp [*]; done)), H', ⟨Nat.le_refl _⟩, ⟨by (with_reducible repeat (first | refine blk_drewN ?_ _ | refine blk_drew ?_ | refine blk_alloc ?_ _)); exact BK406.out⟩, ⟨by (with_reducible repeat (first | refine blk_drewN ?_ _ | refine blk_drew ?_ | refine blk_alloc ?_ _)); exact BK407.out⟩, ⟨by repeat (first | (with_reducible first | exact HB.out | apply below_alloc | apply pw_below_drewN | apply below_drew1 | refine below_set ?_ GE406.out | refine below_set ?_ GE407.out) | exact HB.out)⟩⟩
  case round =>
   clear H'
   try clear p2
   try clear c4
   try clear c4b0
   try clear c4b1
   try clear c4b2
   try clear c5
   try clear c7
   try clear hcz8_0 hcz8_1
   try clear hcz9_0 hcz9_1
   try clear hcz9_10 hcz9_11 hcz9_12 hcz9_13
   try clear hcz9_2 hcz9_3 hcz9_4 hcz9_5 hcz9_6 hcz9_7 hcz9_8 hcz9_9
   try clear hfz8_0 hfz8_1
   try clear hfz9_0 hfz9_1
   try clear hfz9_10 hfz9_11 hfz9_12 hfz9_13
   try clear hfz9_2 hfz9_3 hfz9_4 hfz9_5 hfz9_6 hfz9_7 hfz9_8 hfz9_9
   obtain ⟨x19_1, rfl, HA, HK1, BK406, BK407, HB⟩ := hrel
   cases gk with
   | zero => exact absurd HA.out (by simp [impl_Table_probe.l0])
   | succ k1 =>
    have H := HA.out
    clear HA
    simp only [impl_Table_probe.l0] at H
    by_cases c11 : x19_1 < (l0_1.length : Int)
    ·rw [if_pos c11] at H
     have c11b0 : decide (x19_1 < (l0_1.length : Int)) = true := decide_eq_true c11
     clear c11
     by_cases c12 : (l0_1.length : Int) = 0
     ·rw [if_pos c12] at H
      exact absurd H (by simp)
     ·rw [if_neg c12] at H
      have c12b0 : ((l0_1.length : Int) == 0) = false := beq_eq_false_iff_ne.mpr c12
      have c12b1 : ((l0_1.length : Int) != 0) = true := bne_iff_ne.mpr c12
      have c12b2 : ¬ (l0_1 = []) := fun h_ => c12 (by rw [h_]; rfl)
      obtain ⟨ji13, hji13⟩ : ∃ j_ : Int, (Int.tmod (wrap64 ((Int.tmod t408 (l0_1.length : Int)) + x19_1)) (l0_1.length : Int)) = j_ := ⟨_, rfl⟩
      replace H : (if 0 ≤ (ji13) then (if (ji13) < (l0_1.length : Int) then (if ((rd_T75 l0_1 (ji13)).f0 = true) then (if (((rd_T75 l0_1 (ji13)).f1.f0) == a1_0 && (((((rd_T75 l0_1 (ji13)).f1.f1.f0.f0) == a1_1 && (((rd_T75 l0_1 (ji13)).f1.f1.f0.f1) == a1_2 && (((rd_T75 l0_1 (ji13)).f1.f1.f0.f2) == a1_3 && (((rd_T75 l0_1 (ji13)).f1.f1.f0.f3) == a1_4 && (((rd_T75 l0_1 (ji13)).f1.f1.f0.f4) == a1_5))))) && ((((rd_T75 l0_1 (ji13)).f1.f1.f1.f0) == a1_6 && (((rd_T75 l0_1 (ji13)).f1.f1.f1.f1) == a1_7 && (((rd_T75 l0_1 (ji13)).f1.f1.f1.f2) == a1_8 && (((rd_T75 l0_1 (ji13)).f1.f1.f1.f3) == a1_9 && (((rd_T75 l0_1 (ji13)).f1.f1.f1.f4) == a1_10))))) && (((rd_T75 l0_1 (ji13)).f1.f1.f2) == a1_11 && (((rd_T75 l0_1 (ji13)).f1.f1.f3) == a1_12 && (((rd_T75 l0_1 (ji13)).f1.f1.f4) == a1_13))))))) = true then (some ji13) else (impl_Table_probe.l0 k1 (l0_1.length : Int) (Int.tmod t408 (l0_1.length : Int)) (l0_1.length : Int) (wrap64 (x19_1 + 1)) a0_0 l0_1 a1_0 a1_1 a1_2 a1_3 a1_4 a1_5 a1_6 a1_7 a1_8 a1_9 a1_10 a1_11 a1_12 a1_13)) else (some ji13)) else (none)) else (none)) = some r := by first | (rw [hji13] at H; exact H) | (simp only [hji13] at H ⊢; exact H)
      by_cases c14 : 0 ≤ (ji13)
      ·rw [if_pos c14] at H
       have c14b0 : decide (0 ≤ (ji13)) = true := decide_eq_true c14
       clear c14
       by_cases c15 : (ji13) < (l0_1.length : Int)
       ·rw [if_pos c15] at H
        have c15b0 : decide ((ji13) < (l0_1.length : Int)) = true := decide_eq_true c15
        clear c15
        obtain ⟨bq16, hbq16⟩ : ∃ b_ : Bool, b_ = ((rd_T75 l0_1 (ji13)).f0) := ⟨_, rfl⟩
        replace H : (if (bq16 = true) then (if (((rd_T75 l0_1 (ji13)).f1.f0) == a1_0 && (((((rd_T75 l0_1 (ji13)).f1.f1.f0.f0) == a1_1 && (((rd_T75 l0_1 (ji13)).f1.f1.f0.f1) == a1_2 && (((rd_T75 l0_1 (ji13)).f1.f1.f0.f2) == a1_3 && (((rd_T75 l0_1 (ji13)).f1.f1.f0.f3) == a1_4 && (((rd_T75 l0_1 (ji13)).f1.f1.f0.f4) == a1_5))))) && ((((rd_T75 l0_1 (ji13)).f1.f1.f1.f0) == a1_6 && (((rd_T75 l0_1 (ji13)).f1.f1.f1.f1) == a1_7 && (((rd_T75 l0_1 (ji13)).f1.f1.f1.f2) == a1_8 && (((rd_T75 l0_1 (ji13)).f1.f1.f1.f3) == a1_9 && (((rd_T75 l0_1 (ji13)).f1.f1.f1.f4) == a1_10))))) && (((rd_T75 l0_1 (ji13)).f1.f1.f2) == a1_11 && (((rd_T75 l0_1 (ji13)).f1.f1.f3) == a1_12 && (((rd_T75 l0_1 (ji13)).f1.f1.f4) == a1_13))))))) = true then (some ji13) else (impl_Table_probe.l0 k1 (l0_1.length : Int) (Int.tmod t408 (l0_1.length : Int)) (l0_1.length : Int) (wrap64 (x19_1 + 1)) a0_0 l0_1 a1_0 a1_1 a1_2 a1_3 a1_4 a1_5 a1_6 a1_7 a1_8 a1_9 a1_10 a1_11 a1_12 a1_13)) else (some ji13)) = some r := by rw [← hbq16] at H; exact H
        have Nbq16 := Gv.a0 hbq16
        clear hbq16
        by_cases c17 : (bq16 = true)
        ·subst c17
         have H1 : (if (((rd_T75 l0_1 (ji13)).f1.f0) == a1_0 && (((((rd_T75 l0_1 (ji13)).f1.f1.f0.f0) == a1_1 && (((rd_T75 l0_1 (ji13)).f1.f1.f0.f1) == a1_2 && (((rd_T75 l0_1 (ji13)).f1.f1.f0.f2) == a1_3 && (((rd_T75 l0_1 (ji13)).f1.f1.f0.f3) == a1_4 && (((rd_T75 l0_1 (ji13)).f1.f1.f0.f4) == a1_5))))) && ((((rd_T75 l0_1 (ji13)).f1.f1.f1.f0) == a1_6 && (((rd_T75 l0_1 (ji13)).f1.f1.f1.f1) == a1_7 && (((rd_T75 l0_1 (ji13)).f1.f1.f1.f2) == a1_8 && (((rd_T75 l0_1 (ji13)).f1.f1.f1.f3) == a1_9 && (((rd_T75 l0_1 (ji13)).f1.f1.f1.f4) == a1_10))))) && (((rd_T75 l0_1 (ji13)).f1.f1.f2) == a1_11 && (((rd_T75 l0_1 (ji13)).f1.f1.f3) == a1_12 && (((rd_T75 l0_1 (ji13)).f1.f1.f4) == a1_13))))))) = true then (some ji13) else (impl_Table_probe.l0 k1 (l0_1.length : Int) (Int.tmod t408 (l0_1.length : Int)) (l0_1.length : Int) (wrap64 (x19_1 + 1)) a0_0 l0_1 a1_0 a1_1 a1_2 a1_3 a1_4 a1_5 a1_6 a1_7 a1_8 a1_9 a1_10 a1_11 a1_12 a1_13)) = some r := by rw [if_pos rfl] at H; exact H
         clear H
         have H := H1
         clear H1
         by_cases c18 : (((rd_T75 l0_1 (ji13)).f1.f0) == a1_0 && (((((rd_T75 l0_1 (ji13)).f1.f1.f0.f0) == a1_1 && (((rd_T75 l0_1 (ji13)).f1.f1.f0.f1) == a1_2 && (((rd_T75 l0_1 (ji13)).f1.f1.f0.f2) == a1_3 && (((rd_T75 l0_1 (ji13)).f1.f1.f0.f3) == a1_4 && (((rd_T75 l0_1 (ji13)).f1.f1.f0.f4) == a1_5))))) && ((((rd_T75 l0_1 (ji13)).f1.f1.f1.f0) == a1_6 && (((rd_T75 l0_1 (ji13)).f1.f1.f1.f1) == a1_7 && (((rd_T75 l0_1 (ji13)).f1.f1.f1.f2) == a1_8 && (((rd_T75 l0_1 (ji13)).f1.f1.f1.f3) == a1_9 && (((rd_T75 l0_1 (ji13)).f1.f1.f1.f4) == a1_10))))) && (((rd_T75 l0_1 (ji13)).f1.f1.f2) == a1_11 && (((rd_T75 l0_1 (ji13)).f1.f1.f3) == a1_12 && (((rd_T75 l0_1 (ji13)).f1.f1.f4) == a1_13))))))) = true
         ·rw [if_pos c18] at H
          have c18b0 : (((rd_T75 l0_1 (ji13)).f1.f0) == a1_0 && (((((rd_T75 l0_1 (ji13)).f1.f1.f0.f0) == a1_1 && (((rd_T75 l0_1 (ji13)).f1.f1.f0.f1) == a1_2 && (((rd_T75 l0_1 (ji13)).f1.f1.f0.f2) == a1_3 && (((rd_T75 l0_1 (ji13)).f1.f1.f0.f3) == a1_4 && (((rd_T75 l0_1 (ji13)).f1.f1.f0.f4) == a1_5))))) && ((((rd_T75 l0_1 (ji13)).f1.f1.f1.f0) == a1_6 && (((rd_T75 l0_1 (ji13)).f1.f1.f1.f1) == a1_7 && (((rd_T75 l0_1 (ji13)).f1.f1.f1.f2) == a1_8 && (((rd_T75 l0_1 (ji13)).f1.f1.f1.f3) == a1_9 && (((rd_T75 l0_1 (ji13)).f1.f1.f1.f4) == a1_10))))) && (((rd_T75 l0_1 (ji13)).f1.f1.f2) == a1_11 && (((rd_T75 l0_1 (ji13)).f1.f1.f3) == a1_12 && (((rd_T75 l0_1 (ji13)).f1.f1.f4) == a1_13))))))) = true := c18
          (try (have c18b1 : decide (((rd_T75 l0_1 (ji13)).f1.f0) = a1_0 && (((((rd_T75 l0_1 (ji13)).f1.f1.f0.f0) == a1_1 && (((rd_T75 l0_1 (ji13)).f1.f1.f0.f1) == a1_2 && (((rd_T75 l0_1 (ji13)).f1.f1.f0.f2) == a1_3 && (((rd_T75 l0_1 (ji13)).f1.f1.f0.f3) == a1_4 && (((rd_T75 l0_1 (ji13)).f1.f1.f0.f4) == a1_5))))) && ((((rd_T75 l0_1 (ji13)).f1.f1.f1.f0) == a1_6 && (((rd_T75 l0_1 (ji13)).f1.f1.f1.f1) == a1_7 && (((rd_T75 l0_1 (ji13)).f1.f1.f1.f2) == a1_8 && (((rd_T75 l0_1 (ji13)).f1.f1.f1.f3) == a1_9 && (((rd_T75 l0_1 (ji13)).f1.f1.f1.f4) == a1_10))))) && (((rd_T75 l0_1 (ji13)).f1.f1.f2) == a1_11 && (((rd_T75 l0_1 (ji13)).f1.f1.f3) == a1_12 && (((rd_T75 l0_1 (ji13)).f1.f1.f4) == a1_13))))))) = true := by simpa using c18))
          (try (have c18b2 : (((rd_T75 l0_1 (ji13)).f1.f0) == a1_0 && (((((rd_T75 l0_1 (ji13)).f1.f1.f0.f0) == a1_1 && (((rd_T75 l0_1 (ji13)).f1.f1.f0.f1) == a1_2 && (((rd_T75 l0_1 (ji13)).f1.f1.f0.f2) == a1_3 && (((rd_T75 l0_1 (ji13)).f1.f1.f0.f3) == a1_4 && (((rd_T75 l0_1 (ji13)).f1.f1.f0.f4) == a1_5))))) && ((((rd_T75 l0_1 (ji13)).f1.f1.f1.f0) == a1_6 && (((rd_T75 l0_1 (ji13)).f1.f1.f1.f1) == a1_7 && (((rd_T75 l0_1 (ji13)).f1.f1.f1.f2) == a1_8 && (((rd_T75 l0_1 (ji13)).f1.f1.f1.f3) == a1_9 && (((rd_T75 l0_1 (ji13)).f1.f1.f1.f4) == a1_10))))) && (((rd_T75 l0_1 (ji13)).f1.f1.f2) == a1_11 && (((rd_T75 l0_1 (ji13)).f1.f1.f3) == a1_12 && (((rd_T75 l0_1 (ji13)).f1.f1.f4) == a1_13))))))) = true := by simpa using c18))
          clear c18
          obtain rfl := Option.some.inj H
          have hnb19 := NB406_407.out
          have hnc19 := NB407_406.out
          have hcz20_0 : wr.cell? ⟨gb406, 0, none⟩ = some (.int .i64 a0_0) := (blk_cell BK406.out 0).trans rfl
          have hcz20_1 : wr.cell? ⟨gb406, 1, none⟩ = some (.slice A0_1 l0_1.length c0_1) := (blk_cell BK406.out 1).trans rfl
          have hfz20_0 := blk_frozen BK406.out 0
          have hfz20_1 := blk_frozen BK406.out 1
          have p409 : 0 ≤ ((ji13) : Int) := of_decide_eq_true (by first | (with_reducible assumption) | assumption)
          have q409 : (ji13) < (l0_1.length : Int) := of_decide_eq_true (by first | (with_reducible assumption) | assumption)
          obtain ⟨ad409, e409, hx409_0, hx409_1, hx409_2, hx409_3, hx409_4, hx409_5, hx409_6, hx409_7, hx409_8, hx409_9, hx409_10, hx409_11, hx409_12, hx409_13, hx409_14, hx409_15⟩ := at_T75 HR0_1.out (ji13) p409 q409
          (try rw [← Nbq16.out] at hx409_0)
          cases e409
          replace hx409_0 := Gv.bx HB.out hx409_0
          replace hx409_1 := Gv.bx HB.out hx409_1
          replace hx409_2 := Gv.bx HB.out hx409_2
          replace hx409_3 := Gv.bx HB.out hx409_3
          replace hx409_4 := Gv.bx HB.out hx409_4
          replace hx409_5 := Gv.bx HB.out hx409_5
          replace hx409_6 := Gv.bx HB.out hx409_6
          replace hx409_7 := Gv.bx HB.out hx409_7
          replace hx409_8 := Gv.bx HB.out hx409_8
          replace hx409_9 := Gv.bx HB.out hx409_9
          replace hx409_10 := Gv.bx HB.out hx409_10
          replace hx409_11 := Gv.bx HB.out hx409_11
          replace hx409_12 := Gv.bx HB.out hx409_12
          replace hx409_13 := Gv.bx HB.out hx409_13
          replace hx409_14 := Gv.bx HB.out hx409_14
          replace hx409_15 := Gv.bx HB.out hx409_15
          replace p409 := eq_true p409
          replace q409 := eq_true q409
          have p410 : 0 ≤ ((ji13) : Int) := of_decide_eq_true (by first | (with_reducible assumption) | assumption)
          have q410 : (ji13) < (l0_1.length : Int) := of_decide_eq_true (by first | (with_reducible assumption) | assumption)
          obtain ⟨ad410, e410, hx410_0, hx410_1, hx410_2, hx410_3, hx410_4, hx410_5, hx410_6, hx410_7, hx410_8, hx410_9, hx410_10, hx410_11, hx410_12, hx410_13, hx410_14, hx410_15⟩ := at_T75 HR0_1.out (ji13) p410 q410
          (try rw [← Nbq16.out] at hx410_0)
          obtain rfl : ad409 = ad410 := (by injection e410)
          replace hx410_0 := Gv.bx HB.out hx410_0
          replace hx410_1 := Gv.bx HB.out hx410_1
          replace hx410_2 := Gv.bx HB.out hx410_2
          replace hx410_3 := Gv.bx HB.out hx410_3
          replace hx410_4 := Gv.bx HB.out hx410_4
          replace hx410_5 := Gv.bx HB.out hx410_5
          replace hx410_6 := Gv.bx HB.out hx410_6
          replace hx410_7 := Gv.bx HB.out hx410_7
          replace hx410_8 := Gv.bx HB.out hx410_8
          replace hx410_9 := Gv.bx HB.out hx410_9
          replace hx410_10 := Gv.bx HB.out hx410_10
          replace hx410_11 := Gv.bx HB.out hx410_11
          replace hx410_12 := Gv.bx HB.out hx410_12
          replace hx410_13 := Gv.bx HB.out hx410_13
          replace hx410_14 := Gv.bx HB.out hx410_14
          replace hx410_15 := Gv.bx HB.out hx410_15
          replace p410 := eq_true p410
          replace q410 := eq_true q410
          obtain ⟨hcz21_0, hcz21_1, hcz21_2, hcz21_3, hcz21_4, hcz21_5, hcz21_6, hcz21_7, hcz21_8, hcz21_9, hcz21_10, hcz21_11, hcz21_12, hcz21_13⟩ := Gv.c14 BK407.out
          obtain ⟨hfz21_0, hfz21_1, hfz21_2, hfz21_3, hfz21_4, hfz21_5, hfz21_6, hfz21_7, hfz21_8, hfz21_9, hfz21_10, hfz21_11, hfz21_12, hfz21_13⟩ := Gv.f14 BK407.out
          go_wp2
          repeat (go_quiet (fail); try go_wp2)
          go_ret
          exact ⟨by first | rfl | (simp [errW_none, errW_some] <;> rfl) | (simp only [← hji13]; first | rfl | (simp [errW_none, errW_some] <;> rfl)) | (simp [*, errW_none, errW_some] <;> rfl), by repeat (first | (with_reducible first | exact HB.out | apply below_alloc | apply pw_below_drewN | apply below_drew1 | refine below_set ?_ GE406.out | refine below_set ?_ GE407.out) | exact HB.out)⟩
         ·rw [if_neg c18] at H
          have c18b0 : (((rd_T75 l0_1 (ji13)).f1.f0) == a1_0 && (((((rd_T75 l0_1 (ji13)).f1.f1.f0.f0) == a1_1 && (((rd_T75 l0_1 (ji13)).f1.f1.f0.f1) == a1_2 && (((rd_T75 l0_1 (ji13)).f1.f1.f0.f2) == a1_3 && (((rd_T75 l0_1 (ji13)).f1.f1.f0.f3) == a1_4 && (((rd_T75 l0_1 (ji13)).f1.f1.f0.f4) == a1_5))))) && ((((rd_T75 l0_1 (ji13)).f1.f1.f1.f0) == a1_6 && (((rd_T75 l0_1 (ji13)).f1.f1.f1.f1) == a1_7 && (((rd_T75 l0_1 (ji13)).f1.f1.f1.f2) == a1_8 && (((rd_T75 l0_1 (ji13)).f1.f1.f1.f3) == a1_9 && (((rd_T75 l0_1 (ji13)).f1.f1.f1.f4) == a1_10))))) && (((rd_T75 l0_1 (ji13)).f1.f1.f2) == a1_11 && (((rd_T75 l0_1 (ji13)).f1.f1.f3) == a1_12 && (((rd_T75 l0_1 (ji13)).f1.f1.f4) == a1_13))))))) = false := by simpa using c18
          (try (have c18b1 : decide (((rd_T75 l0_1 (ji13)).f1.f0) = a1_0 && (((((rd_T75 l0_1 (ji13)).f1.f1.f0.f0) == a1_1 && (((rd_T75 l0_1 (ji13)).f1.f1.f0.f1) == a1_2 && (((rd_T75 l0_1 (ji13)).f1.f1.f0.f2) == a1_3 && (((rd_T75 l0_1 (ji13)).f1.f1.f0.f3) == a1_4 && (((rd_T75 l0_1 (ji13)).f1.f1.f0.f4) == a1_5))))) && ((((rd_T75 l0_1 (ji13)).f1.f1.f1.f0) == a1_6 && (((rd_T75 l0_1 (ji13)).f1.f1.f1.f1) == a1_7 && (((rd_T75 l0_1 (ji13)).f1.f1.f1.f2) == a1_8 && (((rd_T75 l0_1 (ji13)).f1.f1.f1.f3) == a1_9 && (((rd_T75 l0_1 (ji13)).f1.f1.f1.f4) == a1_10))))) && (((rd_T75 l0_1 (ji13)).f1.f1.f2) == a1_11 && (((rd_T75 l0_1 (ji13)).f1.f1.f3) == a1_12 && (((rd_T75 l0_1 (ji13)).f1.f1.f4) == a1_13))))))) = false := by simpa using c18))
          (try (have c18b2 : (((rd_T75 l0_1 (ji13)).f1.f0) == a1_0 && (((((rd_T75 l0_1 (ji13)).f1.f1.f0.f0) == a1_1 && (((rd_T75 l0_1 (ji13)).f1.f1.f0.f1) == a1_2 && (((rd_T75 l0_1 (ji13)).f1.f1.f0.f2) == a1_3 && (((rd_T75 l0_1 (ji13)).f1.f1.f0.f3) == a1_4 && (((rd_T75 l0_1 (ji13)).f1.f1.f0.f4) == a1_5))))) && ((((rd_T75 l0_1 (ji13)).f1.f1.f1.f0) == a1_6 && (((rd_T75 l0_1 (ji13)).f1.f1.f1.f1) == a1_7 && (((rd_T75 l0_1 (ji13)).f1.f1.f1.f2) == a1_8 && (((rd_T75 l0_1 (ji13)).f1.f1.f1.f3) == a1_9 && (((rd_T75 l0_1 (ji13)).f1.f1.f1.f4) == a1_10))))) && (((rd_T75 l0_1 (ji13)).f1.f1.f2) == a1_11 && (((rd_T75 l0_1 (ji13)).f1.f1.f3) == a1_12 && (((rd_T75 l0_1 (ji13)).f1.f1.f4) == a1_13))))))) = false := by simpa using c18))
          (try (have c18b3 : ¬ (((rd_T75 l0_1 (ji13)).f1.f0) = a1_0 && (((((rd_T75 l0_1 (ji13)).f1.f1.f0.f0) == a1_1 && (((rd_T75 l0_1 (ji13)).f1.f1.f0.f1) == a1_2 && (((rd_T75 l0_1 (ji13)).f1.f1.f0.f2) == a1_3 && (((rd_T75 l0_1 (ji13)).f1.f1.f0.f3) == a1_4 && (((rd_T75 l0_1 (ji13)).f1.f1.f0.f4) == a1_5))))) && ((((rd_T75 l0_1 (ji13)).f1.f1.f1.f0) == a1_6 && (((rd_T75 l0_1 (ji13)).f1.f1.f1.f1) == a1_7 && (((rd_T75 l0_1 (ji13)).f1.f1.f1.f2) == a1_8 && (((rd_T75 l0_1 (ji13)).f1.f1.f1.f3) == a1_9 && (((rd_T75 l0_1 (ji13)).f1.f1.f1.f4) == a1_10))))) && (((rd_T75 l0_1 (ji13)).f1.f1.f2) == a1_11 && (((rd_T75 l0_1 (ji13)).f1.f1.f3) == a1_12 && (((rd_T75 l0_1 (ji13)).f1.f1.f4) == a1_13))))))) := by simpa using c18))
          clear c18
          have H' := Gv.a0 H
          clear H
          have hnb22 := NB406_407.out
          have hnc22 := NB407_406.out
          have hcz23_0 : wr.cell? ⟨gb406, 0, none⟩ = some (.int .i64 a0_0) := (blk_cell BK406.out 0).trans rfl
          have hcz23_1 : wr.cell? ⟨gb406, 1, none⟩ = some (.slice A0_1 l0_1.length c0_1) := (blk_cell BK406.out 1).trans rfl
          have hfz23_0 := blk_frozen BK406.out 0
          have hfz23_1 := blk_frozen BK406.out 1
          have p409 : 0 ≤ ((ji13) : Int) := of_decide_eq_true (by first | (with_reducible assumption) | assumption)
          have q409 : (ji13) < (l0_1.length : Int) := of_decide_eq_true (by first | (with_reducible assumption) | assumption)
          obtain ⟨ad409, e409, hx409_0, hx409_1, hx409_2, hx409_3, hx409_4, hx409_5, hx409_6, hx409_7, hx409_8, hx409_9, hx409_10, hx409_11, hx409_12, hx409_13, hx409_14, hx409_15⟩ := at_T75 HR0_1.out (ji13) p409 q409
          (try rw [← Nbq16.out] at hx409_0)
          cases e409
          replace hx409_0 := Gv.bx HB.out hx409_0
          replace hx409_1 := Gv.bx HB.out hx409_1
          replace hx409_2 := Gv.bx HB.out hx409_2
          replace hx409_3 := Gv.bx HB.out hx409_3
          replace hx409_4 := Gv.bx HB.out hx409_4
          replace hx409_5 := Gv.bx HB.out hx409_5
          replace hx409_6 := Gv.bx HB.out hx409_6
          replace hx409_7 := Gv.bx HB.out hx409_7
          replace hx409_8 := Gv.bx HB.out hx409_8
          replace hx409_9 := Gv.bx HB.out hx409_9
          replace hx409_10 := Gv.bx HB.out hx409_10
          replace hx409_11 := Gv.bx HB.out hx409_11
          replace hx409_12 := Gv.bx HB.out hx409_12
          replace hx409_13 := Gv.bx HB.out hx409_13
          replace hx409_14 := Gv.bx HB.out hx409_14
          replace hx409_15 := Gv.bx HB.out hx409_15
          replace p409 := eq_true p409
          replace q409 := eq_true q409
          have p410 : 0 ≤ ((ji13) : Int) := of_decide_eq_true (by first | (with_reducible assumption) | assumption)
          have q410 : (ji13) < (l0_1.length : Int) := of_decide_eq_true (by first | (with_reducible assumption) | assumption)
          obtain ⟨ad410, e410, hx410_0, hx410_1, hx410_2, hx410_3, hx410_4, hx410_5, hx410_6, hx410_7, hx410_8, hx410_9, hx410_10, hx410_11, hx410_12, hx410_13, hx410_14, hx410_15⟩ := at_T75 HR0_1.out (ji13) p410 q410
          (try rw [← Nbq16.out] at hx410_0)
          obtain rfl : ad409 = ad410 := (by injection e410)
          replace hx410_0 := Gv.bx HB.out hx410_0
          replace hx410_1 := Gv.bx HB.out hx410_1
          replace hx410_2 := Gv.bx HB.out hx410_2
          replace hx410_3 := Gv.bx HB.out hx410_3
          replace hx410_4 := Gv.bx HB.out hx410_4
          replace hx410_5 := Gv.bx HB.out hx410_5
          replace hx410_6 := Gv.bx HB.out hx410_6
          replace hx410_7 := Gv.bx HB.out hx410_7
          replace hx410_8 := Gv.bx HB.out hx410_8
          replace hx410_9 := Gv.bx HB.out hx410_9
          replace hx410_10 := Gv.bx HB.out hx410_10
          replace hx410_11 := Gv.bx HB.out hx410_11
          replace hx410_12 := Gv.bx HB.out hx410_12
          replace hx410_13 := Gv.bx HB.out hx410_13
          replace hx410_14 := Gv.bx HB.out hx410_14
          replace hx410_15 := Gv.bx HB.out hx410_15
          replace p410 := eq_true p410
          replace q410 := eq_true q410
          obtain ⟨hcz24_0, hcz24_1, hcz24_2, hcz24_3, hcz24_4, hcz24_5, hcz24_6, hcz24_7, hcz24_8, hcz24_9, hcz24_10, hcz24_11, hcz24_12, hcz24_13⟩ := Gv.c14 BK407.out
          obtain ⟨hfz24_0, hfz24_1, hfz24_2, hfz24_3, hfz24_4, hfz24_5, hfz24_6, hfz24_7, hfz24_8, hfz24_9, hfz24_10, hfz24_11, hfz24_12, hfz24_13⟩ := Gv.f14 BK407.out
          go_wp2
          repeat (go_quiet (fail); try go_wp2)
          go_roundg k1
          case measure => have := HK1.out; omega
          case rel => exact ⟨(wrap64 (x19_1 + 1)), (by first | rfl | (simp; done) | (simp [Int.tdiv_eq_ediv_of_nonneg]; done) | (simp [*]; done)), H', ⟨by have := HK1.out; omega⟩, ⟨by (with_reducible repeat (first | refine blk_drewN ?_ _ | refine blk_drew ?_ | refine blk_alloc ?_ _)); exact BK406.out⟩, ⟨by (with_reducible repeat (first | refine blk_drewN ?_ _ | refine blk_drew ?_ | refine blk_alloc ?_ _)); exact BK407.out⟩, ⟨by repeat (first | (with_reducible first | exact HB.out | apply below_alloc | apply pw_below_drewN | apply below_drew1 | refine below_set ?_ GE406.out | refine below_set ?_ GE407.out) | exact HB.out)⟩⟩
        ·replace c17 := Bool.eq_false_iff.mpr c17
         subst c17
         have H1 : (some ji13) = some r := by rw [if_neg (show ¬ (false = true) by decide)] at H; exact H
         clear H
         have H := H1
         clear H1
         obtain rfl := Option.some.inj H
         have hnb25 := NB406_407.out
         have hnc25 := NB407_406.out
         have hcz26_0 : wr.cell? ⟨gb406, 0, none⟩ = some (.int .i64 a0_0) := (blk_cell BK406.out 0).trans rfl
         have hcz26_1 : wr.cell? ⟨gb406, 1, none⟩ = some (.slice A0_1 l0_1.length c0_1) := (blk_cell BK406.out 1).trans rfl
         have hfz26_0 := blk_frozen BK406.out 0
         have hfz26_1 := blk_frozen BK406.out 1
         have p409 : 0 ≤ ((ji13) : Int) := of_decide_eq_true (by first | (with_reducible assumption) | assumption)
         have q409 : (ji13) < (l0_1.length : Int) := of_decide_eq_true (by first | (with_reducible assumption) | assumption)
         obtain ⟨ad409, e409, hx409_0, hx409_1, hx409_2, hx409_3, hx409_4, hx409_5, hx409_6, hx409_7, hx409_8, hx409_9, hx409_10, hx409_11, hx409_12, hx409_13, hx409_14, hx409_15⟩ := at_T75 HR0_1.out (ji13) p409 q409
         (try rw [← Nbq16.out] at hx409_0)
         cases e409
         replace hx409_0 := Gv.bx HB.out hx409_0
         replace hx409_1 := Gv.bx HB.out hx409_1
         replace hx409_2 := Gv.bx HB.out hx409_2
         replace hx409_3 := Gv.bx HB.out hx409_3
         replace hx409_4 := Gv.bx HB.out hx409_4
         replace hx409_5 := Gv.bx HB.out hx409_5
         replace hx409_6 := Gv.bx HB.out hx409_6
         replace hx409_7 := Gv.bx HB.out hx409_7
         replace hx409_8 := Gv.bx HB.out hx409_8
         replace hx409_9 := Gv.bx HB.out hx409_9
         replace hx409_10 := Gv.bx HB.out hx409_10
         replace hx409_11 := Gv.bx HB.out hx409_11
         replace hx409_12 := Gv.bx HB.out hx409_12
         replace hx409_13 := Gv.bx HB.out hx409_13
         replace hx409_14 := Gv.bx HB.out hx409_14
         replace hx409_15 := Gv.bx HB.out hx409_15
         replace p409 := eq_true p409
         replace q409 := eq_true q409
         go_wp2
         repeat (go_quiet (fail); try go_wp2)
         go_ret
         exact ⟨by first | rfl | (simp [errW_none, errW_some] <;> rfl) | (simp only [← hji13]; first | rfl | (simp [errW_none, errW_some] <;> rfl)) | (simp [*, errW_none, errW_some] <;> rfl), by repeat (first | (with_reducible first | exact HB.out | apply below_alloc | apply pw_below_drewN | apply below_drew1 | refine below_set ?_ GE406.out | refine below_set ?_ GE407.out) | exact HB.out)⟩
       ·rw [if_neg c15] at H
        exact absurd H (by simp)
      ·rw [if_neg c14] at H
       exact absurd H (by simp)
    ·rw [if_neg c11] at H
     have c11b0 : decide (x19_1 < (l0_1.length : Int)) = false := decide_eq_false c11
     clear c11
     obtain rfl := Option.some.inj H
     go_wp2
     repeat (go_quiet (fail); try go_wp2)
     go_ret
     exact ⟨by first | rfl | (simp [errW_none, errW_some] <;> rfl) | (simp [*, errW_none, errW_some] <;> rfl), by repeat (first | (with_reducible first | exact HB.out | apply below_alloc | apply pw_below_drewN | apply below_drew1 | refine below_set ?_ GE406.out | refine below_set ?_ GE407.out) | exact HB.out)⟩

/-! ### impl_TableOk: function 26 -/
mutual
def impl_TableOk.j0 : Nat → Bool → Int → List (S75) → Option (Bool)
 | 0, _, _, _ => none
 | k + 1, x25, x412000, x412001 => if x25 = true then (some false) else (impl_TableOk.l0 k x412001 (x412001.length : Int) 0 x412000 x412001)
def impl_TableOk.l0 : Nat → List (S75) → Int → Int → Int → List (S75) → Option (Bool)
 | 0, _, _, _, _, _ => none
 | k + 1, x27, x28, x29, x412000, x412001 => if x29 < x28 then (if 0 ≤ x29 then (if x29 < (x27.length : Int) then (if ((rd_T75 x27 x29).f0 = true) then ((impl_FlowKeyOk.f k ((rd_T75 x27 x29).f1.f0) ((rd_T75 x27 x29).f1.f1.f0.f0) ((rd_T75 x27 x29).f1.f1.f0.f1) ((rd_T75 x27 x29).f1.f1.f0.f2) ((rd_T75 x27 x29).f1.f1.f0.f3) ((rd_T75 x27 x29).f1.f1.f0.f4) ((rd_T75 x27 x29).f1.f1.f1.f0) ((rd_T75 x27 x29).f1.f1.f1.f1) ((rd_T75 x27 x29).f1.f1.f1.f2) ((rd_T75 x27 x29).f1.f1.f1.f3) ((rd_T75 x27 x29).f1.f1.f1.f4) ((rd_T75 x27 x29).f1.f1.f2) ((rd_T75 x27 x29).f1.f1.f3) ((rd_T75 x27 x29).f1.f1.f4)).bind fun t417 => (if t417 = true then ((impl_within.f ((rd_T75 x27 x29).f2) 0 1000000000000).bind fun t418 => (if t418 = true then ((impl_Table_probe.f k x412000 x412001 ((rd_T75 x27 x29).f1.f0) ((rd_T75 x27 x29).f1.f1.f0.f0) ((rd_T75 x27 x29).f1.f1.f0.f1) ((rd_T75 x27 x29).f1.f1.f0.f2) ((rd_T75 x27 x29).f1.f1.f0.f3) ((rd_T75 x27 x29).f1.f1.f0.f4) ((rd_T75 x27 x29).f1.f1.f1.f0) ((rd_T75 x27 x29).f1.f1.f1.f1) ((rd_T75 x27 x29).f1.f1.f1.f2) ((rd_T75 x27 x29).f1.f1.f1.f3) ((rd_T75 x27 x29).f1.f1.f1.f4) ((rd_T75 x27 x29).f1.f1.f2) ((rd_T75 x27 x29).f1.f1.f3) ((rd_T75 x27 x29).f1.f1.f4)).bind fun t419 => (if t419 = x29 then (impl_TableOk.l0 k x27 x28 (wrap64 (x29 + 1)) x412000 x412001) else (some false))) else (some false))) else (some false))) else (if (((rd_T75 x27 x29).f0) || ((!(((rd_T75 x27 x29).f1.f0) == 0) || (((!(((rd_T75 x27 x29).f1.f1.f0.f0) == 0) || (!(((rd_T75 x27 x29).f1.f1.f0.f1) == 0) || (!(((rd_T75 x27 x29).f1.f1.f0.f2) == 0) || (!(((rd_T75 x27 x29).f1.f1.f0.f3) == 0) || (!(((rd_T75 x27 x29).f1.f1.f0.f4) == 0)))))) || ((!(((rd_T75 x27 x29).f1.f1.f1.f0) == 0) || (!(((rd_T75 x27 x29).f1.f1.f1.f1) == 0) || (!(((rd_T75 x27 x29).f1.f1.f1.f2) == 0) || (!(((rd_T75 x27 x29).f1.f1.f1.f3) == 0) || (!(((rd_T75 x27 x29).f1.f1.f1.f4) == 0)))))) || (!(((rd_T75 x27 x29).f1.f1.f2) == 0) || (!(((rd_T75 x27 x29).f1.f1.f3) == 0) || (!(((rd_T75 x27 x29).f1.f1.f4) == 0)))))))) || (!(((rd_T75 x27 x29).f2) == 0)))) = true then (some false) else (impl_TableOk.l0 k x27 x28 (wrap64 (x29 + 1)) x412000 x412001))) else (none)) else (none)) else (some true)
end
def impl_TableOk.f (k : Nat) (a0_0 : Int) (l0_1 : List (S75)) : Option (Bool) := (impl_within.f a0_0 0 4294967295).bind fun t412 => (if t412 = true then ((impl_isCells.f (l0_1.length : Int)).bind fun t413 => (if t413 = true then ((impl_Table_used.f k a0_0 l0_1).bind fun t414 => (impl_TableOk.j0 k (decide ((wrap64 (4 * t414)) > (wrap64 (3 * (l0_1.length : Int))))) a0_0 l0_1)) else (impl_TableOk.j0 k true a0_0 l0_1))) else (impl_TableOk.j0 k true a0_0 l0_1))
theorem impl_TableOk.mono_l : ∀ k, (∀ y0 y1 y2, LeO (impl_TableOk.j0 k y0 y1 y2) (impl_TableOk.j0 (k + 1) y0 y1 y2)) ∧ (∀ y0 y1 y2 y3 y4, LeO (impl_TableOk.l0 k y0 y1 y2 y3 y4) (impl_TableOk.l0 (k + 1) y0 y1 y2 y3 y4))
 | 0 => ⟨fun _ _ _ r h => by simp [impl_TableOk.j0] at h, fun _ _ _ _ _ r h => by simp [impl_TableOk.l0] at h⟩
 | k + 1 => by
  obtain ⟨ih0, ih1⟩ := impl_TableOk.mono_l k
  refine ⟨?_, ?_⟩
  ·intro y0 y1 y2
   unfold impl_TableOk.j0
   repeat' first
   | (with_reducible exact ih0 _ _ _)
   | (with_reducible exact ih1 _ _ _ _ _)
   | (with_reducible exact impl_FlowKeyOk.mono _ _ _ _ _ _ _ _ _ _ _ _ _ _ _)
   | (with_reducible exact impl_Table_probe.mono _ _ _ _ _ _ _ _ _ _ _ _ _ _ _ _ _)
   | (with_reducible exact impl_Table_used.mono _ _ _)
   | (with_reducible exact LeO.refl _)
   | (with_reducible exact LeO.none _)
   | (with_reducible refine LeO.ite ?_ ?_)
   | (with_reducible refine LeO.bind ?_ (fun _ => ?_))
   | exact ih0 _ _ _
   | exact ih1 _ _ _ _ _
   | exact impl_FlowKeyOk.mono _ _ _ _ _ _ _ _ _ _ _ _ _ _ _
   | exact impl_Table_probe.mono _ _ _ _ _ _ _ _ _ _ _ _ _ _ _ _ _
   | exact impl_Table_used.mono _ _ _
   | exact LeO.none _
   | refine LeO.ite ?_ ?_
   | refine LeO.bind ?_ (fun _ => ?_)
  ·intro y0 y1 y2 y3 y4
   unfold impl_TableOk.l0
   repeat' first
   | (with_reducible exact ih0 _ _ _)
   | (with_reducible exact ih1 _ _ _ _ _)
   | (with_reducible exact impl_FlowKeyOk.mono _ _ _ _ _ _ _ _ _ _ _ _ _ _ _)
   | (with_reducible exact impl_Table_probe.mono _ _ _ _ _ _ _ _ _ _ _ _ _ _ _ _ _)
   | (with_reducible exact impl_Table_used.mono _ _ _)
   | (with_reducible exact LeO.refl _)
   | (with_reducible exact LeO.none _)
   | (with_reducible refine LeO.ite ?_ ?_)
   | (with_reducible refine LeO.bind ?_ (fun _ => ?_))
   | exact ih0 _ _ _
   | exact ih1 _ _ _ _ _
   | exact impl_FlowKeyOk.mono _ _ _ _ _ _ _ _ _ _ _ _ _ _ _
   | exact impl_Table_probe.mono _ _ _ _ _ _ _ _ _ _ _ _ _ _ _ _ _
   | exact impl_Table_used.mono _ _ _
   | exact LeO.none _
   | refine LeO.ite ?_ ?_
   | refine LeO.bind ?_ (fun _ => ?_)
theorem impl_TableOk.mono : ∀ a0 a1 k, LeO (impl_TableOk.f k a0 a1) (impl_TableOk.f (k + 1) a0 a1) := by
 intro a0 a1 k
 obtain ⟨ih0, ih1⟩ := impl_TableOk.mono_l k
 unfold impl_TableOk.f
 repeat' first
   | (with_reducible exact ih0 _ _ _)
   | (with_reducible exact ih1 _ _ _ _ _)
   | (with_reducible exact impl_FlowKeyOk.mono _ _ _ _ _ _ _ _ _ _ _ _ _ _ _)
   | (with_reducible exact impl_Table_probe.mono _ _ _ _ _ _ _ _ _ _ _ _ _ _ _ _ _)
   | (with_reducible exact impl_Table_used.mono _ _ _)
   | (with_reducible exact LeO.refl _)
   | (with_reducible exact LeO.none _)
   | (with_reducible refine LeO.ite ?_ ?_)
   | (with_reducible refine LeO.bind ?_ (fun _ => ?_))
   | exact ih0 _ _ _
   | exact ih1 _ _ _ _ _
   | exact impl_FlowKeyOk.mono _ _ _ _ _ _ _ _ _ _ _ _ _ _ _
   | exact impl_Table_probe.mono _ _ _ _ _ _ _ _ _ _ _ _ _ _ _ _ _
   | exact impl_Table_used.mono _ _ _
   | exact LeO.none _
   | refine LeO.ite ?_ ?_
   | refine LeO.bind ?_ (fun _ => ?_)
def impl_TableOk.T1 : Bool × List (List Nat × List Nat) := (true, [([], []), ([0], [0]), ([1], [1]), ([2], [2]), ([3, 2], [3]), ([4], [4]), ([5, 4], [4, 5]), ([6, 4], [4, 6]), ([7, 4, 4], [4, 7]), ([8, 4], [4, 8]), ([4, 9], [4, 9]), ([10, 8], [10]), ([11], [11]), ([12, 11, 11], [11, 12]), ([13, 11], [11, 13]), ([11], [11]), ([15, 11], [11, 15]), ([16, 11], [11, 16]), ([17, 11], [11, 17]), ([14, 18, 11], [11, 14, 18]), ([11, 19], [11, 19])])
def impl_TableOk.B1 : List Nat := [0, 1, 3, 7, 15, 31, 63, 127, 255, 511, 1023, 2047, 4095, 8191, 16383, 4095, 36863, 102399, 233471, 524287, 1048575]
theorem impl_TableOk.tab1 : rtab .any (opsOf Try.f26 1) = impl_TableOk.T1 := by kernel_rfl
theorem impl_TableOk.bits1 : waitsOk impl_TableOk.T1.2 impl_TableOk.B1 = true := by kernel_rfl
set_option maxHeartbeats 8000000 in
set_option maxRecDepth 100000 in
theorem impl_TableOk.calls (k : Nat) (a0_0 : Int) (A0_1 : Option Addr) (c0_1 : Nat) (l0_1 : List (S75)) (r : Bool) (w : World) (hr0_1 : Kd.C k75 w A0_1 l0_1.length l0_1) (hc0_1 : l0_1.length ≤ c0_1) (h : impl_TableOk.f k a0_0 l0_1 = some r) :
  Calls Try.prog 26 #[.agg #[.int .i64 a0_0, .slice A0_1 l0_1.length c0_1]] w fun e w' => e = .returned (.bool r) ∧ Below w.heap.size w w' := by
 have hu40 := Try.underlying40
 have hu75 := Try.underlying75
 have hu33 := Try.underlying33
 have HR0_1 := Gv.a0 hr0_1
 have HC0_1 := Gv.a0 hc0_1
 clear hr0_1 hc0_1
 have HB := Gv.a0 (Below.refl w.heap.size w)
 have H : ((impl_within.f a0_0 0 4294967295).bind fun t412 => (if t412 = true then ((impl_isCells.f (l0_1.length : Int)).bind fun t413 => (if t413 = true then ((impl_Table_used.f k a0_0 l0_1).bind fun t414 => (impl_TableOk.j0 k (decide ((wrap64 (4 * t414)) > (wrap64 (3 * (l0_1.length : Int))))) a0_0 l0_1)) else (impl_TableOk.j0 k true a0_0 l0_1))) else (impl_TableOk.j0 k true a0_0 l0_1))) = some r := h
 clear h
 have HC2 := Gv.a0 H
 clear H
 go_enter Try.func26, Try.ntmps26
 go_upto_region 1 with (first | ((with_reducible refine gate_dst (N := 1) rfl ?_); (try (refine gate_guard (by rfl) ?_; dsimp only)); refine box_event ?hg (N := 1) ?hd (cs := #[.int .i64 a0_0, .slice A0_1 l0_1.length c0_1]) (t := 40) ?hr ?_; (case hd => rfl); (case hg => rfl); (case hr => first | (go_simp; done) | (go_simp; rfl)); intro gb411 hg w3 hbox hb; have n0_ := Gv.a0 (below_step Gv.bw hb); have n1_ := Gv.a0 (hbox); have n2_ := Gv.a0 ((Gv.ble hg Gv.bw : w.heap.size ≤ gb411)); have n3_ := Gv.a0 ((Gv.ble hg Gv.bw : w.heap.size ≤ gb411)); clear HB; have HB := n0_; have BK411 := n1_; have GW411 := n2_; have GE411 := n3_; clear n0_ n1_ n2_ n3_; clear hb hbox hg) | ((with_reducible refine gate_store (t := 40) (p := 1) rfl ?_); refine Gv.store_event rfl rfl rfl rfl rfl (Gv.kb BK411.out) (by kernel_rfl) rfl (by simp; and_intros <;> rfl) ?_; intro w3s hbox hoth hbel; have n0_ := Gv.a0 (hbox); have n1_ := Gv.a0 (hbel w Gv.bw GE411.out); clear BK411 HB; have BK411 := n0_; have HB := n1_; clear n0_ n1_ hbox hoth hbel) | ((with_reducible refine Gv.gate_load (t := 75) rfl ?_); (try (refine gate_guard (by rfl) ?_; dsimp only)); refine wpList_load_row rfl 75 _ rfl gb416 rfl 75 _ _ _ (Gv.kbp BK416.out) Try.underlying75 rfl (by kernel_rfl) ?_))
 (try simp only [Act.put, List.setIfInBounds_toArray, List.set_cons_zero, List.set_cons_succ])
 go_cut [25] (fun v25 wc => ∃ (kq : Nat) (x25_1 : Bool), v25 = .bool x25_1 ∧ Aside0 (impl_TableOk.j0 kq x25_1 a0_0 l0_1 = some r) ∧ Aside0 (kq ≤ k) ∧ Aside0 (wc.heap[gb411]? = some (.cells #[.int .i64 a0_0, (.slice A0_1 l0_1.length c0_1)] 40 (0, 0))) ∧ Aside0 (Below w.heap.size w wc))
 case first =>
  have H := HC2.out
  clear HC2
  replace H := Option.bind_eq_some_iff.mp H
  obtain ⟨t412, A40, H⟩ := H
  replace H : (if t412 = true then ((impl_isCells.f (l0_1.length : Int)).bind fun t413 => (if t413 = true then ((impl_Table_used.f k a0_0 l0_1).bind fun t414 => (impl_TableOk.j0 k (decide ((wrap64 (4 * t414)) > (wrap64 (3 * (l0_1.length : Int))))) a0_0 l0_1)) else (impl_TableOk.j0 k true a0_0 l0_1))) else (impl_TableOk.j0 k true a0_0 l0_1)) = some r := H
  have A4 := Gv.a0 A40
  clear A40
  by_cases c5 : t412 = true
  ·subst c5
   have H1 : ((impl_isCells.f (l0_1.length : Int)).bind fun t413 => (if t413 = true then ((impl_Table_used.f k a0_0 l0_1).bind fun t414 => (impl_TableOk.j0 k (decide ((wrap64 (4 * t414)) > (wrap64 (3 * (l0_1.length : Int))))) a0_0 l0_1)) else (impl_TableOk.j0 k true a0_0 l0_1))) = some r := by rw [if_pos rfl] at H; exact H
   clear H
   have H := H1
   clear H1
   replace H := Option.bind_eq_some_iff.mp H
   obtain ⟨t413, A60, H⟩ := H
   replace H : (if t413 = true then ((impl_Table_used.f k a0_0 l0_1).bind fun t414 => (impl_TableOk.j0 k (decide ((wrap64 (4 * t414)) > (wrap64 (3 * (l0_1.length : Int))))) a0_0 l0_1)) else (impl_TableOk.j0 k true a0_0 l0_1)) = some r := H
   have A6 := Gv.a0 A60
   clear A60
   by_cases c7 : t413 = true
   ·subst c7
    have H1 : ((impl_Table_used.f k a0_0 l0_1).bind fun t414 => (impl_TableOk.j0 k (decide ((wrap64 (4 * t414)) > (wrap64 (3 * (l0_1.length : Int))))) a0_0 l0_1)) = some r := by rw [if_pos rfl] at H; exact H
    clear H
    have H := H1
    clear H1
    replace H := Option.bind_eq_some_iff.mp H
    obtain ⟨t414, A80, H⟩ := H
    replace H : (impl_TableOk.j0 k (decide ((wrap64 (4 * t414)) > (wrap64 (3 * (l0_1.length : Int))))) a0_0 l0_1) = some r := H
    have A8 := Gv.a0 A80
    clear A80
    have H' := Gv.a0 H
    clear H
    try go_wp2
    have n0_ := Gv.a0 (blk_drew BK411.out)
    have n1_ := Gv.a0 (below_drew1 HB.out)
    clear BK411
    clear HB
    have BK411 := n0_
    have HB := n1_
    clear n0_ n1_
    refine start_ (n := 21) (S := fun w' => w'.cell? ⟨gb411, 0, none⟩ = some (.int .i64 a0_0) ∧ w'.cell? ⟨gb411, 1, none⟩ = some (.slice A0_1 l0_1.length c0_1)) (ds := []) #[false, false, false, false, false, false, false, false, false, false, false, false, false, false, false, false, false, false, false, false, false] (by kernel_rfl) rfl rfl ⟨(blk_cell BK411.out 0).trans rfl, (blk_cell BK411.out 1).trans rfl⟩ (fun hHeld => ?_); refine with_tabW impl_TableOk.tab1 impl_TableOk.bits1 (fun HT_ HW_ => ?_)
    generalize w3.drew = w9 at BK411 HB hHeld ⊢
    refine pure_ (i := 0) (N := some 5) (v := ?_) (a' := ?_) #[true, false, false, false, false, false, false, false, false, false, false, false, false, false, false, false, false, false, false, false, false] rfl rfl (any_of HT_.out (by kernel_rfl)) (fun _ _ _ h => h) (Or.inl ⟨by rfl, ?_⟩) ?_ ?_
    rotate_left
    ·intro w'
     go_simp
     with_reducible rfl
    rotate_left
    ·simp only [Act.put, List.setIfInBounds_toArray, List.set_cons_zero, List.set_cons_succ, i64_w, i32_w]
     rfl
    refine take_ (i := 1) (N := some 6) (v := ?_) (a' := ?_) #[true, true, false, false, false, false, false, false, false, false, false, false, false, false, false, false, false, false, false, false, false] rfl rfl (take_ofW HT_.out HW_.out (by kernel_rfl)) (fun _ _ _ h => h) (Or.inl ⟨by rfl, ?_⟩) hHeld ?_ ?_
    rotate_left
    ·rintro w' ⟨s0, s1⟩
     go_simp
     with_reducible rfl
    rotate_left
    ·simp only [Act.put, List.setIfInBounds_toArray, List.set_cons_zero, List.set_cons_succ, i64_w, i32_w]
     rfl
    refine one_ (i := 2) (N := some 7) #[true, true, true, false, false, false, false, false, false, false, false, false, false, false, false, false, false, false, false, false, false] rfl rfl (one_of HT_.out (by kernel_rfl)) (by decide) (fun K hK => ?_)
    refine goes_ Try.func44 (by kernel_rfl) rfl #[.int .i64 a0_0, .int .i64 0, .int .i64 4294967295] (by rfl) rfl rfl Gv.lm ?_
    with_reducible refine (impl_within.calls a0_0 0 4294967295 true _ A4.out).mono ?_
    rintro e w' ⟨rfl, ⟨nd, rfl⟩⟩
    refine ⟨_, rfl, ?_⟩
    refine hK.out _ _ ⟨(blk_cell BK411.out 0).trans rfl, (blk_cell BK411.out 1).trans rfl⟩ (fun hHeld => ?_)
    clear hK K
    refine norm_ (a' := ?_) ?_ ?_
    rotate_left
    ·show Act.put _ (some 7) _ = _
     simp only [Act.put, List.setIfInBounds_toArray, List.set_cons_zero, List.set_cons_succ, i64_w, i32_w]
     rfl
    refine pure_ (i := 3) (N := some 8) (v := ?_) (a' := ?_) #[true, true, true, true, false, false, false, false, false, false, false, false, false, false, false, false, false, false, false, false, false] rfl rfl (any_of HT_.out (by kernel_rfl)) (fun _ _ _ h => h) (Or.inl ⟨by rfl, ?_⟩) ?_ ?_
    rotate_left
    ·intro w'
     go_simp
     with_reducible rfl
    rotate_left
    ·simp only [Act.put, List.setIfInBounds_toArray, List.set_cons_zero, List.set_cons_succ, i64_w, i32_w]
     rfl
    refine pure_ (i := 4) (N := some 9) (v := ?_) (a' := ?_) #[true, true, true, true, true, false, false, false, false, false, false, false, false, false, false, false, false, false, false, false, false] rfl rfl (any_of HT_.out (by kernel_rfl)) (fun _ _ _ h => h) (Or.inl ⟨by rfl, ?_⟩) ?_ ?_
    rotate_left
    ·intro w'
     go_simp
     with_reducible rfl
    rotate_left
    ·simp only [Act.put, List.setIfInBounds_toArray, List.set_cons_zero, List.set_cons_succ, i64_w, i32_w]
     rfl
    refine pure_ (i := 5) (N := some 10) (v := ?_) (a' := ?_) #[true, true, true, true, true, true, false, false, false, false, false, false, false, false, false, false, false, false, false, false, false] rfl rfl (any_of HT_.out (by kernel_rfl)) (fun _ _ _ h => h) (Or.inl ⟨by rfl, ?_⟩) ?_ ?_
    rotate_left
    ·intro w'
     go_simp
     with_reducible rfl
    rotate_left
    ·simp only [Act.put, List.setIfInBounds_toArray, List.set_cons_zero, List.set_cons_succ, i64_w, i32_w]
     rfl
    refine take_ (i := 6) (N := some 11) (v := ?_) (a' := ?_) #[true, true, true, true, true, true, true, false, false, false, false, false, false, false, false, false, false, false, false, false, false] rfl rfl (take_ofW HT_.out HW_.out (by kernel_rfl)) (fun _ _ _ h => h) (Or.inl ⟨by rfl, ?_⟩) hHeld ?_ ?_
    rotate_left
    ·rintro w' ⟨s0, s1⟩
     go_simp
     with_reducible rfl
    rotate_left
    ·simp only [Act.put, List.setIfInBounds_toArray, List.set_cons_zero, List.set_cons_succ, i64_w, i32_w]
     rfl
    refine pure_ (i := 7) (N := some 12) (v := ?_) (a' := ?_) #[true, true, true, true, true, true, true, true, false, false, false, false, false, false, false, false, false, false, false, false, false] rfl rfl (any_of HT_.out (by kernel_rfl)) (fun _ _ _ h => h) (Or.inl ⟨by rfl, ?_⟩) ?_ ?_
    rotate_left
    ·intro w'
     go_simp
     with_reducible rfl
    rotate_left
    ·simp only [Act.put, List.setIfInBounds_toArray, List.set_cons_zero, List.set_cons_succ, i64_w, i32_w]
     rfl
    refine one_ (i := 8) (N := some 13) #[true, true, true, true, true, true, true, true, true, false, false, false, false, false, false, false, false, false, false, false, false] rfl rfl (one_of HT_.out (by kernel_rfl)) (by decide) (fun K hK => ?_)
    refine goes_ Try.func48 (by kernel_rfl) rfl #[.int .i64 (l0_1.length : Int)] (by rfl) rfl rfl Gv.lm ?_
    with_reducible refine (impl_isCells.calls (l0_1.length : Int) true _ A6.out).mono ?_
    rintro e w' ⟨rfl, ⟨nd, rfl⟩⟩
    refine ⟨_, rfl, ?_⟩
    refine hK.out _ _ ⟨(blk_cell BK411.out 0).trans rfl, (blk_cell BK411.out 1).trans rfl⟩ (fun hHeld => ?_)
    clear hK K
    refine norm_ (a' := ?_) ?_ ?_
    rotate_left
    ·show Act.put _ (some 13) _ = _
     simp only [Act.put, List.setIfInBounds_toArray, List.set_cons_zero, List.set_cons_succ, i64_w, i32_w]
     rfl
    refine pure_ (i := 9) (N := some 14) (v := ?_) (a' := ?_) #[true, true, true, true, true, true, true, true, true, true, false, false, false, false, false, false, false, false, false, false, false] rfl rfl (any_of HT_.out (by kernel_rfl)) (fun _ _ _ h => h) (Or.inl ⟨by rfl, ?_⟩) ?_ ?_
    rotate_left
    ·intro w'
     go_simp
     with_reducible rfl
    rotate_left
    ·simp only [Act.put, List.setIfInBounds_toArray, List.set_cons_zero, List.set_cons_succ, i64_w, i32_w]
     rfl
    refine pure_ (i := 10) (N := some 15) (v := ?_) (a' := ?_) #[true, true, true, true, true, true, true, true, true, true, true, false, false, false, false, false, false, false, false, false, false] rfl rfl (any_of HT_.out (by kernel_rfl)) (fun _ _ _ h => h) (Or.inl ⟨by rfl, ?_⟩) ?_ ?_
    rotate_left
    ·intro w'
     go_simp
     with_reducible rfl
    rotate_left
    ·simp only [Act.put, List.setIfInBounds_toArray, List.set_cons_zero, List.set_cons_succ, i64_w, i32_w]
     rfl
    refine pure_ (i := 11) (N := some 16) (v := ?_) (a' := ?_) #[true, true, true, true, true, true, true, true, true, true, true, true, false, false, false, false, false, false, false, false, false] rfl rfl (any_of HT_.out (by kernel_rfl)) (fun _ _ _ h => h) (Or.inl ⟨by rfl, ?_⟩) ?_ ?_
    rotate_left
    ·intro w'
     go_simp
     with_reducible rfl
    rotate_left
    ·simp only [Act.put, List.setIfInBounds_toArray, List.set_cons_zero, List.set_cons_succ, i64_w, i32_w]
     rfl
    refine pure_ (i := 15) (N := some 20) (v := ?_) (a' := ?_) #[true, true, true, true, true, true, true, true, true, true, true, true, false, false, false, true, false, false, false, false, false] rfl rfl (any_of HT_.out (by kernel_rfl)) (fun _ _ _ h => h) (Or.inl ⟨by rfl, ?_⟩) ?_ ?_
    rotate_left
    ·intro w'
     go_simp
     with_reducible rfl
    rotate_left
    ·simp only [Act.put, List.setIfInBounds_toArray, List.set_cons_zero, List.set_cons_succ, i64_w, i32_w]
     rfl
    refine take_ (i := 12) (N := some 17) (v := ?_) (a' := ?_) #[true, true, true, true, true, true, true, true, true, true, true, true, true, false, false, true, false, false, false, false, false] rfl rfl (take_ofW HT_.out HW_.out (by kernel_rfl)) (fun _ _ _ h => h) (Or.inl ⟨by rfl, ?_⟩) hHeld ?_ ?_
    rotate_left
    ·rintro w' ⟨s0, s1⟩
     go_simp
     with_reducible rfl
    rotate_left
    ·simp only [Act.put, List.setIfInBounds_toArray, List.set_cons_zero, List.set_cons_succ, i64_w, i32_w]
     rfl
    refine take_ (i := 16) (N := some 21) (v := ?_) (a' := ?_) #[true, true, true, true, true, true, true, true, true, true, true, true, true, false, false, true, true, false, false, false, false] rfl rfl (take_ofW HT_.out HW_.out (by kernel_rfl)) (fun _ _ _ h => h) (Or.inl ⟨by rfl, ?_⟩) hHeld ?_ ?_
    rotate_left
    ·rintro w' ⟨s0, s1⟩
     go_simp
     with_reducible rfl
    rotate_left
    ·simp only [Act.put, List.setIfInBounds_toArray, List.set_cons_zero, List.set_cons_succ, i64_w, i32_w]
     rfl
    refine pure_ (i := 17) (N := some 22) (v := ?_) (a' := ?_) #[true, true, true, true, true, true, true, true, true, true, true, true, true, false, false, true, true, true, false, false, false] rfl rfl (any_of HT_.out (by kernel_rfl)) (fun _ _ _ h => h) (Or.inl ⟨by rfl, ?_⟩) ?_ ?_
    rotate_left
    ·intro w'
     go_simp
     with_reducible rfl
    rotate_left
    ·simp only [Act.put, List.setIfInBounds_toArray, List.set_cons_zero, List.set_cons_succ, i64_w, i32_w]
     rfl
    refine pure_ (i := 18) (N := some 23) (v := ?_) (a' := ?_) #[true, true, true, true, true, true, true, true, true, true, true, true, true, false, false, true, true, true, true, false, false] rfl rfl (any_of HT_.out (by kernel_rfl)) (fun _ _ _ h => h) (Or.inl ⟨by rfl, ?_⟩) ?_ ?_
    rotate_left
    ·intro w'
     go_simp
     with_reducible rfl
    rotate_left
    ·simp only [Act.put, List.setIfInBounds_toArray, List.set_cons_zero, List.set_cons_succ, i64_w, i32_w]
     rfl
    refine one_ (i := 13) (N := some 18) #[true, true, true, true, true, true, true, true, true, true, true, true, true, true, false, true, true, true, true, false, false] rfl rfl (one_of HT_.out (by kernel_rfl)) (by decide) (fun K hK => ?_)
    refine goes_ Try.func57 (by kernel_rfl) rfl #[.agg #[.int .i64 a0_0, .slice A0_1 l0_1.length c0_1]] (by rfl) rfl rfl Gv.lm ?_
    with_reducible refine (impl_Table_used.calls k a0_0 _ _ l0_1 t414 _ ?side1 ?side2 A8.out).mono ?_
    (case side1 => repeat (first | exact (Kd.C_below HR0_1.out Gv.bw) | (with_reducible refine Kd.C_alloc ?_ _) | (with_reducible refine Kd.C_drewN ?_ _) | (with_reducible refine Kd.C_drew ?_)))
    (case side2 => exact HC0_1.out)
    rintro e w10 ⟨rfl, hb⟩
    refine ⟨_, rfl, ?_⟩
    have n0_ := Gv.a0 (Gv.bb BK411.out hb)
    have n1_ := Gv.a0 (below_step Gv.bw hb)
    clear BK411
    clear HB
    have BK411 := n0_
    have HB := n1_
    clear n0_ n1_
    (try clear hb)
    (try clear hb2)
    (try clear hk)
    (try clear hi)
    refine hK.out _ _ ⟨(blk_cell BK411.out 0).trans rfl, (blk_cell BK411.out 1).trans rfl⟩ (fun hHeld => ?_)
    clear hK K
    refine norm_ (a' := ?_) ?_ ?_
    rotate_left
    ·show Act.put _ (some 18) _ = _
     simp only [Act.put, List.setIfInBounds_toArray, List.set_cons_zero, List.set_cons_succ, i64_w, i32_w]
     rfl
    refine pure_ (i := 14) (N := some 19) (v := ?_) (a' := ?_) #[true, true, true, true, true, true, true, true, true, true, true, true, true, true, true, true, true, true, true, false, false] rfl rfl (any_of HT_.out (by kernel_rfl)) (fun _ _ _ h => h) (Or.inl ⟨by rfl, ?_⟩) ?_ ?_
    rotate_left
    ·intro w'
     go_simp
     with_reducible rfl
    rotate_left
    ·simp only [Act.put, List.setIfInBounds_toArray, List.set_cons_zero, List.set_cons_succ, i64_w, i32_w]
     rfl
    refine pure_ (i := 19) (N := some 24) (v := ?_) (a' := ?_) #[true, true, true, true, true, true, true, true, true, true, true, true, true, true, true, true, true, true, true, true, false] rfl rfl (any_of HT_.out (by kernel_rfl)) (fun _ _ _ h => h) (Or.inl ⟨by rfl, ?_⟩) ?_ ?_
    rotate_left
    ·intro w'
     go_simp
     with_reducible rfl
    rotate_left
    ·simp only [Act.put, List.setIfInBounds_toArray, List.set_cons_zero, List.set_cons_succ, i64_w, i32_w]
     rfl
    refine pure_ (i := 20) (N := some 25) (v := ?_) (a' := ?_) #[true, true, true, true, true, true, true, true, true, true, true, true, true, true, true, true, true, true, true, true, true] rfl rfl (any_of HT_.out (by kernel_rfl)) (fun _ _ _ h => h) (Or.inl ⟨by rfl, ?_⟩) ?_ ?_
    rotate_left
    ·intro w'
     go_simp
     with_reducible rfl
    rotate_left
    ·simp only [Act.put, List.setIfInBounds_toArray, List.set_cons_zero, List.set_cons_succ, i64_w, i32_w]
     rfl
    refine done_ (done_of HT_.out (by kernel_rfl)) ?_
    try go_wp2
    go_meet
    case rel => exact ⟨_, (decide ((wrap64 (4 * t414)) > (wrap64 (3 * (l0_1.length : Int))))), (by first | rfl | (simp; done) | (simp [Int.tdiv_eq_ediv_of_nonneg]; done) | (simp [*]; done)), H', ⟨by first | omega | exact Nat.le_refl _⟩, ⟨by (with_reducible repeat (first | refine blk_drewN ?_ _ | refine blk_drew ?_ | refine blk_alloc ?_ _)); exact BK411.out⟩, ⟨by repeat (first | (with_reducible first | exact HB.out | apply below_alloc | apply pw_below_drewN | apply below_drew1 | refine below_set ?_ GE411.out) | exact HB.out)⟩⟩
   ·replace c7 := Bool.eq_false_iff.mpr c7
    subst c7
    have H1 : (impl_TableOk.j0 k true a0_0 l0_1) = some r := by rw [if_neg (show ¬ (false = true) by decide)] at H; exact H
    clear H
    have H := H1
    clear H1
    have H' := Gv.a0 H
    clear H
    try go_wp2
    have n0_ := Gv.a0 (blk_drew BK411.out)
    have n1_ := Gv.a0 (below_drew1 HB.out)
    clear BK411
    clear HB
    have BK411 := n0_
    have HB := n1_
    clear n0_ n1_
    refine start_ (n := 21) (S := fun w' => w'.cell? ⟨gb411, 0, none⟩ = some (.int .i64 a0_0) ∧ w'.cell? ⟨gb411, 1, none⟩ = some (.slice A0_1 l0_1.length c0_1)) (ds := []) #[false, false, false, false, false, false, false, false, false, false, false, false, false, false, false, false, false, false, false, false, false] (by kernel_rfl) rfl rfl ⟨(blk_cell BK411.out 0).trans rfl, (blk_cell BK411.out 1).trans rfl⟩ (fun hHeld => ?_); refine with_tabW impl_TableOk.tab1 impl_TableOk.bits1 (fun HT_ HW_ => ?_)
    generalize w3.drew = w11 at BK411 HB hHeld ⊢
    refine pure_ (i := 0) (N := some 5) (v := ?_) (a' := ?_) #[true, false, false, false, false, false, false, false, false, false, false, false, false, false, false, false, false, false, false, false, false] rfl rfl (any_of HT_.out (by kernel_rfl)) (fun _ _ _ h => h) (Or.inl ⟨by rfl, ?_⟩) ?_ ?_
    rotate_left
    ·intro w'
     go_simp
     with_reducible rfl
    rotate_left
    ·simp only [Act.put, List.setIfInBounds_toArray, List.set_cons_zero, List.set_cons_succ, i64_w, i32_w]
     rfl
    refine take_ (i := 1) (N := some 6) (v := ?_) (a' := ?_) #[true, true, false, false, false, false, false, false, false, false, false, false, false, false, false, false, false, false, false, false, false] rfl rfl (take_ofW HT_.out HW_.out (by kernel_rfl)) (fun _ _ _ h => h) (Or.inl ⟨by rfl, ?_⟩) hHeld ?_ ?_
    rotate_left
    ·rintro w' ⟨s0, s1⟩
     go_simp
     with_reducible rfl
    rotate_left
    ·simp only [Act.put, List.setIfInBounds_toArray, List.set_cons_zero, List.set_cons_succ, i64_w, i32_w]
     rfl
    refine one_ (i := 2) (N := some 7) #[true, true, true, false, false, false, false, false, false, false, false, false, false, false, false, false, false, false, false, false, false] rfl rfl (one_of HT_.out (by kernel_rfl)) (by decide) (fun K hK => ?_)
    refine goes_ Try.func44 (by kernel_rfl) rfl #[.int .i64 a0_0, .int .i64 0, .int .i64 4294967295] (by rfl) rfl rfl Gv.lm ?_
    with_reducible refine (impl_within.calls a0_0 0 4294967295 true _ A4.out).mono ?_
    rintro e w' ⟨rfl, ⟨nd, rfl⟩⟩
    refine ⟨_, rfl, ?_⟩
    refine hK.out _ _ ⟨(blk_cell BK411.out 0).trans rfl, (blk_cell BK411.out 1).trans rfl⟩ (fun hHeld => ?_)
    clear hK K
    refine norm_ (a' := ?_) ?_ ?_
    rotate_left
    ·show Act.put _ (some 7) _ = _
     simp only [Act.put, List.setIfInBounds_toArray, List.set_cons_zero, List.set_cons_succ, i64_w, i32_w]
     rfl
    refine pure_ (i := 3) (N := some 8) (v := ?_) (a' := ?_) #[true, true, true, true, false, false, false, false, false, false, false, false, false, false, false, false, false, false, false, false, false] rfl rfl (any_of HT_.out (by kernel_rfl)) (fun _ _ _ h => h) (Or.inl ⟨by rfl, ?_⟩) ?_ ?_
    rotate_left
    ·intro w'
     go_simp
     with_reducible rfl
    rotate_left
    ·simp only [Act.put, List.setIfInBounds_toArray, List.set_cons_zero, List.set_cons_succ, i64_w, i32_w]
     rfl
    refine pure_ (i := 4) (N := some 9) (v := ?_) (a' := ?_) #[true, true, true, true, true, false, false, false, false, false, false, false, false, false, false, false, false, false, false, false, false] rfl rfl (any_of HT_.out (by kernel_rfl)) (fun _ _ _ h => h) (Or.inl ⟨by rfl, ?_⟩) ?_ ?_
    rotate_left
    ·intro w'
     go_simp
     with_reducible rfl
    rotate_left
    ·simp only [Act.put, List.setIfInBounds_toArray, List.set_cons_zero, List.set_cons_succ, i64_w, i32_w]
     rfl
    refine pure_ (i := 5) (N := some 10) (v := ?_) (a' := ?_) #[true, true, true, true, true, true, false, false, false, false, false, false, false, false, false, false, false, false, false, false, false] rfl rfl (any_of HT_.out (by kernel_rfl)) (fun _ _ _ h => h) (Or.inl ⟨by rfl, ?_⟩) ?_ ?_
    rotate_left
    ·intro w'
     go_simp
     with_reducible rfl
    rotate_left
    ·simp only [Act.put, List.setIfInBounds_toArray, List.set_cons_zero, List.set_cons_succ, i64_w, i32_w]
     rfl
    refine take_ (i := 6) (N := some 11) (v := ?_) (a' := ?_) #[true, true, true, true, true, true, true, false, false, false, false, false, false, false, false, false, false, false, false, false, false] rfl rfl (take_ofW HT_.out HW_.out (by kernel_rfl)) (fun _ _ _ h => h) (Or.inl ⟨by rfl, ?_⟩) hHeld ?_ ?_
    rotate_left
    ·rintro w' ⟨s0, s1⟩
     go_simp
     with_reducible rfl
    rotate_left
    ·simp only [Act.put, List.setIfInBounds_toArray, List.set_cons_zero, List.set_cons_succ, i64_w, i32_w]
     rfl
    refine pure_ (i := 7) (N := some 12) (v := ?_) (a' := ?_) #[true, true, true, true, true, true, true, true, false, false, false, false, false, false, false, false, false, false, false, false, false] rfl rfl (any_of HT_.out (by kernel_rfl)) (fun _ _ _ h => h) (Or.inl ⟨by rfl, ?_⟩) ?_ ?_
    rotate_left
    ·intro w'
     go_simp
     with_reducible rfl
    rotate_left
    ·simp only [Act.put, List.setIfInBounds_toArray, List.set_cons_zero, List.set_cons_succ, i64_w, i32_w]
     rfl
    refine one_ (i := 8) (N := some 13) #[true, true, true, true, true, true, true, true, true, false, false, false, false, false, false, false, false, false, false, false, false] rfl rfl (one_of HT_.out (by kernel_rfl)) (by decide) (fun K hK => ?_)
    refine goes_ Try.func48 (by kernel_rfl) rfl #[.int .i64 (l0_1.length : Int)] (by rfl) rfl rfl Gv.lm ?_
    with_reducible refine (impl_isCells.calls (l0_1.length : Int) false _ A6.out).mono ?_
    rintro e w' ⟨rfl, ⟨nd, rfl⟩⟩
    refine ⟨_, rfl, ?_⟩
    refine hK.out _ _ ⟨(blk_cell BK411.out 0).trans rfl, (blk_cell BK411.out 1).trans rfl⟩ (fun hHeld => ?_)
    clear hK K
    refine norm_ (a' := ?_) ?_ ?_
    rotate_left
    ·show Act.put _ (some 13) _ = _
     simp only [Act.put, List.setIfInBounds_toArray, List.set_cons_zero, List.set_cons_succ, i64_w, i32_w]
     rfl
    refine pure_ (i := 9) (N := some 14) (v := ?_) (a' := ?_) #[true, true, true, true, true, true, true, true, true, true, false, false, false, false, false, false, false, false, false, false, false] rfl rfl (any_of HT_.out (by kernel_rfl)) (fun _ _ _ h => h) (Or.inl ⟨by rfl, ?_⟩) ?_ ?_
    rotate_left
    ·intro w'
     go_simp
     with_reducible rfl
    rotate_left
    ·simp only [Act.put, List.setIfInBounds_toArray, List.set_cons_zero, List.set_cons_succ, i64_w, i32_w]
     rfl
    refine pure_ (i := 10) (N := some 15) (v := ?_) (a' := ?_) #[true, true, true, true, true, true, true, true, true, true, true, false, false, false, false, false, false, false, false, false, false] rfl rfl (any_of HT_.out (by kernel_rfl)) (fun _ _ _ h => h) (Or.inl ⟨by rfl, ?_⟩) ?_ ?_
    rotate_left
    ·intro w'
     go_simp
     with_reducible rfl
    rotate_left
    ·simp only [Act.put, List.setIfInBounds_toArray, List.set_cons_zero, List.set_cons_succ, i64_w, i32_w]
     rfl
    refine pure_ (i := 11) (N := some 16) (v := ?_) (a' := ?_) #[true, true, true, true, true, true, true, true, true, true, true, true, false, false, false, false, false, false, false, false, false] rfl rfl (any_of HT_.out (by kernel_rfl)) (fun _ _ _ h => h) (Or.inl ⟨by rfl, ?_⟩) ?_ ?_
    rotate_left
    ·intro w'
     go_simp
     with_reducible rfl
    rotate_left
    ·simp only [Act.put, List.setIfInBounds_toArray, List.set_cons_zero, List.set_cons_succ, i64_w, i32_w]
     rfl
    refine pure_ (i := 12) (N := some 17) (v := undef) (a' := ?_) #[true, true, true, true, true, true, true, true, true, true, true, true, true, false, false, false, false, false, false, false, false] rfl rfl (any_of HT_.out (by kernel_rfl)) (fun _ _ _ h => h) (Or.inr ⟨by rfl, rfl⟩) ?_ ?_
    rotate_left
    ·simp only [Act.put, List.setIfInBounds_toArray, List.set_cons_zero, List.set_cons_succ, i64_w, i32_w]
     rfl
    refine pure_ (i := 13) (N := some 18) (v := undef) (a' := ?_) #[true, true, true, true, true, true, true, true, true, true, true, true, true, true, false, false, false, false, false, false, false] rfl rfl (any_of HT_.out (by kernel_rfl)) (fun _ _ _ h => h) (Or.inr ⟨by rfl, rfl⟩) ?_ ?_
    rotate_left
    ·simp only [Act.put, List.setIfInBounds_toArray, List.set_cons_zero, List.set_cons_succ, i64_w, i32_w]
     rfl
    refine pure_ (i := 14) (N := some 19) (v := undef) (a' := ?_) #[true, true, true, true, true, true, true, true, true, true, true, true, true, true, true, false, false, false, false, false, false] rfl rfl (any_of HT_.out (by kernel_rfl)) (fun _ _ _ h => h) (Or.inr ⟨by rfl, rfl⟩) ?_ ?_
    rotate_left
    ·simp only [Act.put, List.setIfInBounds_toArray, List.set_cons_zero, List.set_cons_succ, i64_w, i32_w]
     rfl
    refine pure_ (i := 15) (N := some 20) (v := undef) (a' := ?_) #[true, true, true, true, true, true, true, true, true, true, true, true, true, true, true, true, false, false, false, false, false] rfl rfl (any_of HT_.out (by kernel_rfl)) (fun _ _ _ h => h) (Or.inr ⟨by rfl, rfl⟩) ?_ ?_
    rotate_left
    ·simp only [Act.put, List.setIfInBounds_toArray, List.set_cons_zero, List.set_cons_succ, i64_w, i32_w]
     rfl
    refine pure_ (i := 16) (N := some 21) (v := undef) (a' := ?_) #[true, true, true, true, true, true, true, true, true, true, true, true, true, true, true, true, true, false, false, false, false] rfl rfl (any_of HT_.out (by kernel_rfl)) (fun _ _ _ h => h) (Or.inr ⟨by rfl, rfl⟩) ?_ ?_
    rotate_left
    ·simp only [Act.put, List.setIfInBounds_toArray, List.set_cons_zero, List.set_cons_succ, i64_w, i32_w]
     rfl
    refine pure_ (i := 17) (N := some 22) (v := undef) (a' := ?_) #[true, true, true, true, true, true, true, true, true, true, true, true, true, true, true, true, true, true, false, false, false] rfl rfl (any_of HT_.out (by kernel_rfl)) (fun _ _ _ h => h) (Or.inr ⟨by rfl, rfl⟩) ?_ ?_
    rotate_left
    ·simp only [Act.put, List.setIfInBounds_toArray, List.set_cons_zero, List.set_cons_succ, i64_w, i32_w]
     rfl
    refine pure_ (i := 18) (N := some 23) (v := undef) (a' := ?_) #[true, true, true, true, true, true, true, true, true, true, true, true, true, true, true, true, true, true, true, false, false] rfl rfl (any_of HT_.out (by kernel_rfl)) (fun _ _ _ h => h) (Or.inr ⟨by rfl, rfl⟩) ?_ ?_
    rotate_left
    ·simp only [Act.put, List.setIfInBounds_toArray, List.set_cons_zero, List.set_cons_succ, i64_w, i32_w]
     rfl
    refine pure_ (i := 19) (N := some 24) (v := undef) (a' := ?_) #[true, true, true, true, true, true, true, true, true, true, true, true, true, true, true, true, true, true, true, true, false] rfl rfl (any_of HT_.out (by kernel_rfl)) (fun _ _ _ h => h) (Or.inr ⟨by rfl, rfl⟩) ?_ ?_
    rotate_left
    ·simp only [Act.put, List.setIfInBounds_toArray, List.set_cons_zero, List.set_cons_succ, i64_w, i32_w]
     rfl
    refine pure_ (i := 20) (N := some 25) (v := ?_) (a' := ?_) #[true, true, true, true, true, true, true, true, true, true, true, true, true, true, true, true, true, true, true, true, true] rfl rfl (any_of HT_.out (by kernel_rfl)) (fun _ _ _ h => h) (Or.inl ⟨by rfl, ?_⟩) ?_ ?_
    rotate_left
    ·intro w'
     go_simp
     with_reducible rfl
    rotate_left
    ·simp only [Act.put, List.setIfInBounds_toArray, List.set_cons_zero, List.set_cons_succ, i64_w, i32_w]
     rfl
    refine done_ (done_of HT_.out (by kernel_rfl)) ?_
    try go_wp2
    go_meet
    case rel => exact ⟨_, (true), (by first | rfl | (simp; done) | (simp [Int.tdiv_eq_ediv_of_nonneg]; done) | (simp [*]; done)), H', ⟨by first | omega | exact Nat.le_refl _⟩, ⟨by (with_reducible repeat (first | refine blk_drewN ?_ _ | refine blk_drew ?_ | refine blk_alloc ?_ _)); exact BK411.out⟩, ⟨by repeat (first | (with_reducible first | exact HB.out | apply below_alloc | apply pw_below_drewN | apply below_drew1 | refine below_set ?_ GE411.out) | exact HB.out)⟩⟩
  ·replace c5 := Bool.eq_false_iff.mpr c5
   subst c5
   have H1 : (impl_TableOk.j0 k true a0_0 l0_1) = some r := by rw [if_neg (show ¬ (false = true) by decide)] at H; exact H
   clear H
   have H := H1
   clear H1
   have H' := Gv.a0 H
   clear H
   try go_wp2
   have n0_ := Gv.a0 (blk_drew BK411.out)
   have n1_ := Gv.a0 (below_drew1 HB.out)
   clear BK411
   clear HB
   have BK411 := n0_
   have HB := n1_
   clear n0_ n1_
   refine start_ (n := 21) (S := fun w' => w'.cell? ⟨gb411, 0, none⟩ = some (.int .i64 a0_0) ∧ w'.cell? ⟨gb411, 1, none⟩ = some (.slice A0_1 l0_1.length c0_1)) (ds := []) #[false, false, false, false, false, false, false, false, false, false, false, false, false, false, false, false, false, false, false, false, false] (by kernel_rfl) rfl rfl ⟨(blk_cell BK411.out 0).trans rfl, (blk_cell BK411.out 1).trans rfl⟩ (fun hHeld => ?_); refine with_tabW impl_TableOk.tab1 impl_TableOk.bits1 (fun HT_ HW_ => ?_)
   generalize w3.drew = w12 at BK411 HB hHeld ⊢
   refine pure_ (i := 0) (N := some 5) (v := ?_) (a' := ?_) #[true, false, false, false, false, false, false, false, false, false, false, false, false, false, false, false, false, false, false, false, false] rfl rfl (any_of HT_.out (by kernel_rfl)) (fun _ _ _ h => h) (Or.inl ⟨by rfl, ?_⟩) ?_ ?_
   rotate_left
   ·intro w'
    go_simp
    with_reducible rfl
   rotate_left
   ·simp only [Act.put, List.setIfInBounds_toArray, List.set_cons_zero, List.set_cons_succ, i64_w, i32_w]
    rfl
   refine take_ (i := 1) (N := some 6) (v := ?_) (a' := ?_) #[true, true, false, false, false, false, false, false, false, false, false, false, false, false, false, false, false, false, false, false, false] rfl rfl (take_ofW HT_.out HW_.out (by kernel_rfl)) (fun _ _ _ h => h) (Or.inl ⟨by rfl, ?_⟩) hHeld ?_ ?_
   rotate_left
   ·rintro w' ⟨s0, s1⟩
    go_simp
    with_reducible rfl
   rotate_left
   ·simp only [Act.put, List.setIfInBounds_toArray, List.set_cons_zero, List.set_cons_succ, i64_w, i32_w]
    rfl
   refine one_ (i := 2) (N := some 7) #[true, true, true, false, false, false, false, false, false, false, false, false, false, false, false, false, false, false, false, false, false] rfl rfl (one_of HT_.out (by kernel_rfl)) (by decide) (fun K hK => ?_)
   refine goes_ Try.func44 (by kernel_rfl) rfl #[.int .i64 a0_0, .int .i64 0, .int .i64 4294967295] (by rfl) rfl rfl Gv.lm ?_
   with_reducible refine (impl_within.calls a0_0 0 4294967295 false _ A4.out).mono ?_
   rintro e w' ⟨rfl, ⟨nd, rfl⟩⟩
   refine ⟨_, rfl, ?_⟩
   refine hK.out _ _ ⟨(blk_cell BK411.out 0).trans rfl, (blk_cell BK411.out 1).trans rfl⟩ (fun hHeld => ?_)
   clear hK K
   refine norm_ (a' := ?_) ?_ ?_
   rotate_left
   ·show Act.put _ (some 7) _ = _
    simp only [Act.put, List.setIfInBounds_toArray, List.set_cons_zero, List.set_cons_succ, i64_w, i32_w]
    rfl
   refine pure_ (i := 3) (N := some 8) (v := ?_) (a' := ?_) #[true, true, true, true, false, false, false, false, false, false, false, false, false, false, false, false, false, false, false, false, false] rfl rfl (any_of HT_.out (by kernel_rfl)) (fun _ _ _ h => h) (Or.inl ⟨by rfl, ?_⟩) ?_ ?_
   rotate_left
   ·intro w'
    go_simp
    with_reducible rfl
   rotate_left
   ·simp only [Act.put, List.setIfInBounds_toArray, List.set_cons_zero, List.set_cons_succ, i64_w, i32_w]
    rfl
   refine pure_ (i := 4) (N := some 9) (v := ?_) (a' := ?_) #[true, true, true, true, true, false, false, false, false, false, false, false, false, false, false, false, false, false, false, false, false] rfl rfl (any_of HT_.out (by kernel_rfl)) (fun _ _ _ h => h) (Or.inl ⟨by rfl, ?_⟩) ?_ ?_
   rotate_left
   ·intro w'
    go_simp
    with_reducible rfl
   rotate_left
   ·simp only [Act.put, List.setIfInBounds_toArray, List.set_cons_zero, List.set_cons_succ, i64_w, i32_w]
    rfl
   refine pure_ (i := 5) (N := some 10) (v := undef) (a' := ?_) #[true, true, true, true, true, true, false, false, false, false, false, false, false, false, false, false, false, false, false, false, false] rfl rfl (any_of HT_.out (by kernel_rfl)) (fun _ _ _ h => h) (Or.inr ⟨by rfl, rfl⟩) ?_ ?_
   rotate_left
   ·simp only [Act.put, List.setIfInBounds_toArray, List.set_cons_zero, List.set_cons_succ, i64_w, i32_w]
    rfl
   refine pure_ (i := 6) (N := some 11) (v := undef) (a' := ?_) #[true, true, true, true, true, true, true, false, false, false, false, false, false, false, false, false, false, false, false, false, false] rfl rfl (any_of HT_.out (by kernel_rfl)) (fun _ _ _ h => h) (Or.inr ⟨by rfl, rfl⟩) ?_ ?_
   rotate_left
   ·simp only [Act.put, List.setIfInBounds_toArray, List.set_cons_zero, List.set_cons_succ, i64_w, i32_w]
    rfl
   refine pure_ (i := 7) (N := some 12) (v := undef) (a' := ?_) #[true, true, true, true, true, true, true, true, false, false, false, false, false, false, false, false, false, false, false, false, false] rfl rfl (any_of HT_.out (by kernel_rfl)) (fun _ _ _ h => h) (Or.inr ⟨by rfl, rfl⟩) ?_ ?_
   rotate_left
   ·simp only [Act.put, List.setIfInBounds_toArray, List.set_cons_zero, List.set_cons_succ, i64_w, i32_w]
    rfl
   refine pure_ (i := 8) (N := some 13) (v := undef) (a' := ?_) #[true, true, true, true, true, true, true, true, true, false, false, false, false, false, false, false, false, false, false, false, false] rfl rfl (any_of HT_.out (by kernel_rfl)) (fun _ _ _ h => h) (Or.inr ⟨by rfl, rfl⟩) ?_ ?_
   rotate_left
   ·simp only [Act.put, List.setIfInBounds_toArray, List.set_cons_zero, List.set_cons_succ, i64_w, i32_w]
    rfl
   refine pure_ (i := 9) (N := some 14) (v := undef) (a' := ?_) #[true, true, true, true, true, true, true, true, true, true, false, false, false, false, false, false, false, false, false, false, false] rfl rfl (any_of HT_.out (by kernel_rfl)) (fun _ _ _ h => h) (Or.inr ⟨by rfl, rfl⟩) ?_ ?_
   rotate_left
   ·simp only [Act.put, List.setIfInBounds_toArray, List.set_cons_zero, List.set_cons_succ, i64_w, i32_w]
    rfl
   refine pure_ (i := 10) (N := some 15) (v := ?_) (a' := ?_) #[true, true, true, true, true, true, true, true, true, true, true, false, false, false, false, false, false, false, false, false, false] rfl rfl (any_of HT_.out (by kernel_rfl)) (fun _ _ _ h => h) (Or.inl ⟨by rfl, ?_⟩) ?_ ?_
   rotate_left
   ·intro w'
    go_simp
    with_reducible rfl
   rotate_left
   ·simp only [Act.put, List.setIfInBounds_toArray, List.set_cons_zero, List.set_cons_succ, i64_w, i32_w]
    rfl
   refine pure_ (i := 11) (N := some 16) (v := ?_) (a' := ?_) #[true, true, true, true, true, true, true, true, true, true, true, true, false, false, false, false, false, false, false, false, false] rfl rfl (any_of HT_.out (by kernel_rfl)) (fun _ _ _ h => h) (Or.inl ⟨by rfl, ?_⟩) ?_ ?_
   rotate_left
   ·intro w'
    go_simp
    with_reducible rfl
   rotate_left
   ·simp only [Act.put, List.setIfInBounds_toArray, List.set_cons_zero, List.set_cons_succ, i64_w, i32_w]
    rfl
   refine pure_ (i := 12) (N := some 17) (v := undef) (a' := ?_) #[true, true, true, true, true, true, true, true, true, true, true, true, true, false, false, false, false, false, false, false, false] rfl rfl (any_of HT_.out (by kernel_rfl)) (fun _ _ _ h => h) (Or.inr ⟨by rfl, rfl⟩) ?_ ?_
   rotate_left
   ·simp only [Act.put, List.setIfInBounds_toArray, List.set_cons_zero, List.set_cons_succ, i64_w, i32_w]
    rfl
   refine pure_ (i := 13) (N := some 18) (v := undef) (a' := ?_) #[true, true, true, true, true, true, true, true, true, true, true, true, true, true, false, false, false, false, false, false, false] rfl rfl (any_of HT_.out (by kernel_rfl)) (fun _ _ _ h => h) (Or.inr ⟨by rfl, rfl⟩) ?_ ?_
   rotate_left
   ·simp only [Act.put, List.setIfInBounds_toArray, List.set_cons_zero, List.set_cons_succ, i64_w, i32_w]
    rfl
   refine pure_ (i := 14) (N := some 19) (v := undef) (a' := ?_) #[true, true, true, true, true, true, true, true, true, true, true, true, true, true, true, false, false, false, false, false, false] rfl rfl (any_of HT_.out (by kernel_rfl)) (fun _ _ _ h => h) (Or.inr ⟨by rfl, rfl⟩) ?_ ?_
   rotate_left
   ·simp only [Act.put, List.setIfInBounds_toArray, List.set_cons_zero, List.set_cons_succ, i64_w, i32_w]
    rfl
   refine pure_ (i := 15) (N := some 20) (v := undef) (a' := ?_) #[true, true, true, true, true, true, true, true, true, true, true, true, true, true, true, true, false, false, false, false, false] rfl rfl (any_of HT_.out (by kernel_rfl)) (fun _ _ _ h => h) (Or.inr ⟨by rfl, rfl⟩) ?_ ?_
   rotate_left
   ·simp only [Act.put, List.setIfInBounds_toArray, List.set_cons_zero, List.set_cons_succ, i64_w, i32_w]
    rfl
   refine pure_ (i := 16) (N := some 21) (v := undef) (a' := ?_) #[true, true, true, true, true, true, true, true, true, true, true, true, true, true, true, true, true, false, false, false, false] rfl rfl (any_of HT_.out (by kernel_rfl)) (fun _ _ _ h => h) (Or.inr ⟨by rfl, rfl⟩) ?_ ?_
   rotate_left
   ·simp only [Act.put, List.setIfInBounds_toArray, List.set_cons_zero, List.set_cons_succ, i64_w, i32_w]
    rfl
   refine pure_ (i := 17) (N := some 22) (v := undef) (a' := ?_) #[true, true, true, true, true, true, true, true, true, true, true, true, true, true, true, true, true, true, false, false, false] rfl rfl (any_of HT_.out (by kernel_rfl)) (fun _ _ _ h => h) (Or.inr ⟨by rfl, rfl⟩) ?_ ?_
   rotate_left
   ·simp only [Act.put, List.setIfInBounds_toArray, List.set_cons_zero, List.set_cons_succ, i64_w, i32_w]
    rfl
   refine pure_ (i := 18) (N := some 23) (v := undef) (a' := ?_) #[true, true, true, true, true, true, true, true, true, true, true, true, true, true, true, true, true, true, true, false, false] rfl rfl (any_of HT_.out (by kernel_rfl)) (fun _ _ _ h => h) (Or.inr ⟨by rfl, rfl⟩) ?_ ?_
   rotate_left
   ·simp only [Act.put, List.setIfInBounds_toArray, List.set_cons_zero, List.set_cons_succ, i64_w, i32_w]
    rfl
   refine pure_ (i := 19) (N := some 24) (v := undef) (a' := ?_) #[true, true, true, true, true, true, true, true, true, true, true, true, true, true, true, true, true, true, true, true, false] rfl rfl (any_of HT_.out (by kernel_rfl)) (fun _ _ _ h => h) (Or.inr ⟨by rfl, rfl⟩) ?_ ?_
   rotate_left
   ·simp only [Act.put, List.setIfInBounds_toArray, List.set_cons_zero, List.set_cons_succ, i64_w, i32_w]
    rfl
   refine pure_ (i := 20) (N := some 25) (v := ?_) (a' := ?_) #[true, true, true, true, true, true, true, true, true, true, true, true, true, true, true, true, true, true, true, true, true] rfl rfl (any_of HT_.out (by kernel_rfl)) (fun _ _ _ h => h) (Or.inl ⟨by rfl, ?_⟩) ?_ ?_
   rotate_left
   ·intro w'
    go_simp
    with_reducible rfl
   rotate_left
   ·simp only [Act.put, List.setIfInBounds_toArray, List.set_cons_zero, List.set_cons_succ, i64_w, i32_w]
    rfl
   refine done_ (done_of HT_.out (by kernel_rfl)) ?_
   try go_wp2
   go_meet
   case rel => exact ⟨_, (true), (by first | rfl | (simp; done) | (simp [Int.tdiv_eq_ediv_of_nonneg]; done) | (simp [*]; done)), H', ⟨by first | omega | exact Nat.le_refl _⟩, ⟨by (with_reducible repeat (first | refine blk_drewN ?_ _ | refine blk_drew ?_ | refine blk_alloc ?_ _)); exact BK411.out⟩, ⟨by repeat (first | (with_reducible first | exact HB.out | apply below_alloc | apply pw_below_drewN | apply below_drew1 | refine below_set ?_ GE411.out) | exact HB.out)⟩⟩
 case rest =>
  clear HC2
  try clear c2
  try clear p2
  try clear c4
  try clear c5
  try clear p6
  try clear c7
  obtain ⟨kq, x25_1, rfl, HA, HJ1, BK411, HB⟩ := hcut
  cases kq with
  | zero => exact absurd HA.out (by simp [impl_TableOk.j0])
  | succ kj1 =>
   have H := HA.out
   clear HA
   simp only [impl_TableOk.j0] at H
   by_cases c13 : x25_1 = true
   ·subst c13
    have H1 : (some false) = some r := by rw [if_pos rfl] at H; exact H
    clear H
    have H := H1
    clear H1
    obtain rfl := Option.some.inj H
    go_wp2_with (first | ((with_reducible refine Gv.gate_load (t := 75) rfl ?_); (try (refine gate_guard (by rfl) ?_; dsimp only)); refine wpList_load_row rfl 75 _ rfl gb416 rfl 75 _ _ _ (Gv.kbp BK416.out) Try.underlying75 rfl (by kernel_rfl) ?_))
    go_ret
    exact ⟨by first | rfl | (simp [errW_none, errW_some] <;> rfl) | (simp [*, errW_none, errW_some] <;> rfl), by repeat (first | (with_reducible first | exact HB.out | apply below_alloc | apply pw_below_drewN | apply below_drew1 | refine below_set ?_ GE411.out) | exact HB.out)⟩
   ·replace c13 := Bool.eq_false_iff.mpr c13
    subst c13
    have H1 : (impl_TableOk.l0 kj1 l0_1 (l0_1.length : Int) 0 a0_0 l0_1) = some r := by rw [if_neg (show ¬ (false = true) by decide)] at H; exact H
    clear H
    have H := H1
    clear H1
    have H' := Gv.a0 H
    clear H
    have hcz14_0 : wc.cell? ⟨gb411, 0, none⟩ = some (.int .i64 a0_0) := (blk_cell BK411.out 0).trans rfl
    have hcz14_1 : wc.cell? ⟨gb411, 1, none⟩ = some (.slice A0_1 l0_1.length c0_1) := (blk_cell BK411.out 1).trans rfl
    have hfz14_0 := blk_frozen BK411.out 0
    have hfz14_1 := blk_frozen BK411.out 1
    go_wp2_with (first | ((with_reducible refine Gv.gate_load (t := 75) rfl ?_); (try (refine gate_guard (by rfl) ?_; dsimp only)); refine wpList_load_row rfl 75 _ rfl gb416 rfl 75 _ _ _ (Gv.kbp BK416.out) Try.underlying75 rfl (by kernel_rfl) ?_))
    go_loopg [29] kj1 (fun kq v29 w' => ∃ (x29_2 : Int), v29 = .int .i64 x29_2 ∧ Aside0 (impl_TableOk.l0 kq l0_1 (l0_1.length : Int) x29_2 a0_0 l0_1 = some r) ∧ Aside0 (kq ≤ kj1) ∧ Aside0 (w'.heap[gb411]? = some (.cells #[.int .i64 a0_0, (.slice A0_1 l0_1.length c0_1)] 40 (0, 0))) ∧ Aside0 (Below w.heap.size w w'))
    case atStart => exact ⟨(0), (by first | rfl | (simp; done) | (simp [Int.tdiv_eq_ediv_of_nonneg]; done) | (simp [*]; done)), H', ⟨Nat.le_refl _⟩, ⟨by (with_reducible repeat (first | refine blk_drewN ?_ _ | refine blk_drew ?_ | refine blk_alloc ?_ _)); exact BK411.out⟩, ⟨by repeat (first | (with_reducible first | exact HB.out | apply below_alloc | apply pw_below_drewN | apply below_drew1 | refine below_set ?_ GE411.out) | exact HB.out)⟩⟩
    case round =>
     clear H'
     try clear c1
     try clear c2
     try clear p2
     try clear c4
     try clear c5
     try clear p6
     try clear c7
     try clear c13
     try clear hcz14_0 hcz14_1
     try clear hfz14_0 hfz14_1
     try clear p2
     try clear p6
     obtain ⟨x29_2, rfl, HA, HK2, BK411, HB⟩ := hrel
     cases gk with
     | zero => exact absurd HA.out (by simp [impl_TableOk.l0])
     | succ k2 =>
      have H := HA.out
      clear HA
      simp only [impl_TableOk.l0] at H
      by_cases c15 : x29_2 < (l0_1.length : Int)
      ·rw [if_pos c15] at H
       have c15b0 : decide (x29_2 < (l0_1.length : Int)) = true := decide_eq_true c15
       clear c15
       by_cases c16 : 0 ≤ x29_2
       ·rw [if_pos c16] at H
        have c16b0 : decide (0 ≤ x29_2) = true := decide_eq_true c16
        clear c16
        by_cases c17 : x29_2 < (l0_1.length : Int)
        ·rw [if_pos c17] at H
         have c17b0 : decide (x29_2 < (l0_1.length : Int)) = true := decide_eq_true c17
         clear c17
         obtain ⟨bq18, hbq18⟩ : ∃ b_ : Bool, b_ = ((rd_T75 l0_1 x29_2).f0) := ⟨_, rfl⟩
         replace H : (if (bq18 = true) then ((impl_FlowKeyOk.f k2 ((rd_T75 l0_1 x29_2).f1.f0) ((rd_T75 l0_1 x29_2).f1.f1.f0.f0) ((rd_T75 l0_1 x29_2).f1.f1.f0.f1) ((rd_T75 l0_1 x29_2).f1.f1.f0.f2) ((rd_T75 l0_1 x29_2).f1.f1.f0.f3) ((rd_T75 l0_1 x29_2).f1.f1.f0.f4) ((rd_T75 l0_1 x29_2).f1.f1.f1.f0) ((rd_T75 l0_1 x29_2).f1.f1.f1.f1) ((rd_T75 l0_1 x29_2).f1.f1.f1.f2) ((rd_T75 l0_1 x29_2).f1.f1.f1.f3) ((rd_T75 l0_1 x29_2).f1.f1.f1.f4) ((rd_T75 l0_1 x29_2).f1.f1.f2) ((rd_T75 l0_1 x29_2).f1.f1.f3) ((rd_T75 l0_1 x29_2).f1.f1.f4)).bind fun t417 => (if t417 = true then ((impl_within.f ((rd_T75 l0_1 x29_2).f2) 0 1000000000000).bind fun t418 => (if t418 = true then ((impl_Table_probe.f k2 a0_0 l0_1 ((rd_T75 l0_1 x29_2).f1.f0) ((rd_T75 l0_1 x29_2).f1.f1.f0.f0) ((rd_T75 l0_1 x29_2).f1.f1.f0.f1) ((rd_T75 l0_1 x29_2).f1.f1.f0.f2) ((rd_T75 l0_1 x29_2).f1.f1.f0.f3) ((rd_T75 l0_1 x29_2).f1.f1.f0.f4) ((rd_T75 l0_1 x29_2).f1.f1.f1.f0) ((rd_T75 l0_1 x29_2).f1.f1.f1.f1) ((rd_T75 l0_1 x29_2).f1.f1.f1.f2) ((rd_T75 l0_1 x29_2).f1.f1.f1.f3) ((rd_T75 l0_1 x29_2).f1.f1.f1.f4) ((rd_T75 l0_1 x29_2).f1.f1.f2) ((rd_T75 l0_1 x29_2).f1.f1.f3) ((rd_T75 l0_1 x29_2).f1.f1.f4)).bind fun t419 => (if t419 = x29_2 then (impl_TableOk.l0 k2 l0_1 (l0_1.length : Int) (wrap64 (x29_2 + 1)) a0_0 l0_1) else (some false))) else (some false))) else (some false))) else (if ((bq18) || ((!(((rd_T75 l0_1 x29_2).f1.f0) == 0) || (((!(((rd_T75 l0_1 x29_2).f1.f1.f0.f0) == 0) || (!(((rd_T75 l0_1 x29_2).f1.f1.f0.f1) == 0) || (!(((rd_T75 l0_1 x29_2).f1.f1.f0.f2) == 0) || (!(((rd_T75 l0_1 x29_2).f1.f1.f0.f3) == 0) || (!(((rd_T75 l0_1 x29_2).f1.f1.f0.f4) == 0)))))) || ((!(((rd_T75 l0_1 x29_2).f1.f1.f1.f0) == 0) || (!(((rd_T75 l0_1 x29_2).f1.f1.f1.f1) == 0) || (!(((rd_T75 l0_1 x29_2).f1.f1.f1.f2) == 0) || (!(((rd_T75 l0_1 x29_2).f1.f1.f1.f3) == 0) || (!(((rd_T75 l0_1 x29_2).f1.f1.f1.f4) == 0)))))) || (!(((rd_T75 l0_1 x29_2).f1.f1.f2) == 0) || (!(((rd_T75 l0_1 x29_2).f1.f1.f3) == 0) || (!(((rd_T75 l0_1 x29_2).f1.f1.f4) == 0)))))))) || (!(((rd_T75 l0_1 x29_2).f2) == 0)))) = true then (some false) else (impl_TableOk.l0 k2 l0_1 (l0_1.length : Int) (wrap64 (x29_2 + 1)) a0_0 l0_1))) = some r := by rw [← hbq18] at H; exact H
         have Nbq18 := Gv.a0 hbq18
         clear hbq18
         by_cases c19 : (bq18 = true)
         ·subst c19
          have H1 : ((impl_FlowKeyOk.f k2 ((rd_T75 l0_1 x29_2).f1.f0) ((rd_T75 l0_1 x29_2).f1.f1.f0.f0) ((rd_T75 l0_1 x29_2).f1.f1.f0.f1) ((rd_T75 l0_1 x29_2).f1.f1.f0.f2) ((rd_T75 l0_1 x29_2).f1.f1.f0.f3) ((rd_T75 l0_1 x29_2).f1.f1.f0.f4) ((rd_T75 l0_1 x29_2).f1.f1.f1.f0) ((rd_T75 l0_1 x29_2).f1.f1.f1.f1) ((rd_T75 l0_1 x29_2).f1.f1.f1.f2) ((rd_T75 l0_1 x29_2).f1.f1.f1.f3) ((rd_T75 l0_1 x29_2).f1.f1.f1.f4) ((rd_T75 l0_1 x29_2).f1.f1.f2) ((rd_T75 l0_1 x29_2).f1.f1.f3) ((rd_T75 l0_1 x29_2).f1.f1.f4)).bind fun t417 => (if t417 = true then ((impl_within.f ((rd_T75 l0_1 x29_2).f2) 0 1000000000000).bind fun t418 => (if t418 = true then ((impl_Table_probe.f k2 a0_0 l0_1 ((rd_T75 l0_1 x29_2).f1.f0) ((rd_T75 l0_1 x29_2).f1.f1.f0.f0) ((rd_T75 l0_1 x29_2).f1.f1.f0.f1) ((rd_T75 l0_1 x29_2).f1.f1.f0.f2) ((rd_T75 l0_1 x29_2).f1.f1.f0.f3) ((rd_T75 l0_1 x29_2).f1.f1.f0.f4) ((rd_T75 l0_1 x29_2).f1.f1.f1.f0) ((rd_T75 l0_1 x29_2).f1.f1.f1.f1) ((rd_T75 l0_1 x29_2).f1.f1.f1.f2) ((rd_T75 l0_1 x29_2).f1.f1.f1.f3) ((rd_T75 l0_1 x29_2).f1.f1.f1.f4) ((rd_T75 l0_1 x29_2).f1.f1.f2) ((rd_T75 l0_1 x29_2).f1.f1.f3) ((rd_T75 l0_1 x29_2).f1.f1.f4)).bind fun t419 => (if t419 = x29_2 then (impl_TableOk.l0 k2 l0_1 (l0_1.length : Int) (wrap64 (x29_2 + 1)) a0_0 l0_1) else (some false))) else (some false))) else (some false))) = some r := by rw [if_pos rfl] at H; exact H
          clear H
          have H := H1
          clear H1
          replace H := Option.bind_eq_some_iff.mp H
          obtain ⟨t417, A200, H⟩ := H
          replace H : (if t417 = true then ((impl_within.f ((rd_T75 l0_1 x29_2).f2) 0 1000000000000).bind fun t418 => (if t418 = true then ((impl_Table_probe.f k2 a0_0 l0_1 ((rd_T75 l0_1 x29_2).f1.f0) ((rd_T75 l0_1 x29_2).f1.f1.f0.f0) ((rd_T75 l0_1 x29_2).f1.f1.f0.f1) ((rd_T75 l0_1 x29_2).f1.f1.f0.f2) ((rd_T75 l0_1 x29_2).f1.f1.f0.f3) ((rd_T75 l0_1 x29_2).f1.f1.f0.f4) ((rd_T75 l0_1 x29_2).f1.f1.f1.f0) ((rd_T75 l0_1 x29_2).f1.f1.f1.f1) ((rd_T75 l0_1 x29_2).f1.f1.f1.f2) ((rd_T75 l0_1 x29_2).f1.f1.f1.f3) ((rd_T75 l0_1 x29_2).f1.f1.f1.f4) ((rd_T75 l0_1 x29_2).f1.f1.f2) ((rd_T75 l0_1 x29_2).f1.f1.f3) ((rd_T75 l0_1 x29_2).f1.f1.f4)).bind fun t419 => (if t419 = x29_2 then (impl_TableOk.l0 k2 l0_1 (l0_1.length : Int) (wrap64 (x29_2 + 1)) a0_0 l0_1) else (some false))) else (some false))) else (some false)) = some r := H
          have A20 := Gv.a0 A200
          clear A200
          by_cases c21 : t417 = true
          ·subst c21
           have H1 : ((impl_within.f ((rd_T75 l0_1 x29_2).f2) 0 1000000000000).bind fun t418 => (if t418 = true then ((impl_Table_probe.f k2 a0_0 l0_1 ((rd_T75 l0_1 x29_2).f1.f0) ((rd_T75 l0_1 x29_2).f1.f1.f0.f0) ((rd_T75 l0_1 x29_2).f1.f1.f0.f1) ((rd_T75 l0_1 x29_2).f1.f1.f0.f2) ((rd_T75 l0_1 x29_2).f1.f1.f0.f3) ((rd_T75 l0_1 x29_2).f1.f1.f0.f4) ((rd_T75 l0_1 x29_2).f1.f1.f1.f0) ((rd_T75 l0_1 x29_2).f1.f1.f1.f1) ((rd_T75 l0_1 x29_2).f1.f1.f1.f2) ((rd_T75 l0_1 x29_2).f1.f1.f1.f3) ((rd_T75 l0_1 x29_2).f1.f1.f1.f4) ((rd_T75 l0_1 x29_2).f1.f1.f2) ((rd_T75 l0_1 x29_2).f1.f1.f3) ((rd_T75 l0_1 x29_2).f1.f1.f4)).bind fun t419 => (if t419 = x29_2 then (impl_TableOk.l0 k2 l0_1 (l0_1.length : Int) (wrap64 (x29_2 + 1)) a0_0 l0_1) else (some false))) else (some false))) = some r := by rw [if_pos rfl] at H; exact H
           clear H
           have H := H1
           clear H1
           replace H := Option.bind_eq_some_iff.mp H
           obtain ⟨t418, A220, H⟩ := H
           replace H : (if t418 = true then ((impl_Table_probe.f k2 a0_0 l0_1 ((rd_T75 l0_1 x29_2).f1.f0) ((rd_T75 l0_1 x29_2).f1.f1.f0.f0) ((rd_T75 l0_1 x29_2).f1.f1.f0.f1) ((rd_T75 l0_1 x29_2).f1.f1.f0.f2) ((rd_T75 l0_1 x29_2).f1.f1.f0.f3) ((rd_T75 l0_1 x29_2).f1.f1.f0.f4) ((rd_T75 l0_1 x29_2).f1.f1.f1.f0) ((rd_T75 l0_1 x29_2).f1.f1.f1.f1) ((rd_T75 l0_1 x29_2).f1.f1.f1.f2) ((rd_T75 l0_1 x29_2).f1.f1.f1.f3) ((rd_T75 l0_1 x29_2).f1.f1.f1.f4) ((rd_T75 l0_1 x29_2).f1.f1.f2) ((rd_T75 l0_1 x29_2).f1.f1.f3) ((rd_T75 l0_1 x29_2).f1.f1.f4)).bind fun t419 => (if t419 = x29_2 then (impl_TableOk.l0 k2 l0_1 (l0_1.length : Int) (wrap64 (x29_2 + 1)) a0_0 l0_1) else (some false))) else (some false)) = some r := H
           have A22 := Gv.a0 A220
           clear A220
           by_cases c23 : t418 = true
           ·subst c23
            have H1 : ((impl_Table_probe.f k2 a0_0 l0_1 ((rd_T75 l0_1 x29_2).f1.f0) ((rd_T75 l0_1 x29_2).f1.f1.f0.f0) ((rd_T75 l0_1 x29_2).f1.f1.f0.f1) ((rd_T75 l0_1 x29_2).f1.f1.f0.f2) ((rd_T75 l0_1 x29_2).f1.f1.f0.f3) ((rd_T75 l0_1 x29_2).f1.f1.f0.f4) ((rd_T75 l0_1 x29_2).f1.f1.f1.f0) ((rd_T75 l0_1 x29_2).f1.f1.f1.f1) ((rd_T75 l0_1 x29_2).f1.f1.f1.f2) ((rd_T75 l0_1 x29_2).f1.f1.f1.f3) ((rd_T75 l0_1 x29_2).f1.f1.f1.f4) ((rd_T75 l0_1 x29_2).f1.f1.f2) ((rd_T75 l0_1 x29_2).f1.f1.f3) ((rd_T75 l0_1 x29_2).f1.f1.f4)).bind fun t419 => (if t419 = x29_2 then (impl_TableOk.l0 k2 l0_1 (l0_1.length : Int) (wrap64 (x29_2 + 1)) a0_0 l0_1) else (some false))) = some r := by rw [if_pos rfl] at H; exact H
            clear H
            have H := H1
            clear H1
            replace H := Option.bind_eq_some_iff.mp H
            obtain ⟨t419, A240, H⟩ := H
            replace H : (if t419 = x29_2 then (impl_TableOk.l0 k2 l0_1 (l0_1.length : Int) (wrap64 (x29_2 + 1)) a0_0 l0_1) else (some false)) = some r := H
            have A24 := Gv.a0 A240
            clear A240
            by_cases c25 : t419 = x29_2
            ·rw [if_pos c25] at H
             have c25b0 : (t419 == x29_2) = true := beq_iff_eq.mpr c25
             have c25b1 : (t419 != x29_2) = false := bne_eq_false_iff_eq.mpr c25
             clear c25
             have H' := Gv.a0 H
             clear H
             have p415 : 0 ≤ (x29_2 : Int) := of_decide_eq_true (by first | (with_reducible assumption) | assumption)
             have q415 : x29_2 < (l0_1.length : Int) := of_decide_eq_true (by first | (with_reducible assumption) | assumption)
             obtain ⟨ad415, e415, hx415_0, hx415_1, hx415_2, hx415_3, hx415_4, hx415_5, hx415_6, hx415_7, hx415_8, hx415_9, hx415_10, hx415_11, hx415_12, hx415_13, hx415_14, hx415_15⟩ := at_T75 HR0_1.out x29_2 p415 q415
             (try rw [← Nbq18.out] at hx415_0)
             cases e415
             replace hx415_0 := Gv.bx HB.out hx415_0
             replace hx415_1 := Gv.bx HB.out hx415_1
             replace hx415_2 := Gv.bx HB.out hx415_2
             replace hx415_3 := Gv.bx HB.out hx415_3
             replace hx415_4 := Gv.bx HB.out hx415_4
             replace hx415_5 := Gv.bx HB.out hx415_5
             replace hx415_6 := Gv.bx HB.out hx415_6
             replace hx415_7 := Gv.bx HB.out hx415_7
             replace hx415_8 := Gv.bx HB.out hx415_8
             replace hx415_9 := Gv.bx HB.out hx415_9
             replace hx415_10 := Gv.bx HB.out hx415_10
             replace hx415_11 := Gv.bx HB.out hx415_11
             replace hx415_12 := Gv.bx HB.out hx415_12
             replace hx415_13 := Gv.bx HB.out hx415_13
             replace hx415_14 := Gv.bx HB.out hx415_14
             replace hx415_15 := Gv.bx HB.out hx415_15
             replace p415 := eq_true p415
             replace q415 := eq_true q415
             go_wp2_with (first | ((with_reducible refine gate_dst (N := 4) rfl ?_); (try (refine gate_guard (by rfl) ?_; dsimp only)); refine box_event ?hg (N := 4) ?hd (cs := #[.bool false, .int .i64 0, .int .i64 0, .int .i64 0, .int .i64 0, .int .i64 0, .int .i64 0, .int .i64 0, .int .i64 0, .int .i64 0, .int .i64 0, .int .i64 0, .int .i64 0, .int .i64 0, .int .i64 0, .int .i64 0]) (t := 75) ?hr ?_; (case hd => rfl); (case hg => rfl); (case hr => first | (go_simp; done) | (go_simp; rfl)); intro gb416 hg w26 hbox hb; have n0_ := Gv.a0 (Gv.bb BK411.out hb); have n1_ := Gv.a0 (below_step Gv.bw hb); have n2_ := Gv.a0 (hbox); have n3_ := Gv.a0 ((Gv.ble hg Gv.bw : w.heap.size ≤ gb416)); have n4_ := Gv.a0 ((Gv.ble hg Gv.bw : w.heap.size ≤ gb416)); have n5_ := Gv.a0 ((Gv.nlt hg (Gv.kb BK411.out) : gb411 ≠ gb416)); have n6_ := Gv.a0 ((Gv.ngt hg (Gv.kb BK411.out) : gb416 ≠ gb411)); clear BK411; clear HB; have BK411 := n0_; have HB := n1_; have BK416 := n2_; have GW416 := n3_; have GE416 := n4_; have NB411_416 := n5_; have NB416_411 := n6_; clear n0_ n1_ n2_ n3_ n4_ n5_ n6_; clear hb hbox hg; have hnb27 := NB416_411.out; have hnc27 := NB411_416.out; obtain ⟨hcz28_0, hcz28_1, hcz28_2, hcz28_3, hcz28_4, hcz28_5, hcz28_6, hcz28_7, hcz28_8, hcz28_9, hcz28_10, hcz28_11, hcz28_12, hcz28_13, hcz28_14, hcz28_15⟩ := Gv.c16 BK416.out; obtain ⟨hfz28_0, hfz28_1, hfz28_2, hfz28_3, hfz28_4, hfz28_5, hfz28_6, hfz28_7, hfz28_8, hfz28_9, hfz28_10, hfz28_11, hfz28_12, hfz28_13, hfz28_14, hfz28_15⟩ := Gv.f16 BK416.out) | ((with_reducible refine gate_store (t := 75) (p := 4) rfl ?_); refine Gv.store_event rfl rfl rfl rfl rfl (Gv.kb BK416.out) (by kernel_rfl) rfl (by simp; and_intros <;> rfl) ?_; intro w26s hbox hoth hbel; have n0_ := Gv.a0 (hbox); have n1_ := Gv.a0 (hbel w Gv.bw GE416.out); have n2_ := Gv.a0 ((hoth gb411 NB411_416.out).trans (Gv.kb BK411.out)); clear BK416 HB BK411; have BK416 := n0_; have HB := n1_; have BK411 := n2_; clear n0_ n1_ n2_ hbox hoth hbel; (try clear hcz28_0 hcz28_1 hcz28_2 hcz28_3 hcz28_4 hcz28_5 hcz28_6 hcz28_7 hcz28_8 hcz28_9 hcz28_10 hcz28_11 hcz28_12 hcz28_13 hcz28_14 hcz28_15 hfz28_0 hfz28_1 hfz28_2 hfz28_3 hfz28_4 hfz28_5 hfz28_6 hfz28_7 hfz28_8 hfz28_9 hfz28_10 hfz28_11 hfz28_12 hfz28_13 hfz28_14 hfz28_15); obtain ⟨hcz28_0, hcz28_1, hcz28_2, hcz28_3, hcz28_4, hcz28_5, hcz28_6, hcz28_7, hcz28_8, hcz28_9, hcz28_10, hcz28_11, hcz28_12, hcz28_13, hcz28_14, hcz28_15⟩ := Gv.c16 BK416.out; obtain ⟨hfz28_0, hfz28_1, hfz28_2, hfz28_3, hfz28_4, hfz28_5, hfz28_6, hfz28_7, hfz28_8, hfz28_9, hfz28_10, hfz28_11, hfz28_12, hfz28_13, hfz28_14, hfz28_15⟩ := Gv.f16 BK416.out) | ((with_reducible refine gate_callee (f := 15) rfl ?_); refine goesL_ (some 44) rfl rfl Try.func15 (by kernel_rfl) rfl #[.agg #[.int .i64 ((rd_T75 l0_1 x29_2).f1.f0), .int .i64 ((rd_T75 l0_1 x29_2).f1.f1.f0.f0), .int .i64 ((rd_T75 l0_1 x29_2).f1.f1.f0.f1), .int .i64 ((rd_T75 l0_1 x29_2).f1.f1.f0.f2), .int .i64 ((rd_T75 l0_1 x29_2).f1.f1.f0.f3), .int .i64 ((rd_T75 l0_1 x29_2).f1.f1.f0.f4), .int .i64 ((rd_T75 l0_1 x29_2).f1.f1.f1.f0), .int .i64 ((rd_T75 l0_1 x29_2).f1.f1.f1.f1), .int .i64 ((rd_T75 l0_1 x29_2).f1.f1.f1.f2), .int .i64 ((rd_T75 l0_1 x29_2).f1.f1.f1.f3), .int .i64 ((rd_T75 l0_1 x29_2).f1.f1.f1.f4), .int .i64 ((rd_T75 l0_1 x29_2).f1.f1.f2), .int .i64 ((rd_T75 l0_1 x29_2).f1.f1.f3), .int .i64 ((rd_T75 l0_1 x29_2).f1.f1.f4)]] rfl Gv.lm ?_; (with_reducible refine (impl_FlowKeyOk.calls k2 _ _ _ _ _ _ _ _ _ _ _ _ _ _ true _ A20.out).mono ?_); rintro e w29 ⟨rfl, hb⟩; refine ⟨_, rfl, ?_⟩; have n0_ := Gv.a0 (blk_below (g := gb411) (o := .cells #[.int .i64 a0_0, .slice (some ad415) l0_1.length c0_1] 40 (0, 0)) Gv.bkf hb); have n1_ := Gv.a0 (blk_below (g := gb416) (o := .cells #[.bool true, .int .i64 ((rd_T75 l0_1 x29_2).f1.f0), .int .i64 ((rd_T75 l0_1 x29_2).f1.f1.f0.f0), .int .i64 ((rd_T75 l0_1 x29_2).f1.f1.f0.f1), .int .i64 ((rd_T75 l0_1 x29_2).f1.f1.f0.f2), .int .i64 ((rd_T75 l0_1 x29_2).f1.f1.f0.f3), .int .i64 ((rd_T75 l0_1 x29_2).f1.f1.f0.f4), .int .i64 ((rd_T75 l0_1 x29_2).f1.f1.f1.f0), .int .i64 ((rd_T75 l0_1 x29_2).f1.f1.f1.f1), .int .i64 ((rd_T75 l0_1 x29_2).f1.f1.f1.f2), .int .i64 ((rd_T75 l0_1 x29_2).f1.f1.f1.f3), .int .i64 ((rd_T75 l0_1 x29_2).f1.f1.f1.f4), .int .i64 ((rd_T75 l0_1 x29_2).f1.f1.f2), .int .i64 ((rd_T75 l0_1 x29_2).f1.f1.f3), .int .i64 ((rd_T75 l0_1 x29_2).f1.f1.f4), .int .i64 ((rd_T75 l0_1 x29_2).f2)] 75 (0, 0)) (by (with_reducible repeat (first | refine blk_drewN ?_ _ | refine blk_drew ?_ | refine blk_alloc ?_ _)); exact BK416.out) hb); have n2_ := Gv.a0 (below_step Gv.bw hb); clear BK411; clear BK416; clear HB; have BK411 := n0_; have BK416 := n1_; have HB := n2_; clear n0_ n1_ n2_; (try clear hb); (try clear hb2); (try clear hk); (try clear hi); obtain ⟨hcz30_0, hcz30_1, hcz30_2, hcz30_3, hcz30_4, hcz30_5, hcz30_6, hcz30_7, hcz30_8, hcz30_9, hcz30_10, hcz30_11, hcz30_12, hcz30_13, hcz30_14, hcz30_15⟩ := Gv.c16 BK416.out; obtain ⟨hfz30_0, hfz30_1, hfz30_2, hfz30_3, hfz30_4, hfz30_5, hfz30_6, hfz30_7, hfz30_8, hfz30_9, hfz30_10, hfz30_11, hfz30_12, hfz30_13, hfz30_14, hfz30_15⟩ := Gv.f16 BK416.out) | (go_at_call 44; (with_reducible refine (impl_within.calls _ 0 1000000000000 true _ A22.out).mono ?_); rintro e w' ⟨rfl, ⟨nd, rfl⟩⟩; have hcz31_0 : w29.cell? ⟨gb411, 0, none⟩ = some (.int .i64 a0_0) := (blk_cell BK411.out 0).trans rfl; have hcz31_1 : w29.cell? ⟨gb411, 1, none⟩ = some (.slice (some ad415) l0_1.length c0_1) := (blk_cell BK411.out 1).trans rfl; have hfz31_0 := blk_frozen BK411.out 0; have hfz31_1 := blk_frozen BK411.out 1) | (go_at_call 58; (with_reducible refine (impl_Table_probe.calls k2 a0_0 _ _ l0_1 _ _ _ _ _ _ _ _ _ _ _ _ _ _ t419 _ ?side1 ?side2 A24.out).mono ?_); (case side1 => repeat (first | exact (Kd.C_below HR0_1.out Gv.bw) | (with_reducible refine Kd.C_alloc ?_ _) | (with_reducible refine Kd.C_drewN ?_ _) | (with_reducible refine Kd.C_drew ?_))); (case side2 => exact HC0_1.out); rintro e w32 ⟨rfl, hb⟩; have n0_ := Gv.a0 (Gv.bb BK411.out hb); have n1_ := Gv.a0 (Gv.bb BK416.out hb); have n2_ := Gv.a0 (below_step Gv.bw hb); clear BK411; clear BK416; clear HB; have BK411 := n0_; have BK416 := n1_; have HB := n2_; clear n0_ n1_ n2_; (try clear hb); (try clear hb2); (try clear hk); (try clear hi)) | ((with_reducible refine Gv.gate_load (t := 75) rfl ?_); (try (refine gate_guard (by rfl) ?_; dsimp only)); refine wpList_load_row rfl 75 _ rfl gb416 rfl 75 _ _ _ (Gv.kbp BK416.out) Try.underlying75 rfl (by kernel_rfl) ?_) | ((with_reducible refine Gv.gate_load (t := 75) rfl ?_); refine Gv.load_event (cs := [_, _, _, _, _, _, _, _, _, _, _, _, _, _, _, _]) rfl rfl rfl ⟨hx415_0, hx415_1, hx415_2, hx415_3, hx415_4, hx415_5, hx415_6, hx415_7, hx415_8, hx415_9, hx415_10, hx415_11, hx415_12, hx415_13, hx415_14, hx415_15, trivial⟩ Try.underlying75 rfl (by kernel_rfl) ?_))
             go_roundg k2
             case measure => have := HJ1.out; have := HK2.out; omega
             case rel => exact ⟨(wrap64 (x29_2 + 1)), (by first | rfl | (simp; done) | (simp [Int.tdiv_eq_ediv_of_nonneg]; done) | (simp [*]; done)), H', ⟨by have := HJ1.out; have := HK2.out; omega⟩, ⟨by (with_reducible repeat (first | refine blk_drewN ?_ _ | refine blk_drew ?_ | refine blk_alloc ?_ _)); exact BK411.out⟩, ⟨by repeat (first | (with_reducible first | exact HB.out | apply below_alloc | apply pw_below_drewN | apply below_drew1 | refine below_set ?_ GE411.out | refine below_set ?_ GE416.out) | exact HB.out)⟩⟩
            ·rw [if_neg c25] at H
             have c25b0 : (t419 == x29_2) = false := beq_eq_false_iff_ne.mpr c25
             have c25b1 : (t419 != x29_2) = true := bne_iff_ne.mpr c25
             obtain rfl := Option.some.inj H
             have p415 : 0 ≤ (x29_2 : Int) := of_decide_eq_true (by first | (with_reducible assumption) | assumption)
             have q415 : x29_2 < (l0_1.length : Int) := of_decide_eq_true (by first | (with_reducible assumption) | assumption)
             obtain ⟨ad415, e415, hx415_0, hx415_1, hx415_2, hx415_3, hx415_4, hx415_5, hx415_6, hx415_7, hx415_8, hx415_9, hx415_10, hx415_11, hx415_12, hx415_13, hx415_14, hx415_15⟩ := at_T75 HR0_1.out x29_2 p415 q415
             (try rw [← Nbq18.out] at hx415_0)
             cases e415
             replace hx415_0 := Gv.bx HB.out hx415_0
             replace hx415_1 := Gv.bx HB.out hx415_1
             replace hx415_2 := Gv.bx HB.out hx415_2
             replace hx415_3 := Gv.bx HB.out hx415_3
             replace hx415_4 := Gv.bx HB.out hx415_4
             replace hx415_5 := Gv.bx HB.out hx415_5
             replace hx415_6 := Gv.bx HB.out hx415_6
             replace hx415_7 := Gv.bx HB.out hx415_7
             replace hx415_8 := Gv.bx HB.out hx415_8
             replace hx415_9 := Gv.bx HB.out hx415_9
             replace hx415_10 := Gv.bx HB.out hx415_10
             replace hx415_11 := Gv.bx HB.out hx415_11
             replace hx415_12 := Gv.bx HB.out hx415_12
             replace hx415_13 := Gv.bx HB.out hx415_13
             replace hx415_14 := Gv.bx HB.out hx415_14
             replace hx415_15 := Gv.bx HB.out hx415_15
             replace p415 := eq_true p415
             replace q415 := eq_true q415
             go_wp2_with (first | ((with_reducible refine gate_dst (N := 4) rfl ?_); (try (refine gate_guard (by rfl) ?_; dsimp only)); refine box_event ?hg (N := 4) ?hd (cs := #[.bool false, .int .i64 0, .int .i64 0, .int .i64 0, .int .i64 0, .int .i64 0, .int .i64 0, .int .i64 0, .int .i64 0, .int .i64 0, .int .i64 0, .int .i64 0, .int .i64 0, .int .i64 0, .int .i64 0, .int .i64 0]) (t := 75) ?hr ?_; (case hd => rfl); (case hg => rfl); (case hr => first | (go_simp; done) | (go_simp; rfl)); intro gb416 hg w33 hbox hb; have n0_ := Gv.a0 (Gv.bb BK411.out hb); have n1_ := Gv.a0 (below_step Gv.bw hb); have n2_ := Gv.a0 (hbox); have n3_ := Gv.a0 ((Gv.ble hg Gv.bw : w.heap.size ≤ gb416)); have n4_ := Gv.a0 ((Gv.ble hg Gv.bw : w.heap.size ≤ gb416)); have n5_ := Gv.a0 ((Gv.nlt hg (Gv.kb BK411.out) : gb411 ≠ gb416)); have n6_ := Gv.a0 ((Gv.ngt hg (Gv.kb BK411.out) : gb416 ≠ gb411)); clear BK411; clear HB; have BK411 := n0_; have HB := n1_; have BK416 := n2_; have GW416 := n3_; have GE416 := n4_; have NB411_416 := n5_; have NB416_411 := n6_; clear n0_ n1_ n2_ n3_ n4_ n5_ n6_; clear hb hbox hg; have hnb34 := NB416_411.out; have hnc34 := NB411_416.out; obtain ⟨hcz35_0, hcz35_1, hcz35_2, hcz35_3, hcz35_4, hcz35_5, hcz35_6, hcz35_7, hcz35_8, hcz35_9, hcz35_10, hcz35_11, hcz35_12, hcz35_13, hcz35_14, hcz35_15⟩ := Gv.c16 BK416.out; obtain ⟨hfz35_0, hfz35_1, hfz35_2, hfz35_3, hfz35_4, hfz35_5, hfz35_6, hfz35_7, hfz35_8, hfz35_9, hfz35_10, hfz35_11, hfz35_12, hfz35_13, hfz35_14, hfz35_15⟩ := Gv.f16 BK416.out) | ((with_reducible refine gate_store (t := 75) (p := 4) rfl ?_); refine Gv.store_event rfl rfl rfl rfl rfl (Gv.kb BK416.out) (by kernel_rfl) rfl (by simp; and_intros <;> rfl) ?_; intro w33s hbox hoth hbel; have n0_ := Gv.a0 (hbox); have n1_ := Gv.a0 (hbel w Gv.bw GE416.out); have n2_ := Gv.a0 ((hoth gb411 NB411_416.out).trans (Gv.kb BK411.out)); clear BK416 HB BK411; have BK416 := n0_; have HB := n1_; have BK411 := n2_; clear n0_ n1_ n2_ hbox hoth hbel; (try clear hcz35_0 hcz35_1 hcz35_2 hcz35_3 hcz35_4 hcz35_5 hcz35_6 hcz35_7 hcz35_8 hcz35_9 hcz35_10 hcz35_11 hcz35_12 hcz35_13 hcz35_14 hcz35_15 hfz35_0 hfz35_1 hfz35_2 hfz35_3 hfz35_4 hfz35_5 hfz35_6 hfz35_7 hfz35_8 hfz35_9 hfz35_10 hfz35_11 hfz35_12 hfz35_13 hfz35_14 hfz35_15); obtain ⟨hcz35_0, hcz35_1, hcz35_2, hcz35_3, hcz35_4, hcz35_5, hcz35_6, hcz35_7, hcz35_8, hcz35_9, hcz35_10, hcz35_11, hcz35_12, hcz35_13, hcz35_14, hcz35_15⟩ := Gv.c16 BK416.out; obtain ⟨hfz35_0, hfz35_1, hfz35_2, hfz35_3, hfz35_4, hfz35_5, hfz35_6, hfz35_7, hfz35_8, hfz35_9, hfz35_10, hfz35_11, hfz35_12, hfz35_13, hfz35_14, hfz35_15⟩ := Gv.f16 BK416.out) | ((with_reducible refine gate_callee (f := 15) rfl ?_); refine goesL_ (some 44) rfl rfl Try.func15 (by kernel_rfl) rfl #[.agg #[.int .i64 ((rd_T75 l0_1 x29_2).f1.f0), .int .i64 ((rd_T75 l0_1 x29_2).f1.f1.f0.f0), .int .i64 ((rd_T75 l0_1 x29_2).f1.f1.f0.f1), .int .i64 ((rd_T75 l0_1 x29_2).f1.f1.f0.f2), .int .i64 ((rd_T75 l0_1 x29_2).f1.f1.f0.f3), .int .i64 ((rd_T75 l0_1 x29_2).f1.f1.f0.f4), .int .i64 ((rd_T75 l0_1 x29_2).f1.f1.f1.f0), .int .i64 ((rd_T75 l0_1 x29_2).f1.f1.f1.f1), .int .i64 ((rd_T75 l0_1 x29_2).f1.f1.f1.f2), .int .i64 ((rd_T75 l0_1 x29_2).f1.f1.f1.f3), .int .i64 ((rd_T75 l0_1 x29_2).f1.f1.f1.f4), .int .i64 ((rd_T75 l0_1 x29_2).f1.f1.f2), .int .i64 ((rd_T75 l0_1 x29_2).f1.f1.f3), .int .i64 ((rd_T75 l0_1 x29_2).f1.f1.f4)]] rfl Gv.lm ?_; (with_reducible refine (impl_FlowKeyOk.calls k2 _ _ _ _ _ _ _ _ _ _ _ _ _ _ true _ A20.out).mono ?_); rintro e w36 ⟨rfl, hb⟩; refine ⟨_, rfl, ?_⟩; have n0_ := Gv.a0 (blk_below (g := gb411) (o := .cells #[.int .i64 a0_0, .slice (some ad415) l0_1.length c0_1] 40 (0, 0)) Gv.bkf hb); have n1_ := Gv.a0 (blk_below (g := gb416) (o := .cells #[.bool true, .int .i64 ((rd_T75 l0_1 x29_2).f1.f0), .int .i64 ((rd_T75 l0_1 x29_2).f1.f1.f0.f0), .int .i64 ((rd_T75 l0_1 x29_2).f1.f1.f0.f1), .int .i64 ((rd_T75 l0_1 x29_2).f1.f1.f0.f2), .int .i64 ((rd_T75 l0_1 x29_2).f1.f1.f0.f3), .int .i64 ((rd_T75 l0_1 x29_2).f1.f1.f0.f4), .int .i64 ((rd_T75 l0_1 x29_2).f1.f1.f1.f0), .int .i64 ((rd_T75 l0_1 x29_2).f1.f1.f1.f1), .int .i64 ((rd_T75 l0_1 x29_2).f1.f1.f1.f2), .int .i64 ((rd_T75 l0_1 x29_2).f1.f1.f1.f3), .int .i64 ((rd_T75 l0_1 x29_2).f1.f1.f1.f4), .int .i64 ((rd_T75 l0_1 x29_2).f1.f1.f2), .int .i64 ((rd_T75 l0_1 x29_2).f1.f1.f3), .int .i64 ((rd_T75 l0_1 x29_2).f1.f1.f4), .int .i64 ((rd_T75 l0_1 x29_2).f2)] 75 (0, 0)) (by (with_reducible repeat (first | refine blk_drewN ?_ _ | refine blk_drew ?_ | refine blk_alloc ?_ _)); exact BK416.out) hb); have n2_ := Gv.a0 (below_step Gv.bw hb); clear BK411; clear BK416; clear HB; have BK411 := n0_; have BK416 := n1_; have HB := n2_; clear n0_ n1_ n2_; (try clear hb); (try clear hb2); (try clear hk); (try clear hi); obtain ⟨hcz37_0, hcz37_1, hcz37_2, hcz37_3, hcz37_4, hcz37_5, hcz37_6, hcz37_7, hcz37_8, hcz37_9, hcz37_10, hcz37_11, hcz37_12, hcz37_13, hcz37_14, hcz37_15⟩ := Gv.c16 BK416.out; obtain ⟨hfz37_0, hfz37_1, hfz37_2, hfz37_3, hfz37_4, hfz37_5, hfz37_6, hfz37_7, hfz37_8, hfz37_9, hfz37_10, hfz37_11, hfz37_12, hfz37_13, hfz37_14, hfz37_15⟩ := Gv.f16 BK416.out) | (go_at_call 44; (with_reducible refine (impl_within.calls _ 0 1000000000000 true _ A22.out).mono ?_); rintro e w' ⟨rfl, ⟨nd, rfl⟩⟩; have hcz38_0 : w36.cell? ⟨gb411, 0, none⟩ = some (.int .i64 a0_0) := (blk_cell BK411.out 0).trans rfl; have hcz38_1 : w36.cell? ⟨gb411, 1, none⟩ = some (.slice (some ad415) l0_1.length c0_1) := (blk_cell BK411.out 1).trans rfl; have hfz38_0 := blk_frozen BK411.out 0; have hfz38_1 := blk_frozen BK411.out 1) | (go_at_call 58; (with_reducible refine (impl_Table_probe.calls k2 a0_0 _ _ l0_1 _ _ _ _ _ _ _ _ _ _ _ _ _ _ t419 _ ?side1 ?side2 A24.out).mono ?_); (case side1 => repeat (first | exact (Kd.C_below HR0_1.out Gv.bw) | (with_reducible refine Kd.C_alloc ?_ _) | (with_reducible refine Kd.C_drewN ?_ _) | (with_reducible refine Kd.C_drew ?_))); (case side2 => exact HC0_1.out); rintro e w39 ⟨rfl, hb⟩; have n0_ := Gv.a0 (Gv.bb BK411.out hb); have n1_ := Gv.a0 (Gv.bb BK416.out hb); have n2_ := Gv.a0 (below_step Gv.bw hb); clear BK411; clear BK416; clear HB; have BK411 := n0_; have BK416 := n1_; have HB := n2_; clear n0_ n1_ n2_; (try clear hb); (try clear hb2); (try clear hk); (try clear hi)) | ((with_reducible refine Gv.gate_load (t := 75) rfl ?_); (try (refine gate_guard (by rfl) ?_; dsimp only)); refine wpList_load_row rfl 75 _ rfl gb416 rfl 75 _ _ _ (Gv.kbp BK416.out) Try.underlying75 rfl (by kernel_rfl) ?_) | ((with_reducible refine Gv.gate_load (t := 75) rfl ?_); refine Gv.load_event (cs := [_, _, _, _, _, _, _, _, _, _, _, _, _, _, _, _]) rfl rfl rfl ⟨hx415_0, hx415_1, hx415_2, hx415_3, hx415_4, hx415_5, hx415_6, hx415_7, hx415_8, hx415_9, hx415_10, hx415_11, hx415_12, hx415_13, hx415_14, hx415_15, trivial⟩ Try.underlying75 rfl (by kernel_rfl) ?_))
             go_ret
             exact ⟨by first | rfl | (simp [errW_none, errW_some] <;> rfl) | (simp [*, errW_none, errW_some] <;> rfl), by repeat (first | (with_reducible first | exact HB.out | apply below_alloc | apply pw_below_drewN | apply below_drew1 | refine below_set ?_ GE411.out | refine below_set ?_ GE416.out) | exact HB.out)⟩
           ·replace c23 := Bool.eq_false_iff.mpr c23
            subst c23
            have H1 : (some false) = some r := by rw [if_neg (show ¬ (false = true) by decide)] at H; exact H
            clear H
            have H := H1
            clear H1
            obtain rfl := Option.some.inj H
            have p415 : 0 ≤ (x29_2 : Int) := of_decide_eq_true (by first | (with_reducible assumption) | assumption)
            have q415 : x29_2 < (l0_1.length : Int) := of_decide_eq_true (by first | (with_reducible assumption) | assumption)
            obtain ⟨ad415, e415, hx415_0, hx415_1, hx415_2, hx415_3, hx415_4, hx415_5, hx415_6, hx415_7, hx415_8, hx415_9, hx415_10, hx415_11, hx415_12, hx415_13, hx415_14, hx415_15⟩ := at_T75 HR0_1.out x29_2 p415 q415
            (try rw [← Nbq18.out] at hx415_0)
            cases e415
            replace hx415_0 := Gv.bx HB.out hx415_0
            replace hx415_1 := Gv.bx HB.out hx415_1
            replace hx415_2 := Gv.bx HB.out hx415_2
            replace hx415_3 := Gv.bx HB.out hx415_3
            replace hx415_4 := Gv.bx HB.out hx415_4
            replace hx415_5 := Gv.bx HB.out hx415_5
            replace hx415_6 := Gv.bx HB.out hx415_6
            replace hx415_7 := Gv.bx HB.out hx415_7
            replace hx415_8 := Gv.bx HB.out hx415_8
            replace hx415_9 := Gv.bx HB.out hx415_9
            replace hx415_10 := Gv.bx HB.out hx415_10
            replace hx415_11 := Gv.bx HB.out hx415_11
            replace hx415_12 := Gv.bx HB.out hx415_12
            replace hx415_13 := Gv.bx HB.out hx415_13
            replace hx415_14 := Gv.bx HB.out hx415_14
            replace hx415_15 := Gv.bx HB.out hx415_15
            replace p415 := eq_true p415
            replace q415 := eq_true q415
            go_wp2_with (first | ((with_reducible refine gate_dst (N := 4) rfl ?_); (try (refine gate_guard (by rfl) ?_; dsimp only)); refine box_event ?hg (N := 4) ?hd (cs := #[.bool false, .int .i64 0, .int .i64 0, .int .i64 0, .int .i64 0, .int .i64 0, .int .i64 0, .int .i64 0, .int .i64 0, .int .i64 0, .int .i64 0, .int .i64 0, .int .i64 0, .int .i64 0, .int .i64 0, .int .i64 0]) (t := 75) ?hr ?_; (case hd => rfl); (case hg => rfl); (case hr => first | (go_simp; done) | (go_simp; rfl)); intro gb416 hg w40 hbox hb; have n0_ := Gv.a0 (Gv.bb BK411.out hb); have n1_ := Gv.a0 (below_step Gv.bw hb); have n2_ := Gv.a0 (hbox); have n3_ := Gv.a0 ((Gv.ble hg Gv.bw : w.heap.size ≤ gb416)); have n4_ := Gv.a0 ((Gv.ble hg Gv.bw : w.heap.size ≤ gb416)); have n5_ := Gv.a0 ((Gv.nlt hg (Gv.kb BK411.out) : gb411 ≠ gb416)); have n6_ := Gv.a0 ((Gv.ngt hg (Gv.kb BK411.out) : gb416 ≠ gb411)); clear BK411; clear HB; have BK411 := n0_; have HB := n1_; have BK416 := n2_; have GW416 := n3_; have GE416 := n4_; have NB411_416 := n5_; have NB416_411 := n6_; clear n0_ n1_ n2_ n3_ n4_ n5_ n6_; clear hb hbox hg; have hnb41 := NB416_411.out; have hnc41 := NB411_416.out; obtain ⟨hcz42_0, hcz42_1, hcz42_2, hcz42_3, hcz42_4, hcz42_5, hcz42_6, hcz42_7, hcz42_8, hcz42_9, hcz42_10, hcz42_11, hcz42_12, hcz42_13, hcz42_14, hcz42_15⟩ := Gv.c16 BK416.out; obtain ⟨hfz42_0, hfz42_1, hfz42_2, hfz42_3, hfz42_4, hfz42_5, hfz42_6, hfz42_7, hfz42_8, hfz42_9, hfz42_10, hfz42_11, hfz42_12, hfz42_13, hfz42_14, hfz42_15⟩ := Gv.f16 BK416.out) | ((with_reducible refine gate_store (t := 75) (p := 4) rfl ?_); refine Gv.store_event rfl rfl rfl rfl rfl (Gv.kb BK416.out) (by kernel_rfl) rfl (by simp; and_intros <;> rfl) ?_; intro w40s hbox hoth hbel; have n0_ := Gv.a0 (hbox); have n1_ := Gv.a0 (hbel w Gv.bw GE416.out); have n2_ := Gv.a0 ((hoth gb411 NB411_416.out).trans (Gv.kb BK411.out)); clear BK416 HB BK411; have BK416 := n0_; have HB := n1_; have BK411 := n2_; clear n0_ n1_ n2_ hbox hoth hbel; (try clear hcz42_0 hcz42_1 hcz42_2 hcz42_3 hcz42_4 hcz42_5 hcz42_6 hcz42_7 hcz42_8 hcz42_9 hcz42_10 hcz42_11 hcz42_12 hcz42_13 hcz42_14 hcz42_15 hfz42_0 hfz42_1 hfz42_2 hfz42_3 hfz42_4 hfz42_5 hfz42_6 hfz42_7 hfz42_8 hfz42_9 hfz42_10 hfz42_11 hfz42_12 hfz42_13 hfz42_14 hfz42_15); obtain ⟨hcz42_0, hcz42_1, hcz42_2, hcz42_3, hcz42_4, hcz42_5, hcz42_6, hcz42_7, hcz42_8, hcz42_9, hcz42_10, hcz42_11, hcz42_12, hcz42_13, hcz42_14, hcz42_15⟩ := Gv.c16 BK416.out; obtain ⟨hfz42_0, hfz42_1, hfz42_2, hfz42_3, hfz42_4, hfz42_5, hfz42_6, hfz42_7, hfz42_8, hfz42_9, hfz42_10, hfz42_11, hfz42_12, hfz42_13, hfz42_14, hfz42_15⟩ := Gv.f16 BK416.out) | ((with_reducible refine gate_callee (f := 15) rfl ?_); refine goesL_ (some 44) rfl rfl Try.func15 (by kernel_rfl) rfl #[.agg #[.int .i64 ((rd_T75 l0_1 x29_2).f1.f0), .int .i64 ((rd_T75 l0_1 x29_2).f1.f1.f0.f0), .int .i64 ((rd_T75 l0_1 x29_2).f1.f1.f0.f1), .int .i64 ((rd_T75 l0_1 x29_2).f1.f1.f0.f2), .int .i64 ((rd_T75 l0_1 x29_2).f1.f1.f0.f3), .int .i64 ((rd_T75 l0_1 x29_2).f1.f1.f0.f4), .int .i64 ((rd_T75 l0_1 x29_2).f1.f1.f1.f0), .int .i64 ((rd_T75 l0_1 x29_2).f1.f1.f1.f1), .int .i64 ((rd_T75 l0_1 x29_2).f1.f1.f1.f2), .int .i64 ((rd_T75 l0_1 x29_2).f1.f1.f1.f3), .int .i64 ((rd_T75 l0_1 x29_2).f1.f1.f1.f4), .int .i64 ((rd_T75 l0_1 x29_2).f1.f1.f2), .int .i64 ((rd_T75 l0_1 x29_2).f1.f1.f3), .int .i64 ((rd_T75 l0_1 x29_2).f1.f1.f4)]] rfl Gv.lm ?_; (with_reducible refine (impl_FlowKeyOk.calls k2 _ _ _ _ _ _ _ _ _ _ _ _ _ _ true _ A20.out).mono ?_); rintro e w43 ⟨rfl, hb⟩; refine ⟨_, rfl, ?_⟩; have n0_ := Gv.a0 (blk_below (g := gb411) (o := .cells #[.int .i64 a0_0, .slice (some ad415) l0_1.length c0_1] 40 (0, 0)) Gv.bkf hb); have n1_ := Gv.a0 (blk_below (g := gb416) (o := .cells #[.bool true, .int .i64 ((rd_T75 l0_1 x29_2).f1.f0), .int .i64 ((rd_T75 l0_1 x29_2).f1.f1.f0.f0), .int .i64 ((rd_T75 l0_1 x29_2).f1.f1.f0.f1), .int .i64 ((rd_T75 l0_1 x29_2).f1.f1.f0.f2), .int .i64 ((rd_T75 l0_1 x29_2).f1.f1.f0.f3), .int .i64 ((rd_T75 l0_1 x29_2).f1.f1.f0.f4), .int .i64 ((rd_T75 l0_1 x29_2).f1.f1.f1.f0), .int .i64 ((rd_T75 l0_1 x29_2).f1.f1.f1.f1), .int .i64 ((rd_T75 l0_1 x29_2).f1.f1.f1.f2), .int .i64 ((rd_T75 l0_1 x29_2).f1.f1.f1.f3), .int .i64 ((rd_T75 l0_1 x29_2).f1.f1.f1.f4), .int .i64 ((rd_T75 l0_1 x29_2).f1.f1.f2), .int .i64 ((rd_T75 l0_1 x29_2).f1.f1.f3), .int .i64 ((rd_T75 l0_1 x29_2).f1.f1.f4), .int .i64 ((rd_T75 l0_1 x29_2).f2)] 75 (0, 0)) (by (with_reducible repeat (first | refine blk_drewN ?_ _ | refine blk_drew ?_ | refine blk_alloc ?_ _)); exact BK416.out) hb); have n2_ := Gv.a0 (below_step Gv.bw hb); clear BK411; clear BK416; clear HB; have BK411 := n0_; have BK416 := n1_; have HB := n2_; clear n0_ n1_ n2_; (try clear hb); (try clear hb2); (try clear hk); (try clear hi); obtain ⟨hcz44_0, hcz44_1, hcz44_2, hcz44_3, hcz44_4, hcz44_5, hcz44_6, hcz44_7, hcz44_8, hcz44_9, hcz44_10, hcz44_11, hcz44_12, hcz44_13, hcz44_14, hcz44_15⟩ := Gv.c16 BK416.out; obtain ⟨hfz44_0, hfz44_1, hfz44_2, hfz44_3, hfz44_4, hfz44_5, hfz44_6, hfz44_7, hfz44_8, hfz44_9, hfz44_10, hfz44_11, hfz44_12, hfz44_13, hfz44_14, hfz44_15⟩ := Gv.f16 BK416.out) | (go_at_call 44; (with_reducible refine (impl_within.calls _ 0 1000000000000 false _ A22.out).mono ?_); rintro e w' ⟨rfl, ⟨nd, rfl⟩⟩) | ((with_reducible refine Gv.gate_load (t := 75) rfl ?_); (try (refine gate_guard (by rfl) ?_; dsimp only)); refine wpList_load_row rfl 75 _ rfl gb416 rfl 75 _ _ _ (Gv.kbp BK416.out) Try.underlying75 rfl (by kernel_rfl) ?_) | ((with_reducible refine Gv.gate_load (t := 75) rfl ?_); refine Gv.load_event (cs := [_, _, _, _, _, _, _, _, _, _, _, _, _, _, _, _]) rfl rfl rfl ⟨hx415_0, hx415_1, hx415_2, hx415_3, hx415_4, hx415_5, hx415_6, hx415_7, hx415_8, hx415_9, hx415_10, hx415_11, hx415_12, hx415_13, hx415_14, hx415_15, trivial⟩ Try.underlying75 rfl (by kernel_rfl) ?_))
            go_ret
            exact ⟨by first | rfl | (simp [errW_none, errW_some] <;> rfl) | (simp [*, errW_none, errW_some] <;> rfl), by repeat (first | (with_reducible first | exact HB.out | apply below_alloc | apply pw_below_drewN | apply below_drew1 | refine below_set ?_ GE411.out | refine below_set ?_ GE416.out) | exact HB.out)⟩
          ·replace c21 := Bool.eq_false_iff.mpr c21
           subst c21
           have H1 : (some false) = some r := by rw [if_neg (show ¬ (false = true) by decide)] at H; exact H
           clear H
           have H := H1
           clear H1
           obtain rfl := Option.some.inj H
           have p415 : 0 ≤ (x29_2 : Int) := of_decide_eq_true (by first | (with_reducible assumption) | assumption)
           have q415 : x29_2 < (l0_1.length : Int) := of_decide_eq_true (by first | (with_reducible assumption) | assumption)
           obtain ⟨ad415, e415, hx415_0, hx415_1, hx415_2, hx415_3, hx415_4, hx415_5, hx415_6, hx415_7, hx415_8, hx415_9, hx415_10, hx415_11, hx415_12, hx415_13, hx415_14, hx415_15⟩ := at_T75 HR0_1.out x29_2 p415 q415
           (try rw [← Nbq18.out] at hx415_0)
           cases e415
           replace hx415_0 := Gv.bx HB.out hx415_0
           replace hx415_1 := Gv.bx HB.out hx415_1
           replace hx415_2 := Gv.bx HB.out hx415_2
           replace hx415_3 := Gv.bx HB.out hx415_3
           replace hx415_4 := Gv.bx HB.out hx415_4
           replace hx415_5 := Gv.bx HB.out hx415_5
           replace hx415_6 := Gv.bx HB.out hx415_6
           replace hx415_7 := Gv.bx HB.out hx415_7
           replace hx415_8 := Gv.bx HB.out hx415_8
           replace hx415_9 := Gv.bx HB.out hx415_9
           replace hx415_10 := Gv.bx HB.out hx415_10
           replace hx415_11 := Gv.bx HB.out hx415_11
           replace hx415_12 := Gv.bx HB.out hx415_12
           replace hx415_13 := Gv.bx HB.out hx415_13
           replace hx415_14 := Gv.bx HB.out hx415_14
           replace hx415_15 := Gv.bx HB.out hx415_15
           replace p415 := eq_true p415
           replace q415 := eq_true q415
           go_wp2_with (first | ((with_reducible refine gate_dst (N := 4) rfl ?_); (try (refine gate_guard (by rfl) ?_; dsimp only)); refine box_event ?hg (N := 4) ?hd (cs := #[.bool false, .int .i64 0, .int .i64 0, .int .i64 0, .int .i64 0, .int .i64 0, .int .i64 0, .int .i64 0, .int .i64 0, .int .i64 0, .int .i64 0, .int .i64 0, .int .i64 0, .int .i64 0, .int .i64 0, .int .i64 0]) (t := 75) ?hr ?_; (case hd => rfl); (case hg => rfl); (case hr => first | (go_simp; done) | (go_simp; rfl)); intro gb416 hg w45 hbox hb; have n0_ := Gv.a0 (Gv.bb BK411.out hb); have n1_ := Gv.a0 (below_step Gv.bw hb); have n2_ := Gv.a0 (hbox); have n3_ := Gv.a0 ((Gv.ble hg Gv.bw : w.heap.size ≤ gb416)); have n4_ := Gv.a0 ((Gv.ble hg Gv.bw : w.heap.size ≤ gb416)); have n5_ := Gv.a0 ((Gv.nlt hg (Gv.kb BK411.out) : gb411 ≠ gb416)); have n6_ := Gv.a0 ((Gv.ngt hg (Gv.kb BK411.out) : gb416 ≠ gb411)); clear BK411; clear HB; have BK411 := n0_; have HB := n1_; have BK416 := n2_; have GW416 := n3_; have GE416 := n4_; have NB411_416 := n5_; have NB416_411 := n6_; clear n0_ n1_ n2_ n3_ n4_ n5_ n6_; clear hb hbox hg; have hnb46 := NB416_411.out; have hnc46 := NB411_416.out; obtain ⟨hcz47_0, hcz47_1, hcz47_2, hcz47_3, hcz47_4, hcz47_5, hcz47_6, hcz47_7, hcz47_8, hcz47_9, hcz47_10, hcz47_11, hcz47_12, hcz47_13, hcz47_14, hcz47_15⟩ := Gv.c16 BK416.out; obtain ⟨hfz47_0, hfz47_1, hfz47_2, hfz47_3, hfz47_4, hfz47_5, hfz47_6, hfz47_7, hfz47_8, hfz47_9, hfz47_10, hfz47_11, hfz47_12, hfz47_13, hfz47_14, hfz47_15⟩ := Gv.f16 BK416.out) | ((with_reducible refine gate_store (t := 75) (p := 4) rfl ?_); refine Gv.store_event rfl rfl rfl rfl rfl (Gv.kb BK416.out) (by kernel_rfl) rfl (by simp; and_intros <;> rfl) ?_; intro w45s hbox hoth hbel; have n0_ := Gv.a0 (hbox); have n1_ := Gv.a0 (hbel w Gv.bw GE416.out); have n2_ := Gv.a0 ((hoth gb411 NB411_416.out).trans (Gv.kb BK411.out)); clear BK416 HB BK411; have BK416 := n0_; have HB := n1_; have BK411 := n2_; clear n0_ n1_ n2_ hbox hoth hbel; (try clear hcz47_0 hcz47_1 hcz47_2 hcz47_3 hcz47_4 hcz47_5 hcz47_6 hcz47_7 hcz47_8 hcz47_9 hcz47_10 hcz47_11 hcz47_12 hcz47_13 hcz47_14 hcz47_15 hfz47_0 hfz47_1 hfz47_2 hfz47_3 hfz47_4 hfz47_5 hfz47_6 hfz47_7 hfz47_8 hfz47_9 hfz47_10 hfz47_11 hfz47_12 hfz47_13 hfz47_14 hfz47_15); obtain ⟨hcz47_0, hcz47_1, hcz47_2, hcz47_3, hcz47_4, hcz47_5, hcz47_6, hcz47_7, hcz47_8, hcz47_9, hcz47_10, hcz47_11, hcz47_12, hcz47_13, hcz47_14, hcz47_15⟩ := Gv.c16 BK416.out; obtain ⟨hfz47_0, hfz47_1, hfz47_2, hfz47_3, hfz47_4, hfz47_5, hfz47_6, hfz47_7, hfz47_8, hfz47_9, hfz47_10, hfz47_11, hfz47_12, hfz47_13, hfz47_14, hfz47_15⟩ := Gv.f16 BK416.out) | ((with_reducible refine gate_callee (f := 15) rfl ?_); refine goesL_ (some 44) rfl rfl Try.func15 (by kernel_rfl) rfl #[.agg #[.int .i64 ((rd_T75 l0_1 x29_2).f1.f0), .int .i64 ((rd_T75 l0_1 x29_2).f1.f1.f0.f0), .int .i64 ((rd_T75 l0_1 x29_2).f1.f1.f0.f1), .int .i64 ((rd_T75 l0_1 x29_2).f1.f1.f0.f2), .int .i64 ((rd_T75 l0_1 x29_2).f1.f1.f0.f3), .int .i64 ((rd_T75 l0_1 x29_2).f1.f1.f0.f4), .int .i64 ((rd_T75 l0_1 x29_2).f1.f1.f1.f0), .int .i64 ((rd_T75 l0_1 x29_2).f1.f1.f1.f1), .int .i64 ((rd_T75 l0_1 x29_2).f1.f1.f1.f2), .int .i64 ((rd_T75 l0_1 x29_2).f1.f1.f1.f3), .int .i64 ((rd_T75 l0_1 x29_2).f1.f1.f1.f4), .int .i64 ((rd_T75 l0_1 x29_2).f1.f1.f2), .int .i64 ((rd_T75 l0_1 x29_2).f1.f1.f3), .int .i64 ((rd_T75 l0_1 x29_2).f1.f1.f4)]] rfl Gv.lm ?_; (with_reducible refine (impl_FlowKeyOk.calls k2 _ _ _ _ _ _ _ _ _ _ _ _ _ _ false _ A20.out).mono ?_); rintro e w48 ⟨rfl, hb⟩; refine ⟨_, rfl, ?_⟩; have n0_ := Gv.a0 (blk_below (g := gb411) (o := .cells #[.int .i64 a0_0, .slice (some ad415) l0_1.length c0_1] 40 (0, 0)) Gv.bkf hb); have n1_ := Gv.a0 (blk_below (g := gb416) (o := .cells #[.bool true, .int .i64 ((rd_T75 l0_1 x29_2).f1.f0), .int .i64 ((rd_T75 l0_1 x29_2).f1.f1.f0.f0), .int .i64 ((rd_T75 l0_1 x29_2).f1.f1.f0.f1), .int .i64 ((rd_T75 l0_1 x29_2).f1.f1.f0.f2), .int .i64 ((rd_T75 l0_1 x29_2).f1.f1.f0.f3), .int .i64 ((rd_T75 l0_1 x29_2).f1.f1.f0.f4), .int .i64 ((rd_T75 l0_1 x29_2).f1.f1.f1.f0), .int .i64 ((rd_T75 l0_1 x29_2).f1.f1.f1.f1), .int .i64 ((rd_T75 l0_1 x29_2).f1.f1.f1.f2), .int .i64 ((rd_T75 l0_1 x29_2).f1.f1.f1.f3), .int .i64 ((rd_T75 l0_1 x29_2).f1.f1.f1.f4), .int .i64 ((rd_T75 l0_1 x29_2).f1.f1.f2), .int .i64 ((rd_T75 l0_1 x29_2).f1.f1.f3), .int .i64 ((rd_T75 l0_1 x29_2).f1.f1.f4), .int .i64 ((rd_T75 l0_1 x29_2).f2)] 75 (0, 0)) (by (with_reducible repeat (first | refine blk_drewN ?_ _ | refine blk_drew ?_ | refine blk_alloc ?_ _)); exact BK416.out) hb); have n2_ := Gv.a0 (below_step Gv.bw hb); clear BK411; clear BK416; clear HB; have BK411 := n0_; have BK416 := n1_; have HB := n2_; clear n0_ n1_ n2_; (try clear hb); (try clear hb2); (try clear hk); (try clear hi)) | ((with_reducible refine Gv.gate_load (t := 75) rfl ?_); (try (refine gate_guard (by rfl) ?_; dsimp only)); refine wpList_load_row rfl 75 _ rfl gb416 rfl 75 _ _ _ (Gv.kbp BK416.out) Try.underlying75 rfl (by kernel_rfl) ?_) | ((with_reducible refine Gv.gate_load (t := 75) rfl ?_); refine Gv.load_event (cs := [_, _, _, _, _, _, _, _, _, _, _, _, _, _, _, _]) rfl rfl rfl ⟨hx415_0, hx415_1, hx415_2, hx415_3, hx415_4, hx415_5, hx415_6, hx415_7, hx415_8, hx415_9, hx415_10, hx415_11, hx415_12, hx415_13, hx415_14, hx415_15, trivial⟩ Try.underlying75 rfl (by kernel_rfl) ?_))
           go_ret
           exact ⟨by first | rfl | (simp [errW_none, errW_some] <;> rfl) | (simp [*, errW_none, errW_some] <;> rfl), by repeat (first | (with_reducible first | exact HB.out | apply below_alloc | apply pw_below_drewN | apply below_drew1 | refine below_set ?_ GE411.out | refine below_set ?_ GE416.out) | exact HB.out)⟩
         ·replace c19 := Bool.eq_false_iff.mpr c19
          subst c19
          have H1 : (if (((!(((rd_T75 l0_1 x29_2).f1.f0) == 0) || (((!(((rd_T75 l0_1 x29_2).f1.f1.f0.f0) == 0) || (!(((rd_T75 l0_1 x29_2).f1.f1.f0.f1) == 0) || (!(((rd_T75 l0_1 x29_2).f1.f1.f0.f2) == 0) || (!(((rd_T75 l0_1 x29_2).f1.f1.f0.f3) == 0) || (!(((rd_T75 l0_1 x29_2).f1.f1.f0.f4) == 0)))))) || ((!(((rd_T75 l0_1 x29_2).f1.f1.f1.f0) == 0) || (!(((rd_T75 l0_1 x29_2).f1.f1.f1.f1) == 0) || (!(((rd_T75 l0_1 x29_2).f1.f1.f1.f2) == 0) || (!(((rd_T75 l0_1 x29_2).f1.f1.f1.f3) == 0) || (!(((rd_T75 l0_1 x29_2).f1.f1.f1.f4) == 0)))))) || (!(((rd_T75 l0_1 x29_2).f1.f1.f2) == 0) || (!(((rd_T75 l0_1 x29_2).f1.f1.f3) == 0) || (!(((rd_T75 l0_1 x29_2).f1.f1.f4) == 0)))))))) || (!(((rd_T75 l0_1 x29_2).f2) == 0)))) = true then (some false) else (impl_TableOk.l0 k2 l0_1 (l0_1.length : Int) (wrap64 (x29_2 + 1)) a0_0 l0_1)) = some r := by rw [if_neg (show ¬ (false = true) by decide)] at H; exact H
          clear H
          have H := H1
          clear H1
          by_cases c49 : (((!(((rd_T75 l0_1 x29_2).f1.f0) == 0) || (((!(((rd_T75 l0_1 x29_2).f1.f1.f0.f0) == 0) || (!(((rd_T75 l0_1 x29_2).f1.f1.f0.f1) == 0) || (!(((rd_T75 l0_1 x29_2).f1.f1.f0.f2) == 0) || (!(((rd_T75 l0_1 x29_2).f1.f1.f0.f3) == 0) || (!(((rd_T75 l0_1 x29_2).f1.f1.f0.f4) == 0)))))) || ((!(((rd_T75 l0_1 x29_2).f1.f1.f1.f0) == 0) || (!(((rd_T75 l0_1 x29_2).f1.f1.f1.f1) == 0) || (!(((rd_T75 l0_1 x29_2).f1.f1.f1.f2) == 0) || (!(((rd_T75 l0_1 x29_2).f1.f1.f1.f3) == 0) || (!(((rd_T75 l0_1 x29_2).f1.f1.f1.f4) == 0)))))) || (!(((rd_T75 l0_1 x29_2).f1.f1.f2) == 0) || (!(((rd_T75 l0_1 x29_2).f1.f1.f3) == 0) || (!(((rd_T75 l0_1 x29_2).f1.f1.f4) == 0)))))))) || (!(((rd_T75 l0_1 x29_2).f2) == 0)))) = true
          ·rw [if_pos c49] at H
           have c49b0 : (((!(((rd_T75 l0_1 x29_2).f1.f0) == 0) || (((!(((rd_T75 l0_1 x29_2).f1.f1.f0.f0) == 0) || (!(((rd_T75 l0_1 x29_2).f1.f1.f0.f1) == 0) || (!(((rd_T75 l0_1 x29_2).f1.f1.f0.f2) == 0) || (!(((rd_T75 l0_1 x29_2).f1.f1.f0.f3) == 0) || (!(((rd_T75 l0_1 x29_2).f1.f1.f0.f4) == 0)))))) || ((!(((rd_T75 l0_1 x29_2).f1.f1.f1.f0) == 0) || (!(((rd_T75 l0_1 x29_2).f1.f1.f1.f1) == 0) || (!(((rd_T75 l0_1 x29_2).f1.f1.f1.f2) == 0) || (!(((rd_T75 l0_1 x29_2).f1.f1.f1.f3) == 0) || (!(((rd_T75 l0_1 x29_2).f1.f1.f1.f4) == 0)))))) || (!(((rd_T75 l0_1 x29_2).f1.f1.f2) == 0) || (!(((rd_T75 l0_1 x29_2).f1.f1.f3) == 0) || (!(((rd_T75 l0_1 x29_2).f1.f1.f4) == 0)))))))) || (!(((rd_T75 l0_1 x29_2).f2) == 0)))) = true := c49
           clear c49
           obtain rfl := Option.some.inj H
           have p415 : 0 ≤ (x29_2 : Int) := of_decide_eq_true (by first | (with_reducible assumption) | assumption)
           have q415 : x29_2 < (l0_1.length : Int) := of_decide_eq_true (by first | (with_reducible assumption) | assumption)
           obtain ⟨ad415, e415, hx415_0, hx415_1, hx415_2, hx415_3, hx415_4, hx415_5, hx415_6, hx415_7, hx415_8, hx415_9, hx415_10, hx415_11, hx415_12, hx415_13, hx415_14, hx415_15⟩ := at_T75 HR0_1.out x29_2 p415 q415
           (try rw [← Nbq18.out] at hx415_0)
           cases e415
           replace hx415_0 := Gv.bx HB.out hx415_0
           replace hx415_1 := Gv.bx HB.out hx415_1
           replace hx415_2 := Gv.bx HB.out hx415_2
           replace hx415_3 := Gv.bx HB.out hx415_3
           replace hx415_4 := Gv.bx HB.out hx415_4
           replace hx415_5 := Gv.bx HB.out hx415_5
           replace hx415_6 := Gv.bx HB.out hx415_6
           replace hx415_7 := Gv.bx HB.out hx415_7
           replace hx415_8 := Gv.bx HB.out hx415_8
           replace hx415_9 := Gv.bx HB.out hx415_9
           replace hx415_10 := Gv.bx HB.out hx415_10
           replace hx415_11 := Gv.bx HB.out hx415_11
           replace hx415_12 := Gv.bx HB.out hx415_12
           replace hx415_13 := Gv.bx HB.out hx415_13
           replace hx415_14 := Gv.bx HB.out hx415_14
           replace hx415_15 := Gv.bx HB.out hx415_15
           replace p415 := eq_true p415
           replace q415 := eq_true q415
           go_wp2_with (first | ((with_reducible refine gate_dst (N := 4) rfl ?_); (try (refine gate_guard (by rfl) ?_; dsimp only)); refine box_event ?hg (N := 4) ?hd (cs := #[.bool false, .int .i64 0, .int .i64 0, .int .i64 0, .int .i64 0, .int .i64 0, .int .i64 0, .int .i64 0, .int .i64 0, .int .i64 0, .int .i64 0, .int .i64 0, .int .i64 0, .int .i64 0, .int .i64 0, .int .i64 0]) (t := 75) ?hr ?_; (case hd => rfl); (case hg => rfl); (case hr => first | (go_simp; done) | (go_simp; rfl)); intro gb416 hg w50 hbox hb; have n0_ := Gv.a0 (Gv.bb BK411.out hb); have n1_ := Gv.a0 (below_step Gv.bw hb); have n2_ := Gv.a0 (hbox); have n3_ := Gv.a0 ((Gv.ble hg Gv.bw : w.heap.size ≤ gb416)); have n4_ := Gv.a0 ((Gv.ble hg Gv.bw : w.heap.size ≤ gb416)); have n5_ := Gv.a0 ((Gv.nlt hg (Gv.kb BK411.out) : gb411 ≠ gb416)); have n6_ := Gv.a0 ((Gv.ngt hg (Gv.kb BK411.out) : gb416 ≠ gb411)); clear BK411; clear HB; have BK411 := n0_; have HB := n1_; have BK416 := n2_; have GW416 := n3_; have GE416 := n4_; have NB411_416 := n5_; have NB416_411 := n6_; clear n0_ n1_ n2_ n3_ n4_ n5_ n6_; clear hb hbox hg; have hnb51 := NB416_411.out; have hnc51 := NB411_416.out; obtain ⟨hcz52_0, hcz52_1, hcz52_2, hcz52_3, hcz52_4, hcz52_5, hcz52_6, hcz52_7, hcz52_8, hcz52_9, hcz52_10, hcz52_11, hcz52_12, hcz52_13, hcz52_14, hcz52_15⟩ := Gv.c16 BK416.out; obtain ⟨hfz52_0, hfz52_1, hfz52_2, hfz52_3, hfz52_4, hfz52_5, hfz52_6, hfz52_7, hfz52_8, hfz52_9, hfz52_10, hfz52_11, hfz52_12, hfz52_13, hfz52_14, hfz52_15⟩ := Gv.f16 BK416.out) | ((with_reducible refine gate_store (t := 75) (p := 4) rfl ?_); refine Gv.store_event rfl rfl rfl rfl rfl (Gv.kb BK416.out) (by kernel_rfl) rfl (by simp; and_intros <;> rfl) ?_; intro w50s hbox hoth hbel; have n0_ := Gv.a0 (hbox); have n1_ := Gv.a0 (hbel w Gv.bw GE416.out); have n2_ := Gv.a0 ((hoth gb411 NB411_416.out).trans (Gv.kb BK411.out)); clear BK416 HB BK411; have BK416 := n0_; have HB := n1_; have BK411 := n2_; clear n0_ n1_ n2_ hbox hoth hbel; (try clear hcz52_0 hcz52_1 hcz52_2 hcz52_3 hcz52_4 hcz52_5 hcz52_6 hcz52_7 hcz52_8 hcz52_9 hcz52_10 hcz52_11 hcz52_12 hcz52_13 hcz52_14 hcz52_15 hfz52_0 hfz52_1 hfz52_2 hfz52_3 hfz52_4 hfz52_5 hfz52_6 hfz52_7 hfz52_8 hfz52_9 hfz52_10 hfz52_11 hfz52_12 hfz52_13 hfz52_14 hfz52_15); obtain ⟨hcz52_0, hcz52_1, hcz52_2, hcz52_3, hcz52_4, hcz52_5, hcz52_6, hcz52_7, hcz52_8, hcz52_9, hcz52_10, hcz52_11, hcz52_12, hcz52_13, hcz52_14, hcz52_15⟩ := Gv.c16 BK416.out; obtain ⟨hfz52_0, hfz52_1, hfz52_2, hfz52_3, hfz52_4, hfz52_5, hfz52_6, hfz52_7, hfz52_8, hfz52_9, hfz52_10, hfz52_11, hfz52_12, hfz52_13, hfz52_14, hfz52_15⟩ := Gv.f16 BK416.out) | ((with_reducible refine Gv.gate_load (t := 75) rfl ?_); (try (refine gate_guard (by rfl) ?_; dsimp only)); refine wpList_load_row rfl 75 _ rfl gb416 rfl 75 _ _ _ (Gv.kbp BK416.out) Try.underlying75 rfl (by kernel_rfl) ?_) | ((with_reducible refine Gv.gate_load (t := 75) rfl ?_); refine Gv.load_event (cs := [_, _, _, _, _, _, _, _, _, _, _, _, _, _, _, _]) rfl rfl rfl ⟨hx415_0, hx415_1, hx415_2, hx415_3, hx415_4, hx415_5, hx415_6, hx415_7, hx415_8, hx415_9, hx415_10, hx415_11, hx415_12, hx415_13, hx415_14, hx415_15, trivial⟩ Try.underlying75 rfl (by kernel_rfl) ?_))
           go_ret
           exact ⟨by first | rfl | (simp [errW_none, errW_some] <;> rfl) | (simp [*, errW_none, errW_some] <;> rfl), by repeat (first | (with_reducible first | exact HB.out | apply below_alloc | apply pw_below_drewN | apply below_drew1 | refine below_set ?_ GE411.out | refine below_set ?_ GE416.out) | exact HB.out)⟩
          ·rw [if_neg c49] at H
           have c49b0 : (((!(((rd_T75 l0_1 x29_2).f1.f0) == 0) || (((!(((rd_T75 l0_1 x29_2).f1.f1.f0.f0) == 0) || (!(((rd_T75 l0_1 x29_2).f1.f1.f0.f1) == 0) || (!(((rd_T75 l0_1 x29_2).f1.f1.f0.f2) == 0) || (!(((rd_T75 l0_1 x29_2).f1.f1.f0.f3) == 0) || (!(((rd_T75 l0_1 x29_2).f1.f1.f0.f4) == 0)))))) || ((!(((rd_T75 l0_1 x29_2).f1.f1.f1.f0) == 0) || (!(((rd_T75 l0_1 x29_2).f1.f1.f1.f1) == 0) || (!(((rd_T75 l0_1 x29_2).f1.f1.f1.f2) == 0) || (!(((rd_T75 l0_1 x29_2).f1.f1.f1.f3) == 0) || (!(((rd_T75 l0_1 x29_2).f1.f1.f1.f4) == 0)))))) || (!(((rd_T75 l0_1 x29_2).f1.f1.f2) == 0) || (!(((rd_T75 l0_1 x29_2).f1.f1.f3) == 0) || (!(((rd_T75 l0_1 x29_2).f1.f1.f4) == 0)))))))) || (!(((rd_T75 l0_1 x29_2).f2) == 0)))) = false := by simpa using c49
           clear c49
           have H' := Gv.a0 H
           clear H
           have p415 : 0 ≤ (x29_2 : Int) := of_decide_eq_true (by first | (with_reducible assumption) | assumption)
           have q415 : x29_2 < (l0_1.length : Int) := of_decide_eq_true (by first | (with_reducible assumption) | assumption)
           obtain ⟨ad415, e415, hx415_0, hx415_1, hx415_2, hx415_3, hx415_4, hx415_5, hx415_6, hx415_7, hx415_8, hx415_9, hx415_10, hx415_11, hx415_12, hx415_13, hx415_14, hx415_15⟩ := at_T75 HR0_1.out x29_2 p415 q415
           (try rw [← Nbq18.out] at hx415_0)
           cases e415
           replace hx415_0 := Gv.bx HB.out hx415_0
           replace hx415_1 := Gv.bx HB.out hx415_1
           replace hx415_2 := Gv.bx HB.out hx415_2
           replace hx415_3 := Gv.bx HB.out hx415_3
           replace hx415_4 := Gv.bx HB.out hx415_4
           replace hx415_5 := Gv.bx HB.out hx415_5
           replace hx415_6 := Gv.bx HB.out hx415_6
           replace hx415_7 := Gv.bx HB.out hx415_7
           replace hx415_8 := Gv.bx HB.out hx415_8
           replace hx415_9 := Gv.bx HB.out hx415_9
           replace hx415_10 := Gv.bx HB.out hx415_10
           replace hx415_11 := Gv.bx HB.out hx415_11
           replace hx415_12 := Gv.bx HB.out hx415_12
           replace hx415_13 := Gv.bx HB.out hx415_13
           replace hx415_14 := Gv.bx HB.out hx415_14
           replace hx415_15 := Gv.bx HB.out hx415_15
           replace p415 := eq_true p415
           replace q415 := eq_true q415
           go_wp2_with (first | ((with_reducible refine gate_dst (N := 4) rfl ?_); (try (refine gate_guard (by rfl) ?_; dsimp only)); refine box_event ?hg (N := 4) ?hd (cs := #[.bool false, .int .i64 0, .int .i64 0, .int .i64 0, .int .i64 0, .int .i64 0, .int .i64 0, .int .i64 0, .int .i64 0, .int .i64 0, .int .i64 0, .int .i64 0, .int .i64 0, .int .i64 0, .int .i64 0, .int .i64 0]) (t := 75) ?hr ?_; (case hd => rfl); (case hg => rfl); (case hr => first | (go_simp; done) | (go_simp; rfl)); intro gb416 hg w53 hbox hb; have n0_ := Gv.a0 (Gv.bb BK411.out hb); have n1_ := Gv.a0 (below_step Gv.bw hb); have n2_ := Gv.a0 (hbox); have n3_ := Gv.a0 ((Gv.ble hg Gv.bw : w.heap.size ≤ gb416)); have n4_ := Gv.a0 ((Gv.ble hg Gv.bw : w.heap.size ≤ gb416)); have n5_ := Gv.a0 ((Gv.nlt hg (Gv.kb BK411.out) : gb411 ≠ gb416)); have n6_ := Gv.a0 ((Gv.ngt hg (Gv.kb BK411.out) : gb416 ≠ gb411)); clear BK411; clear HB; have BK411 := n0_; have HB := n1_; have BK416 := n2_; have GW416 := n3_; have GE416 := n4_; have NB411_416 := n5_; have NB416_411 := n6_; clear n0_ n1_ n2_ n3_ n4_ n5_ n6_; clear hb hbox hg; have hnb54 := NB416_411.out; have hnc54 := NB411_416.out; obtain ⟨hcz55_0, hcz55_1, hcz55_2, hcz55_3, hcz55_4, hcz55_5, hcz55_6, hcz55_7, hcz55_8, hcz55_9, hcz55_10, hcz55_11, hcz55_12, hcz55_13, hcz55_14, hcz55_15⟩ := Gv.c16 BK416.out; obtain ⟨hfz55_0, hfz55_1, hfz55_2, hfz55_3, hfz55_4, hfz55_5, hfz55_6, hfz55_7, hfz55_8, hfz55_9, hfz55_10, hfz55_11, hfz55_12, hfz55_13, hfz55_14, hfz55_15⟩ := Gv.f16 BK416.out) | ((with_reducible refine gate_store (t := 75) (p := 4) rfl ?_); refine Gv.store_event rfl rfl rfl rfl rfl (Gv.kb BK416.out) (by kernel_rfl) rfl (by simp; and_intros <;> rfl) ?_; intro w53s hbox hoth hbel; have n0_ := Gv.a0 (hbox); have n1_ := Gv.a0 (hbel w Gv.bw GE416.out); have n2_ := Gv.a0 ((hoth gb411 NB411_416.out).trans (Gv.kb BK411.out)); clear BK416 HB BK411; have BK416 := n0_; have HB := n1_; have BK411 := n2_; clear n0_ n1_ n2_ hbox hoth hbel; (try clear hcz55_0 hcz55_1 hcz55_2 hcz55_3 hcz55_4 hcz55_5 hcz55_6 hcz55_7 hcz55_8 hcz55_9 hcz55_10 hcz55_11 hcz55_12 hcz55_13 hcz55_14 hcz55_15 hfz55_0 hfz55_1 hfz55_2 hfz55_3 hfz55_4 hfz55_5 hfz55_6 hfz55_7 hfz55_8 hfz55_9 hfz55_10 hfz55_11 hfz55_12 hfz55_13 hfz55_14 hfz55_15); obtain ⟨hcz55_0, hcz55_1, hcz55_2, hcz55_3, hcz55_4, hcz55_5, hcz55_6, hcz55_7, hcz55_8, hcz55_9, hcz55_10, hcz55_11, hcz55_12, hcz55_13, hcz55_14, hcz55_15⟩ := Gv.c16 BK416.out; obtain ⟨hfz55_0, hfz55_1, hfz55_2, hfz55_3, hfz55_4, hfz55_5, hfz55_6, hfz55_7, hfz55_8, hfz55_9, hfz55_10, hfz55_11, hfz55_12, hfz55_13, hfz55_14, hfz55_15⟩ := Gv.f16 BK416.out) | ((with_reducible refine Gv.gate_load (t := 75) rfl ?_); (try (refine gate_guard (by rfl) ?_; dsimp only)); refine wpList_load_row rfl 75 _ rfl gb416 rfl 75 _ _ _ (Gv.kbp BK416.out) Try.underlying75 rfl (by kernel_rfl) ?_) | ((with_reducible refine Gv.gate_load (t := 75) rfl ?_); refine Gv.load_event (cs := [_, _, _, _, _, _, _, _, _, _, _, _, _, _, _, _]) rfl rfl rfl ⟨hx415_0, hx415_1, hx415_2, hx415_3, hx415_4, hx415_5, hx415_6, hx415_7, hx415_8, hx415_9, hx415_10, hx415_11, hx415_12, hx415_13, hx415_14, hx415_15, trivial⟩ Try.underlying75 rfl (by kernel_rfl) ?_))
           go_roundg k2
           case measure => have := HJ1.out; have := HK2.out; omega
           case rel => exact ⟨(wrap64 (x29_2 + 1)), (by first | rfl | (simp; done) | (simp [Int.tdiv_eq_ediv_of_nonneg]; done) | (simp [*]; done)), H', ⟨by have := HJ1.out; have := HK2.out; omega⟩, ⟨by (with_reducible repeat (first | refine blk_drewN ?_ _ | refine blk_drew ?_ | refine blk_alloc ?_ _)); (repeat (refine blk_far ?_ NB411_416.out _; (with_reducible repeat (first | refine blk_drewN ?_ _ | refine blk_drew ?_ | refine blk_alloc ?_ _)))); (with_reducible repeat (first | refine blk_drewN ?_ _ | refine blk_drew ?_ | refine blk_alloc ?_ _)); exact BK411.out⟩, ⟨by repeat (first | (with_reducible first | exact HB.out | apply below_alloc | apply pw_below_drewN | apply below_drew1 | refine below_set ?_ GE411.out | refine below_set ?_ GE416.out) | exact HB.out)⟩⟩
        ·rw [if_neg c17] at H
         exact absurd H (by simp)
       ·rw [if_neg c16] at H
        exact absurd H (by simp)
      ·rw [if_neg c15] at H
       have c15b0 : decide (x29_2 < (l0_1.length : Int)) = false := decide_eq_false c15
       clear c15
       obtain rfl := Option.some.inj H
       go_wp2_with (first | ((with_reducible refine Gv.gate_load (t := 75) rfl ?_); (try (refine gate_guard (by rfl) ?_; dsimp only)); refine wpList_load_row rfl 75 _ rfl gb416 rfl 75 _ _ _ (Gv.kbp BK416.out) Try.underlying75 rfl (by kernel_rfl) ?_))
       go_ret
       exact ⟨by first | rfl | (simp [errW_none, errW_some] <;> rfl) | (simp [*, errW_none, errW_some] <;> rfl), by repeat (first | (with_reducible first | exact HB.out | apply below_alloc | apply pw_below_drewN | apply below_drew1 | refine below_set ?_ GE411.out) | exact HB.out)⟩

/-! ### laws_FnExactTableOk: function 6 -/
def laws_FnExactTableOk.f (k : Nat) (a0_0 : Int) (l0_1 : List (S94)) : Option (Bool) := (laws_szTable.f a0_0 l0_1 1048576).bind fun t421 => (if t421 < 0 then (some true) else ((laws_toTable.f k a0_0 l0_1).bind fun bt422 => ((spec_TableOk.f k bt422.1 bt422.2).bind fun t426 => ((laws_toTable.f k a0_0 l0_1).bind fun bt427 => ((impl_TableOk.f k bt427.1 bt427.2).bind fun t432 => (if (t432 != t426) = true then (none) else ((laws_toTable.f k a0_0 l0_1).bind fun bt433 => ((laws_eqTable.f k bt427.1 bt427.2 bt433.1 bt433.2).bind fun t437 => (if t437 = true then (some true) else (none))))))))))
theorem laws_FnExactTableOk.mono : ∀ a0 a1 k, LeO (laws_FnExactTableOk.f k a0 a1) (laws_FnExactTableOk.f (k + 1) a0 a1) := by
 intro a0 a1 k
 unfold laws_FnExactTableOk.f
 repeat' first
   | (with_reducible exact impl_TableOk.mono _ _ _)
   | (with_reducible exact laws_eqTable.mono _ _ _ _ _)
   | (with_reducible exact laws_toTable.mono _ _ _)
   | (with_reducible exact spec_TableOk.mono _ _ _)
   | (with_reducible exact LeO.refl _)
   | (with_reducible exact LeO.none _)
   | (with_reducible refine LeO.ite ?_ ?_)
   | (with_reducible refine LeO.bind ?_ (fun _ => ?_))
   | exact impl_TableOk.mono _ _ _
   | exact laws_eqTable.mono _ _ _ _ _
   | exact laws_toTable.mono _ _ _
   | exact spec_TableOk.mono _ _ _
   | exact LeO.none _
   | refine LeO.ite ?_ ?_
   | refine LeO.bind ?_ (fun _ => ?_)
set_option maxHeartbeats 8000000 in
set_option maxRecDepth 100000 in
theorem laws_FnExactTableOk.calls (k : Nat) (a0_0 : Int) (A0_1 : Option Addr) (c0_1 : Nat) (l0_1 : List (S94)) (r : Bool) (w : World) (hr0_1 : Kd.C k94 w A0_1 l0_1.length l0_1) (hc0_1 : l0_1.length ≤ c0_1) (h : laws_FnExactTableOk.f k a0_0 l0_1 = some r) :
  Calls Try.prog 6 #[.agg #[.int .i64 a0_0, .slice A0_1 l0_1.length c0_1]] w fun e w' => e = .returned (.bool r) ∧ Below w.heap.size w w' := by
 have hu47 := Try.underlying47
 have hu40 := Try.underlying40
 have HR0_1 := Gv.a0 hr0_1
 have HC0_1 := Gv.a0 hc0_1
 clear hr0_1 hc0_1
 have HB := Gv.a0 (Below.refl w.heap.size w)
 have H : ((laws_szTable.f a0_0 l0_1 1048576).bind fun t421 => (if t421 < 0 then (some true) else ((laws_toTable.f k a0_0 l0_1).bind fun bt422 => ((spec_TableOk.f k bt422.1 bt422.2).bind fun t426 => ((laws_toTable.f k a0_0 l0_1).bind fun bt427 => ((impl_TableOk.f k bt427.1 bt427.2).bind fun t432 => (if (t432 != t426) = true then (none) else ((laws_toTable.f k a0_0 l0_1).bind fun bt433 => ((laws_eqTable.f k bt427.1 bt427.2 bt433.1 bt433.2).bind fun t437 => (if t437 = true then (some true) else (none))))))))))) = some r := h
 clear h
 replace H := Option.bind_eq_some_iff.mp H
 obtain ⟨t421, A20, H⟩ := H
 replace H : (if t421 < 0 then (some true) else ((laws_toTable.f k a0_0 l0_1).bind fun bt422 => ((spec_TableOk.f k bt422.1 bt422.2).bind fun t426 => ((laws_toTable.f k a0_0 l0_1).bind fun bt427 => ((impl_TableOk.f k bt427.1 bt427.2).bind fun t432 => (if (t432 != t426) = true then (none) else ((laws_toTable.f k a0_0 l0_1).bind fun bt433 => ((laws_eqTable.f k bt427.1 bt427.2 bt433.1 bt433.2).bind fun t437 => (if t437 = true then (some true) else (none)))))))))) = some r := H
 have A2 := Gv.a0 A20
 clear A20
 by_cases c3 : t421 < 0
 ·rw [if_pos c3] at H
  have c3b0 : decide (t421 < 0) = true := decide_eq_true c3
  clear c3
  obtain rfl := Option.some.inj H
  go_enter Try.func6, Try.ntmps6
  go_wp2_with (first | ((with_reducible refine gate_dst (N := 1) rfl ?_); refine box_event ?hg (N := 1) ?hd (cs := #[.int .i64 a0_0, .slice A0_1 l0_1.length c0_1]) (t := 47) ?hr ?_; (case hd => rfl); (case hg => rfl); (case hr => first | (go_simp; done) | (go_simp; rfl)); intro gb420 hg w4 hbox hb; have n0_ := Gv.a0 (below_step Gv.bw hb); have n1_ := Gv.a0 (hbox); have n2_ := Gv.a0 ((Gv.ble hg Gv.bw : w.heap.size ≤ gb420)); have n3_ := Gv.a0 ((Gv.ble hg Gv.bw : w.heap.size ≤ gb420)); clear HB; have HB := n0_; have BK420 := n1_; have GW420 := n2_; have GE420 := n3_; clear n0_ n1_ n2_ n3_; clear hb hbox hg; have hcz5_0 : w4.cell? ⟨gb420, 0, none⟩ = some (.int .i64 a0_0) := (blk_cell BK420.out 0).trans rfl; have hcz5_1 : w4.cell? ⟨gb420, 1, none⟩ = some (.slice A0_1 l0_1.length c0_1) := (blk_cell BK420.out 1).trans rfl; have hfz5_0 := blk_frozen BK420.out 0; have hfz5_1 := blk_frozen BK420.out 1) | ((with_reducible refine gate_callee (f := 23) rfl ?_); refine goesL_ (some 9) rfl rfl Try.func23 (by kernel_rfl) rfl #[.agg #[.int .i64 a0_0, .slice A0_1 l0_1.length c0_1], .int .i64 1048576] rfl Gv.lm ?_; (with_reducible refine (laws_szTable.calls a0_0 _ _ l0_1 1048576 t421 _ ?side1 ?side2 A2.out).mono ?_); (case side1 => repeat (first | exact (Kd.C_below HR0_1.out HB.out) | (with_reducible refine Kd.C_alloc ?_ _) | (with_reducible refine Kd.C_drewN ?_ _) | (with_reducible refine Kd.C_drew ?_))); (case side2 => exact HC0_1.out); rintro e w6 ⟨rfl, hb⟩; refine ⟨_, rfl, ?_⟩; have n0_ := Gv.a0 (Gv.bb BK420.out hb); have n1_ := Gv.a0 (below_step Gv.bw hb); clear BK420; clear HB; have BK420 := n0_; have HB := n1_; clear n0_ n1_; (try clear hb); (try clear hb2); (try clear hk); (try clear hi)))
  go_ret
  exact ⟨by first | rfl | (simp [errW_none, errW_some] <;> rfl) | (simp [*, errW_none, errW_some] <;> rfl), by repeat (first | (with_reducible first | exact HB.out | apply below_alloc | apply pw_below_drewN | apply below_drew1 | refine below_set ?_ GE420.out) | exact HB.out)⟩
 ·rw [if_neg c3] at H
  have c3b0 : decide (t421 < 0) = false := decide_eq_false c3
  clear c3
  replace H := Option.bind_eq_some_iff.mp H
  obtain ⟨⟨t422, t423⟩, A70, H⟩ := H
  replace H : ((spec_TableOk.f k t422 t423).bind fun t426 => ((laws_toTable.f k a0_0 l0_1).bind fun bt427 => ((impl_TableOk.f k bt427.1 bt427.2).bind fun t432 => (if (t432 != t426) = true then (none) else ((laws_toTable.f k a0_0 l0_1).bind fun bt433 => ((laws_eqTable.f k bt427.1 bt427.2 bt433.1 bt433.2).bind fun t437 => (if t437 = true then (some true) else (none)))))))) = some r := H
  have A7 := Gv.a0 A70
  clear A70
  replace H := Option.bind_eq_some_iff.mp H
  obtain ⟨t426, A80, H⟩ := H
  replace H : ((laws_toTable.f k a0_0 l0_1).bind fun bt427 => ((impl_TableOk.f k bt427.1 bt427.2).bind fun t432 => (if (t432 != t426) = true then (none) else ((laws_toTable.f k a0_0 l0_1).bind fun bt433 => ((laws_eqTable.f k bt427.1 bt427.2 bt433.1 bt433.2).bind fun t437 => (if t437 = true then (some true) else (none))))))) = some r := H
  have A8 := Gv.a0 A80
  clear A80
  replace H := Option.bind_eq_some_iff.mp H
  obtain ⟨⟨t427, t428⟩, A90, H⟩ := H
  replace H : ((impl_TableOk.f k t427 t428).bind fun t432 => (if (t432 != t426) = true then (none) else ((laws_toTable.f k a0_0 l0_1).bind fun bt433 => ((laws_eqTable.f k t427 t428 bt433.1 bt433.2).bind fun t437 => (if t437 = true then (some true) else (none)))))) = some r := H
  have A9 := Gv.a0 A90
  clear A90
  replace H := Option.bind_eq_some_iff.mp H
  obtain ⟨t432, A100, H⟩ := H
  replace H : (if (t432 != t426) = true then (none) else ((laws_toTable.f k a0_0 l0_1).bind fun bt433 => ((laws_eqTable.f k t427 t428 bt433.1 bt433.2).bind fun t437 => (if t437 = true then (some true) else (none))))) = some r := H
  have A10 := Gv.a0 A100
  clear A100
  by_cases c11 : (t432 != t426) = true
  ·rw [if_pos c11] at H
   exact absurd H (by simp)
  ·rw [if_neg c11] at H
   have c11b0 : (t432 != t426) = false := by simpa using c11
   (try (have c11b1 : decide (t432 = t426) = true := by simpa using c11))
   (try (have c11b2 : (t432 == t426) = true := by simpa using c11))
   clear c11
   replace H := Option.bind_eq_some_iff.mp H
   obtain ⟨⟨t433, t434⟩, A120, H⟩ := H
   replace H : ((laws_eqTable.f k t427 t428 t433 t434).bind fun t437 => (if t437 = true then (some true) else (none))) = some r := H
   have A12 := Gv.a0 A120
   clear A120
   replace H := Option.bind_eq_some_iff.mp H
   obtain ⟨t437, A130, H⟩ := H
   replace H : (if t437 = true then (some true) else (none)) = some r := H
   have A13 := Gv.a0 A130
   clear A130
   by_cases c14 : t437 = true
   ·subst c14
    have H1 : (some true) = some r := by rw [if_pos rfl] at H; exact H
    clear H
    have H := H1
    clear H1
    obtain rfl := Option.some.inj H
    go_enter Try.func6, Try.ntmps6
    try go_wp2_with (first | ((with_reducible refine gate_dst (N := 1) rfl ?_); refine box_event ?hg (N := 1) ?hd (cs := #[.int .i64 a0_0, .slice A0_1 l0_1.length c0_1]) (t := 47) ?hr ?_; (case hd => rfl); (case hg => rfl); (case hr => first | (go_simp; done) | (go_simp; rfl)); intro gb420 hg w15 hbox hb; have n0_ := Gv.a0 (below_step Gv.bw hb); have n1_ := Gv.a0 (hbox); have n2_ := Gv.a0 ((Gv.ble hg Gv.bw : w.heap.size ≤ gb420)); have n3_ := Gv.a0 ((Gv.ble hg Gv.bw : w.heap.size ≤ gb420)); clear HB; have HB := n0_; have BK420 := n1_; have GW420 := n2_; have GE420 := n3_; clear n0_ n1_ n2_ n3_; clear hb hbox hg; have hcz16_0 : w15.cell? ⟨gb420, 0, none⟩ = some (.int .i64 a0_0) := (blk_cell BK420.out 0).trans rfl; have hcz16_1 : w15.cell? ⟨gb420, 1, none⟩ = some (.slice A0_1 l0_1.length c0_1) := (blk_cell BK420.out 1).trans rfl; have hfz16_0 := blk_frozen BK420.out 0; have hfz16_1 := blk_frozen BK420.out 1) | ((with_reducible refine gate_callee (f := 23) rfl ?_); refine goesL_ (some 9) rfl rfl Try.func23 (by kernel_rfl) rfl #[.agg #[.int .i64 a0_0, .slice A0_1 l0_1.length c0_1], .int .i64 1048576] rfl Gv.lm ?_; (with_reducible refine (laws_szTable.calls a0_0 _ _ l0_1 1048576 t421 _ ?side1 ?side2 A2.out).mono ?_); (case side1 => repeat (first | exact (Kd.C_below HR0_1.out HB.out) | (with_reducible refine Kd.C_alloc ?_ _) | (with_reducible refine Kd.C_drewN ?_ _) | (with_reducible refine Kd.C_drew ?_))); (case side2 => exact HC0_1.out); rintro e w17 ⟨rfl, hb⟩; refine ⟨_, rfl, ?_⟩; have n0_ := Gv.a0 (Gv.bb BK420.out hb); have n1_ := Gv.a0 (below_step Gv.bw hb); clear BK420; clear HB; have BK420 := n0_; have HB := n1_; clear n0_ n1_; (try clear hb); (try clear hb2); (try clear hk); (try clear hi); have hcz18_0 : w17.cell? ⟨gb420, 0, none⟩ = some (.int .i64 a0_0) := (blk_cell BK420.out 0).trans rfl; have hcz18_1 : w17.cell? ⟨gb420, 1, none⟩ = some (.slice A0_1 l0_1.length c0_1) := (blk_cell BK420.out 1).trans rfl; have hfz18_0 := blk_frozen BK420.out 0; have hfz18_1 := blk_frozen BK420.out 1) | ((with_reducible refine gate_callee (f := 25) rfl ?_); refine goesL_ (some 13) rfl rfl Try.func25 (by kernel_rfl) rfl #[.agg #[.int .i64 a0_0, .slice A0_1 l0_1.length c0_1]] rfl Gv.lm ?_; (with_reducible refine (laws_toTable.calls k a0_0 _ _ l0_1 t422 t423 _ ?side1 ?side2 A7.out).mono ?_); (case side1 => repeat (first | exact (Kd.C_below HR0_1.out HB.out) | (with_reducible refine Kd.C_alloc ?_ _) | (with_reducible refine Kd.C_drewN ?_ _) | (with_reducible refine Kd.C_drew ?_))); (case side2 => exact HC0_1.out); rintro e w19 ⟨v424, rfl, ho0, hb⟩; refine ⟨_, rfl, ?_⟩; have n0_ := Gv.a0 (Kd.R_lower ho0 (below_size Gv.bw)); have n1_ := Gv.a0 (Gv.bb BK420.out hb); have n2_ := Gv.a0 (below_step Gv.bw hb); clear BK420; clear HB; have HO425 := n0_; have BK420 := n1_; have HB := n2_; clear n0_ n1_ n2_; (try clear hb); (try clear hb2); (try clear hk); (try clear hi); (try clear ho0); obtain ⟨Ao20, co20, eo20⟩ := Kd.R_slice HO425.out; subst eo20) | ((with_reducible refine gate_callee (f := 24) rfl ?_); refine goesL_ (some 14) rfl rfl Try.func24 (by kernel_rfl) rfl #[.agg #[.int .i64 t422, .slice Ao20 t423.length co20]] rfl Gv.lm ?_; (with_reducible refine (spec_TableOk.calls k t422 _ _ t423 t426 _ ?side1 ?side2 A8.out).mono ?_); (case side1 => repeat (first | exact (Kd.R_reads' HO425.out).2.2 | (with_reducible refine Kd.C_alloc ?_ _) | (with_reducible refine Kd.C_drewN ?_ _) | (with_reducible refine Kd.C_drew ?_))); (case side2 => exact (Kd.R_reads' HO425.out).2.1); rintro e w21 ⟨rfl, hb⟩; refine ⟨_, rfl, ?_⟩; have n0_ := Gv.a0 (Kd.R_below (Gv.kr HO425.out) hb); have n1_ := Gv.a0 (Gv.bb BK420.out hb); have n2_ := Gv.a0 (below_step Gv.bw hb); clear HO425; clear BK420; clear HB; have HO425 := n0_; have BK420 := n1_; have HB := n2_; clear n0_ n1_ n2_; (try clear hb); (try clear hb2); (try clear hk); (try clear hi); have hcz22_0 : w21.cell? ⟨gb420, 0, none⟩ = some (.int .i64 a0_0) := (blk_cell BK420.out 0).trans rfl; have hcz22_1 : w21.cell? ⟨gb420, 1, none⟩ = some (.slice A0_1 l0_1.length c0_1) := (blk_cell BK420.out 1).trans rfl; have hfz22_0 := blk_frozen BK420.out 0; have hfz22_1 := blk_frozen BK420.out 1) | ((with_reducible refine gate_callee (f := 25) rfl ?_); refine goesL_ (some 16) rfl rfl Try.func25 (by kernel_rfl) rfl #[.agg #[.int .i64 a0_0, .slice A0_1 l0_1.length c0_1]] rfl Gv.lm ?_; (with_reducible refine (laws_toTable.calls k a0_0 _ _ l0_1 t427 t428 _ ?side1 ?side2 A9.out).mono ?_); (case side1 => repeat (first | exact (Kd.C_below HR0_1.out HB.out) | (with_reducible refine Kd.C_alloc ?_ _) | (with_reducible refine Kd.C_drewN ?_ _) | (with_reducible refine Kd.C_drew ?_))); (case side2 => exact HC0_1.out); rintro e w23 ⟨v429, rfl, ho0, hb⟩; refine ⟨_, rfl, ?_⟩; have n0_ := Gv.a0 (Kd.R_elder' (Gv.kr HO425.out) (Kd.R_base ho0) hb); have n1_ := Gv.a0 (Kd.R_lower (Kd.R_new' ho0 (Kd.R_lt (Gv.kr HO425.out))) (below_size Gv.bw)); have n2_ := Gv.a0 (Gv.bb BK420.out hb); have n3_ := Gv.a0 (below_step Gv.bw hb); clear HO425; clear BK420; clear HB; have HO425 := n0_; have HO430 := n1_; have BK420 := n2_; have HB := n3_; clear n0_ n1_ n2_ n3_; (try clear hb); (try clear hb2); (try clear hk); (try clear hi); (try clear ho0)) | ((with_reducible refine gate_dst (N := 5) rfl ?_); refine box_event ?hg (N := 5) ?hd (cs := #[.int .i64 0, .slice none 0 0]) (t := 40) ?hr ?_; (case hd => rfl); (case hg => rfl); (case hr => first | (go_simp; done) | (go_simp; rfl)); intro gb431 hg w24 hbox hb; have n0_ := Gv.a0 (Kd.R_below (Gv.kr HO425.out) hb); have n1_ := Gv.a0 (Kd.R_below (Gv.kr HO430.out) hb); have n2_ := Gv.a0 (Gv.bb BK420.out hb); have n3_ := Gv.a0 (below_step Gv.bw hb); have n4_ := Gv.a0 (hbox); have n5_ := Gv.a0 ((Gv.ble hg Gv.bw : w.heap.size ≤ gb431)); have n6_ := Gv.a0 ((Gv.ble hg Gv.bw : w.heap.size ≤ gb431)); have n7_ := Gv.a0 ((Gv.nlt hg (Gv.kb BK420.out) : gb420 ≠ gb431)); have n8_ := Gv.a0 ((Gv.ngt hg (Gv.kb BK420.out) : gb431 ≠ gb420)); clear HO425; clear HO430; clear BK420; clear HB; have HO425 := n0_; have HO430 := n1_; have BK420 := n2_; have HB := n3_; have BK431 := n4_; have GW431 := n5_; have GE431 := n6_; have NB420_431 := n7_; have NB431_420 := n8_; clear n0_ n1_ n2_ n3_ n4_ n5_ n6_ n7_ n8_; clear hb hbox hg; have hnb25 := NB431_420.out; have hnc25 := NB420_431.out; have hcz26_0 : w24.cell? ⟨gb431, 0, none⟩ = some (.int .i64 0) := (blk_cell BK431.out 0).trans rfl; have hcz26_1 : w24.cell? ⟨gb431, 1, none⟩ = some (.slice none 0 0) := (blk_cell BK431.out 1).trans rfl; have hfz26_0 := blk_frozen BK431.out 0; have hfz26_1 := blk_frozen BK431.out 1; obtain ⟨Ao27, co27, eo27⟩ := Kd.R_slice HO430.out; subst eo27) | ((with_reducible refine gate_callee (f := 26) rfl ?_); refine goesL_ (some 18) rfl rfl Try.func26 (by kernel_rfl) rfl #[.agg #[.int .i64 t427, .slice Ao27 t428.length co27]] rfl Gv.lm ?_; (with_reducible refine (impl_TableOk.calls k t427 _ _ t428 t432 _ ?side1 ?side2 A10.out).mono ?_); (case side1 => refine (Kd.R_reads' (e := 75) (base := w.heap.size) (ok := fun k_ => (True ∧ some k_ ≠ (.slice Ao20 t423.length co20 : Value).ownBlock)) (n := t428.length) (c := co27) ?_).2.2; exact (by (with_reducible repeat (first | apply Kd.R_alloc | apply Kd.R_drewN | apply Kd.R_drew)); exact (Kd.R_mono (Kd.R_far (p := ⟨gb431, 1, none⟩) (Kd.R_far (p := ⟨gb431, 0, none⟩) (Kd.R_types HO430.out BK431.out (by decide)) (fun _ hk => hk.2) (.int .i64 t427)) (fun _ hk => hk.2) (.slice Ao27 t428.length co27)) (fun _ h_ => h_.1)))); (case side2 => exact (Kd.R_reads' HO430.out).2.1); rintro e w28 ⟨rfl, hb⟩; refine ⟨_, rfl, ?_⟩; have n0_ := Gv.a0 (Kd.R_below (by (with_reducible repeat (first | apply Kd.R_alloc | apply Kd.R_drewN | apply Kd.R_drew)); exact (Kd.R_mono (Kd.R_far (p := ⟨gb431, 1, none⟩) (Kd.R_far (p := ⟨gb431, 0, none⟩) (Kd.R_types HO425.out BK431.out (by decide)) (fun _ hk => hk.2) (.int .i64 t427)) (fun _ hk => hk.2) (.slice Ao27 t428.length co27)) (fun _ h_ => h_.1))) hb); have n1_ := Gv.a0 (Kd.R_below (by (with_reducible repeat (first | apply Kd.R_alloc | apply Kd.R_drewN | apply Kd.R_drew)); exact (Kd.R_mono (Kd.R_far (p := ⟨gb431, 1, none⟩) (Kd.R_far (p := ⟨gb431, 0, none⟩) (Kd.R_types HO430.out BK431.out (by decide)) (fun _ hk => hk.2) (.int .i64 t427)) (fun _ hk => hk.2) (.slice Ao27 t428.length co27)) (fun _ h_ => h_.1))) hb); have n2_ := Gv.a0 (blk_below (g := gb420) (o := .cells #[.int .i64 a0_0, .slice A0_1 l0_1.length c0_1] 47 (0, 0)) Gv.bkf hb); have n3_ := Gv.a0 (blk_below (g := gb431) (o := .cells #[.int .i64 t427, .slice Ao27 t428.length co27] 40 (0, 0)) (by (with_reducible repeat (first | refine blk_drewN ?_ _ | refine blk_drew ?_ | refine blk_alloc ?_ _)); refine blk_put (cs := #[.int .i64 t427, .slice none 0 0]) ?_ 1 _ rfl; (with_reducible repeat (first | refine blk_drewN ?_ _ | refine blk_drew ?_ | refine blk_alloc ?_ _)); refine blk_put (cs := #[.int .i64 0, .slice none 0 0]) ?_ 0 _ rfl; (with_reducible repeat (first | refine blk_drewN ?_ _ | refine blk_drew ?_ | refine blk_alloc ?_ _)); exact BK431.out) hb); have n4_ := Gv.a0 (below_step Gv.bw hb); clear HO425; clear HO430; clear BK420; clear BK431; clear HB; have HO425 := n0_; have HO430 := n1_; have BK420 := n2_; have BK431 := n3_; have HB := n4_; clear n0_ n1_ n2_ n3_ n4_; (try clear hb); (try clear hb2); (try clear hk); (try clear hi)))
    have n0_ := Gv.a0 (Kd.R_drew HO425.out)
    have n1_ := Gv.a0 (Kd.R_drew HO430.out)
    have n2_ := Gv.a0 (blk_drew BK420.out)
    have n3_ := Gv.a0 (blk_drew BK431.out)
    have n4_ := Gv.a0 (below_drew1 HB.out)
    clear HO425
    clear HO430
    clear BK420
    clear BK431
    clear HB
    have HO425 := n0_
    have HO430 := n1_
    have BK420 := n2_
    have BK431 := n3_
    have HB := n4_
    clear n0_ n1_ n2_ n3_ n4_
    refine start_ (n := 5) (S := fun w' => w'.cell? ⟨gb431, 0, none⟩ = some (.int .i64 t427) ∧ w'.cell? ⟨gb431, 1, none⟩ = some (.slice Ao27 t428.length co27) ∧ w'.cell? ⟨gb420, 0, none⟩ = some (.int .i64 a0_0) ∧ w'.cell? ⟨gb420, 1, none⟩ = some (.slice A0_1 l0_1.length c0_1)) (ds := []) #[false, false, false, false, false] (by kernel_rfl) rfl rfl ⟨(blk_cell BK431.out 0).trans rfl, (blk_cell BK431.out 1).trans rfl, (blk_cell BK420.out 0).trans rfl, (blk_cell BK420.out 1).trans rfl⟩ (fun hHeld => ?_)
    generalize w28.drew = w29 at HO425 HO430 BK420 BK431 HB hHeld ⊢
    refine take_ (i := 0) (N := some 22) (v := ?_) (a' := ?_) #[true, false, false, false, false] rfl rfl (by kernel_rfl) (fun _ _ _ h => h) (Or.inl ⟨by rfl, ?_⟩) hHeld ?_ ?_
    rotate_left
    ·rintro w' ⟨s0, s1, s2, s3⟩
     go_simp
     with_reducible rfl
    rotate_left
    ·simp only [Act.put, List.setIfInBounds_toArray, List.set_cons_zero, List.set_cons_succ, i64_w, i32_w]
     rfl
    refine take_ (i := 1) (N := some 23) (v := ?_) (a' := ?_) #[true, true, false, false, false] rfl rfl (by kernel_rfl) (fun _ _ _ h => h) (Or.inl ⟨by rfl, ?_⟩) hHeld ?_ ?_
    rotate_left
    ·rintro w' ⟨s0, s1, s2, s3⟩
     go_simp
     with_reducible rfl
    rotate_left
    ·simp only [Act.put, List.setIfInBounds_toArray, List.set_cons_zero, List.set_cons_succ, i64_w, i32_w]
     rfl
    refine one_ (i := 2) (N := some 24) #[true, true, true, false, false] rfl rfl (by kernel_rfl) (by decide) (fun K hK => ?_)
    refine goes_ Try.func25 (by kernel_rfl) rfl #[.agg #[.int .i64 a0_0, .slice A0_1 l0_1.length c0_1]] (by rfl) rfl rfl Gv.lm ?_
    with_reducible refine (laws_toTable.calls k a0_0 _ _ l0_1 t433 t434 _ ?side1 ?side2 A12.out).mono ?_
    (case side1 => repeat (first | exact (Kd.C_below HR0_1.out HB.out) | (with_reducible refine Kd.C_alloc ?_ _) | (with_reducible refine Kd.C_drewN ?_ _) | (with_reducible refine Kd.C_drew ?_)))
    (case side2 => exact HC0_1.out)
    rintro e w30 ⟨v435, rfl, ho0, hb⟩
    refine ⟨_, rfl, ?_⟩
    have n0_ := Gv.a0 (Kd.R_elder' (Gv.kr HO425.out) (Kd.R_base ho0) hb)
    have n1_ := Gv.a0 (Kd.R_elder' (Gv.kr HO430.out) (Kd.R_base ho0) hb)
    have n2_ := Gv.a0 (Kd.R_lower (Kd.R_new' (Kd.R_new' ho0 (Kd.R_lt (Gv.kr HO425.out))) (Kd.R_lt (Gv.kr HO430.out))) (below_size Gv.bw))
    have n3_ := Gv.a0 (Gv.bb BK420.out hb)
    have n4_ := Gv.a0 (Gv.bb BK431.out hb)
    have n5_ := Gv.a0 (below_step Gv.bw hb)
    clear HO425
    clear HO430
    clear BK420
    clear BK431
    clear HB
    have HO425 := n0_
    have HO430 := n1_
    have HO436 := n2_
    have BK420 := n3_
    have BK431 := n4_
    have HB := n5_
    clear n0_ n1_ n2_ n3_ n4_ n5_
    (try clear hb)
    (try clear hb2)
    (try clear hk)
    (try clear hi)
    (try clear ho0)
    obtain ⟨Ao31, co31, eo31⟩ := Kd.R_slice HO436.out
    (first | subst eo31 | (injection eo31 with f1_ f2_ f3_; have f4_ := f1_.symm; have f5_ := f3_.symm; clear f1_ f2_ f3_; subst f4_; subst f5_))
    refine hK.out _ _ ⟨(blk_cell BK431.out 0).trans rfl, (blk_cell BK431.out 1).trans rfl, (blk_cell BK420.out 0).trans rfl, (blk_cell BK420.out 1).trans rfl⟩ (fun hHeld => ?_)
    clear hK K
    refine norm_ (a' := ?_) ?_ ?_
    rotate_left
    ·show Act.put _ (some 24) _ = _
     simp only [Act.put, List.setIfInBounds_toArray, List.set_cons_zero, List.set_cons_succ, i64_w, i32_w]
     rfl
    refine one_ (i := 3) (N := some 25) #[true, true, true, true, false] rfl rfl (by kernel_rfl) (by decide) (fun K hK => ?_)
    refine goes_ Try.func20 (by kernel_rfl) rfl #[.agg #[.int .i64 t427, .slice Ao27 t428.length co27], .agg #[.int .i64 t433, .slice Ao31 t434.length co31]] (by rfl) rfl rfl Gv.lm ?_
    with_reducible refine (laws_eqTable.calls k t427 _ _ t428 t433 _ _ t434 true _ ?side1 ?side2 ?side3 ?side4 A13.out).mono ?_
    (case side1 => repeat (first | exact (Kd.R_reads' HO430.out).2.2 | (with_reducible refine Kd.C_alloc ?_ _) | (with_reducible refine Kd.C_drewN ?_ _) | (with_reducible refine Kd.C_drew ?_)))
    (case side2 => exact (Kd.R_reads' HO430.out).2.1)
    (case side3 => repeat (first | exact (Kd.R_reads' HO436.out).2.2 | (with_reducible refine Kd.C_alloc ?_ _) | (with_reducible refine Kd.C_drewN ?_ _) | (with_reducible refine Kd.C_drew ?_)))
    (case side4 => exact (Kd.R_reads' HO436.out).2.1)
    rintro e w32 ⟨rfl, hb⟩
    refine ⟨_, rfl, ?_⟩
    have n0_ := Gv.a0 (Kd.R_below (Gv.kr HO425.out) hb)
    have n1_ := Gv.a0 (Kd.R_below (Gv.kr HO430.out) hb)
    have n2_ := Gv.a0 (Kd.R_below (Gv.kr HO436.out) hb)
    have n3_ := Gv.a0 (Gv.bb BK420.out hb)
    have n4_ := Gv.a0 (Gv.bb BK431.out hb)
    have n5_ := Gv.a0 (below_step Gv.bw hb)
    clear HO425
    clear HO430
    clear HO436
    clear BK420
    clear BK431
    clear HB
    have HO425 := n0_
    have HO430 := n1_
    have HO436 := n2_
    have BK420 := n3_
    have BK431 := n4_
    have HB := n5_
    clear n0_ n1_ n2_ n3_ n4_ n5_
    (try clear hb)
    (try clear hb2)
    (try clear hk)
    (try clear hi)
    refine hK.out _ _ ⟨(blk_cell BK431.out 0).trans rfl, (blk_cell BK431.out 1).trans rfl, (blk_cell BK420.out 0).trans rfl, (blk_cell BK420.out 1).trans rfl⟩ (fun hHeld => ?_)
    clear hK K
    refine norm_ (a' := ?_) ?_ ?_
    rotate_left
    ·show Act.put _ (some 25) _ = _
     simp only [Act.put, List.setIfInBounds_toArray, List.set_cons_zero, List.set_cons_succ, i64_w, i32_w]
     rfl
    refine pure_ (i := 4) (N := some 26) (v := ?_) (a' := ?_) #[true, true, true, true, true] rfl rfl (by kernel_rfl) (fun _ _ _ h => h) (Or.inl ⟨by rfl, ?_⟩) ?_ ?_
    rotate_left
    ·intro w'
     go_simp
     with_reducible rfl
    rotate_left
    ·simp only [Act.put, List.setIfInBounds_toArray, List.set_cons_zero, List.set_cons_succ, i64_w, i32_w]
     rfl
    refine done_ (by kernel_rfl) ?_
    try go_wp2
    go_ret
    exact ⟨by first | rfl | (simp [errW_none, errW_some] <;> rfl) | (simp [*, errW_none, errW_some] <;> rfl), by repeat (first | (with_reducible first | exact HB.out | apply below_alloc | apply pw_below_drewN | apply below_drew1 | refine below_set ?_ GE420.out | refine below_set ?_ GE431.out) | exact HB.out)⟩
   ·replace c14 := Bool.eq_false_iff.mpr c14
    subst c14
    have H1 : (none) = some r := by rw [if_neg (show ¬ (false = true) by decide)] at H; exact H
    clear H
    have H := H1
    clear H1
    exact absurd H (by simp)

end Go.Proofs.Ytfnpodebjejhpaa.PTa
