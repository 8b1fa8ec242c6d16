/- Plain Lean functions of a law's Go functions, their contracts, by a program of this session (wip/pr.py over the kit's print). -/
import Derived.Test.YtiokbmbdhejciaaPCrx0
import Derived.Test.YtiokbmbdhejciaaPCrx2b
namespace Go.Proofs.Ytiokbmbdhejciaa.PCr
open Go.RowKit Go.Proofs.YtiokbmbdhejciaaW.PrintWords Go.Proofs.YtiokbmbdhejciaaW.PrintLast Go.Proofs.YtiokbmbdhejciaaW.PrintMore
attribute [local go_sem] max2_int min2_int max_two min_two max_three min_three max_four min_four   -- for this text's walks alone
set_option linter.unusedVariables false
set_option linter.unusedSimpArgs false

/-! ### impl_Settle: function 19 -/
def impl_Settle.j0 : Nat → Bool → Int → Int → Int → Int → Int → Int → Int → Int → Int → Option (Int × Int × Int × Bool)
 | 0, _, _, _, _, _, _, _, _, _, _ => none
 | k + 1, x21, x240000, x240001, x240002, x241000, x241001, x241002, x242000, x242001, x242002 => if x21 = true then (some (0, 0, 0, false)) else ((impl_Vec_plus.f x240000 x240001 x240002 x242000 x242001 x242002).bind fun bt246 => ((impl_Vec_minus.f bt246.1 bt246.2.1 bt246.2.2 x241000 x241001 x241002).bind fun bt249 => ((impl_CarryOk.f bt249.1 bt249.2.1 bt249.2.2).bind fun t253 => (if t253 = true then (some (bt249.1, bt249.2.1, bt249.2.2, true)) else (some (0, 0, 0, false))))))
def impl_Settle.f (k : Nat) (a0_0 : Int) (a0_1 : Int) (a0_2 : Int) (a1_0 : Int) (a1_1 : Int) (a1_2 : Int) (a2_0 : Int) (a2_1 : Int) (a2_2 : Int) : Option (Int × Int × Int × Bool) := (impl_CarryOk.f a0_0 a0_1 a0_2).bind fun t243 => (if t243 = true then ((impl_CostOk.f a1_0 a1_1 a1_2).bind fun t244 => (if t244 = true then ((impl_CostOk.f a2_0 a2_1 a2_2).bind fun t245 => (impl_Settle.j0 k (!t245) a0_0 a0_1 a0_2 a1_0 a1_1 a1_2 a2_0 a2_1 a2_2)) else (impl_Settle.j0 k true a0_0 a0_1 a0_2 a1_0 a1_1 a1_2 a2_0 a2_1 a2_2))) else (impl_Settle.j0 k true a0_0 a0_1 a0_2 a1_0 a1_1 a1_2 a2_0 a2_1 a2_2))
theorem impl_Settle.mono_l : ∀ k, (∀ y0 y1 y2 y3 y4 y5 y6 y7 y8 y9, LeO (impl_Settle.j0 k y0 y1 y2 y3 y4 y5 y6 y7 y8 y9) (impl_Settle.j0 (k + 1) y0 y1 y2 y3 y4 y5 y6 y7 y8 y9))
 | 0 => fun _ _ _ _ _ _ _ _ _ _ r h => by simp [impl_Settle.j0] at h
 | k + 1 => by
  have ih0 := impl_Settle.mono_l k
  ·intro y0 y1 y2 y3 y4 y5 y6 y7 y8 y9
   unfold impl_Settle.j0
   repeat' first
   | (with_reducible exact ih0 _ _ _ _ _ _ _ _ _ _)
   | (with_reducible exact LeO.refl _)
   | (with_reducible exact LeO.none _)
   | (with_reducible refine LeO.ite ?_ ?_)
   | (with_reducible refine LeO.bind ?_ (fun _ => ?_))
   | exact ih0 _ _ _ _ _ _ _ _ _ _
   | exact LeO.none _
   | refine LeO.ite ?_ ?_
   | refine LeO.bind ?_ (fun _ => ?_)
theorem impl_Settle.mono : ∀ a0 a1 a2 a3 a4 a5 a6 a7 a8 k, LeO (impl_Settle.f k a0 a1 a2 a3 a4 a5 a6 a7 a8) (impl_Settle.f (k + 1) a0 a1 a2 a3 a4 a5 a6 a7 a8) := by
 intro a0 a1 a2 a3 a4 a5 a6 a7 a8 k
 have ih0 := impl_Settle.mono_l k
 unfold impl_Settle.f
 repeat' first
   | (with_reducible exact ih0 _ _ _ _ _ _ _ _ _ _)
   | (with_reducible exact LeO.refl _)
   | (with_reducible exact LeO.none _)
   | (with_reducible refine LeO.ite ?_ ?_)
   | (with_reducible refine LeO.bind ?_ (fun _ => ?_))
   | exact ih0 _ _ _ _ _ _ _ _ _ _
   | exact LeO.none _
   | refine LeO.ite ?_ ?_
   | refine LeO.bind ?_ (fun _ => ?_)
set_option maxHeartbeats 8000000 in
set_option maxRecDepth 100000 in
theorem impl_Settle.calls (k : Nat) (a0_0 : Int) (a0_1 : Int) (a0_2 : Int) (a1_0 : Int) (a1_1 : Int) (a1_2 : Int) (a2_0 : Int) (a2_1 : Int) (a2_2 : Int) (r1 : Int) (r2 : Int) (r3 : Int) (r4 : Bool) (w : World) (h : impl_Settle.f k a0_0 a0_1 a0_2 a1_0 a1_1 a1_2 a2_0 a2_1 a2_2 = some (r1, r2, r3, r4)) :
  Calls Try.prog 19 #[.agg #[.int .i64 a0_0, .int .i64 a0_1, .int .i64 a0_2], .agg #[.int .i64 a1_0, .int .i64 a1_1, .int .i64 a1_2], .agg #[.int .i64 a2_0, .int .i64 a2_1, .int .i64 a2_2]] w fun e w' => e = .returned (.tuple #[.agg #[.int .i64 r1, .int .i64 r2, .int .i64 r3], .bool r4]) ∧ Below w.heap.size w w' := by
 have hu26 := Try.underlying26
 have HB := Gv.a0 (Below.refl w.heap.size w)
 have H : ((impl_CarryOk.f a0_0 a0_1 a0_2).bind fun t243 => (if t243 = true then ((impl_CostOk.f a1_0 a1_1 a1_2).bind fun t244 => (if t244 = true then ((impl_CostOk.f a2_0 a2_1 a2_2).bind fun t245 => (impl_Settle.j0 k (!t245) a0_0 a0_1 a0_2 a1_0 a1_1 a1_2 a2_0 a2_1 a2_2)) else (impl_Settle.j0 k true a0_0 a0_1 a0_2 a1_0 a1_1 a1_2 a2_0 a2_1 a2_2))) else (impl_Settle.j0 k true a0_0 a0_1 a0_2 a1_0 a1_1 a1_2 a2_0 a2_1 a2_2))) = some (r1, r2, r3, r4) := h
 clear h
 have HC4 := Gv.a0 H
 clear H
 go_enter Try.func19, Try.ntmps19
 go_upto_region 1 with (first | ((with_reducible refine gate_dst (N := 3) rfl ?_); refine box_event ?hg (N := 3) ?hd (cs := #[.int .i64 a0_0, .int .i64 a0_1, .int .i64 a0_2]) (t := 26) ?hr ?_; (case hd => rfl); (case hg => rfl); (case hr => first | (go_simp; done) | (go_simp; rfl)); intro gb239 hg w5 hbox hb; have n0_ := Gv.a0 (below_step Gv.bw hb); have n1_ := Gv.a0 (hbox); have n2_ := Gv.a0 ((Gv.ble hg Gv.bw : w.heap.size ≤ gb239)); have n3_ := Gv.a0 ((Gv.ble hg Gv.bw : w.heap.size ≤ gb239)); clear HB; have HB := n0_; have BK239 := n1_; have GW239 := n2_; have GE239 := n3_; clear n0_ n1_ n2_ n3_; clear hb hbox hg) | ((with_reducible refine gate_dst (N := 4) rfl ?_); refine box_event ?hg (N := 4) ?hd (cs := #[.int .i64 a1_0, .int .i64 a1_1, .int .i64 a1_2]) (t := 26) ?hr ?_; (case hd => rfl); (case hg => rfl); (case hr => first | (go_simp; done) | (go_simp; rfl)); intro gb240 hg w6 hbox hb; have n0_ := Gv.a0 (Gv.bb BK239.out hb); have n1_ := Gv.a0 (below_step Gv.bw hb); have n2_ := Gv.a0 (hbox); have n3_ := Gv.a0 ((Gv.ble hg Gv.bw : w.heap.size ≤ gb240)); have n4_ := Gv.a0 ((Gv.ble hg Gv.bw : w.heap.size ≤ gb240)); have n5_ := Gv.a0 ((Gv.nlt hg (Gv.kb BK239.out) : gb239 ≠ gb240)); have n6_ := Gv.a0 ((Gv.ngt hg (Gv.kb BK239.out) : gb240 ≠ gb239)); clear BK239; clear HB; have BK239 := n0_; have HB := n1_; have BK240 := n2_; have GW240 := n3_; have GE240 := n4_; have NB239_240 := n5_; have NB240_239 := n6_; clear n0_ n1_ n2_ n3_ n4_ n5_ n6_; clear hb hbox hg) | ((with_reducible refine gate_dst (N := 5) rfl ?_); refine box_event ?hg (N := 5) ?hd (cs := #[.int .i64 a2_0, .int .i64 a2_1, .int .i64 a2_2]) (t := 26) ?hr ?_; (case hd => rfl); (case hg => rfl); (case hr => first | (go_simp; done) | (go_simp; rfl)); intro gb241 hg w7 hbox hb; have n0_ := Gv.a0 (Gv.bb BK239.out hb); have n1_ := Gv.a0 (Gv.bb BK240.out hb); have n2_ := Gv.a0 (below_step Gv.bw hb); have n3_ := Gv.a0 (hbox); have n4_ := Gv.a0 ((Gv.ble hg Gv.bw : w.heap.size ≤ gb241)); have n5_ := Gv.a0 ((Gv.ble hg Gv.bw : w.heap.size ≤ gb241)); have n6_ := Gv.a0 ((Gv.nlt hg (Gv.kb BK239.out) : gb239 ≠ gb241)); have n7_ := Gv.a0 ((Gv.ngt hg (Gv.kb BK239.out) : gb241 ≠ gb239)); have n8_ := Gv.a0 ((Gv.nlt hg (Gv.kb BK240.out) : gb240 ≠ gb241)); have n9_ := Gv.a0 ((Gv.ngt hg (Gv.kb BK240.out) : gb241 ≠ gb240)); clear BK239; clear BK240; clear HB; have BK239 := n0_; have BK240 := n1_; have HB := n2_; have BK241 := n3_; have GW241 := n4_; have GE241 := n5_; have NB239_241 := n6_; have NB241_239 := n7_; have NB240_241 := n8_; have NB241_240 := n9_; clear n0_ n1_ n2_ n3_ n4_ n5_ n6_ n7_ n8_ n9_; clear hb hbox hg) | ((with_reducible refine gate_dst (N := 6) rfl ?_); refine box_event ?hg (N := 6) ?hd (cs := #[.int .i64 0, .int .i64 0, .int .i64 0]) (t := 26) ?hr ?_; (case hd => rfl); (case hg => rfl); (case hr => first | (go_simp; done) | (go_simp; rfl)); intro gb242 hg w8 hbox hb; have n0_ := Gv.a0 (Gv.bb BK239.out hb); have n1_ := Gv.a0 (Gv.bb BK240.out hb); have n2_ := Gv.a0 (Gv.bb BK241.out hb); have n3_ := Gv.a0 (below_step Gv.bw hb); have n4_ := Gv.a0 (hbox); have n5_ := Gv.a0 ((Gv.ble hg Gv.bw : w.heap.size ≤ gb242)); have n6_ := Gv.a0 ((Gv.ble hg Gv.bw : w.heap.size ≤ gb242)); have n7_ := Gv.a0 ((Gv.nlt hg (Gv.kb BK239.out) : gb239 ≠ gb242)); have n8_ := Gv.a0 ((Gv.ngt hg (Gv.kb BK239.out) : gb242 ≠ gb239)); have n9_ := Gv.a0 ((Gv.nlt hg (Gv.kb BK240.out) : gb240 ≠ gb242)); have n10_ := Gv.a0 ((Gv.ngt hg (Gv.kb BK240.out) : gb242 ≠ gb240)); have n11_ := Gv.a0 ((Gv.nlt hg (Gv.kb BK241.out) : gb241 ≠ gb242)); have n12_ := Gv.a0 ((Gv.ngt hg (Gv.kb BK241.out) : gb242 ≠ gb241)); clear BK239; clear BK240; clear BK241; clear HB; have BK239 := n0_; have BK240 := n1_; have BK241 := n2_; have HB := n3_; have BK242 := n4_; have GW242 := n5_; have GE242 := n6_; have NB239_242 := n7_; have NB242_239 := n8_; have NB240_242 := n9_; have NB242_240 := n10_; have NB241_242 := n11_; have NB242_241 := n12_; clear n0_ n1_ n2_ n3_ n4_ n5_ n6_ n7_ n8_ n9_ n10_ n11_ n12_; clear hb hbox hg))
 (try simp only [Act.put, List.setIfInBounds_toArray, List.set_cons_zero, List.set_cons_succ])
 go_cut [21] (fun v21 wc => ∃ (kq : Nat) (x21_3 : Bool), v21 = .bool x21_3 ∧ Aside0 (impl_Settle.j0 kq x21_3 a0_0 a0_1 a0_2 a1_0 a1_1 a1_2 a2_0 a2_1 a2_2 = some (r1, r2, r3, r4)) ∧ Aside0 (kq ≤ k) ∧ Aside0 (wc.heap[gb239]? = some (.cells #[.int .i64 a0_0, .int .i64 a0_1, .int .i64 a0_2] 26 (0, 0))) ∧ Aside0 (wc.heap[gb240]? = some (.cells #[.int .i64 a1_0, .int .i64 a1_1, .int .i64 a1_2] 26 (0, 0))) ∧ Aside0 (wc.heap[gb241]? = some (.cells #[.int .i64 a2_0, .int .i64 a2_1, .int .i64 a2_2] 26 (0, 0))) ∧ Aside0 (wc.heap[gb242]? = some (.cells #[.int .i64 0, .int .i64 0, .int .i64 0] 26 (0, 0))) ∧ Aside0 (Below w.heap.size w wc))
 case first =>
  have H := HC4.out
  clear HC4
  replace H := Option.bind_eq_some_iff.mp H
  obtain ⟨t243, A90, H⟩ := H
  replace H : (if t243 = true then ((impl_CostOk.f a1_0 a1_1 a1_2).bind fun t244 => (if t244 = true then ((impl_CostOk.f a2_0 a2_1 a2_2).bind fun t245 => (impl_Settle.j0 k (!t245) a0_0 a0_1 a0_2 a1_0 a1_1 a1_2 a2_0 a2_1 a2_2)) else (impl_Settle.j0 k true a0_0 a0_1 a0_2 a1_0 a1_1 a1_2 a2_0 a2_1 a2_2))) else (impl_Settle.j0 k true a0_0 a0_1 a0_2 a1_0 a1_1 a1_2 a2_0 a2_1 a2_2)) = some (r1, r2, r3, r4) := H
  have A9 := Gv.a0 A90
  clear A90
  by_cases c10 : t243 = true
  ·subst c10
   have H1 : ((impl_CostOk.f a1_0 a1_1 a1_2).bind fun t244 => (if t244 = true then ((impl_CostOk.f a2_0 a2_1 a2_2).bind fun t245 => (impl_Settle.j0 k (!t245) a0_0 a0_1 a0_2 a1_0 a1_1 a1_2 a2_0 a2_1 a2_2)) else (impl_Settle.j0 k true a0_0 a0_1 a0_2 a1_0 a1_1 a1_2 a2_0 a2_1 a2_2))) = some (r1, r2, r3, r4) := by rw [if_pos rfl] at H; exact H
   clear H
   have H := H1
   clear H1
   replace H := Option.bind_eq_some_iff.mp H
   obtain ⟨t244, A110, H⟩ := H
   replace H : (if t244 = true then ((impl_CostOk.f a2_0 a2_1 a2_2).bind fun t245 => (impl_Settle.j0 k (!t245) a0_0 a0_1 a0_2 a1_0 a1_1 a1_2 a2_0 a2_1 a2_2)) else (impl_Settle.j0 k true a0_0 a0_1 a0_2 a1_0 a1_1 a1_2 a2_0 a2_1 a2_2)) = some (r1, r2, r3, r4) := H
   have A11 := Gv.a0 A110
   clear A110
   by_cases c12 : t244 = true
   ·subst c12
    have H1 : ((impl_CostOk.f a2_0 a2_1 a2_2).bind fun t245 => (impl_Settle.j0 k (!t245) a0_0 a0_1 a0_2 a1_0 a1_1 a1_2 a2_0 a2_1 a2_2)) = some (r1, r2, r3, r4) := by rw [if_pos rfl] at H; exact H
    clear H
    have H := H1
    clear H1
    replace H := Option.bind_eq_some_iff.mp H
    obtain ⟨t245, A130, H⟩ := H
    replace H : (impl_Settle.j0 k (!t245) a0_0 a0_1 a0_2 a1_0 a1_1 a1_2 a2_0 a2_1 a2_2) = some (r1, r2, r3, r4) := H
    have A13 := Gv.a0 A130
    clear A130
    have H' := Gv.a0 H
    clear H
    have hnb14 := NB239_240.out
    have hnc14 := NB240_239.out
    have hnb15 := NB239_241.out
    have hnc15 := NB241_239.out
    have hnb16 := NB239_242.out
    have hnc16 := NB242_239.out
    have hcz17_0 : w8.cell? ⟨gb239, 0, none⟩ = some (.int .i64 a0_0) := (blk_cell BK239.out 0).trans rfl
    have hcz17_1 : w8.cell? ⟨gb239, 1, none⟩ = some (.int .i64 a0_1) := (blk_cell BK239.out 1).trans rfl
    have hcz17_2 : w8.cell? ⟨gb239, 2, none⟩ = some (.int .i64 a0_2) := (blk_cell BK239.out 2).trans rfl
    have hfz17_0 := blk_frozen BK239.out 0
    have hfz17_1 := blk_frozen BK239.out 1
    have hfz17_2 := blk_frozen BK239.out 2
    go_wp2_with (first | ((with_reducible refine gate_callee (f := 56) rfl ?_); refine goesL_ (some 10) rfl rfl Try.func56 (by kernel_rfl) rfl #[.agg #[.int .i64 a0_0, .int .i64 a0_1, .int .i64 a0_2]] rfl Gv.lm ?_; (with_reducible refine (impl_CarryOk.calls a0_0 a0_1 a0_2 true _ A9.out).mono ?_); rintro e w18 ⟨rfl, hb⟩; refine ⟨_, rfl, ?_⟩; have n0_ := Gv.a0 (Gv.bb BK239.out hb); have n1_ := Gv.a0 (Gv.bb BK240.out hb); have n2_ := Gv.a0 (Gv.bb BK241.out hb); have n3_ := Gv.a0 (Gv.bb BK242.out hb); have n4_ := Gv.a0 (below_step Gv.bw hb); clear BK239; clear BK240; clear BK241; clear BK242; clear HB; have BK239 := n0_; have BK240 := n1_; have BK241 := n2_; have BK242 := n3_; have HB := n4_; clear n0_ n1_ n2_ n3_ n4_; (try clear hb); (try clear hb2); (try clear hk); (try clear hi); have hnb19 := NB240_241.out; have hnc19 := NB241_240.out; have hnb20 := NB240_242.out; have hnc20 := NB242_240.out; have hcz21_0 : w18.cell? ⟨gb240, 0, none⟩ = some (.int .i64 a1_0) := (blk_cell BK240.out 0).trans rfl; have hcz21_1 : w18.cell? ⟨gb240, 1, none⟩ = some (.int .i64 a1_1) := (blk_cell BK240.out 1).trans rfl; have hcz21_2 : w18.cell? ⟨gb240, 2, none⟩ = some (.int .i64 a1_2) := (blk_cell BK240.out 2).trans rfl; have hfz21_0 := blk_frozen BK240.out 0; have hfz21_1 := blk_frozen BK240.out 1; have hfz21_2 := blk_frozen BK240.out 2) | (go_at_call 57; (with_reducible refine (impl_CostOk.calls a1_0 a1_1 a1_2 true _ A11.out).mono ?_); rintro e w22 ⟨rfl, hb⟩; have n0_ := Gv.a0 (Gv.bb BK239.out hb); have n1_ := Gv.a0 (Gv.bb BK240.out hb); have n2_ := Gv.a0 (Gv.bb BK241.out hb); have n3_ := Gv.a0 (Gv.bb BK242.out hb); have n4_ := Gv.a0 (below_step Gv.bw hb); clear BK239; clear BK240; clear BK241; clear BK242; clear HB; have BK239 := n0_; have BK240 := n1_; have BK241 := n2_; have BK242 := n3_; have HB := n4_; clear n0_ n1_ n2_ n3_ n4_; (try clear hb); (try clear hb2); (try clear hk); (try clear hi); have hnb23 := NB241_242.out; have hnc23 := NB242_241.out; have hcz24_0 : w22.cell? ⟨gb241, 0, none⟩ = some (.int .i64 a2_0) := (blk_cell BK241.out 0).trans rfl; have hcz24_1 : w22.cell? ⟨gb241, 1, none⟩ = some (.int .i64 a2_1) := (blk_cell BK241.out 1).trans rfl; have hcz24_2 : w22.cell? ⟨gb241, 2, none⟩ = some (.int .i64 a2_2) := (blk_cell BK241.out 2).trans rfl; have hfz24_0 := blk_frozen BK241.out 0; have hfz24_1 := blk_frozen BK241.out 1; have hfz24_2 := blk_frozen BK241.out 2) | (go_at_call 57; (with_reducible refine (impl_CostOk.calls a2_0 a2_1 a2_2 t245 _ A13.out).mono ?_); rintro e w25 ⟨rfl, hb⟩; have n0_ := Gv.a0 (Gv.bb BK239.out hb); have n1_ := Gv.a0 (Gv.bb BK240.out hb); have n2_ := Gv.a0 (Gv.bb BK241.out hb); have n3_ := Gv.a0 (Gv.bb BK242.out hb); have n4_ := Gv.a0 (below_step Gv.bw hb); clear BK239; clear BK240; clear BK241; clear BK242; clear HB; have BK239 := n0_; have BK240 := n1_; have BK241 := n2_; have BK242 := n3_; have HB := n4_; clear n0_ n1_ n2_ n3_ n4_; (try clear hb); (try clear hb2); (try clear hk); (try clear hi)))
    go_meet
    case rel => exact ⟨_, (!t245), Gv.rq, H', ⟨by first | omega | exact Nat.le_refl _⟩, ⟨by (with_reducible repeat (first | refine blk_drewN ?_ _ | refine blk_drew ?_ | refine blk_alloc ?_ _)); exact BK239.out⟩, ⟨by (with_reducible repeat (first | refine blk_drewN ?_ _ | refine blk_drew ?_ | refine blk_alloc ?_ _)); exact BK240.out⟩, ⟨by (with_reducible repeat (first | refine blk_drewN ?_ _ | refine blk_drew ?_ | refine blk_alloc ?_ _)); exact BK241.out⟩, ⟨by (with_reducible repeat (first | refine blk_drewN ?_ _ | refine blk_drew ?_ | refine blk_alloc ?_ _)); exact BK242.out⟩, ⟨Gv.bw⟩⟩
   ·replace c12 := Bool.eq_false_iff.mpr c12
    subst c12
    have H1 : (impl_Settle.j0 k true a0_0 a0_1 a0_2 a1_0 a1_1 a1_2 a2_0 a2_1 a2_2) = some (r1, r2, r3, r4) := by rw [if_neg (show ¬ (false = true) by decide)] at H; exact H
    clear H
    have H := H1
    clear H1
    have H' := Gv.a0 H
    clear H
    have hnb26 := NB239_240.out
    have hnc26 := NB240_239.out
    have hnb27 := NB239_241.out
    have hnc27 := NB241_239.out
    have hnb28 := NB239_242.out
    have hnc28 := NB242_239.out
    have hcz29_0 : w8.cell? ⟨gb239, 0, none⟩ = some (.int .i64 a0_0) := (blk_cell BK239.out 0).trans rfl
    have hcz29_1 : w8.cell? ⟨gb239, 1, none⟩ = some (.int .i64 a0_1) := (blk_cell BK239.out 1).trans rfl
    have hcz29_2 : w8.cell? ⟨gb239, 2, none⟩ = some (.int .i64 a0_2) := (blk_cell BK239.out 2).trans rfl
    have hfz29_0 := blk_frozen BK239.out 0
    have hfz29_1 := blk_frozen BK239.out 1
    have hfz29_2 := blk_frozen BK239.out 2
    go_wp2_with (first | ((with_reducible refine gate_callee (f := 56) rfl ?_); refine goesL_ (some 10) rfl rfl Try.func56 (by kernel_rfl) rfl #[.agg #[.int .i64 a0_0, .int .i64 a0_1, .int .i64 a0_2]] rfl Gv.lm ?_; (with_reducible refine (impl_CarryOk.calls a0_0 a0_1 a0_2 true _ A9.out).mono ?_); rintro e w30 ⟨rfl, hb⟩; refine ⟨_, rfl, ?_⟩; have n0_ := Gv.a0 (Gv.bb BK239.out hb); have n1_ := Gv.a0 (Gv.bb BK240.out hb); have n2_ := Gv.a0 (Gv.bb BK241.out hb); have n3_ := Gv.a0 (Gv.bb BK242.out hb); have n4_ := Gv.a0 (below_step Gv.bw hb); clear BK239; clear BK240; clear BK241; clear BK242; clear HB; have BK239 := n0_; have BK240 := n1_; have BK241 := n2_; have BK242 := n3_; have HB := n4_; clear n0_ n1_ n2_ n3_ n4_; (try clear hb); (try clear hb2); (try clear hk); (try clear hi); have hnb31 := NB240_241.out; have hnc31 := NB241_240.out; have hnb32 := NB240_242.out; have hnc32 := NB242_240.out; have hcz33_0 : w30.cell? ⟨gb240, 0, none⟩ = some (.int .i64 a1_0) := (blk_cell BK240.out 0).trans rfl; have hcz33_1 : w30.cell? ⟨gb240, 1, none⟩ = some (.int .i64 a1_1) := (blk_cell BK240.out 1).trans rfl; have hcz33_2 : w30.cell? ⟨gb240, 2, none⟩ = some (.int .i64 a1_2) := (blk_cell BK240.out 2).trans rfl; have hfz33_0 := blk_frozen BK240.out 0; have hfz33_1 := blk_frozen BK240.out 1; have hfz33_2 := blk_frozen BK240.out 2) | (go_at_call 57; (with_reducible refine (impl_CostOk.calls a1_0 a1_1 a1_2 false _ A11.out).mono ?_); rintro e w34 ⟨rfl, hb⟩; have n0_ := Gv.a0 (Gv.bb BK239.out hb); have n1_ := Gv.a0 (Gv.bb BK240.out hb); have n2_ := Gv.a0 (Gv.bb BK241.out hb); have n3_ := Gv.a0 (Gv.bb BK242.out hb); have n4_ := Gv.a0 (below_step Gv.bw hb); clear BK239; clear BK240; clear BK241; clear BK242; clear HB; have BK239 := n0_; have BK240 := n1_; have BK241 := n2_; have BK242 := n3_; have HB := n4_; clear n0_ n1_ n2_ n3_ n4_; (try clear hb); (try clear hb2); (try clear hk); (try clear hi)))
    go_meet
    case rel => exact ⟨_, (true), Gv.rq, H', ⟨by first | omega | exact Nat.le_refl _⟩, ⟨by (with_reducible repeat (first | refine blk_drewN ?_ _ | refine blk_drew ?_ | refine blk_alloc ?_ _)); exact BK239.out⟩, ⟨by (with_reducible repeat (first | refine blk_drewN ?_ _ | refine blk_drew ?_ | refine blk_alloc ?_ _)); exact BK240.out⟩, ⟨by (with_reducible repeat (first | refine blk_drewN ?_ _ | refine blk_drew ?_ | refine blk_alloc ?_ _)); exact BK241.out⟩, ⟨by (with_reducible repeat (first | refine blk_drewN ?_ _ | refine blk_drew ?_ | refine blk_alloc ?_ _)); exact BK242.out⟩, ⟨Gv.bw⟩⟩
  ·replace c10 := Bool.eq_false_iff.mpr c10
   subst c10
   have H1 : (impl_Settle.j0 k true a0_0 a0_1 a0_2 a1_0 a1_1 a1_2 a2_0 a2_1 a2_2) = some (r1, r2, r3, r4) := by rw [if_neg (show ¬ (false = true) by decide)] at H; exact H
   clear H
   have H := H1
   clear H1
   have H' := Gv.a0 H
   clear H
   have hnb35 := NB239_240.out
   have hnc35 := NB240_239.out
   have hnb36 := NB239_241.out
   have hnc36 := NB241_239.out
   have hnb37 := NB239_242.out
   have hnc37 := NB242_239.out
   have hcz38_0 : w8.cell? ⟨gb239, 0, none⟩ = some (.int .i64 a0_0) := (blk_cell BK239.out 0).trans rfl
   have hcz38_1 : w8.cell? ⟨gb239, 1, none⟩ = some (.int .i64 a0_1) := (blk_cell BK239.out 1).trans rfl
   have hcz38_2 : w8.cell? ⟨gb239, 2, none⟩ = some (.int .i64 a0_2) := (blk_cell BK239.out 2).trans rfl
   have hfz38_0 := blk_frozen BK239.out 0
   have hfz38_1 := blk_frozen BK239.out 1
   have hfz38_2 := blk_frozen BK239.out 2
   go_wp2_with (first | ((with_reducible refine gate_callee (f := 56) rfl ?_); refine goesL_ (some 10) rfl rfl Try.func56 (by kernel_rfl) rfl #[.agg #[.int .i64 a0_0, .int .i64 a0_1, .int .i64 a0_2]] rfl Gv.lm ?_; (with_reducible refine (impl_CarryOk.calls a0_0 a0_1 a0_2 false _ A9.out).mono ?_); rintro e w39 ⟨rfl, hb⟩; refine ⟨_, rfl, ?_⟩; have n0_ := Gv.a0 (Gv.bb BK239.out hb); have n1_ := Gv.a0 (Gv.bb BK240.out hb); have n2_ := Gv.a0 (Gv.bb BK241.out hb); have n3_ := Gv.a0 (Gv.bb BK242.out hb); have n4_ := Gv.a0 (below_step Gv.bw hb); clear BK239; clear BK240; clear BK241; clear BK242; clear HB; have BK239 := n0_; have BK240 := n1_; have BK241 := n2_; have BK242 := n3_; have HB := n4_; clear n0_ n1_ n2_ n3_ n4_; (try clear hb); (try clear hb2); (try clear hk); (try clear hi)))
   go_meet
   case rel => exact ⟨_, (true), Gv.rq, H', ⟨by first | omega | exact Nat.le_refl _⟩, ⟨by (with_reducible repeat (first | refine blk_drewN ?_ _ | refine blk_drew ?_ | refine blk_alloc ?_ _)); exact BK239.out⟩, ⟨by (with_reducible repeat (first | refine blk_drewN ?_ _ | refine blk_drew ?_ | refine blk_alloc ?_ _)); exact BK240.out⟩, ⟨by (with_reducible repeat (first | refine blk_drewN ?_ _ | refine blk_drew ?_ | refine blk_alloc ?_ _)); exact BK241.out⟩, ⟨by (with_reducible repeat (first | refine blk_drewN ?_ _ | refine blk_drew ?_ | refine blk_alloc ?_ _)); exact BK242.out⟩, ⟨Gv.bw⟩⟩
 case rest =>
  clear HC4
  try clear c1
  try clear c2
  try clear p2
  try clear c3
  try clear c5
  try clear c10
  try clear c12
  try clear c14
  try clear c15
  try clear c16
  try clear c19
  try clear c20
  try clear c23
  try clear c26
  try clear c27
  try clear c28
  try clear c31
  try clear c32
  try clear c35
  try clear c36
  try clear c37
  try clear hcz17_0 hcz17_1 hcz17_2
  try clear hcz21_0 hcz21_1 hcz21_2
  try clear hcz24_0 hcz24_1 hcz24_2
  try clear hcz29_0 hcz29_1 hcz29_2
  try clear hcz33_0 hcz33_1 hcz33_2
  try clear hcz38_0 hcz38_1 hcz38_2
  try clear hfz17_0 hfz17_1 hfz17_2
  try clear hfz21_0 hfz21_1 hfz21_2
  try clear hfz24_0 hfz24_1 hfz24_2
  try clear hfz29_0 hfz29_1 hfz29_2
  try clear hfz33_0 hfz33_1 hfz33_2
  try clear hfz38_0 hfz38_1 hfz38_2
  obtain ⟨kq, x21_3, rfl, HA, HJ3, BK239, BK240, BK241, BK242, HB⟩ := hcut
  cases kq with
  | zero => exact absurd HA.out (by simp [impl_Settle.j0])
  | succ kj3 =>
   have H := HA.out
   clear HA
   simp only [impl_Settle.j0] at H
   by_cases c40 : x21_3 = true
   ·subst c40
    have H1 : (some (0, 0, 0, false)) = some (r1, r2, r3, r4) := by rw [if_pos rfl] at H; exact H
    clear H
    have H := H1
    clear H1
    simp only [Option.some.injEq, Prod.mk.injEq] at H
    obtain ⟨rfl, rfl, rfl, rfl⟩ := H
    have hnb41 := NB242_239.out
    have hnc41 := NB239_242.out
    have hnb42 := NB242_240.out
    have hnc42 := NB240_242.out
    have hnb43 := NB242_241.out
    have hnc43 := NB241_242.out
    have hcz44_0 : wc.cell? ⟨gb242, 0, none⟩ = some (.int .i64 0) := (blk_cell BK242.out 0).trans rfl
    have hcz44_1 : wc.cell? ⟨gb242, 1, none⟩ = some (.int .i64 0) := (blk_cell BK242.out 1).trans rfl
    have hcz44_2 : wc.cell? ⟨gb242, 2, none⟩ = some (.int .i64 0) := (blk_cell BK242.out 2).trans rfl
    have hfz44_0 := blk_frozen BK242.out 0
    have hfz44_1 := blk_frozen BK242.out 1
    have hfz44_2 := blk_frozen BK242.out 2
    go_wp2
    refine bodyPost_ret (results_ct rfl _ _ gb242 26 #[.int .i64 0, .int .i64 0, .int .i64 0] (0, 0) _ rfl (by (with_reducible repeat (first | refine blk_drewN ?_ _ | refine blk_drew ?_ | refine blk_alloc ?_ _)); refine blk_put (cs := #[.int .i64 0, .int .i64 0, .int .i64 0]) ?_ 2 _ rfl; (with_reducible repeat (first | refine blk_drewN ?_ _ | refine blk_drew ?_ | refine blk_alloc ?_ _)); refine blk_put (cs := #[.int .i64 0, .int .i64 0, .int .i64 0]) ?_ 1 _ rfl; (with_reducible repeat (first | refine blk_drewN ?_ _ | refine blk_drew ?_ | refine blk_alloc ?_ _)); refine blk_put (cs := #[.int .i64 0, .int .i64 0, .int .i64 0]) ?_ 0 _ rfl; (with_reducible repeat (first | refine blk_drewN ?_ _ | refine blk_drew ?_ | refine blk_alloc ?_ _)); exact BK242.out) Try.underlying26 rfl (by kernel_rfl)) rfl ?_
    exact ⟨Gv.rt, Gv.bw⟩
   ·replace c40 := Bool.eq_false_iff.mpr c40
    subst c40
    have H1 : ((impl_Vec_plus.f a0_0 a0_1 a0_2 a2_0 a2_1 a2_2).bind fun bt246 => ((impl_Vec_minus.f bt246.1 bt246.2.1 bt246.2.2 a1_0 a1_1 a1_2).bind fun bt249 => ((impl_CarryOk.f bt249.1 bt249.2.1 bt249.2.2).bind fun t253 => (if t253 = true then (some (bt249.1, bt249.2.1, bt249.2.2, true)) else (some (0, 0, 0, false)))))) = some (r1, r2, r3, r4) := by rw [if_neg (show ¬ (false = true) by decide)] at H; exact H
    clear H
    have H := H1
    clear H1
    replace H := Option.bind_eq_some_iff.mp H
    obtain ⟨⟨t246, t247, t248⟩, A450, H⟩ := H
    replace H : ((impl_Vec_minus.f t246 t247 t248 a1_0 a1_1 a1_2).bind fun bt249 => ((impl_CarryOk.f bt249.1 bt249.2.1 bt249.2.2).bind fun t253 => (if t253 = true then (some (bt249.1, bt249.2.1, bt249.2.2, true)) else (some (0, 0, 0, false))))) = some (r1, r2, r3, r4) := H
    have A45 := Gv.a0 A450
    clear A450
    replace H := Option.bind_eq_some_iff.mp H
    obtain ⟨⟨t249, t250, t251⟩, A460, H⟩ := H
    replace H : ((impl_CarryOk.f t249 t250 t251).bind fun t253 => (if t253 = true then (some (t249, t250, t251, true)) else (some (0, 0, 0, false)))) = some (r1, r2, r3, r4) := H
    have A46 := Gv.a0 A460
    clear A460
    replace H := Option.bind_eq_some_iff.mp H
    obtain ⟨t253, A470, H⟩ := H
    replace H : (if t253 = true then (some (t249, t250, t251, true)) else (some (0, 0, 0, false))) = some (r1, r2, r3, r4) := H
    have A47 := Gv.a0 A470
    clear A470
    by_cases c48 : t253 = true
    ·subst c48
     have H1 : (some (t249, t250, t251, true)) = some (r1, r2, r3, r4) := by rw [if_pos rfl] at H; exact H
     clear H
     have H := H1
     clear H1
     simp only [Option.some.injEq, Prod.mk.injEq] at H
     obtain ⟨rfl, rfl, rfl, rfl⟩ := H
     try go_wp2
     have n0_ := Gv.a0 (blk_drew BK239.out)
     have n1_ := Gv.a0 (blk_drew BK240.out)
     have n2_ := Gv.a0 (blk_drew BK241.out)
     have n3_ := Gv.a0 (blk_drew BK242.out)
     have n4_ := Gv.a0 (below_drew1 HB.out)
     clear BK239
     clear BK240
     clear BK241
     clear BK242
     clear HB
     have BK239 := n0_
     have BK240 := n1_
     have BK241 := n2_
     have BK242 := n3_
     have HB := n4_
     clear n0_ n1_ n2_ n3_ n4_
     refine start_ (n := 7) (S := fun w' => w'.cell? ⟨gb239, 0, none⟩ = some (.int .i64 a0_0) ∧ w'.cell? ⟨gb239, 1, none⟩ = some (.int .i64 a0_1) ∧ w'.cell? ⟨gb239, 2, none⟩ = some (.int .i64 a0_2) ∧ w'.cell? ⟨gb241, 0, none⟩ = some (.int .i64 a2_0) ∧ w'.cell? ⟨gb241, 1, none⟩ = some (.int .i64 a2_1) ∧ w'.cell? ⟨gb241, 2, none⟩ = some (.int .i64 a2_2) ∧ w'.cell? ⟨gb240, 0, none⟩ = some (.int .i64 a1_0) ∧ w'.cell? ⟨gb240, 1, none⟩ = some (.int .i64 a1_1) ∧ w'.cell? ⟨gb240, 2, none⟩ = some (.int .i64 a1_2)) (ds := []) #[false, false, false, false, false, false, false] (by kernel_rfl) rfl rfl ⟨(blk_cell BK239.out 0).trans rfl, (blk_cell BK239.out 1).trans rfl, (blk_cell BK239.out 2).trans rfl, (blk_cell BK241.out 0).trans rfl, (blk_cell BK241.out 1).trans rfl, (blk_cell BK241.out 2).trans rfl, (blk_cell BK240.out 0).trans rfl, (blk_cell BK240.out 1).trans rfl, (blk_cell BK240.out 2).trans rfl⟩ (fun hHeld => ?_)
     generalize wc.drew = w49 at BK239 BK240 BK241 BK242 HB hHeld ⊢
     refine take_ (i := 0) (N := some 23) (v := ?_) (a' := ?_) #[true, false, false, false, false, false, false] rfl rfl (by kernel_rfl) (fun _ _ _ h => h) (Or.inl ⟨by rfl, ?_⟩) hHeld ?_ ?_
     rotate_left
     ·rintro w' ⟨s0, s1, s2, s3, s4, s5, s6, s7, s8⟩
      go_simp
      with_reducible rfl
     rotate_left
     ·simp only [Act.put, List.setIfInBounds_toArray, List.set_cons_zero, List.set_cons_succ, i64_w, i32_w]
      rfl
     refine take_ (i := 1) (N := some 24) (v := ?_) (a' := ?_) #[true, true, false, false, false, false, false] rfl rfl (by kernel_rfl) (fun _ _ _ h => h) (Or.inl ⟨by rfl, ?_⟩) hHeld ?_ ?_
     rotate_left
     ·rintro w' ⟨s0, s1, s2, s3, s4, s5, s6, s7, s8⟩
      go_simp
      with_reducible rfl
     rotate_left
     ·simp only [Act.put, List.setIfInBounds_toArray, List.set_cons_zero, List.set_cons_succ, i64_w, i32_w]
      rfl
     refine take_ (i := 3) (N := some 26) (v := ?_) (a' := ?_) #[true, true, false, true, false, false, false] rfl rfl (by kernel_rfl) (fun _ _ _ h => h) (Or.inl ⟨by rfl, ?_⟩) hHeld ?_ ?_
     rotate_left
     ·rintro w' ⟨s0, s1, s2, s3, s4, s5, s6, s7, s8⟩
      go_simp
      with_reducible rfl
     rotate_left
     ·simp only [Act.put, List.setIfInBounds_toArray, List.set_cons_zero, List.set_cons_succ, i64_w, i32_w]
      rfl
     refine join_ (σ := Nat) 1 #[true, true, true, true, true, true, false] (fun s_ => [(25, .agg #[.int .i64 t246, .int .i64 t247, .int .i64 t248]), (27, .agg #[.int .i64 t249, .int .i64 t250, .int .i64 t251]), (8, .pointer (some ⟨s_, 0, none⟩))]) (fun s_ w' => (w'.cell? ⟨gb239, 0, none⟩ = some (.int .i64 a0_0) ∧ w'.cell? ⟨gb239, 1, none⟩ = some (.int .i64 a0_1) ∧ w'.cell? ⟨gb239, 2, none⟩ = some (.int .i64 a0_2) ∧ w'.cell? ⟨gb241, 0, none⟩ = some (.int .i64 a2_0) ∧ w'.cell? ⟨gb241, 1, none⟩ = some (.int .i64 a2_1) ∧ w'.cell? ⟨gb241, 2, none⟩ = some (.int .i64 a2_2) ∧ w'.cell? ⟨gb240, 0, none⟩ = some (.int .i64 a1_0) ∧ w'.cell? ⟨gb240, 1, none⟩ = some (.int .i64 a1_1) ∧ w'.cell? ⟨gb240, 2, none⟩ = some (.int .i64 a1_2)) ∧ (w'.heap[gb239]? = some (.cells #[.int .i64 a0_0, .int .i64 a0_1, .int .i64 a0_2] 26 (0, 0))) ∧ (w'.heap[gb240]? = some (.cells #[.int .i64 a1_0, .int .i64 a1_1, .int .i64 a1_2] 26 (0, 0))) ∧ (w'.heap[gb241]? = some (.cells #[.int .i64 a2_0, .int .i64 a2_1, .int .i64 a2_2] 26 (0, 0))) ∧ (w'.heap[gb242]? = some (.cells #[.int .i64 0, .int .i64 0, .int .i64 0] 26 (0, 0))) ∧ (w'.heap[s_]? = some (.cells #[.int .i64 0, .int .i64 0, .int .i64 0] 26 (0, 0))) ∧ (w.heap.size ≤ s_) ∧ (w.heap.size ≤ s_) ∧ (gb239 ≠ s_) ∧ (s_ ≠ gb239) ∧ (gb240 ≠ s_) ∧ (s_ ≠ gb240) ∧ (gb241 ≠ s_) ∧ (s_ ≠ gb241) ∧ (gb242 ≠ s_) ∧ (s_ ≠ gb242) ∧ (Below w.heap.size w w')) ?_ ?_
     rotate_left
     ·intro hCont
      refine two_ (i := 2) (j := 5) (Ni := some 25) (Nj := some 8) #[true, true, true, true, false, false, false] #[true, true, false, true, false, true, false] rfl rfl rfl rfl (by kernel_rfl) (by decide) (by decide) (fun K hK => ?_) (fun K hK => ?_)
      ·skip
       refine goes_ Try.func58 (by kernel_rfl) rfl #[.agg #[.int .i64 a0_0, .int .i64 a0_1, .int .i64 a0_2], .agg #[.int .i64 a2_0, .int .i64 a2_1, .int .i64 a2_2]] (by rfl) rfl rfl Gv.lm ?_
       with_reducible refine (impl_Vec_plus.calls a0_0 a0_1 a0_2 a2_0 a2_1 a2_2 t246 t247 t248 _ A45.out).mono ?_
       rintro e w50 ⟨rfl, hb⟩
       refine ⟨_, rfl, ?_⟩
       have n0_ := Gv.a0 (Gv.bb BK239.out hb)
       have n1_ := Gv.a0 (Gv.bb BK240.out hb)
       have n2_ := Gv.a0 (Gv.bb BK241.out hb)
       have n3_ := Gv.a0 (Gv.bb BK242.out hb)
       have n4_ := Gv.a0 (below_step Gv.bw hb)
       clear BK239
       clear BK240
       clear BK241
       clear BK242
       clear HB
       have BK239 := n0_
       have BK240 := n1_
       have BK241 := n2_
       have BK242 := n3_
       have HB := n4_
       clear n0_ n1_ n2_ n3_ n4_
       (try clear hb)
       (try clear hb2)
       (try clear hk)
       (try clear hi)
       refine hK.out _ _ ⟨(blk_cell BK239.out 0).trans rfl, (blk_cell BK239.out 1).trans rfl, (blk_cell BK239.out 2).trans rfl, (blk_cell BK241.out 0).trans rfl, (blk_cell BK241.out 1).trans rfl, (blk_cell BK241.out 2).trans rfl, (blk_cell BK240.out 0).trans rfl, (blk_cell BK240.out 1).trans rfl, (blk_cell BK240.out 2).trans rfl⟩ (fun hHeld => ?_)
       clear hK K
       refine norm_ (a' := ?_) ?_ ?_
       rotate_left
       ·show Act.put _ (some 25) _ = _
        simp only [Act.put, List.setIfInBounds_toArray, List.set_cons_zero, List.set_cons_succ, i64_w, i32_w]
        rfl
       refine two_ (i := 4) (j := 5) (Ni := some 27) (Nj := some 8) #[true, true, true, true, true, false, false] #[true, true, true, true, false, true, false] rfl rfl rfl rfl (by kernel_rfl) (by decide) (by decide) (fun K hK => ?_) (fun K hK => ?_)
       ·skip
        refine goes_ Try.func59 (by kernel_rfl) rfl #[.agg #[.int .i64 t246, .int .i64 t247, .int .i64 t248], .agg #[.int .i64 a1_0, .int .i64 a1_1, .int .i64 a1_2]] (by rfl) rfl rfl Gv.lm ?_
        with_reducible refine (impl_Vec_minus.calls t246 t247 t248 a1_0 a1_1 a1_2 t249 t250 t251 _ A46.out).mono ?_
        rintro e w51 ⟨rfl, hb⟩
        refine ⟨_, rfl, ?_⟩
        have n0_ := Gv.a0 (Gv.bb BK239.out hb)
        have n1_ := Gv.a0 (Gv.bb BK240.out hb)
        have n2_ := Gv.a0 (Gv.bb BK241.out hb)
        have n3_ := Gv.a0 (Gv.bb BK242.out hb)
        have n4_ := Gv.a0 (below_step Gv.bw hb)
        clear BK239
        clear BK240
        clear BK241
        clear BK242
        clear HB
        have BK239 := n0_
        have BK240 := n1_
        have BK241 := n2_
        have BK242 := n3_
        have HB := n4_
        clear n0_ n1_ n2_ n3_ n4_
        (try clear hb)
        (try clear hb2)
        (try clear hk)
        (try clear hi)
        refine hK.out _ _ ⟨(blk_cell BK239.out 0).trans rfl, (blk_cell BK239.out 1).trans rfl, (blk_cell BK239.out 2).trans rfl, (blk_cell BK241.out 0).trans rfl, (blk_cell BK241.out 1).trans rfl, (blk_cell BK241.out 2).trans rfl, (blk_cell BK240.out 0).trans rfl, (blk_cell BK240.out 1).trans rfl, (blk_cell BK240.out 2).trans rfl⟩ (fun hHeld => ?_)
        clear hK K
        refine norm_ (a' := ?_) ?_ ?_
        rotate_left
        ·show Act.put _ (some 27) _ = _
         simp only [Act.put, List.setIfInBounds_toArray, List.set_cons_zero, List.set_cons_succ, i64_w, i32_w]
         rfl
        refine one_ (i := 5) (N := some 8) #[true, true, true, true, true, true, false] rfl rfl (by kernel_rfl) (by decide) (fun K hK => ?_)
        refine box_step ?hg (N := 8) ?hd (cs := #[.int .i64 0, .int .i64 0, .int .i64 0]) (t := 26) ?hr ?_; (case hd => rfl); (case hg => rfl); (case hr => first | (go_simp; done) | (go_simp; rfl))
        intro gb252 hg w52 hbox hb
        have n0_ := Gv.a0 (Gv.bb BK239.out hb)
        have n1_ := Gv.a0 (Gv.bb BK240.out hb)
        have n2_ := Gv.a0 (Gv.bb BK241.out hb)
        have n3_ := Gv.a0 (Gv.bb BK242.out hb)
        have n4_ := Gv.a0 (below_step Gv.bw hb)
        have n5_ := Gv.a0 (hbox)
        have n6_ := Gv.a0 ((Gv.ble hg Gv.bw : w.heap.size ≤ gb252))
        have n7_ := Gv.a0 ((Gv.ble hg Gv.bw : w.heap.size ≤ gb252))
        have n8_ := Gv.a0 ((Gv.nlt hg (Gv.kb BK239.out) : gb239 ≠ gb252))
        have n9_ := Gv.a0 ((Gv.ngt hg (Gv.kb BK239.out) : gb252 ≠ gb239))
        have n10_ := Gv.a0 ((Gv.nlt hg (Gv.kb BK240.out) : gb240 ≠ gb252))
        have n11_ := Gv.a0 ((Gv.ngt hg (Gv.kb BK240.out) : gb252 ≠ gb240))
        have n12_ := Gv.a0 ((Gv.nlt hg (Gv.kb BK241.out) : gb241 ≠ gb252))
        have n13_ := Gv.a0 ((Gv.ngt hg (Gv.kb BK241.out) : gb252 ≠ gb241))
        have n14_ := Gv.a0 ((Gv.nlt hg (Gv.kb BK242.out) : gb242 ≠ gb252))
        have n15_ := Gv.a0 ((Gv.ngt hg (Gv.kb BK242.out) : gb252 ≠ gb242))
        clear BK239
        clear BK240
        clear BK241
        clear BK242
        clear HB
        have BK239 := n0_
        have BK240 := n1_
        have BK241 := n2_
        have BK242 := n3_
        have HB := n4_
        have BK252 := n5_
        have GW252 := n6_
        have GE252 := n7_
        have NB239_252 := n8_
        have NB252_239 := n9_
        have NB240_252 := n10_
        have NB252_240 := n11_
        have NB241_252 := n12_
        have NB252_241 := n13_
        have NB242_252 := n14_
        have NB252_242 := n15_
        clear n0_ n1_ n2_ n3_ n4_ n5_ n6_ n7_ n8_ n9_ n10_ n11_ n12_ n13_ n14_ n15_
        clear hb hbox hg
        refine hK.out _ _ ⟨(blk_cell BK239.out 0).trans rfl, (blk_cell BK239.out 1).trans rfl, (blk_cell BK239.out 2).trans rfl, (blk_cell BK241.out 0).trans rfl, (blk_cell BK241.out 1).trans rfl, (blk_cell BK241.out 2).trans rfl, (blk_cell BK240.out 0).trans rfl, (blk_cell BK240.out 1).trans rfl, (blk_cell BK240.out 2).trans rfl⟩ (fun hHeld => ?_)
        clear hK K
        refine norm_ (a' := ?_) ?_ ?_
        rotate_left
        ·show Act.put _ (some 8) _ = _
         simp only [Act.put, List.setIfInBounds_toArray, List.set_cons_zero, List.set_cons_succ, i64_w, i32_w]
         rfl
        exact norm_ (by simp only [putAll, Act.put, List.setIfInBounds_toArray, List.set_cons_zero, List.set_cons_succ]) (hCont (gb252) _ ⟨hHeld, Gv.bk, Gv.bk, Gv.bk, Gv.bk, Gv.bk, GW252.out, GE252.out, NB239_252.out, NB252_239.out, NB240_252.out, NB252_240.out, NB241_252.out, NB252_241.out, NB242_252.out, NB252_242.out, Gv.bw⟩)
       ·skip
        refine box_step ?hg (N := 8) ?hd (cs := #[.int .i64 0, .int .i64 0, .int .i64 0]) (t := 26) ?hr ?_; (case hd => rfl); (case hg => rfl); (case hr => first | (go_simp; done) | (go_simp; rfl))
        intro gb252 hg w51 hbox hb
        have n0_ := Gv.a0 (Gv.bb BK239.out hb)
        have n1_ := Gv.a0 (Gv.bb BK240.out hb)
        have n2_ := Gv.a0 (Gv.bb BK241.out hb)
        have n3_ := Gv.a0 (Gv.bb BK242.out hb)
        have n4_ := Gv.a0 (below_step Gv.bw hb)
        have n5_ := Gv.a0 (hbox)
        have n6_ := Gv.a0 ((Gv.ble hg Gv.bw : w.heap.size ≤ gb252))
        have n7_ := Gv.a0 ((Gv.ble hg Gv.bw : w.heap.size ≤ gb252))
        have n8_ := Gv.a0 ((Gv.nlt hg (Gv.kb BK239.out) : gb239 ≠ gb252))
        have n9_ := Gv.a0 ((Gv.ngt hg (Gv.kb BK239.out) : gb252 ≠ gb239))
        have n10_ := Gv.a0 ((Gv.nlt hg (Gv.kb BK240.out) : gb240 ≠ gb252))
        have n11_ := Gv.a0 ((Gv.ngt hg (Gv.kb BK240.out) : gb252 ≠ gb240))
        have n12_ := Gv.a0 ((Gv.nlt hg (Gv.kb BK241.out) : gb241 ≠ gb252))
        have n13_ := Gv.a0 ((Gv.ngt hg (Gv.kb BK241.out) : gb252 ≠ gb241))
        have n14_ := Gv.a0 ((Gv.nlt hg (Gv.kb BK242.out) : gb242 ≠ gb252))
        have n15_ := Gv.a0 ((Gv.ngt hg (Gv.kb BK242.out) : gb252 ≠ gb242))
        clear BK239
        clear BK240
        clear BK241
        clear BK242
        clear HB
        have BK239 := n0_
        have BK240 := n1_
        have BK241 := n2_
        have BK242 := n3_
        have HB := n4_
        have BK252 := n5_
        have GW252 := n6_
        have GE252 := n7_
        have NB239_252 := n8_
        have NB252_239 := n9_
        have NB240_252 := n10_
        have NB252_240 := n11_
        have NB241_252 := n12_
        have NB252_241 := n13_
        have NB242_252 := n14_
        have NB252_242 := n15_
        clear n0_ n1_ n2_ n3_ n4_ n5_ n6_ n7_ n8_ n9_ n10_ n11_ n12_ n13_ n14_ n15_
        clear hb hbox hg
        refine hK.out _ _ ⟨(blk_cell BK239.out 0).trans rfl, (blk_cell BK239.out 1).trans rfl, (blk_cell BK239.out 2).trans rfl, (blk_cell BK241.out 0).trans rfl, (blk_cell BK241.out 1).trans rfl, (blk_cell BK241.out 2).trans rfl, (blk_cell BK240.out 0).trans rfl, (blk_cell BK240.out 1).trans rfl, (blk_cell BK240.out 2).trans rfl⟩ (fun hHeld => ?_)
        clear hK K
        refine norm_ (a' := ?_) ?_ ?_
        rotate_left
        ·show Act.put _ (some 8) _ = _
         simp only [Act.put, List.setIfInBounds_toArray, List.set_cons_zero, List.set_cons_succ, i64_w, i32_w]
         rfl
        refine one_ (i := 4) (N := some 27) #[true, true, true, true, true, true, false] rfl rfl (by kernel_rfl) (by decide) (fun K hK => ?_)
        refine goes_ Try.func59 (by kernel_rfl) rfl #[.agg #[.int .i64 t246, .int .i64 t247, .int .i64 t248], .agg #[.int .i64 a1_0, .int .i64 a1_1, .int .i64 a1_2]] (by rfl) rfl rfl Gv.lm ?_
        with_reducible refine (impl_Vec_minus.calls t246 t247 t248 a1_0 a1_1 a1_2 t249 t250 t251 _ A46.out).mono ?_
        rintro e w52 ⟨rfl, hb⟩
        refine ⟨_, rfl, ?_⟩
        have n0_ := Gv.a0 (Gv.bb BK239.out hb)
        have n1_ := Gv.a0 (Gv.bb BK240.out hb)
        have n2_ := Gv.a0 (Gv.bb BK241.out hb)
        have n3_ := Gv.a0 (Gv.bb BK242.out hb)
        have n4_ := Gv.a0 (Gv.bb BK252.out hb)
        have n5_ := Gv.a0 (below_step Gv.bw hb)
        clear BK239
        clear BK240
        clear BK241
        clear BK242
        clear BK252
        clear HB
        have BK239 := n0_
        have BK240 := n1_
        have BK241 := n2_
        have BK242 := n3_
        have BK252 := n4_
        have HB := n5_
        clear n0_ n1_ n2_ n3_ n4_ n5_
        (try clear hb)
        (try clear hb2)
        (try clear hk)
        (try clear hi)
        refine hK.out _ _ ⟨(blk_cell BK239.out 0).trans rfl, (blk_cell BK239.out 1).trans rfl, (blk_cell BK239.out 2).trans rfl, (blk_cell BK241.out 0).trans rfl, (blk_cell BK241.out 1).trans rfl, (blk_cell BK241.out 2).trans rfl, (blk_cell BK240.out 0).trans rfl, (blk_cell BK240.out 1).trans rfl, (blk_cell BK240.out 2).trans rfl⟩ (fun hHeld => ?_)
        clear hK K
        refine norm_ (a' := ?_) ?_ ?_
        rotate_left
        ·show Act.put _ (some 27) _ = _
         simp only [Act.put, List.setIfInBounds_toArray, List.set_cons_zero, List.set_cons_succ, i64_w, i32_w]
         rfl
        exact norm_ (by simp only [putAll, Act.put, List.setIfInBounds_toArray, List.set_cons_zero, List.set_cons_succ]) (hCont (gb252) _ ⟨hHeld, Gv.bk, Gv.bk, Gv.bk, Gv.bk, Gv.bk, GW252.out, GE252.out, NB239_252.out, NB252_239.out, NB240_252.out, NB252_240.out, NB241_252.out, NB252_241.out, NB242_252.out, NB252_242.out, Gv.bw⟩)
      ·skip
       refine box_step ?hg (N := 8) ?hd (cs := #[.int .i64 0, .int .i64 0, .int .i64 0]) (t := 26) ?hr ?_; (case hd => rfl); (case hg => rfl); (case hr => first | (go_simp; done) | (go_simp; rfl))
       intro gb252 hg w50 hbox hb
       have n0_ := Gv.a0 (Gv.bb BK239.out hb)
       have n1_ := Gv.a0 (Gv.bb BK240.out hb)
       have n2_ := Gv.a0 (Gv.bb BK241.out hb)
       have n3_ := Gv.a0 (Gv.bb BK242.out hb)
       have n4_ := Gv.a0 (below_step Gv.bw hb)
       have n5_ := Gv.a0 (hbox)
       have n6_ := Gv.a0 ((Gv.ble hg Gv.bw : w.heap.size ≤ gb252))
       have n7_ := Gv.a0 ((Gv.ble hg Gv.bw : w.heap.size ≤ gb252))
       have n8_ := Gv.a0 ((Gv.nlt hg (Gv.kb BK239.out) : gb239 ≠ gb252))
       have n9_ := Gv.a0 ((Gv.ngt hg (Gv.kb BK239.out) : gb252 ≠ gb239))
       have n10_ := Gv.a0 ((Gv.nlt hg (Gv.kb BK240.out) : gb240 ≠ gb252))
       have n11_ := Gv.a0 ((Gv.ngt hg (Gv.kb BK240.out) : gb252 ≠ gb240))
       have n12_ := Gv.a0 ((Gv.nlt hg (Gv.kb BK241.out) : gb241 ≠ gb252))
       have n13_ := Gv.a0 ((Gv.ngt hg (Gv.kb BK241.out) : gb252 ≠ gb241))
       have n14_ := Gv.a0 ((Gv.nlt hg (Gv.kb BK242.out) : gb242 ≠ gb252))
       have n15_ := Gv.a0 ((Gv.ngt hg (Gv.kb BK242.out) : gb252 ≠ gb242))
       clear BK239
       clear BK240
       clear BK241
       clear BK242
       clear HB
       have BK239 := n0_
       have BK240 := n1_
       have BK241 := n2_
       have BK242 := n3_
       have HB := n4_
       have BK252 := n5_
       have GW252 := n6_
       have GE252 := n7_
       have NB239_252 := n8_
       have NB252_239 := n9_
       have NB240_252 := n10_
       have NB252_240 := n11_
       have NB241_252 := n12_
       have NB252_241 := n13_
       have NB242_252 := n14_
       have NB252_242 := n15_
       clear n0_ n1_ n2_ n3_ n4_ n5_ n6_ n7_ n8_ n9_ n10_ n11_ n12_ n13_ n14_ n15_
       clear hb hbox hg
       refine hK.out _ _ ⟨(blk_cell BK239.out 0).trans rfl, (blk_cell BK239.out 1).trans rfl, (blk_cell BK239.out 2).trans rfl, (blk_cell BK241.out 0).trans rfl, (blk_cell BK241.out 1).trans rfl, (blk_cell BK241.out 2).trans rfl, (blk_cell BK240.out 0).trans rfl, (blk_cell BK240.out 1).trans rfl, (blk_cell BK240.out 2).trans rfl⟩ (fun hHeld => ?_)
       clear hK K
       refine norm_ (a' := ?_) ?_ ?_
       rotate_left
       ·show Act.put _ (some 8) _ = _
        simp only [Act.put, List.setIfInBounds_toArray, List.set_cons_zero, List.set_cons_succ, i64_w, i32_w]
        rfl
       refine one_ (i := 2) (N := some 25) #[true, true, true, true, false, true, false] rfl rfl (by kernel_rfl) (by decide) (fun K hK => ?_)
       refine goes_ Try.func58 (by kernel_rfl) rfl #[.agg #[.int .i64 a0_0, .int .i64 a0_1, .int .i64 a0_2], .agg #[.int .i64 a2_0, .int .i64 a2_1, .int .i64 a2_2]] (by rfl) rfl rfl Gv.lm ?_
       with_reducible refine (impl_Vec_plus.calls a0_0 a0_1 a0_2 a2_0 a2_1 a2_2 t246 t247 t248 _ A45.out).mono ?_
       rintro e w51 ⟨rfl, hb⟩
       refine ⟨_, rfl, ?_⟩
       have n0_ := Gv.a0 (Gv.bb BK239.out hb)
       have n1_ := Gv.a0 (Gv.bb BK240.out hb)
       have n2_ := Gv.a0 (Gv.bb BK241.out hb)
       have n3_ := Gv.a0 (Gv.bb BK242.out hb)
       have n4_ := Gv.a0 (Gv.bb BK252.out hb)
       have n5_ := Gv.a0 (below_step Gv.bw hb)
       clear BK239
       clear BK240
       clear BK241
       clear BK242
       clear BK252
       clear HB
       have BK239 := n0_
       have BK240 := n1_
       have BK241 := n2_
       have BK242 := n3_
       have BK252 := n4_
       have HB := n5_
       clear n0_ n1_ n2_ n3_ n4_ n5_
       (try clear hb)
       (try clear hb2)
       (try clear hk)
       (try clear hi)
       refine hK.out _ _ ⟨(blk_cell BK239.out 0).trans rfl, (blk_cell BK239.out 1).trans rfl, (blk_cell BK239.out 2).trans rfl, (blk_cell BK241.out 0).trans rfl, (blk_cell BK241.out 1).trans rfl, (blk_cell BK241.out 2).trans rfl, (blk_cell BK240.out 0).trans rfl, (blk_cell BK240.out 1).trans rfl, (blk_cell BK240.out 2).trans rfl⟩ (fun hHeld => ?_)
       clear hK K
       refine norm_ (a' := ?_) ?_ ?_
       rotate_left
       ·show Act.put _ (some 25) _ = _
        simp only [Act.put, List.setIfInBounds_toArray, List.set_cons_zero, List.set_cons_succ, i64_w, i32_w]
        rfl
       refine one_ (i := 4) (N := some 27) #[true, true, true, true, true, true, false] rfl rfl (by kernel_rfl) (by decide) (fun K hK => ?_)
       refine goes_ Try.func59 (by kernel_rfl) rfl #[.agg #[.int .i64 t246, .int .i64 t247, .int .i64 t248], .agg #[.int .i64 a1_0, .int .i64 a1_1, .int .i64 a1_2]] (by rfl) rfl rfl Gv.lm ?_
       with_reducible refine (impl_Vec_minus.calls t246 t247 t248 a1_0 a1_1 a1_2 t249 t250 t251 _ A46.out).mono ?_
       rintro e w52 ⟨rfl, hb⟩
       refine ⟨_, rfl, ?_⟩
       have n0_ := Gv.a0 (Gv.bb BK239.out hb)
       have n1_ := Gv.a0 (Gv.bb BK240.out hb)
       have n2_ := Gv.a0 (Gv.bb BK241.out hb)
       have n3_ := Gv.a0 (Gv.bb BK242.out hb)
       have n4_ := Gv.a0 (Gv.bb BK252.out hb)
       have n5_ := Gv.a0 (below_step Gv.bw hb)
       clear BK239
       clear BK240
       clear BK241
       clear BK242
       clear BK252
       clear HB
       have BK239 := n0_
       have BK240 := n1_
       have BK241 := n2_
       have BK242 := n3_
       have BK252 := n4_
       have HB := n5_
       clear n0_ n1_ n2_ n3_ n4_ n5_
       (try clear hb)
       (try clear hb2)
       (try clear hk)
       (try clear hi)
       refine hK.out _ _ ⟨(blk_cell BK239.out 0).trans rfl, (blk_cell BK239.out 1).trans rfl, (blk_cell BK239.out 2).trans rfl, (blk_cell BK241.out 0).trans rfl, (blk_cell BK241.out 1).trans rfl, (blk_cell BK241.out 2).trans rfl, (blk_cell BK240.out 0).trans rfl, (blk_cell BK240.out 1).trans rfl, (blk_cell BK240.out 2).trans rfl⟩ (fun hHeld => ?_)
       clear hK K
       refine norm_ (a' := ?_) ?_ ?_
       rotate_left
       ·show Act.put _ (some 27) _ = _
        simp only [Act.put, List.setIfInBounds_toArray, List.set_cons_zero, List.set_cons_succ, i64_w, i32_w]
        rfl
       exact norm_ (by simp only [putAll, Act.put, List.setIfInBounds_toArray, List.set_cons_zero, List.set_cons_succ]) (hCont (gb252) _ ⟨hHeld, Gv.bk, Gv.bk, Gv.bk, Gv.bk, Gv.bk, GW252.out, GE252.out, NB239_252.out, NB252_239.out, NB240_252.out, NB252_240.out, NB241_252.out, NB252_241.out, NB242_252.out, NB252_242.out, Gv.bw⟩)
     rintro gb252 w53 ⟨hS_, h0_, h1_, h2_, h3_, h4_, h5_, h6_, h7_, h8_, h9_, h10_, h11_, h12_, h13_, h14_, h15_⟩
     have n0_ : Aside0 (w53.heap[gb239]? = some (.cells #[.int .i64 a0_0, .int .i64 a0_1, .int .i64 a0_2] 26 (0, 0))) := ⟨h0_⟩
     have n1_ : Aside0 (w53.heap[gb240]? = some (.cells #[.int .i64 a1_0, .int .i64 a1_1, .int .i64 a1_2] 26 (0, 0))) := ⟨h1_⟩
     have n2_ : Aside0 (w53.heap[gb241]? = some (.cells #[.int .i64 a2_0, .int .i64 a2_1, .int .i64 a2_2] 26 (0, 0))) := ⟨h2_⟩
     have n3_ : Aside0 (w53.heap[gb242]? = some (.cells #[.int .i64 0, .int .i64 0, .int .i64 0] 26 (0, 0))) := ⟨h3_⟩
     have n4_ : Aside0 (w53.heap[gb252]? = some (.cells #[.int .i64 0, .int .i64 0, .int .i64 0] 26 (0, 0))) := ⟨h4_⟩
     have n5_ : Aside0 (w.heap.size ≤ gb252) := ⟨h5_⟩
     have n6_ : Aside0 (w.heap.size ≤ gb252) := ⟨h6_⟩
     have n7_ : Aside0 (gb239 ≠ gb252) := ⟨h7_⟩
     have n8_ : Aside0 (gb252 ≠ gb239) := ⟨h8_⟩
     have n9_ : Aside0 (gb240 ≠ gb252) := ⟨h9_⟩
     have n10_ : Aside0 (gb252 ≠ gb240) := ⟨h10_⟩
     have n11_ : Aside0 (gb241 ≠ gb252) := ⟨h11_⟩
     have n12_ : Aside0 (gb252 ≠ gb241) := ⟨h12_⟩
     have n13_ : Aside0 (gb242 ≠ gb252) := ⟨h13_⟩
     have n14_ : Aside0 (gb252 ≠ gb242) := ⟨h14_⟩
     have n15_ : Aside0 (Below w.heap.size w w53) := ⟨h15_⟩
     clear BK239
     clear BK240
     clear BK241
     clear BK242
     clear HB
     clear h0_ h1_ h2_ h3_ h4_ h5_ h6_ h7_ h8_ h9_ h10_ h11_ h12_ h13_ h14_ h15_
     have BK239 := n0_
     have BK240 := n1_
     have BK241 := n2_
     have BK242 := n3_
     have BK252 := n4_
     have GW252 := n5_
     have GE252 := n6_
     have NB239_252 := n7_
     have NB252_239 := n8_
     have NB240_252 := n9_
     have NB252_240 := n10_
     have NB241_252 := n11_
     have NB252_241 := n12_
     have NB242_252 := n13_
     have NB252_242 := n14_
     have HB := n15_
     clear n0_ n1_ n2_ n3_ n4_ n5_ n6_ n7_ n8_ n9_ n10_ n11_ n12_ n13_ n14_ n15_
     have hHeld : w53.cell? ⟨gb239, 0, none⟩ = some (.int .i64 a0_0) ∧ w53.cell? ⟨gb239, 1, none⟩ = some (.int .i64 a0_1) ∧ w53.cell? ⟨gb239, 2, none⟩ = some (.int .i64 a0_2) ∧ w53.cell? ⟨gb241, 0, none⟩ = some (.int .i64 a2_0) ∧ w53.cell? ⟨gb241, 1, none⟩ = some (.int .i64 a2_1) ∧ w53.cell? ⟨gb241, 2, none⟩ = some (.int .i64 a2_2) ∧ w53.cell? ⟨gb240, 0, none⟩ = some (.int .i64 a1_0) ∧ w53.cell? ⟨gb240, 1, none⟩ = some (.int .i64 a1_1) ∧ w53.cell? ⟨gb240, 2, none⟩ = some (.int .i64 a1_2) := hS_
     refine norm_ (a' := ?_) ?_ ?_
     rotate_left
     ·simp only [putAll, Act.put, List.setIfInBounds_toArray, List.set_cons_zero, List.set_cons_succ]
      rfl
     refine one_ (i := 6) (N := none) #[true, true, true, true, true, true, true] rfl rfl (by kernel_rfl) (by decide) (fun K hK => ?_)
     have hs54 : w53.cell? ⟨gb252, 0, none⟩ = some (.int .i64 0) := (blk_cell BK252.out 0).trans rfl
     have hfs54 := blk_frozen BK252.out 0
     have hns54_0 := NB239_252.out
     have hns54_1 := NB240_252.out
     have hns54_2 := NB241_252.out
     have hns54_3 := NB242_252.out
     have hms54_0 := NB252_239.out
     have hms54_1 := NB252_240.out
     have hms54_2 := NB252_241.out
     have hms54_3 := NB252_242.out
     have hs55 : w53.cell? ⟨gb252, 1, none⟩ = some (.int .i64 0) := (blk_cell BK252.out 1).trans rfl
     have hfs55 := blk_frozen BK252.out 1
     have hns55_0 := NB239_252.out
     have hns55_1 := NB240_252.out
     have hns55_2 := NB241_252.out
     have hns55_3 := NB242_252.out
     have hms55_0 := NB252_239.out
     have hms55_1 := NB252_240.out
     have hms55_2 := NB252_241.out
     have hms55_3 := NB252_242.out
     have hs56 : w53.cell? ⟨gb252, 2, none⟩ = some (.int .i64 0) := (blk_cell BK252.out 2).trans rfl
     have hfs56 := blk_frozen BK252.out 2
     have hns56_0 := NB239_252.out
     have hns56_1 := NB240_252.out
     have hns56_2 := NB241_252.out
     have hns56_3 := NB242_252.out
     have hms56_0 := NB252_239.out
     have hms56_1 := NB252_240.out
     have hms56_2 := NB252_241.out
     have hms56_3 := NB252_242.out
     refine skip_ (w1 := ?_) (by rfl) rfl ?_ ?_
     rotate_left
     ·go_simp
      rfl
     refine hK.out _ _ ⟨((cell_far (p := ⟨gb252, _, none⟩) NB239_252.out _).trans (((cell_far (p := ⟨gb252, _, none⟩) NB239_252.out _).trans (((cell_far (p := ⟨gb252, _, none⟩) NB239_252.out _).trans (hHeld.1)))))), ((cell_far (p := ⟨gb252, _, none⟩) NB239_252.out _).trans (((cell_far (p := ⟨gb252, _, none⟩) NB239_252.out _).trans (((cell_far (p := ⟨gb252, _, none⟩) NB239_252.out _).trans (hHeld.2.1)))))), ((cell_far (p := ⟨gb252, _, none⟩) NB239_252.out _).trans (((cell_far (p := ⟨gb252, _, none⟩) NB239_252.out _).trans (((cell_far (p := ⟨gb252, _, none⟩) NB239_252.out _).trans (hHeld.2.2.1)))))), ((cell_far (p := ⟨gb252, _, none⟩) NB241_252.out _).trans (((cell_far (p := ⟨gb252, _, none⟩) NB241_252.out _).trans (((cell_far (p := ⟨gb252, _, none⟩) NB241_252.out _).trans (hHeld.2.2.2.1)))))), ((cell_far (p := ⟨gb252, _, none⟩) NB241_252.out _).trans (((cell_far (p := ⟨gb252, _, none⟩) NB241_252.out _).trans (((cell_far (p := ⟨gb252, _, none⟩) NB241_252.out _).trans (hHeld.2.2.2.2.1)))))), ((cell_far (p := ⟨gb252, _, none⟩) NB241_252.out _).trans (((cell_far (p := ⟨gb252, _, none⟩) NB241_252.out _).trans (((cell_far (p := ⟨gb252, _, none⟩) NB241_252.out _).trans (hHeld.2.2.2.2.2.1)))))), ((cell_far (p := ⟨gb252, _, none⟩) NB240_252.out _).trans (((cell_far (p := ⟨gb252, _, none⟩) NB240_252.out _).trans (((cell_far (p := ⟨gb252, _, none⟩) NB240_252.out _).trans (hHeld.2.2.2.2.2.2.1)))))), ((cell_far (p := ⟨gb252, _, none⟩) NB240_252.out _).trans (((cell_far (p := ⟨gb252, _, none⟩) NB240_252.out _).trans (((cell_far (p := ⟨gb252, _, none⟩) NB240_252.out _).trans (hHeld.2.2.2.2.2.2.2.1)))))), ((cell_far (p := ⟨gb252, _, none⟩) NB240_252.out _).trans (((cell_far (p := ⟨gb252, _, none⟩) NB240_252.out _).trans (((cell_far (p := ⟨gb252, _, none⟩) NB240_252.out _).trans (hHeld.2.2.2.2.2.2.2.2))))))⟩ (fun hHeld => ?_)
     clear hK K
     refine done_ (by kernel_rfl) ?_
     have hnb57 := NB252_239.out
     have hnc57 := NB239_252.out
     have hnb58 := NB252_240.out
     have hnc58 := NB240_252.out
     have hnb59 := NB252_241.out
     have hnc59 := NB241_252.out
     have hnb60 := NB252_242.out
     have hnc60 := NB242_252.out
     have hcz61_0 : w53.cell? ⟨gb252, 0, none⟩ = some (.int .i64 0) := (blk_cell BK252.out 0).trans rfl
     have hcz61_1 : w53.cell? ⟨gb252, 1, none⟩ = some (.int .i64 0) := (blk_cell BK252.out 1).trans rfl
     have hcz61_2 : w53.cell? ⟨gb252, 2, none⟩ = some (.int .i64 0) := (blk_cell BK252.out 2).trans rfl
     have hfz61_0 := blk_frozen BK252.out 0
     have hfz61_1 := blk_frozen BK252.out 1
     have hfz61_2 := blk_frozen BK252.out 2
     try go_wp2_with (first | ((with_reducible refine gate_callee (f := 56) rfl ?_); refine goesL_ (some 29) rfl rfl Try.func56 (by kernel_rfl) rfl #[.agg #[.int .i64 t249, .int .i64 t250, .int .i64 t251]] rfl Gv.lm ?_; (with_reducible refine (impl_CarryOk.calls t249 t250 t251 true _ A47.out).mono ?_); rintro e w62 ⟨rfl, hb⟩; refine ⟨_, rfl, ?_⟩; have n0_ := Gv.a0 (blk_below (g := gb239) (o := .cells #[.int .i64 a0_0, .int .i64 a0_1, .int .i64 a0_2] 26 (0, 0)) Gv.bkf hb); have n1_ := Gv.a0 (blk_below (g := gb240) (o := .cells #[.int .i64 a1_0, .int .i64 a1_1, .int .i64 a1_2] 26 (0, 0)) Gv.bkf hb); have n2_ := Gv.a0 (blk_below (g := gb241) (o := .cells #[.int .i64 a2_0, .int .i64 a2_1, .int .i64 a2_2] 26 (0, 0)) Gv.bkf hb); have n3_ := Gv.a0 (blk_below (g := gb242) (o := .cells #[.int .i64 0, .int .i64 0, .int .i64 0] 26 (0, 0)) Gv.bkf hb); have n4_ := Gv.a0 (blk_below (g := gb252) (o := .cells #[.int .i64 t249, .int .i64 t250, .int .i64 t251] 26 (0, 0)) (by (with_reducible repeat (first | refine blk_drewN ?_ _ | refine blk_drew ?_ | refine blk_alloc ?_ _)); refine blk_put (cs := #[.int .i64 t249, .int .i64 t250, .int .i64 0]) ?_ 2 _ rfl; (with_reducible repeat (first | refine blk_drewN ?_ _ | refine blk_drew ?_ | refine blk_alloc ?_ _)); refine blk_put (cs := #[.int .i64 t249, .int .i64 0, .int .i64 0]) ?_ 1 _ rfl; (with_reducible repeat (first | refine blk_drewN ?_ _ | refine blk_drew ?_ | refine blk_alloc ?_ _)); refine blk_put (cs := #[.int .i64 0, .int .i64 0, .int .i64 0]) ?_ 0 _ rfl; (with_reducible repeat (first | refine blk_drewN ?_ _ | refine blk_drew ?_ | refine blk_alloc ?_ _)); exact BK252.out) hb); have n5_ := Gv.a0 (below_step Gv.bw hb); clear BK239; clear BK240; clear BK241; clear BK242; clear BK252; clear HB; have BK239 := n0_; have BK240 := n1_; have BK241 := n2_; have BK242 := n3_; have BK252 := n4_; have HB := n5_; clear n0_ n1_ n2_ n3_ n4_ n5_; (try clear hb); (try clear hb2); (try clear hk); (try clear hi); have hcz63_0 : w62.cell? ⟨gb252, 0, none⟩ = some (.int .i64 t249) := (blk_cell BK252.out 0).trans rfl; have hcz63_1 : w62.cell? ⟨gb252, 1, none⟩ = some (.int .i64 t250) := (blk_cell BK252.out 1).trans rfl; have hcz63_2 : w62.cell? ⟨gb252, 2, none⟩ = some (.int .i64 t251) := (blk_cell BK252.out 2).trans rfl; have hfz63_0 := blk_frozen BK252.out 0; have hfz63_1 := blk_frozen BK252.out 1; have hfz63_2 := blk_frozen BK252.out 2; have hnb64 := NB242_239.out; have hnc64 := NB239_242.out; have hnb65 := NB242_240.out; have hnc65 := NB240_242.out; have hnb66 := NB242_241.out; have hnc66 := NB241_242.out; have hcz67_0 : w62.cell? ⟨gb242, 0, none⟩ = some (.int .i64 0) := (blk_cell BK242.out 0).trans rfl; have hcz67_1 : w62.cell? ⟨gb242, 1, none⟩ = some (.int .i64 0) := (blk_cell BK242.out 1).trans rfl; have hcz67_2 : w62.cell? ⟨gb242, 2, none⟩ = some (.int .i64 0) := (blk_cell BK242.out 2).trans rfl; have hfz67_0 := blk_frozen BK242.out 0; have hfz67_1 := blk_frozen BK242.out 1; have hfz67_2 := blk_frozen BK242.out 2))
     refine bodyPost_ret (results_ct rfl _ _ gb242 26 #[.int .i64 t249, .int .i64 t250, .int .i64 t251] (0, 0) _ rfl (by (with_reducible repeat (first | refine blk_drewN ?_ _ | refine blk_drew ?_ | refine blk_alloc ?_ _)); refine blk_put (cs := #[.int .i64 t249, .int .i64 t250, .int .i64 0]) ?_ 2 _ rfl; (with_reducible repeat (first | refine blk_drewN ?_ _ | refine blk_drew ?_ | refine blk_alloc ?_ _)); refine blk_put (cs := #[.int .i64 t249, .int .i64 0, .int .i64 0]) ?_ 1 _ rfl; (with_reducible repeat (first | refine blk_drewN ?_ _ | refine blk_drew ?_ | refine blk_alloc ?_ _)); refine blk_put (cs := #[.int .i64 0, .int .i64 0, .int .i64 0]) ?_ 0 _ rfl; (with_reducible repeat (first | refine blk_drewN ?_ _ | refine blk_drew ?_ | refine blk_alloc ?_ _)); exact BK242.out) Try.underlying26 rfl (by kernel_rfl)) rfl ?_
     exact ⟨Gv.rt, Gv.bw⟩
    ·replace c48 := Bool.eq_false_iff.mpr c48
     subst c48
     have H1 : (some (0, 0, 0, false)) = some (r1, r2, r3, r4) := by rw [if_neg (show ¬ (false = true) by decide)] at H; exact H
     clear H
     have H := H1
     clear H1
     simp only [Option.some.injEq, Prod.mk.injEq] at H
     obtain ⟨rfl, rfl, rfl, rfl⟩ := H
     try go_wp2
     have n0_ := Gv.a0 (blk_drew BK239.out)
     have n1_ := Gv.a0 (blk_drew BK240.out)
     have n2_ := Gv.a0 (blk_drew BK241.out)
     have n3_ := Gv.a0 (blk_drew BK242.out)
     have n4_ := Gv.a0 (below_drew1 HB.out)
     clear BK239
     clear BK240
     clear BK241
     clear BK242
     clear HB
     have BK239 := n0_
     have BK240 := n1_
     have BK241 := n2_
     have BK242 := n3_
     have HB := n4_
     clear n0_ n1_ n2_ n3_ n4_
     refine start_ (n := 7) (S := fun w' => w'.cell? ⟨gb239, 0, none⟩ = some (.int .i64 a0_0) ∧ w'.cell? ⟨gb239, 1, none⟩ = some (.int .i64 a0_1) ∧ w'.cell? ⟨gb239, 2, none⟩ = some (.int .i64 a0_2) ∧ w'.cell? ⟨gb241, 0, none⟩ = some (.int .i64 a2_0) ∧ w'.cell? ⟨gb241, 1, none⟩ = some (.int .i64 a2_1) ∧ w'.cell? ⟨gb241, 2, none⟩ = some (.int .i64 a2_2) ∧ w'.cell? ⟨gb240, 0, none⟩ = some (.int .i64 a1_0) ∧ w'.cell? ⟨gb240, 1, none⟩ = some (.int .i64 a1_1) ∧ w'.cell? ⟨gb240, 2, none⟩ = some (.int .i64 a1_2)) (ds := []) #[false, false, false, false, false, false, false] (by kernel_rfl) rfl rfl ⟨(blk_cell BK239.out 0).trans rfl, (blk_cell BK239.out 1).trans rfl, (blk_cell BK239.out 2).trans rfl, (blk_cell BK241.out 0).trans rfl, (blk_cell BK241.out 1).trans rfl, (blk_cell BK241.out 2).trans rfl, (blk_cell BK240.out 0).trans rfl, (blk_cell BK240.out 1).trans rfl, (blk_cell BK240.out 2).trans rfl⟩ (fun hHeld => ?_)
     generalize wc.drew = w68 at BK239 BK240 BK241 BK242 HB hHeld ⊢
     refine take_ (i := 0) (N := some 23) (v := ?_) (a' := ?_) #[true, false, false, false, false, false, false] rfl rfl (by kernel_rfl) (fun _ _ _ h => h) (Or.inl ⟨by rfl, ?_⟩) hHeld ?_ ?_
     rotate_left
     ·rintro w' ⟨s0, s1, s2, s3, s4, s5, s6, s7, s8⟩
      go_simp
      with_reducible rfl
     rotate_left
     ·simp only [Act.put, List.setIfInBounds_toArray, List.set_cons_zero, List.set_cons_succ, i64_w, i32_w]
      rfl
     refine take_ (i := 1) (N := some 24) (v := ?_) (a' := ?_) #[true, true, false, false, false, false, false] rfl rfl (by kernel_rfl) (fun _ _ _ h => h) (Or.inl ⟨by rfl, ?_⟩) hHeld ?_ ?_
     rotate_left
     ·rintro w' ⟨s0, s1, s2, s3, s4, s5, s6, s7, s8⟩
      go_simp
      with_reducible rfl
     rotate_left
     ·simp only [Act.put, List.setIfInBounds_toArray, List.set_cons_zero, List.set_cons_succ, i64_w, i32_w]
      rfl
     refine take_ (i := 3) (N := some 26) (v := ?_) (a' := ?_) #[true, true, false, true, false, false, false] rfl rfl (by kernel_rfl) (fun _ _ _ h => h) (Or.inl ⟨by rfl, ?_⟩) hHeld ?_ ?_
     rotate_left
     ·rintro w' ⟨s0, s1, s2, s3, s4, s5, s6, s7, s8⟩
      go_simp
      with_reducible rfl
     rotate_left
     ·simp only [Act.put, List.setIfInBounds_toArray, List.set_cons_zero, List.set_cons_succ, i64_w, i32_w]
      rfl
     refine join_ (σ := Nat) 1 #[true, true, true, true, true, true, false] (fun s_ => [(25, .agg #[.int .i64 t246, .int .i64 t247, .int .i64 t248]), (27, .agg #[.int .i64 t249, .int .i64 t250, .int .i64 t251]), (8, .pointer (some ⟨s_, 0, none⟩))]) (fun s_ w' => (w'.cell? ⟨gb239, 0, none⟩ = some (.int .i64 a0_0) ∧ w'.cell? ⟨gb239, 1, none⟩ = some (.int .i64 a0_1) ∧ w'.cell? ⟨gb239, 2, none⟩ = some (.int .i64 a0_2) ∧ w'.cell? ⟨gb241, 0, none⟩ = some (.int .i64 a2_0) ∧ w'.cell? ⟨gb241, 1, none⟩ = some (.int .i64 a2_1) ∧ w'.cell? ⟨gb241, 2, none⟩ = some (.int .i64 a2_2) ∧ w'.cell? ⟨gb240, 0, none⟩ = some (.int .i64 a1_0) ∧ w'.cell? ⟨gb240, 1, none⟩ = some (.int .i64 a1_1) ∧ w'.cell? ⟨gb240, 2, none⟩ = some (.int .i64 a1_2)) ∧ (w'.heap[gb239]? = some (.cells #[.int .i64 a0_0, .int .i64 a0_1, .int .i64 a0_2] 26 (0, 0))) ∧ (w'.heap[gb240]? = some (.cells #[.int .i64 a1_0, .int .i64 a1_1, .int .i64 a1_2] 26 (0, 0))) ∧ (w'.heap[gb241]? = some (.cells #[.int .i64 a2_0, .int .i64 a2_1, .int .i64 a2_2] 26 (0, 0))) ∧ (w'.heap[gb242]? = some (.cells #[.int .i64 0, .int .i64 0, .int .i64 0] 26 (0, 0))) ∧ (w'.heap[s_]? = some (.cells #[.int .i64 0, .int .i64 0, .int .i64 0] 26 (0, 0))) ∧ (w.heap.size ≤ s_) ∧ (w.heap.size ≤ s_) ∧ (gb239 ≠ s_) ∧ (s_ ≠ gb239) ∧ (gb240 ≠ s_) ∧ (s_ ≠ gb240) ∧ (gb241 ≠ s_) ∧ (s_ ≠ gb241) ∧ (gb242 ≠ s_) ∧ (s_ ≠ gb242) ∧ (Below w.heap.size w w')) ?_ ?_
     rotate_left
     ·intro hCont
      refine two_ (i := 2) (j := 5) (Ni := some 25) (Nj := some 8) #[true, true, true, true, false, false, false] #[true, true, false, true, false, true, false] rfl rfl rfl rfl (by kernel_rfl) (by decide) (by decide) (fun K hK => ?_) (fun K hK => ?_)
      ·skip
       refine goes_ Try.func58 (by kernel_rfl) rfl #[.agg #[.int .i64 a0_0, .int .i64 a0_1, .int .i64 a0_2], .agg #[.int .i64 a2_0, .int .i64 a2_1, .int .i64 a2_2]] (by rfl) rfl rfl Gv.lm ?_
       with_reducible refine (impl_Vec_plus.calls a0_0 a0_1 a0_2 a2_0 a2_1 a2_2 t246 t247 t248 _ A45.out).mono ?_
       rintro e w69 ⟨rfl, hb⟩
       refine ⟨_, rfl, ?_⟩
       have n0_ := Gv.a0 (Gv.bb BK239.out hb)
       have n1_ := Gv.a0 (Gv.bb BK240.out hb)
       have n2_ := Gv.a0 (Gv.bb BK241.out hb)
       have n3_ := Gv.a0 (Gv.bb BK242.out hb)
       have n4_ := Gv.a0 (below_step Gv.bw hb)
       clear BK239
       clear BK240
       clear BK241
       clear BK242
       clear HB
       have BK239 := n0_
       have BK240 := n1_
       have BK241 := n2_
       have BK242 := n3_
       have HB := n4_
       clear n0_ n1_ n2_ n3_ n4_
       (try clear hb)
       (try clear hb2)
       (try clear hk)
       (try clear hi)
       refine hK.out _ _ ⟨(blk_cell BK239.out 0).trans rfl, (blk_cell BK239.out 1).trans rfl, (blk_cell BK239.out 2).trans rfl, (blk_cell BK241.out 0).trans rfl, (blk_cell BK241.out 1).trans rfl, (blk_cell BK241.out 2).trans rfl, (blk_cell BK240.out 0).trans rfl, (blk_cell BK240.out 1).trans rfl, (blk_cell BK240.out 2).trans rfl⟩ (fun hHeld => ?_)
       clear hK K
       refine norm_ (a' := ?_) ?_ ?_
       rotate_left
       ·show Act.put _ (some 25) _ = _
        simp only [Act.put, List.setIfInBounds_toArray, List.set_cons_zero, List.set_cons_succ, i64_w, i32_w]
        rfl
       refine two_ (i := 4) (j := 5) (Ni := some 27) (Nj := some 8) #[true, true, true, true, true, false, false] #[true, true, true, true, false, true, false] rfl rfl rfl rfl (by kernel_rfl) (by decide) (by decide) (fun K hK => ?_) (fun K hK => ?_)
       ·skip
        refine goes_ Try.func59 (by kernel_rfl) rfl #[.agg #[.int .i64 t246, .int .i64 t247, .int .i64 t248], .agg #[.int .i64 a1_0, .int .i64 a1_1, .int .i64 a1_2]] (by rfl) rfl rfl Gv.lm ?_
        with_reducible refine (impl_Vec_minus.calls t246 t247 t248 a1_0 a1_1 a1_2 t249 t250 t251 _ A46.out).mono ?_
        rintro e w70 ⟨rfl, hb⟩
        refine ⟨_, rfl, ?_⟩
        have n0_ := Gv.a0 (Gv.bb BK239.out hb)
        have n1_ := Gv.a0 (Gv.bb BK240.out hb)
        have n2_ := Gv.a0 (Gv.bb BK241.out hb)
        have n3_ := Gv.a0 (Gv.bb BK242.out hb)
        have n4_ := Gv.a0 (below_step Gv.bw hb)
        clear BK239
        clear BK240
        clear BK241
        clear BK242
        clear HB
        have BK239 := n0_
        have BK240 := n1_
        have BK241 := n2_
        have BK242 := n3_
        have HB := n4_
        clear n0_ n1_ n2_ n3_ n4_
        (try clear hb)
        (try clear hb2)
        (try clear hk)
        (try clear hi)
        refine hK.out _ _ ⟨(blk_cell BK239.out 0).trans rfl, (blk_cell BK239.out 1).trans rfl, (blk_cell BK239.out 2).trans rfl, (blk_cell BK241.out 0).trans rfl, (blk_cell BK241.out 1).trans rfl, (blk_cell BK241.out 2).trans rfl, (blk_cell BK240.out 0).trans rfl, (blk_cell BK240.out 1).trans rfl, (blk_cell BK240.out 2).trans rfl⟩ (fun hHeld => ?_)
        clear hK K
        refine norm_ (a' := ?_) ?_ ?_
        rotate_left
        ·show Act.put _ (some 27) _ = _
         simp only [Act.put, List.setIfInBounds_toArray, List.set_cons_zero, List.set_cons_succ, i64_w, i32_w]
         rfl
        refine one_ (i := 5) (N := some 8) #[true, true, true, true, true, true, false] rfl rfl (by kernel_rfl) (by decide) (fun K hK => ?_)
        refine box_step ?hg (N := 8) ?hd (cs := #[.int .i64 0, .int .i64 0, .int .i64 0]) (t := 26) ?hr ?_; (case hd => rfl); (case hg => rfl); (case hr => first | (go_simp; done) | (go_simp; rfl))
        intro gb252 hg w71 hbox hb
        have n0_ := Gv.a0 (Gv.bb BK239.out hb)
        have n1_ := Gv.a0 (Gv.bb BK240.out hb)
        have n2_ := Gv.a0 (Gv.bb BK241.out hb)
        have n3_ := Gv.a0 (Gv.bb BK242.out hb)
        have n4_ := Gv.a0 (below_step Gv.bw hb)
        have n5_ := Gv.a0 (hbox)
        have n6_ := Gv.a0 ((Gv.ble hg Gv.bw : w.heap.size ≤ gb252))
        have n7_ := Gv.a0 ((Gv.ble hg Gv.bw : w.heap.size ≤ gb252))
        have n8_ := Gv.a0 ((Gv.nlt hg (Gv.kb BK239.out) : gb239 ≠ gb252))
        have n9_ := Gv.a0 ((Gv.ngt hg (Gv.kb BK239.out) : gb252 ≠ gb239))
        have n10_ := Gv.a0 ((Gv.nlt hg (Gv.kb BK240.out) : gb240 ≠ gb252))
        have n11_ := Gv.a0 ((Gv.ngt hg (Gv.kb BK240.out) : gb252 ≠ gb240))
        have n12_ := Gv.a0 ((Gv.nlt hg (Gv.kb BK241.out) : gb241 ≠ gb252))
        have n13_ := Gv.a0 ((Gv.ngt hg (Gv.kb BK241.out) : gb252 ≠ gb241))
        have n14_ := Gv.a0 ((Gv.nlt hg (Gv.kb BK242.out) : gb242 ≠ gb252))
        have n15_ := Gv.a0 ((Gv.ngt hg (Gv.kb BK242.out) : gb252 ≠ gb242))
        clear BK239
        clear BK240
        clear BK241
        clear BK242
        clear HB
        have BK239 := n0_
        have BK240 := n1_
        have BK241 := n2_
        have BK242 := n3_
        have HB := n4_
        have BK252 := n5_
        have GW252 := n6_
        have GE252 := n7_
        have NB239_252 := n8_
        have NB252_239 := n9_
        have NB240_252 := n10_
        have NB252_240 := n11_
        have NB241_252 := n12_
        have NB252_241 := n13_
        have NB242_252 := n14_
        have NB252_242 := n15_
        clear n0_ n1_ n2_ n3_ n4_ n5_ n6_ n7_ n8_ n9_ n10_ n11_ n12_ n13_ n14_ n15_
        clear hb hbox hg
        refine hK.out _ _ ⟨(blk_cell BK239.out 0).trans rfl, (blk_cell BK239.out 1).trans rfl, (blk_cell BK239.out 2).trans rfl, (blk_cell BK241.out 0).trans rfl, (blk_cell BK241.out 1).trans rfl, (blk_cell BK241.out 2).trans rfl, (blk_cell BK240.out 0).trans rfl, (blk_cell BK240.out 1).trans rfl, (blk_cell BK240.out 2).trans rfl⟩ (fun hHeld => ?_)
        clear hK K
        refine norm_ (a' := ?_) ?_ ?_
        rotate_left
        ·show Act.put _ (some 8) _ = _
         simp only [Act.put, List.setIfInBounds_toArray, List.set_cons_zero, List.set_cons_succ, i64_w, i32_w]
         rfl
        exact norm_ (by simp only [putAll, Act.put, List.setIfInBounds_toArray, List.set_cons_zero, List.set_cons_succ]) (hCont (gb252) _ ⟨hHeld, Gv.bk, Gv.bk, Gv.bk, Gv.bk, Gv.bk, GW252.out, GE252.out, NB239_252.out, NB252_239.out, NB240_252.out, NB252_240.out, NB241_252.out, NB252_241.out, NB242_252.out, NB252_242.out, Gv.bw⟩)
       ·skip
        refine box_step ?hg (N := 8) ?hd (cs := #[.int .i64 0, .int .i64 0, .int .i64 0]) (t := 26) ?hr ?_; (case hd => rfl); (case hg => rfl); (case hr => first | (go_simp; done) | (go_simp; rfl))
        intro gb252 hg w70 hbox hb
        have n0_ := Gv.a0 (Gv.bb BK239.out hb)
        have n1_ := Gv.a0 (Gv.bb BK240.out hb)
        have n2_ := Gv.a0 (Gv.bb BK241.out hb)
        have n3_ := Gv.a0 (Gv.bb BK242.out hb)
        have n4_ := Gv.a0 (below_step Gv.bw hb)
        have n5_ := Gv.a0 (hbox)
        have n6_ := Gv.a0 ((Gv.ble hg Gv.bw : w.heap.size ≤ gb252))
        have n7_ := Gv.a0 ((Gv.ble hg Gv.bw : w.heap.size ≤ gb252))
        have n8_ := Gv.a0 ((Gv.nlt hg (Gv.kb BK239.out) : gb239 ≠ gb252))
        have n9_ := Gv.a0 ((Gv.ngt hg (Gv.kb BK239.out) : gb252 ≠ gb239))
        have n10_ := Gv.a0 ((Gv.nlt hg (Gv.kb BK240.out) : gb240 ≠ gb252))
        have n11_ := Gv.a0 ((Gv.ngt hg (Gv.kb BK240.out) : gb252 ≠ gb240))
        have n12_ := Gv.a0 ((Gv.nlt hg (Gv.kb BK241.out) : gb241 ≠ gb252))
        have n13_ := Gv.a0 ((Gv.ngt hg (Gv.kb BK241.out) : gb252 ≠ gb241))
        have n14_ := Gv.a0 ((Gv.nlt hg (Gv.kb BK242.out) : gb242 ≠ gb252))
        have n15_ := Gv.a0 ((Gv.ngt hg (Gv.kb BK242.out) : gb252 ≠ gb242))
        clear BK239
        clear BK240
        clear BK241
        clear BK242
        clear HB
        have BK239 := n0_
        have BK240 := n1_
        have BK241 := n2_
        have BK242 := n3_
        have HB := n4_
        have BK252 := n5_
        have GW252 := n6_
        have GE252 := n7_
        have NB239_252 := n8_
        have NB252_239 := n9_
        have NB240_252 := n10_
        have NB252_240 := n11_
        have NB241_252 := n12_
        have NB252_241 := n13_
        have NB242_252 := n14_
        have NB252_242 := n15_
        clear n0_ n1_ n2_ n3_ n4_ n5_ n6_ n7_ n8_ n9_ n10_ n11_ n12_ n13_ n14_ n15_
        clear hb hbox hg
        refine hK.out _ _ ⟨(blk_cell BK239.out 0).trans rfl, (blk_cell BK239.out 1).trans rfl, (blk_cell BK239.out 2).trans rfl, (blk_cell BK241.out 0).trans rfl, (blk_cell BK241.out 1).trans rfl, (blk_cell BK241.out 2).trans rfl, (blk_cell BK240.out 0).trans rfl, (blk_cell BK240.out 1).trans rfl, (blk_cell BK240.out 2).trans rfl⟩ (fun hHeld => ?_)
        clear hK K
        refine norm_ (a' := ?_) ?_ ?_
        rotate_left
        ·show Act.put _ (some 8) _ = _
         simp only [Act.put, List.setIfInBounds_toArray, List.set_cons_zero, List.set_cons_succ, i64_w, i32_w]
         rfl
        refine one_ (i := 4) (N := some 27) #[true, true, true, true, true, true, false] rfl rfl (by kernel_rfl) (by decide) (fun K hK => ?_)
        refine goes_ Try.func59 (by kernel_rfl) rfl #[.agg #[.int .i64 t246, .int .i64 t247, .int .i64 t248], .agg #[.int .i64 a1_0, .int .i64 a1_1, .int .i64 a1_2]] (by rfl) rfl rfl Gv.lm ?_
        with_reducible refine (impl_Vec_minus.calls t246 t247 t248 a1_0 a1_1 a1_2 t249 t250 t251 _ A46.out).mono ?_
        rintro e w71 ⟨rfl, hb⟩
        refine ⟨_, rfl, ?_⟩
        have n0_ := Gv.a0 (Gv.bb BK239.out hb)
        have n1_ := Gv.a0 (Gv.bb BK240.out hb)
        have n2_ := Gv.a0 (Gv.bb BK241.out hb)
        have n3_ := Gv.a0 (Gv.bb BK242.out hb)
        have n4_ := Gv.a0 (Gv.bb BK252.out hb)
        have n5_ := Gv.a0 (below_step Gv.bw hb)
        clear BK239
        clear BK240
        clear BK241
        clear BK242
        clear BK252
        clear HB
        have BK239 := n0_
        have BK240 := n1_
        have BK241 := n2_
        have BK242 := n3_
        have BK252 := n4_
        have HB := n5_
        clear n0_ n1_ n2_ n3_ n4_ n5_
        (try clear hb)
        (try clear hb2)
        (try clear hk)
        (try clear hi)
        refine hK.out _ _ ⟨(blk_cell BK239.out 0).trans rfl, (blk_cell BK239.out 1).trans rfl, (blk_cell BK239.out 2).trans rfl, (blk_cell BK241.out 0).trans rfl, (blk_cell BK241.out 1).trans rfl, (blk_cell BK241.out 2).trans rfl, (blk_cell BK240.out 0).trans rfl, (blk_cell BK240.out 1).trans rfl, (blk_cell BK240.out 2).trans rfl⟩ (fun hHeld => ?_)
        clear hK K
        refine norm_ (a' := ?_) ?_ ?_
        rotate_left
        ·show Act.put _ (some 27) _ = _
         simp only [Act.put, List.setIfInBounds_toArray, List.set_cons_zero, List.set_cons_succ, i64_w, i32_w]
         rfl
        exact norm_ (by simp only [putAll, Act.put, List.setIfInBounds_toArray, List.set_cons_zero, List.set_cons_succ]) (hCont (gb252) _ ⟨hHeld, Gv.bk, Gv.bk, Gv.bk, Gv.bk, Gv.bk, GW252.out, GE252.out, NB239_252.out, NB252_239.out, NB240_252.out, NB252_240.out, NB241_252.out, NB252_241.out, NB242_252.out, NB252_242.out, Gv.bw⟩)
      ·skip
       refine box_step ?hg (N := 8) ?hd (cs := #[.int .i64 0, .int .i64 0, .int .i64 0]) (t := 26) ?hr ?_; (case hd => rfl); (case hg => rfl); (case hr => first | (go_simp; done) | (go_simp; rfl))
       intro gb252 hg w69 hbox hb
       have n0_ := Gv.a0 (Gv.bb BK239.out hb)
       have n1_ := Gv.a0 (Gv.bb BK240.out hb)
       have n2_ := Gv.a0 (Gv.bb BK241.out hb)
       have n3_ := Gv.a0 (Gv.bb BK242.out hb)
       have n4_ := Gv.a0 (below_step Gv.bw hb)
       have n5_ := Gv.a0 (hbox)
       have n6_ := Gv.a0 ((Gv.ble hg Gv.bw : w.heap.size ≤ gb252))
       have n7_ := Gv.a0 ((Gv.ble hg Gv.bw : w.heap.size ≤ gb252))
       have n8_ := Gv.a0 ((Gv.nlt hg (Gv.kb BK239.out) : gb239 ≠ gb252))
       have n9_ := Gv.a0 ((Gv.ngt hg (Gv.kb BK239.out) : gb252 ≠ gb239))
       have n10_ := Gv.a0 ((Gv.nlt hg (Gv.kb BK240.out) : gb240 ≠ gb252))
       have n11_ := Gv.a0 ((Gv.ngt hg (Gv.kb BK240.out) : gb252 ≠ gb240))
       have n12_ := Gv.a0 ((Gv.nlt hg (Gv.kb BK241.out) : gb241 ≠ gb252))
       have n13_ := Gv.a0 ((Gv.ngt hg (Gv.kb BK241.out) : gb252 ≠ gb241))
       have n14_ := Gv.a0 ((Gv.nlt hg (Gv.kb BK242.out) : gb242 ≠ gb252))
       have n15_ := Gv.a0 ((Gv.ngt hg (Gv.kb BK242.out) : gb252 ≠ gb242))
       clear BK239
       clear BK240
       clear BK241
       clear BK242
       clear HB
       have BK239 := n0_
       have BK240 := n1_
       have BK241 := n2_
       have BK242 := n3_
       have HB := n4_
       have BK252 := n5_
       have GW252 := n6_
       have GE252 := n7_
       have NB239_252 := n8_
       have NB252_239 := n9_
       have NB240_252 := n10_
       have NB252_240 := n11_
       have NB241_252 := n12_
       have NB252_241 := n13_
       have NB242_252 := n14_
       have NB252_242 := n15_
       clear n0_ n1_ n2_ n3_ n4_ n5_ n6_ n7_ n8_ n9_ n10_ n11_ n12_ n13_ n14_ n15_
       clear hb hbox hg
       refine hK.out _ _ ⟨(blk_cell BK239.out 0).trans rfl, (blk_cell BK239.out 1).trans rfl, (blk_cell BK239.out 2).trans rfl, (blk_cell BK241.out 0).trans rfl, (blk_cell BK241.out 1).trans rfl, (blk_cell BK241.out 2).trans rfl, (blk_cell BK240.out 0).trans rfl, (blk_cell BK240.out 1).trans rfl, (blk_cell BK240.out 2).trans rfl⟩ (fun hHeld => ?_)
       clear hK K
       refine norm_ (a' := ?_) ?_ ?_
       rotate_left
       ·show Act.put _ (some 8) _ = _
        simp only [Act.put, List.setIfInBounds_toArray, List.set_cons_zero, List.set_cons_succ, i64_w, i32_w]
        rfl
       refine one_ (i := 2) (N := some 25) #[true, true, true, true, false, true, false] rfl rfl (by kernel_rfl) (by decide) (fun K hK => ?_)
       refine goes_ Try.func58 (by kernel_rfl) rfl #[.agg #[.int .i64 a0_0, .int .i64 a0_1, .int .i64 a0_2], .agg #[.int .i64 a2_0, .int .i64 a2_1, .int .i64 a2_2]] (by rfl) rfl rfl Gv.lm ?_
       with_reducible refine (impl_Vec_plus.calls a0_0 a0_1 a0_2 a2_0 a2_1 a2_2 t246 t247 t248 _ A45.out).mono ?_
       rintro e w70 ⟨rfl, hb⟩
       refine ⟨_, rfl, ?_⟩
       have n0_ := Gv.a0 (Gv.bb BK239.out hb)
       have n1_ := Gv.a0 (Gv.bb BK240.out hb)
       have n2_ := Gv.a0 (Gv.bb BK241.out hb)
       have n3_ := Gv.a0 (Gv.bb BK242.out hb)
       have n4_ := Gv.a0 (Gv.bb BK252.out hb)
       have n5_ := Gv.a0 (below_step Gv.bw hb)
       clear BK239
       clear BK240
       clear BK241
       clear BK242
       clear BK252
       clear HB
       have BK239 := n0_
       have BK240 := n1_
       have BK241 := n2_
       have BK242 := n3_
       have BK252 := n4_
       have HB := n5_
       clear n0_ n1_ n2_ n3_ n4_ n5_
       (try clear hb)
       (try clear hb2)
       (try clear hk)
       (try clear hi)
       refine hK.out _ _ ⟨(blk_cell BK239.out 0).trans rfl, (blk_cell BK239.out 1).trans rfl, (blk_cell BK239.out 2).trans rfl, (blk_cell BK241.out 0).trans rfl, (blk_cell BK241.out 1).trans rfl, (blk_cell BK241.out 2).trans rfl, (blk_cell BK240.out 0).trans rfl, (blk_cell BK240.out 1).trans rfl, (blk_cell BK240.out 2).trans rfl⟩ (fun hHeld => ?_)
       clear hK K
       refine norm_ (a' := ?_) ?_ ?_
       rotate_left
       ·show Act.put _ (some 25) _ = _
        simp only [Act.put, List.setIfInBounds_toArray, List.set_cons_zero, List.set_cons_succ, i64_w, i32_w]
        rfl
       refine one_ (i := 4) (N := some 27) #[true, true, true, true, true, true, false] rfl rfl (by kernel_rfl) (by decide) (fun K hK => ?_)
       refine goes_ Try.func59 (by kernel_rfl) rfl #[.agg #[.int .i64 t246, .int .i64 t247, .int .i64 t248], .agg #[.int .i64 a1_0, .int .i64 a1_1, .int .i64 a1_2]] (by rfl) rfl rfl Gv.lm ?_
       with_reducible refine (impl_Vec_minus.calls t246 t247 t248 a1_0 a1_1 a1_2 t249 t250 t251 _ A46.out).mono ?_
       rintro e w71 ⟨rfl, hb⟩
       refine ⟨_, rfl, ?_⟩
       have n0_ := Gv.a0 (Gv.bb BK239.out hb)
       have n1_ := Gv.a0 (Gv.bb BK240.out hb)
       have n2_ := Gv.a0 (Gv.bb BK241.out hb)
       have n3_ := Gv.a0 (Gv.bb BK242.out hb)
       have n4_ := Gv.a0 (Gv.bb BK252.out hb)
       have n5_ := Gv.a0 (below_step Gv.bw hb)
       clear BK239
       clear BK240
       clear BK241
       clear BK242
       clear BK252
       clear HB
       have BK239 := n0_
       have BK240 := n1_
       have BK241 := n2_
       have BK242 := n3_
       have BK252 := n4_
       have HB := n5_
       clear n0_ n1_ n2_ n3_ n4_ n5_
       (try clear hb)
       (try clear hb2)
       (try clear hk)
       (try clear hi)
       refine hK.out _ _ ⟨(blk_cell BK239.out 0).trans rfl, (blk_cell BK239.out 1).trans rfl, (blk_cell BK239.out 2).trans rfl, (blk_cell BK241.out 0).trans rfl, (blk_cell BK241.out 1).trans rfl, (blk_cell BK241.out 2).trans rfl, (blk_cell BK240.out 0).trans rfl, (blk_cell BK240.out 1).trans rfl, (blk_cell BK240.out 2).trans rfl⟩ (fun hHeld => ?_)
       clear hK K
       refine norm_ (a' := ?_) ?_ ?_
       rotate_left
       ·show Act.put _ (some 27) _ = _
        simp only [Act.put, List.setIfInBounds_toArray, List.set_cons_zero, List.set_cons_succ, i64_w, i32_w]
        rfl
       exact norm_ (by simp only [putAll, Act.put, List.setIfInBounds_toArray, List.set_cons_zero, List.set_cons_succ]) (hCont (gb252) _ ⟨hHeld, Gv.bk, Gv.bk, Gv.bk, Gv.bk, Gv.bk, GW252.out, GE252.out, NB239_252.out, NB252_239.out, NB240_252.out, NB252_240.out, NB241_252.out, NB252_241.out, NB242_252.out, NB252_242.out, Gv.bw⟩)
     rintro gb252 w72 ⟨hS_, h0_, h1_, h2_, h3_, h4_, h5_, h6_, h7_, h8_, h9_, h10_, h11_, h12_, h13_, h14_, h15_⟩
     have n0_ : Aside0 (w72.heap[gb239]? = some (.cells #[.int .i64 a0_0, .int .i64 a0_1, .int .i64 a0_2] 26 (0, 0))) := ⟨h0_⟩
     have n1_ : Aside0 (w72.heap[gb240]? = some (.cells #[.int .i64 a1_0, .int .i64 a1_1, .int .i64 a1_2] 26 (0, 0))) := ⟨h1_⟩
     have n2_ : Aside0 (w72.heap[gb241]? = some (.cells #[.int .i64 a2_0, .int .i64 a2_1, .int .i64 a2_2] 26 (0, 0))) := ⟨h2_⟩
     have n3_ : Aside0 (w72.heap[gb242]? = some (.cells #[.int .i64 0, .int .i64 0, .int .i64 0] 26 (0, 0))) := ⟨h3_⟩
     have n4_ : Aside0 (w72.heap[gb252]? = some (.cells #[.int .i64 0, .int .i64 0, .int .i64 0] 26 (0, 0))) := ⟨h4_⟩
     have n5_ : Aside0 (w.heap.size ≤ gb252) := ⟨h5_⟩
     have n6_ : Aside0 (w.heap.size ≤ gb252) := ⟨h6_⟩
     have n7_ : Aside0 (gb239 ≠ gb252) := ⟨h7_⟩
     have n8_ : Aside0 (gb252 ≠ gb239) := ⟨h8_⟩
     have n9_ : Aside0 (gb240 ≠ gb252) := ⟨h9_⟩
     have n10_ : Aside0 (gb252 ≠ gb240) := ⟨h10_⟩
     have n11_ : Aside0 (gb241 ≠ gb252) := ⟨h11_⟩
     have n12_ : Aside0 (gb252 ≠ gb241) := ⟨h12_⟩
     have n13_ : Aside0 (gb242 ≠ gb252) := ⟨h13_⟩
     have n14_ : Aside0 (gb252 ≠ gb242) := ⟨h14_⟩
     have n15_ : Aside0 (Below w.heap.size w w72) := ⟨h15_⟩
     clear BK239
     clear BK240
     clear BK241
     clear BK242
     clear HB
     clear h0_ h1_ h2_ h3_ h4_ h5_ h6_ h7_ h8_ h9_ h10_ h11_ h12_ h13_ h14_ h15_
     have BK239 := n0_
     have BK240 := n1_
     have BK241 := n2_
     have BK242 := n3_
     have BK252 := n4_
     have GW252 := n5_
     have GE252 := n6_
     have NB239_252 := n7_
     have NB252_239 := n8_
     have NB240_252 := n9_
     have NB252_240 := n10_
     have NB241_252 := n11_
     have NB252_241 := n12_
     have NB242_252 := n13_
     have NB252_242 := n14_
     have HB := n15_
     clear n0_ n1_ n2_ n3_ n4_ n5_ n6_ n7_ n8_ n9_ n10_ n11_ n12_ n13_ n14_ n15_
     have hHeld : w72.cell? ⟨gb239, 0, none⟩ = some (.int .i64 a0_0) ∧ w72.cell? ⟨gb239, 1, none⟩ = some (.int .i64 a0_1) ∧ w72.cell? ⟨gb239, 2, none⟩ = some (.int .i64 a0_2) ∧ w72.cell? ⟨gb241, 0, none⟩ = some (.int .i64 a2_0) ∧ w72.cell? ⟨gb241, 1, none⟩ = some (.int .i64 a2_1) ∧ w72.cell? ⟨gb241, 2, none⟩ = some (.int .i64 a2_2) ∧ w72.cell? ⟨gb240, 0, none⟩ = some (.int .i64 a1_0) ∧ w72.cell? ⟨gb240, 1, none⟩ = some (.int .i64 a1_1) ∧ w72.cell? ⟨gb240, 2, none⟩ = some (.int .i64 a1_2) := hS_
     refine norm_ (a' := ?_) ?_ ?_
     rotate_left
     ·simp only [putAll, Act.put, List.setIfInBounds_toArray, List.set_cons_zero, List.set_cons_succ]
      rfl
     refine one_ (i := 6) (N := none) #[true, true, true, true, true, true, true] rfl rfl (by kernel_rfl) (by decide) (fun K hK => ?_)
     have hs73 : w72.cell? ⟨gb252, 0, none⟩ = some (.int .i64 0) := (blk_cell BK252.out 0).trans rfl
     have hfs73 := blk_frozen BK252.out 0
     have hns73_0 := NB239_252.out
     have hns73_1 := NB240_252.out
     have hns73_2 := NB241_252.out
     have hns73_3 := NB242_252.out
     have hms73_0 := NB252_239.out
     have hms73_1 := NB252_240.out
     have hms73_2 := NB252_241.out
     have hms73_3 := NB252_242.out
     have hs74 : w72.cell? ⟨gb252, 1, none⟩ = some (.int .i64 0) := (blk_cell BK252.out 1).trans rfl
     have hfs74 := blk_frozen BK252.out 1
     have hns74_0 := NB239_252.out
     have hns74_1 := NB240_252.out
     have hns74_2 := NB241_252.out
     have hns74_3 := NB242_252.out
     have hms74_0 := NB252_239.out
     have hms74_1 := NB252_240.out
     have hms74_2 := NB252_241.out
     have hms74_3 := NB252_242.out
     have hs75 : w72.cell? ⟨gb252, 2, none⟩ = some (.int .i64 0) := (blk_cell BK252.out 2).trans rfl
     have hfs75 := blk_frozen BK252.out 2
     have hns75_0 := NB239_252.out
     have hns75_1 := NB240_252.out
     have hns75_2 := NB241_252.out
     have hns75_3 := NB242_252.out
     have hms75_0 := NB252_239.out
     have hms75_1 := NB252_240.out
     have hms75_2 := NB252_241.out
     have hms75_3 := NB252_242.out
     refine skip_ (w1 := ?_) (by rfl) rfl ?_ ?_
     rotate_left
     ·go_simp
      rfl
     refine hK.out _ _ ⟨((cell_far (p := ⟨gb252, _, none⟩) NB239_252.out _).trans (((cell_far (p := ⟨gb252, _, none⟩) NB239_252.out _).trans (((cell_far (p := ⟨gb252, _, none⟩) NB239_252.out _).trans (hHeld.1)))))), ((cell_far (p := ⟨gb252, _, none⟩) NB239_252.out _).trans (((cell_far (p := ⟨gb252, _, none⟩) NB239_252.out _).trans (((cell_far (p := ⟨gb252, _, none⟩) NB239_252.out _).trans (hHeld.2.1)))))), ((cell_far (p := ⟨gb252, _, none⟩) NB239_252.out _).trans (((cell_far (p := ⟨gb252, _, none⟩) NB239_252.out _).trans (((cell_far (p := ⟨gb252, _, none⟩) NB239_252.out _).trans (hHeld.2.2.1)))))), ((cell_far (p := ⟨gb252, _, none⟩) NB241_252.out _).trans (((cell_far (p := ⟨gb252, _, none⟩) NB241_252.out _).trans (((cell_far (p := ⟨gb252, _, none⟩) NB241_252.out _).trans (hHeld.2.2.2.1)))))), ((cell_far (p := ⟨gb252, _, none⟩) NB241_252.out _).trans (((cell_far (p := ⟨gb252, _, none⟩) NB241_252.out _).trans (((cell_far (p := ⟨gb252, _, none⟩) NB241_252.out _).trans (hHeld.2.2.2.2.1)))))), ((cell_far (p := ⟨gb252, _, none⟩) NB241_252.out _).trans (((cell_far (p := ⟨gb252, _, none⟩) NB241_252.out _).trans (((cell_far (p := ⟨gb252, _, none⟩) NB241_252.out _).trans (hHeld.2.2.2.2.2.1)))))), ((cell_far (p := ⟨gb252, _, none⟩) NB240_252.out _).trans (((cell_far (p := ⟨gb252, _, none⟩) NB240_252.out _).trans (((cell_far (p := ⟨gb252, _, none⟩) NB240_252.out _).trans (hHeld.2.2.2.2.2.2.1)))))), ((cell_far (p := ⟨gb252, _, none⟩) NB240_252.out _).trans (((cell_far (p := ⟨gb252, _, none⟩) NB240_252.out _).trans (((cell_far (p := ⟨gb252, _, none⟩) NB240_252.out _).trans (hHeld.2.2.2.2.2.2.2.1)))))), ((cell_far (p := ⟨gb252, _, none⟩) NB240_252.out _).trans (((cell_far (p := ⟨gb252, _, none⟩) NB240_252.out _).trans (((cell_far (p := ⟨gb252, _, none⟩) NB240_252.out _).trans (hHeld.2.2.2.2.2.2.2.2))))))⟩ (fun hHeld => ?_)
     clear hK K
     refine done_ (by kernel_rfl) ?_
     have hnb76 := NB252_239.out
     have hnc76 := NB239_252.out
     have hnb77 := NB252_240.out
     have hnc77 := NB240_252.out
     have hnb78 := NB252_241.out
     have hnc78 := NB241_252.out
     have hnb79 := NB252_242.out
     have hnc79 := NB242_252.out
     have hcz80_0 : w72.cell? ⟨gb252, 0, none⟩ = some (.int .i64 0) := (blk_cell BK252.out 0).trans rfl
     have hcz80_1 : w72.cell? ⟨gb252, 1, none⟩ = some (.int .i64 0) := (blk_cell BK252.out 1).trans rfl
     have hcz80_2 : w72.cell? ⟨gb252, 2, none⟩ = some (.int .i64 0) := (blk_cell BK252.out 2).trans rfl
     have hfz80_0 := blk_frozen BK252.out 0
     have hfz80_1 := blk_frozen BK252.out 1
     have hfz80_2 := blk_frozen BK252.out 2
     try go_wp2_with (first | ((with_reducible refine gate_callee (f := 56) rfl ?_); refine goesL_ (some 29) rfl rfl Try.func56 (by kernel_rfl) rfl #[.agg #[.int .i64 t249, .int .i64 t250, .int .i64 t251]] rfl Gv.lm ?_; (with_reducible refine (impl_CarryOk.calls t249 t250 t251 false _ A47.out).mono ?_); rintro e w81 ⟨rfl, hb⟩; refine ⟨_, rfl, ?_⟩; have n0_ := Gv.a0 (blk_below (g := gb239) (o := .cells #[.int .i64 a0_0, .int .i64 a0_1, .int .i64 a0_2] 26 (0, 0)) Gv.bkf hb); have n1_ := Gv.a0 (blk_below (g := gb240) (o := .cells #[.int .i64 a1_0, .int .i64 a1_1, .int .i64 a1_2] 26 (0, 0)) Gv.bkf hb); have n2_ := Gv.a0 (blk_below (g := gb241) (o := .cells #[.int .i64 a2_0, .int .i64 a2_1, .int .i64 a2_2] 26 (0, 0)) Gv.bkf hb); have n3_ := Gv.a0 (blk_below (g := gb242) (o := .cells #[.int .i64 0, .int .i64 0, .int .i64 0] 26 (0, 0)) Gv.bkf hb); have n4_ := Gv.a0 (blk_below (g := gb252) (o := .cells #[.int .i64 t249, .int .i64 t250, .int .i64 t251] 26 (0, 0)) (by (with_reducible repeat (first | refine blk_drewN ?_ _ | refine blk_drew ?_ | refine blk_alloc ?_ _)); refine blk_put (cs := #[.int .i64 t249, .int .i64 t250, .int .i64 0]) ?_ 2 _ rfl; (with_reducible repeat (first | refine blk_drewN ?_ _ | refine blk_drew ?_ | refine blk_alloc ?_ _)); refine blk_put (cs := #[.int .i64 t249, .int .i64 0, .int .i64 0]) ?_ 1 _ rfl; (with_reducible repeat (first | refine blk_drewN ?_ _ | refine blk_drew ?_ | refine blk_alloc ?_ _)); refine blk_put (cs := #[.int .i64 0, .int .i64 0, .int .i64 0]) ?_ 0 _ rfl; (with_reducible repeat (first | refine blk_drewN ?_ _ | refine blk_drew ?_ | refine blk_alloc ?_ _)); exact BK252.out) hb); have n5_ := Gv.a0 (below_step Gv.bw hb); clear BK239; clear BK240; clear BK241; clear BK242; clear BK252; clear HB; have BK239 := n0_; have BK240 := n1_; have BK241 := n2_; have BK242 := n3_; have BK252 := n4_; have HB := n5_; clear n0_ n1_ n2_ n3_ n4_ n5_; (try clear hb); (try clear hb2); (try clear hk); (try clear hi); have hnb82 := NB242_239.out; have hnc82 := NB239_242.out; have hnb83 := NB242_240.out; have hnc83 := NB240_242.out; have hnb84 := NB242_241.out; have hnc84 := NB241_242.out; have hcz85_0 : w81.cell? ⟨gb242, 0, none⟩ = some (.int .i64 0) := (blk_cell BK242.out 0).trans rfl; have hcz85_1 : w81.cell? ⟨gb242, 1, none⟩ = some (.int .i64 0) := (blk_cell BK242.out 1).trans rfl; have hcz85_2 : w81.cell? ⟨gb242, 2, none⟩ = some (.int .i64 0) := (blk_cell BK242.out 2).trans rfl; have hfz85_0 := blk_frozen BK242.out 0; have hfz85_1 := blk_frozen BK242.out 1; have hfz85_2 := blk_frozen BK242.out 2))
     refine bodyPost_ret (results_ct rfl _ _ gb242 26 #[.int .i64 0, .int .i64 0, .int .i64 0] (0, 0) _ rfl (by (with_reducible repeat (first | refine blk_drewN ?_ _ | refine blk_drew ?_ | refine blk_alloc ?_ _)); refine blk_put (cs := #[.int .i64 0, .int .i64 0, .int .i64 0]) ?_ 2 _ rfl; (with_reducible repeat (first | refine blk_drewN ?_ _ | refine blk_drew ?_ | refine blk_alloc ?_ _)); refine blk_put (cs := #[.int .i64 0, .int .i64 0, .int .i64 0]) ?_ 1 _ rfl; (with_reducible repeat (first | refine blk_drewN ?_ _ | refine blk_drew ?_ | refine blk_alloc ?_ _)); refine blk_put (cs := #[.int .i64 0, .int .i64 0, .int .i64 0]) ?_ 0 _ rfl; (with_reducible repeat (first | refine blk_drewN ?_ _ | refine blk_drew ?_ | refine blk_alloc ?_ _)); exact BK242.out) Try.underlying26 rfl (by kernel_rfl)) rfl ?_
     exact ⟨Gv.rt, Gv.bw⟩

/-! ### impl_Vec_each: function 51 -/
def impl_Vec_each.f (Fo : Int → Option Int) (a0_0 : Int) (a0_1 : Int) (a0_2 : Int) : Option (Int × Int × Int) := (Fo a0_0).bind fun t256 => ((Fo a0_1).bind fun t257 => ((Fo a0_2).bind fun t258 => (some (t256, t257, t258))))
def impl_Vec_each.T1 : Bool × List (List Nat × List Nat) := (true, [([], []), ([], []), ([1], [1]), ([0, 2], [0, 2]), ([], []), ([], []), ([5], [5]), ([4, 6, 3], [4, 6]), ([], []), ([], []), ([9], [9]), ([8, 10, 7], [8, 10]), ([3, 7, 11], [3, 7, 11]), ([12, 11, 0, 1, 2, 3, 4, 5, 6, 7, 8, 9, 10, 11, 12], [12])])
def impl_Vec_each.B1 : List Nat := [0, 0, 2, 7, 0, 0, 32, 127, 0, 0, 512, 2047, 4095, 8191]
theorem impl_Vec_each.tab1 : rtab .any (opsOf Try.f51 1) = impl_Vec_each.T1 := by kernel_rfl
theorem impl_Vec_each.bits1 : waitsOk impl_Vec_each.T1.2 impl_Vec_each.B1 = true := by kernel_rfl
set_option maxHeartbeats 8000000 in
set_option maxRecDepth 100000 in
theorem impl_Vec_each.gen (fn : Nat) (fnc : Func) (hfn_ : Try.prog.funcs[fn]? = some fnc) (hnm_ : (fnc.name == "runtime.NumGoroutine") = false) (hbd_ : fnc.body.isSome = true) (lb : Array Value) (Fo : Int → Option Int) (a0_0 : Int) (a0_1 : Int) (a0_2 : Int) (r1 : Int) (r2 : Int) (r3 : Int) (w : World) (hfo_ : ∀ (W : World) (x0 : Int) (r : Int), Below w.heap.size w W → Fo x0 = some r → Calls Try.prog fn (#[.int .i64 x0] ++ lb) W fun e w' => e = .returned (.int .i64 r) ∧ Below W.heap.size W w') (h : impl_Vec_each.f Fo a0_0 a0_1 a0_2 = some (r1, r2, r3)) :
  Calls Try.prog 51 #[.agg #[.int .i64 a0_0, .int .i64 a0_1, .int .i64 a0_2], .func (.func fn) #[] lb] w fun e w' => e = .returned (.agg #[.int .i64 r1, .int .i64 r2, .int .i64 r3]) ∧ Below w.heap.size w w' := by
 have HFo := Gv.a0 hfo_
 clear hfo_
 have hu26 := Try.underlying26
 have HB := Gv.a0 (Below.refl w.heap.size w)
 have H : ((Fo a0_0).bind fun t256 => ((Fo a0_1).bind fun t257 => ((Fo a0_2).bind fun t258 => (some (t256, t257, t258))))) = some (r1, r2, r3) := h
 clear h
 replace H := Option.bind_eq_some_iff.mp H
 obtain ⟨t256, A20, H⟩ := H
 replace H : ((Fo a0_1).bind fun t257 => ((Fo a0_2).bind fun t258 => (some (t256, t257, t258)))) = some (r1, r2, r3) := H
 have A2 := Gv.a0 A20
 clear A20
 replace H := Option.bind_eq_some_iff.mp H
 obtain ⟨t257, A30, H⟩ := H
 replace H : ((Fo a0_2).bind fun t258 => (some (t256, t257, t258))) = some (r1, r2, r3) := H
 have A3 := Gv.a0 A30
 clear A30
 replace H := Option.bind_eq_some_iff.mp H
 obtain ⟨t258, A40, H⟩ := H
 replace H : (some (t256, t257, t258)) = some (r1, r2, r3) := H
 have A4 := Gv.a0 A40
 clear A40
 simp only [Option.some.injEq, Prod.mk.injEq] at H
 obtain ⟨rfl, rfl, rfl⟩ := H
 go_enter Try.func51, Try.ntmps51
 try go_wp2_with (first | ((with_reducible refine gate_dst (N := 2) rfl ?_); refine box_event ?hg (N := 2) ?hd (cs := #[.int .i64 a0_0, .int .i64 a0_1, .int .i64 a0_2]) (t := 26) ?hr ?_; (case hd => rfl); (case hg => rfl); (case hr => first | (go_simp; done) | (go_simp; rfl)); intro gb254 hg w5 hbox hb; have n0_ := Gv.a0 (below_step Gv.bw hb); have n1_ := Gv.a0 (hbox); have n2_ := Gv.a0 ((Gv.ble hg Gv.bw : w.heap.size ≤ gb254)); have n3_ := Gv.a0 ((Gv.ble hg Gv.bw : w.heap.size ≤ gb254)); clear HB; have HB := n0_; have BK254 := n1_; have GW254 := n2_; have GE254 := n3_; clear n0_ n1_ n2_ n3_; clear hb hbox hg) | ((with_reducible refine gate_dst (N := 4) rfl ?_); refine box_event ?hg (N := 4) ?hd (cs := #[.int .i64 0, .int .i64 0, .int .i64 0]) (t := 26) ?hr ?_; (case hd => rfl); (case hg => rfl); (case hr => first | (go_simp; done) | (go_simp; rfl)); intro gb255 hg w6 hbox hb; have n0_ := Gv.a0 (Gv.bb BK254.out hb); have n1_ := Gv.a0 (below_step Gv.bw hb); have n2_ := Gv.a0 (hbox); have n3_ := Gv.a0 ((Gv.ble hg Gv.bw : w.heap.size ≤ gb255)); have n4_ := Gv.a0 ((Gv.ble hg Gv.bw : w.heap.size ≤ gb255)); have n5_ := Gv.a0 ((Gv.nlt hg (Gv.kb BK254.out) : gb254 ≠ gb255)); have n6_ := Gv.a0 ((Gv.ngt hg (Gv.kb BK254.out) : gb255 ≠ gb254)); clear BK254; clear HB; have BK254 := n0_; have HB := n1_; have BK255 := n2_; have GW255 := n3_; have GE255 := n4_; have NB254_255 := n5_; have NB255_254 := n6_; clear n0_ n1_ n2_ n3_ n4_ n5_ n6_; clear hb hbox hg))
 have n0_ := Gv.a0 (blk_drew BK254.out)
 have n1_ := Gv.a0 (blk_drew BK255.out)
 have n2_ := Gv.a0 (below_drew1 HB.out)
 clear BK254
 clear BK255
 clear HB
 have BK254 := n0_
 have BK255 := n1_
 have HB := n2_
 clear n0_ n1_ n2_
 refine start_ (n := 14) (S := fun w' => w'.cell? ⟨gb254, 0, none⟩ = some (.int .i64 a0_0) ∧ w'.cell? ⟨gb254, 1, none⟩ = some (.int .i64 a0_1) ∧ w'.cell? ⟨gb254, 2, none⟩ = some (.int .i64 a0_2)) (ds := []) #[false, false, false, false, false, false, false, false, false, false, false, false, false, false] (by kernel_rfl) rfl rfl ⟨(blk_cell BK254.out 0).trans rfl, (blk_cell BK254.out 1).trans rfl, (blk_cell BK254.out 2).trans rfl⟩ (fun hHeld => ?_); refine with_tabW impl_Vec_each.tab1 impl_Vec_each.bits1 (fun HT_ HW_ => ?_)
 generalize w6.drew = w7 at BK254 BK255 HB hHeld ⊢
 refine Gv.pu 0 (some 5) HT_ ?_
 refine Gv.pu 1 (some 6) HT_ ?_
 refine Gv.pu 4 (some 9) HT_ ?_
 refine Gv.pu 5 (some 10) HT_ ?_
 refine Gv.pu 8 (some 13) HT_ ?_
 refine Gv.pu 9 (some 14) HT_ ?_
 refine take_ (i := 2) (N := some 7) (v := ?_) (a' := ?_) #[true, true, true, false, true, true, false, false, true, true, false, false, false, false] rfl rfl (take_ofW HT_.out HW_.out (by kernel_rfl)) (fun _ _ _ h => h) (Or.inl ⟨by rfl, ?_⟩) hHeld ?_ ?_
 rotate_left
 ·rintro w' ⟨s0, s1, s2⟩
  go_simp
  with_reducible rfl
 rotate_left
 ·simp only [Act.put, List.setIfInBounds_toArray, List.set_cons_zero, List.set_cons_succ, i64_w, i32_w]
  rfl
 refine take_ (i := 6) (N := some 11) (v := ?_) (a' := ?_) #[true, true, true, false, true, true, true, false, true, true, false, false, false, false] rfl rfl (take_ofW HT_.out HW_.out (by kernel_rfl)) (fun _ _ _ h => h) (Or.inl ⟨by rfl, ?_⟩) hHeld ?_ ?_
 rotate_left
 ·rintro w' ⟨s0, s1, s2⟩
  go_simp
  with_reducible rfl
 rotate_left
 ·simp only [Act.put, List.setIfInBounds_toArray, List.set_cons_zero, List.set_cons_succ, i64_w, i32_w]
  rfl
 refine take_ (i := 10) (N := some 15) (v := ?_) (a' := ?_) #[true, true, true, false, true, true, true, false, true, true, true, false, false, false] rfl rfl (take_ofW HT_.out HW_.out (by kernel_rfl)) (fun _ _ _ h => h) (Or.inl ⟨by rfl, ?_⟩) hHeld ?_ ?_
 rotate_left
 ·rintro w' ⟨s0, s1, s2⟩
  go_simp
  with_reducible rfl
 rotate_left
 ·simp only [Act.put, List.setIfInBounds_toArray, List.set_cons_zero, List.set_cons_succ, i64_w, i32_w]
  rfl
 refine one_ (i := 3) (N := some 8) #[true, true, true, true, true, true, true, false, true, true, true, false, false, false] rfl rfl (one_of HT_.out (by kernel_rfl)) (by decide) (fun K hK => ?_)
 refine Gv.goesV_ hfn_ hnm_ hbd_ #[.int .i64 a0_0] lb (by rfl) rfl rfl rfl Gv.lm ?_
 with_reducible refine (HFo.out _ a0_0 t256 HB.out A2.out).mono ?_
 rintro e w8 ⟨rfl, hb⟩
 refine ⟨_, rfl, ?_⟩
 have n0_ := Gv.a0 (Gv.bb BK254.out hb)
 have n1_ := Gv.a0 (Gv.bb BK255.out hb)
 have n2_ := Gv.a0 (below_step Gv.bw hb)
 clear BK254
 clear BK255
 clear HB
 have BK254 := n0_
 have BK255 := n1_
 have HB := n2_
 clear n0_ n1_ n2_
 (try clear hb)
 (try clear hb2)
 (try clear hk)
 (try clear hi)
 refine hK.out _ _ ⟨(blk_cell BK254.out 0).trans rfl, (blk_cell BK254.out 1).trans rfl, (blk_cell BK254.out 2).trans rfl⟩ (fun hHeld => ?_)
 clear hK K
 refine norm_ (a' := ?_) ?_ ?_
 rotate_left
 ·show Act.put _ (some 8) _ = _
  simp only [Act.put, List.setIfInBounds_toArray, List.set_cons_zero, List.set_cons_succ, i64_w, i32_w]
  rfl
 refine one_ (i := 7) (N := some 12) #[true, true, true, true, true, true, true, true, true, true, true, false, false, false] rfl rfl (one_of HT_.out (by kernel_rfl)) (by decide) (fun K hK => ?_)
 refine Gv.goesV_ hfn_ hnm_ hbd_ #[.int .i64 a0_1] lb (by rfl) rfl rfl rfl Gv.lm ?_
 with_reducible refine (HFo.out _ a0_1 t257 HB.out A3.out).mono ?_
 rintro e w9 ⟨rfl, hb⟩
 refine ⟨_, rfl, ?_⟩
 have n0_ := Gv.a0 (Gv.bb BK254.out hb)
 have n1_ := Gv.a0 (Gv.bb BK255.out hb)
 have n2_ := Gv.a0 (below_step Gv.bw hb)
 clear BK254
 clear BK255
 clear HB
 have BK254 := n0_
 have BK255 := n1_
 have HB := n2_
 clear n0_ n1_ n2_
 (try clear hb)
 (try clear hb2)
 (try clear hk)
 (try clear hi)
 refine hK.out _ _ ⟨(blk_cell BK254.out 0).trans rfl, (blk_cell BK254.out 1).trans rfl, (blk_cell BK254.out 2).trans rfl⟩ (fun hHeld => ?_)
 clear hK K
 refine norm_ (a' := ?_) ?_ ?_
 rotate_left
 ·show Act.put _ (some 12) _ = _
  simp only [Act.put, List.setIfInBounds_toArray, List.set_cons_zero, List.set_cons_succ, i64_w, i32_w]
  rfl
 refine one_ (i := 11) (N := some 16) #[true, true, true, true, true, true, true, true, true, true, true, true, false, false] rfl rfl (one_of HT_.out (by kernel_rfl)) (by decide) (fun K hK => ?_)
 refine Gv.goesV_ hfn_ hnm_ hbd_ #[.int .i64 a0_2] lb (by rfl) rfl rfl rfl Gv.lm ?_
 with_reducible refine (HFo.out _ a0_2 t258 HB.out A4.out).mono ?_
 rintro e w10 ⟨rfl, hb⟩
 refine ⟨_, rfl, ?_⟩
 have n0_ := Gv.a0 (Gv.bb BK254.out hb)
 have n1_ := Gv.a0 (Gv.bb BK255.out hb)
 have n2_ := Gv.a0 (below_step Gv.bw hb)
 clear BK254
 clear BK255
 clear HB
 have BK254 := n0_
 have BK255 := n1_
 have HB := n2_
 clear n0_ n1_ n2_
 (try clear hb)
 (try clear hb2)
 (try clear hk)
 (try clear hi)
 refine hK.out _ _ ⟨(blk_cell BK254.out 0).trans rfl, (blk_cell BK254.out 1).trans rfl, (blk_cell BK254.out 2).trans rfl⟩ (fun hHeld => ?_)
 clear hK K
 refine norm_ (a' := ?_) ?_ ?_
 rotate_left
 ·show Act.put _ (some 16) _ = _
  simp only [Act.put, List.setIfInBounds_toArray, List.set_cons_zero, List.set_cons_succ, i64_w, i32_w]
  rfl
 refine Gv.pu 12 (some 17) HT_ ?_
 refine one_ (i := 13) (N := none) #[true, true, true, true, true, true, true, true, true, true, true, true, true, true] rfl rfl (one_of HT_.out (by kernel_rfl)) (by decide) (fun K hK => ?_)
 have hs11 : w10.cell? ⟨gb255, 0, none⟩ = some (.int .i64 0) := (blk_cell BK255.out 0).trans rfl
 have hfs11 := blk_frozen BK255.out 0
 have hns11_0 := NB254_255.out
 have hms11_0 := NB255_254.out
 have hs12 : w10.cell? ⟨gb255, 1, none⟩ = some (.int .i64 0) := (blk_cell BK255.out 1).trans rfl
 have hfs12 := blk_frozen BK255.out 1
 have hns12_0 := NB254_255.out
 have hms12_0 := NB255_254.out
 have hs13 : w10.cell? ⟨gb255, 2, none⟩ = some (.int .i64 0) := (blk_cell BK255.out 2).trans rfl
 have hfs13 := blk_frozen BK255.out 2
 have hns13_0 := NB254_255.out
 have hms13_0 := NB255_254.out
 refine skip_ (w1 := ?_) (by rfl) rfl ?_ ?_
 rotate_left
 ·go_simp
  rfl
 refine hK.out _ _ ⟨((cell_far (p := ⟨gb255, _, none⟩) NB254_255.out _).trans (((cell_far (p := ⟨gb255, _, none⟩) NB254_255.out _).trans (((cell_far (p := ⟨gb255, _, none⟩) NB254_255.out _).trans (hHeld.1)))))), ((cell_far (p := ⟨gb255, _, none⟩) NB254_255.out _).trans (((cell_far (p := ⟨gb255, _, none⟩) NB254_255.out _).trans (((cell_far (p := ⟨gb255, _, none⟩) NB254_255.out _).trans (hHeld.2.1)))))), ((cell_far (p := ⟨gb255, _, none⟩) NB254_255.out _).trans (((cell_far (p := ⟨gb255, _, none⟩) NB254_255.out _).trans (((cell_far (p := ⟨gb255, _, none⟩) NB254_255.out _).trans (hHeld.2.2))))))⟩ (fun hHeld => ?_)
 clear hK K
 refine done_ (done_of HT_.out (by kernel_rfl)) ?_
 try go_wp2
 refine bodyPost_ret (results_cell_row rfl _ _ gb255 26 #[.int .i64 t256, .int .i64 t257, .int .i64 t258] (0, 0) _ rfl (by (with_reducible repeat (first | refine blk_drewN ?_ _ | refine blk_drew ?_ | refine blk_alloc ?_ _)); refine blk_put (cs := #[.int .i64 t256, .int .i64 t257, .int .i64 0]) ?_ 2 _ rfl; (with_reducible repeat (first | refine blk_drewN ?_ _ | refine blk_drew ?_ | refine blk_alloc ?_ _)); refine blk_put (cs := #[.int .i64 t256, .int .i64 0, .int .i64 0]) ?_ 1 _ rfl; (with_reducible repeat (first | refine blk_drewN ?_ _ | refine blk_drew ?_ | refine blk_alloc ?_ _)); refine blk_put (cs := #[.int .i64 0, .int .i64 0, .int .i64 0]) ?_ 0 _ rfl; (with_reducible repeat (first | refine blk_drewN ?_ _ | refine blk_drew ?_ | refine blk_alloc ?_ _)); exact BK255.out) Try.underlying26 rfl (by kernel_rfl)) rfl ?_
 exact ⟨Gv.rt, Gv.bw⟩

/-! ### impl_Clip: function 71 -/
def impl_Clip.f (a0 : Int) (a1 : Int) (a2 : Int) : Option (Int) := if a0 < a1 then (some a1) else (if a0 > a2 then (some a2) else (some a0))
set_option maxHeartbeats 8000000 in
set_option maxRecDepth 100000 in
theorem impl_Clip.calls (a0 : Int) (a1 : Int) (a2 : Int) (r : Int) (w : World) (h : impl_Clip.f a0 a1 a2 = some r) :
  Calls Try.prog 71 #[.int .i64 a0, .int .i64 a1, .int .i64 a2] w fun e w' => e = .returned (.int .i64 r) ∧ Drawn0 w w' := by
 have H : (if a0 < a1 then (some a1) else (if a0 > a2 then (some a2) else (some a0))) = some r := h
 clear h
 by_cases c4 : a0 < a1
 ·rw [if_pos c4] at H
  have c4b0 : decide (a0 < a1) = true := decide_eq_true c4
  clear c4
  obtain rfl := Option.some.inj H
  go_enter Try.func71, Try.ntmps71
  go_wp2
  go_ret
  exact ⟨by first | rfl | (simp; done) | (simp [Int.tdiv_eq_ediv_of_nonneg]; done) | (simp [*]; done), by repeat (first | exact Drawn0.refl _ | apply Drawn0.step)⟩
 ·rw [if_neg c4] at H
  have c4b0 : decide (a0 < a1) = false := decide_eq_false c4
  clear c4
  by_cases c5 : a0 > a2
  ·rw [if_pos c5] at H
   have c5b0 : decide (a2 < a0) = true := decide_eq_true c5
   clear c5
   obtain rfl := Option.some.inj H
   go_enter Try.func71, Try.ntmps71
   go_wp2
   go_ret
   exact ⟨by first | rfl | (simp; done) | (simp [Int.tdiv_eq_ediv_of_nonneg]; done) | (simp [*]; done), by repeat (first | exact Drawn0.refl _ | apply Drawn0.step)⟩
  ·rw [if_neg c5] at H
   have c5b0 : decide (a2 < a0) = false := decide_eq_false c5
   clear c5
   obtain rfl := Option.some.inj H
   go_enter Try.func71, Try.ntmps71
   go_wp2
   go_ret
   exact ⟨by first | rfl | (simp; done) | (simp [Int.tdiv_eq_ediv_of_nonneg]; done) | (simp [*]; done), by repeat (first | exact Drawn0.refl _ | apply Drawn0.step)⟩

/-! ### impl_Vec_each_c70: function 51 over a closure -/
set_option maxHeartbeats 8000000 in
set_option maxRecDepth 100000 in
theorem impl_Vec_each_c70.clo   (x0 : Int) (r : Int) (W : World)  (h : (impl_Clip.f x0 1 2000) = some r) :
    Calls Try.prog 70 (#[.int .i64 x0] ++ #[]) W fun e w' => e = .returned (.int .i64 r) ∧ Below W.heap.size W w' := by
  have H := Aside0.mk h
  clear h
  go_enter Try.func70, Try.ntmps70
  go_wp2_with fail
  refine (impl_Clip.calls x0 1 2000 r _ H.out).mono ?_
  rintro e w' ⟨rfl, hb⟩
  have HB' := Aside0.mk hb
  clear hb
  go_wp2_with fail
  go_ret
  exact ⟨rfl, by first | exact HB'.out | exact HB'.out.below⟩
def impl_Vec_each_c70.f (a0_0 a0_1 a0_2 : Int)  : Option (Int × Int × Int) := impl_Vec_each.f (fun x0 => impl_Clip.f x0 1 2000) a0_0 a0_1 a0_2
theorem impl_Vec_each_c70.calls (a0_0 a0_1 a0_2 : Int)  (r1 r2 r3 : Int) (w : World)  (h : impl_Vec_each_c70.f a0_0 a0_1 a0_2  = some (r1, r2, r3)) :
    Calls Try.prog 51 #[.agg #[.int .i64 a0_0, .int .i64 a0_1, .int .i64 a0_2], .func (.func 70) #[] #[]] w fun e w' => e = .returned (.agg #[.int .i64 r1, .int .i64 r2, .int .i64 r3]) ∧ Below w.heap.size w w' :=
  impl_Vec_each.gen 70 _ (by first | exact Try.func70 | kernel_rfl) (by rfl) (by rfl) #[] (fun x0 => impl_Clip.f x0 1 2000) a0_0 a0_1 a0_2 r1 r2 r3 w (fun W x0 r hW_ h_ => impl_Vec_each_c70.clo   x0 r W  h_) h

/-! ### impl_Charge: function 26 -/
def impl_Charge.j0 : Nat → Bool → Int → Int → Int → Int → Int → Int → Option (Int × Int × Int × Int × Int × Int)
 | 0, _, _, _, _, _, _, _ => none
 | k + 1, x15, x260000, x260001, x260002, x261000, x261001, x261002 => if x15 = true then (some (0, 0, 0, 0, 0, 0)) else ((impl_Vec_plus.f x260000 x260001 x260002 x261000 x261001 x261002).bind fun bt265 => ((impl_Vec_each_c70.f bt265.1 bt265.2.1 bt265.2.2).bind fun bt269 => ((impl_Vec_minus.f bt265.1 bt265.2.1 bt265.2.2 bt269.1 bt269.2.1 bt269.2.2).bind fun bt273 => (some (bt269.1, bt269.2.1, bt269.2.2, bt273.1, bt273.2.1, bt273.2.2)))))
def impl_Charge.f (k : Nat) (a0_0 : Int) (a0_1 : Int) (a0_2 : Int) (a1_0 : Int) (a1_1 : Int) (a1_2 : Int) : Option (Int × Int × Int × Int × Int × Int) := (impl_CostOk.f a0_0 a0_1 a0_2).bind fun t263 => (if t263 = true then ((impl_CarryOk.f a1_0 a1_1 a1_2).bind fun t264 => (impl_Charge.j0 k (!t264) a0_0 a0_1 a0_2 a1_0 a1_1 a1_2)) else (impl_Charge.j0 k true a0_0 a0_1 a0_2 a1_0 a1_1 a1_2))
theorem impl_Charge.mono_l : ∀ k, (∀ y0 y1 y2 y3 y4 y5 y6, LeO (impl_Charge.j0 k y0 y1 y2 y3 y4 y5 y6) (impl_Charge.j0 (k + 1) y0 y1 y2 y3 y4 y5 y6))
 | 0 => fun _ _ _ _ _ _ _ r h => by simp [impl_Charge.j0] at h
 | k + 1 => by
  have ih0 := impl_Charge.mono_l k
  ·intro y0 y1 y2 y3 y4 y5 y6
   unfold impl_Charge.j0
   repeat' first
   | (with_reducible exact ih0 _ _ _ _ _ _ _)
   | (with_reducible exact LeO.refl _)
   | (with_reducible exact LeO.none _)
   | (with_reducible refine LeO.ite ?_ ?_)
   | (with_reducible refine LeO.bind ?_ (fun _ => ?_))
   | exact ih0 _ _ _ _ _ _ _
   | exact LeO.none _
   | refine LeO.ite ?_ ?_
   | refine LeO.bind ?_ (fun _ => ?_)
theorem impl_Charge.mono : ∀ a0 a1 a2 a3 a4 a5 k, LeO (impl_Charge.f k a0 a1 a2 a3 a4 a5) (impl_Charge.f (k + 1) a0 a1 a2 a3 a4 a5) := by
 intro a0 a1 a2 a3 a4 a5 k
 have ih0 := impl_Charge.mono_l k
 unfold impl_Charge.f
 repeat' first
   | (with_reducible exact ih0 _ _ _ _ _ _ _)
   | (with_reducible exact LeO.refl _)
   | (with_reducible exact LeO.none _)
   | (with_reducible refine LeO.ite ?_ ?_)
   | (with_reducible refine LeO.bind ?_ (fun _ => ?_))
   | exact ih0 _ _ _ _ _ _ _
   | exact LeO.none _
   | refine LeO.ite ?_ ?_
   | refine LeO.bind ?_ (fun _ => ?_)
set_option maxHeartbeats 8000000 in
set_option maxRecDepth 100000 in
theorem impl_Charge.calls (k : Nat) (a0_0 : Int) (a0_1 : Int) (a0_2 : Int) (a1_0 : Int) (a1_1 : Int) (a1_2 : Int) (r1 : Int) (r2 : Int) (r3 : Int) (r4 : Int) (r5 : Int) (r6 : Int) (w : World) (h : impl_Charge.f k a0_0 a0_1 a0_2 a1_0 a1_1 a1_2 = some (r1, r2, r3, r4, r5, r6)) :
  Calls Try.prog 26 #[.agg #[.int .i64 a0_0, .int .i64 a0_1, .int .i64 a0_2], .agg #[.int .i64 a1_0, .int .i64 a1_1, .int .i64 a1_2]] w fun e w' => e = .returned (.tuple #[.agg #[.int .i64 r1, .int .i64 r2, .int .i64 r3], .agg #[.int .i64 r4, .int .i64 r5, .int .i64 r6]]) ∧ Below w.heap.size w w' := by
 have hu26 := Try.underlying26
 have HB := Gv.a0 (Below.refl w.heap.size w)
 have H : ((impl_CostOk.f a0_0 a0_1 a0_2).bind fun t263 => (if t263 = true then ((impl_CarryOk.f a1_0 a1_1 a1_2).bind fun t264 => (impl_Charge.j0 k (!t264) a0_0 a0_1 a0_2 a1_0 a1_1 a1_2)) else (impl_Charge.j0 k true a0_0 a0_1 a0_2 a1_0 a1_1 a1_2))) = some (r1, r2, r3, r4, r5, r6) := h
 clear h
 have HC3 := Gv.a0 H
 clear H
 go_enter Try.func26, Try.ntmps26
 go_upto_region 1 with (first | ((with_reducible refine gate_dst (N := 2) rfl ?_); refine box_event ?hg (N := 2) ?hd (cs := #[.int .i64 a0_0, .int .i64 a0_1, .int .i64 a0_2]) (t := 26) ?hr ?_; (case hd => rfl); (case hg => rfl); (case hr => first | (go_simp; done) | (go_simp; rfl)); intro gb259 hg w4 hbox hb; have n0_ := Gv.a0 (below_step Gv.bw hb); have n1_ := Gv.a0 (hbox); have n2_ := Gv.a0 ((Gv.ble hg Gv.bw : w.heap.size ≤ gb259)); have n3_ := Gv.a0 ((Gv.ble hg Gv.bw : w.heap.size ≤ gb259)); clear HB; have HB := n0_; have BK259 := n1_; have GW259 := n2_; have GE259 := n3_; clear n0_ n1_ n2_ n3_; clear hb hbox hg) | ((with_reducible refine gate_dst (N := 3) rfl ?_); refine box_event ?hg (N := 3) ?hd (cs := #[.int .i64 a1_0, .int .i64 a1_1, .int .i64 a1_2]) (t := 26) ?hr ?_; (case hd => rfl); (case hg => rfl); (case hr => first | (go_simp; done) | (go_simp; rfl)); intro gb260 hg w5 hbox hb; have n0_ := Gv.a0 (Gv.bb BK259.out hb); have n1_ := Gv.a0 (below_step Gv.bw hb); have n2_ := Gv.a0 (hbox); have n3_ := Gv.a0 ((Gv.ble hg Gv.bw : w.heap.size ≤ gb260)); have n4_ := Gv.a0 ((Gv.ble hg Gv.bw : w.heap.size ≤ gb260)); have n5_ := Gv.a0 ((Gv.nlt hg (Gv.kb BK259.out) : gb259 ≠ gb260)); have n6_ := Gv.a0 ((Gv.ngt hg (Gv.kb BK259.out) : gb260 ≠ gb259)); clear BK259; clear HB; have BK259 := n0_; have HB := n1_; have BK260 := n2_; have GW260 := n3_; have GE260 := n4_; have NB259_260 := n5_; have NB260_259 := n6_; clear n0_ n1_ n2_ n3_ n4_ n5_ n6_; clear hb hbox hg) | ((with_reducible refine gate_dst (N := 4) rfl ?_); refine box_event ?hg (N := 4) ?hd (cs := #[.int .i64 0, .int .i64 0, .int .i64 0]) (t := 26) ?hr ?_; (case hd => rfl); (case hg => rfl); (case hr => first | (go_simp; done) | (go_simp; rfl)); intro gb261 hg w6 hbox hb; have n0_ := Gv.a0 (Gv.bb BK259.out hb); have n1_ := Gv.a0 (Gv.bb BK260.out hb); have n2_ := Gv.a0 (below_step Gv.bw hb); have n3_ := Gv.a0 (hbox); have n4_ := Gv.a0 ((Gv.ble hg Gv.bw : w.heap.size ≤ gb261)); have n5_ := Gv.a0 ((Gv.ble hg Gv.bw : w.heap.size ≤ gb261)); have n6_ := Gv.a0 ((Gv.nlt hg (Gv.kb BK259.out) : gb259 ≠ gb261)); have n7_ := Gv.a0 ((Gv.ngt hg (Gv.kb BK259.out) : gb261 ≠ gb259)); have n8_ := Gv.a0 ((Gv.nlt hg (Gv.kb BK260.out) : gb260 ≠ gb261)); have n9_ := Gv.a0 ((Gv.ngt hg (Gv.kb BK260.out) : gb261 ≠ gb260)); clear BK259; clear BK260; clear HB; have BK259 := n0_; have BK260 := n1_; have HB := n2_; have BK261 := n3_; have GW261 := n4_; have GE261 := n5_; have NB259_261 := n6_; have NB261_259 := n7_; have NB260_261 := n8_; have NB261_260 := n9_; clear n0_ n1_ n2_ n3_ n4_ n5_ n6_ n7_ n8_ n9_; clear hb hbox hg) | ((with_reducible refine gate_dst (N := 5) rfl ?_); refine box_event ?hg (N := 5) ?hd (cs := #[.int .i64 0, .int .i64 0, .int .i64 0]) (t := 26) ?hr ?_; (case hd => rfl); (case hg => rfl); (case hr => first | (go_simp; done) | (go_simp; rfl)); intro gb262 hg w7 hbox hb; have n0_ := Gv.a0 (Gv.bb BK259.out hb); have n1_ := Gv.a0 (Gv.bb BK260.out hb); have n2_ := Gv.a0 (Gv.bb BK261.out hb); have n3_ := Gv.a0 (below_step Gv.bw hb); have n4_ := Gv.a0 (hbox); have n5_ := Gv.a0 ((Gv.ble hg Gv.bw : w.heap.size ≤ gb262)); have n6_ := Gv.a0 ((Gv.ble hg Gv.bw : w.heap.size ≤ gb262)); have n7_ := Gv.a0 ((Gv.nlt hg (Gv.kb BK259.out) : gb259 ≠ gb262)); have n8_ := Gv.a0 ((Gv.ngt hg (Gv.kb BK259.out) : gb262 ≠ gb259)); have n9_ := Gv.a0 ((Gv.nlt hg (Gv.kb BK260.out) : gb260 ≠ gb262)); have n10_ := Gv.a0 ((Gv.ngt hg (Gv.kb BK260.out) : gb262 ≠ gb260)); have n11_ := Gv.a0 ((Gv.nlt hg (Gv.kb BK261.out) : gb261 ≠ gb262)); have n12_ := Gv.a0 ((Gv.ngt hg (Gv.kb BK261.out) : gb262 ≠ gb261)); clear BK259; clear BK260; clear BK261; clear HB; have BK259 := n0_; have BK260 := n1_; have BK261 := n2_; have HB := n3_; have BK262 := n4_; have GW262 := n5_; have GE262 := n6_; have NB259_262 := n7_; have NB262_259 := n8_; have NB260_262 := n9_; have NB262_260 := n10_; have NB261_262 := n11_; have NB262_261 := n12_; clear n0_ n1_ n2_ n3_ n4_ n5_ n6_ n7_ n8_ n9_ n10_ n11_ n12_; clear hb hbox hg))
 (try simp only [Act.put, List.setIfInBounds_toArray, List.set_cons_zero, List.set_cons_succ])
 go_cut [15] (fun v15 wc => ∃ (kq : Nat) (x15_2 : Bool), v15 = .bool x15_2 ∧ Aside0 (impl_Charge.j0 kq x15_2 a0_0 a0_1 a0_2 a1_0 a1_1 a1_2 = some (r1, r2, r3, r4, r5, r6)) ∧ Aside0 (kq ≤ k) ∧ Aside0 (wc.heap[gb259]? = some (.cells #[.int .i64 a0_0, .int .i64 a0_1, .int .i64 a0_2] 26 (0, 0))) ∧ Aside0 (wc.heap[gb260]? = some (.cells #[.int .i64 a1_0, .int .i64 a1_1, .int .i64 a1_2] 26 (0, 0))) ∧ Aside0 (wc.heap[gb261]? = some (.cells #[.int .i64 0, .int .i64 0, .int .i64 0] 26 (0, 0))) ∧ Aside0 (wc.heap[gb262]? = some (.cells #[.int .i64 0, .int .i64 0, .int .i64 0] 26 (0, 0))) ∧ Aside0 (Below w.heap.size w wc))
 case first =>
  have H := HC3.out
  clear HC3
  replace H := Option.bind_eq_some_iff.mp H
  obtain ⟨t263, A80, H⟩ := H
  replace H : (if t263 = true then ((impl_CarryOk.f a1_0 a1_1 a1_2).bind fun t264 => (impl_Charge.j0 k (!t264) a0_0 a0_1 a0_2 a1_0 a1_1 a1_2)) else (impl_Charge.j0 k true a0_0 a0_1 a0_2 a1_0 a1_1 a1_2)) = some (r1, r2, r3, r4, r5, r6) := H
  have A8 := Gv.a0 A80
  clear A80
  by_cases c9 : t263 = true
  ·subst c9
   have H1 : ((impl_CarryOk.f a1_0 a1_1 a1_2).bind fun t264 => (impl_Charge.j0 k (!t264) a0_0 a0_1 a0_2 a1_0 a1_1 a1_2)) = some (r1, r2, r3, r4, r5, r6) := by rw [if_pos rfl] at H; exact H
   clear H
   have H := H1
   clear H1
   replace H := Option.bind_eq_some_iff.mp H
   obtain ⟨t264, A100, H⟩ := H
   replace H : (impl_Charge.j0 k (!t264) a0_0 a0_1 a0_2 a1_0 a1_1 a1_2) = some (r1, r2, r3, r4, r5, r6) := H
   have A10 := Gv.a0 A100
   clear A100
   have H' := Gv.a0 H
   clear H
   have hnb11 := NB259_260.out
   have hnc11 := NB260_259.out
   have hnb12 := NB259_261.out
   have hnc12 := NB261_259.out
   have hnb13 := NB259_262.out
   have hnc13 := NB262_259.out
   have hcz14_0 : w7.cell? ⟨gb259, 0, none⟩ = some (.int .i64 a0_0) := (blk_cell BK259.out 0).trans rfl
   have hcz14_1 : w7.cell? ⟨gb259, 1, none⟩ = some (.int .i64 a0_1) := (blk_cell BK259.out 1).trans rfl
   have hcz14_2 : w7.cell? ⟨gb259, 2, none⟩ = some (.int .i64 a0_2) := (blk_cell BK259.out 2).trans rfl
   have hfz14_0 := blk_frozen BK259.out 0
   have hfz14_1 := blk_frozen BK259.out 1
   have hfz14_2 := blk_frozen BK259.out 2
   go_wp2_with (first | ((with_reducible refine gate_callee (f := 57) rfl ?_); refine goesL_ (some 9) rfl rfl Try.func57 (by kernel_rfl) rfl #[.agg #[.int .i64 a0_0, .int .i64 a0_1, .int .i64 a0_2]] rfl Gv.lm ?_; (with_reducible refine (impl_CostOk.calls a0_0 a0_1 a0_2 true _ A8.out).mono ?_); rintro e w15 ⟨rfl, hb⟩; refine ⟨_, rfl, ?_⟩; have n0_ := Gv.a0 (Gv.bb BK259.out hb); have n1_ := Gv.a0 (Gv.bb BK260.out hb); have n2_ := Gv.a0 (Gv.bb BK261.out hb); have n3_ := Gv.a0 (Gv.bb BK262.out hb); have n4_ := Gv.a0 (below_step Gv.bw hb); clear BK259; clear BK260; clear BK261; clear BK262; clear HB; have BK259 := n0_; have BK260 := n1_; have BK261 := n2_; have BK262 := n3_; have HB := n4_; clear n0_ n1_ n2_ n3_ n4_; (try clear hb); (try clear hb2); (try clear hk); (try clear hi); have hnb16 := NB260_261.out; have hnc16 := NB261_260.out; have hnb17 := NB260_262.out; have hnc17 := NB262_260.out; have hcz18_0 : w15.cell? ⟨gb260, 0, none⟩ = some (.int .i64 a1_0) := (blk_cell BK260.out 0).trans rfl; have hcz18_1 : w15.cell? ⟨gb260, 1, none⟩ = some (.int .i64 a1_1) := (blk_cell BK260.out 1).trans rfl; have hcz18_2 : w15.cell? ⟨gb260, 2, none⟩ = some (.int .i64 a1_2) := (blk_cell BK260.out 2).trans rfl; have hfz18_0 := blk_frozen BK260.out 0; have hfz18_1 := blk_frozen BK260.out 1; have hfz18_2 := blk_frozen BK260.out 2) | (go_at_call 56; (with_reducible refine (impl_CarryOk.calls a1_0 a1_1 a1_2 t264 _ A10.out).mono ?_); rintro e w19 ⟨rfl, hb⟩; have n0_ := Gv.a0 (Gv.bb BK259.out hb); have n1_ := Gv.a0 (Gv.bb BK260.out hb); have n2_ := Gv.a0 (Gv.bb BK261.out hb); have n3_ := Gv.a0 (Gv.bb BK262.out hb); have n4_ := Gv.a0 (below_step Gv.bw hb); clear BK259; clear BK260; clear BK261; clear BK262; clear HB; have BK259 := n0_; have BK260 := n1_; have BK261 := n2_; have BK262 := n3_; have HB := n4_; clear n0_ n1_ n2_ n3_ n4_; (try clear hb); (try clear hb2); (try clear hk); (try clear hi)))
   go_meet
   case rel => exact ⟨_, (!t264), Gv.rq, H', ⟨by first | omega | exact Nat.le_refl _⟩, ⟨by (with_reducible repeat (first | refine blk_drewN ?_ _ | refine blk_drew ?_ | refine blk_alloc ?_ _)); exact BK259.out⟩, ⟨by (with_reducible repeat (first | refine blk_drewN ?_ _ | refine blk_drew ?_ | refine blk_alloc ?_ _)); exact BK260.out⟩, ⟨by (with_reducible repeat (first | refine blk_drewN ?_ _ | refine blk_drew ?_ | refine blk_alloc ?_ _)); exact BK261.out⟩, ⟨by (with_reducible repeat (first | refine blk_drewN ?_ _ | refine blk_drew ?_ | refine blk_alloc ?_ _)); exact BK262.out⟩, ⟨Gv.bw⟩⟩
  ·replace c9 := Bool.eq_false_iff.mpr c9
   subst c9
   have H1 : (impl_Charge.j0 k true a0_0 a0_1 a0_2 a1_0 a1_1 a1_2) = some (r1, r2, r3, r4, r5, r6) := by rw [if_neg (show ¬ (false = true) by decide)] at H; exact H
   clear H
   have H := H1
   clear H1
   have H' := Gv.a0 H
   clear H
   have hnb20 := NB259_260.out
   have hnc20 := NB260_259.out
   have hnb21 := NB259_261.out
   have hnc21 := NB261_259.out
   have hnb22 := NB259_262.out
   have hnc22 := NB262_259.out
   have hcz23_0 : w7.cell? ⟨gb259, 0, none⟩ = some (.int .i64 a0_0) := (blk_cell BK259.out 0).trans rfl
   have hcz23_1 : w7.cell? ⟨gb259, 1, none⟩ = some (.int .i64 a0_1) := (blk_cell BK259.out 1).trans rfl
   have hcz23_2 : w7.cell? ⟨gb259, 2, none⟩ = some (.int .i64 a0_2) := (blk_cell BK259.out 2).trans rfl
   have hfz23_0 := blk_frozen BK259.out 0
   have hfz23_1 := blk_frozen BK259.out 1
   have hfz23_2 := blk_frozen BK259.out 2
   go_wp2_with (first | ((with_reducible refine gate_callee (f := 57) rfl ?_); refine goesL_ (some 9) rfl rfl Try.func57 (by kernel_rfl) rfl #[.agg #[.int .i64 a0_0, .int .i64 a0_1, .int .i64 a0_2]] rfl Gv.lm ?_; (with_reducible refine (impl_CostOk.calls a0_0 a0_1 a0_2 false _ A8.out).mono ?_); rintro e w24 ⟨rfl, hb⟩; refine ⟨_, rfl, ?_⟩; have n0_ := Gv.a0 (Gv.bb BK259.out hb); have n1_ := Gv.a0 (Gv.bb BK260.out hb); have n2_ := Gv.a0 (Gv.bb BK261.out hb); have n3_ := Gv.a0 (Gv.bb BK262.out hb); have n4_ := Gv.a0 (below_step Gv.bw hb); clear BK259; clear BK260; clear BK261; clear BK262; clear HB; have BK259 := n0_; have BK260 := n1_; have BK261 := n2_; have BK262 := n3_; have HB := n4_; clear n0_ n1_ n2_ n3_ n4_; (try clear hb); (try clear hb2); (try clear hk); (try clear hi)))
   go_meet
   case rel => exact ⟨_, (true), Gv.rq, H', ⟨by first | omega | exact Nat.le_refl _⟩, ⟨by (with_reducible repeat (first | refine blk_drewN ?_ _ | refine blk_drew ?_ | refine blk_alloc ?_ _)); exact BK259.out⟩, ⟨by (with_reducible repeat (first | refine blk_drewN ?_ _ | refine blk_drew ?_ | refine blk_alloc ?_ _)); exact BK260.out⟩, ⟨by (with_reducible repeat (first | refine blk_drewN ?_ _ | refine blk_drew ?_ | refine blk_alloc ?_ _)); exact BK261.out⟩, ⟨by (with_reducible repeat (first | refine blk_drewN ?_ _ | refine blk_drew ?_ | refine blk_alloc ?_ _)); exact BK262.out⟩, ⟨Gv.bw⟩⟩
 case rest =>
  clear HC3
  try clear c1
  try clear c2
  try clear p2
  try clear c5
  try clear c9
  try clear c11
  try clear c12
  try clear c13
  try clear c16
  try clear c17
  try clear c20
  try clear c21
  try clear c22
  try clear hcz14_0 hcz14_1 hcz14_2
  try clear hcz18_0 hcz18_1 hcz18_2
  try clear hcz23_0 hcz23_1 hcz23_2
  try clear hfz14_0 hfz14_1 hfz14_2
  try clear hfz18_0 hfz18_1 hfz18_2
  try clear hfz23_0 hfz23_1 hfz23_2
  obtain ⟨kq, x15_2, rfl, HA, HJ2, BK259, BK260, BK261, BK262, HB⟩ := hcut
  cases kq with
  | zero => exact absurd HA.out (by simp [impl_Charge.j0])
  | succ kj2 =>
   have H := HA.out
   clear HA
   simp only [impl_Charge.j0] at H
   by_cases c25 : x15_2 = true
   ·subst c25
    have H1 : (some (0, 0, 0, 0, 0, 0)) = some (r1, r2, r3, r4, r5, r6) := by rw [if_pos rfl] at H; exact H
    clear H
    have H := H1
    clear H1
    simp only [Option.some.injEq, Prod.mk.injEq] at H
    obtain ⟨rfl, rfl, rfl, rfl, rfl, rfl⟩ := H
    have hnb26 := NB261_259.out
    have hnc26 := NB259_261.out
    have hnb27 := NB261_260.out
    have hnc27 := NB260_261.out
    have hnb28 := NB261_262.out
    have hnc28 := NB262_261.out
    have hcz29_0 : wc.cell? ⟨gb261, 0, none⟩ = some (.int .i64 0) := (blk_cell BK261.out 0).trans rfl
    have hcz29_1 : wc.cell? ⟨gb261, 1, none⟩ = some (.int .i64 0) := (blk_cell BK261.out 1).trans rfl
    have hcz29_2 : wc.cell? ⟨gb261, 2, none⟩ = some (.int .i64 0) := (blk_cell BK261.out 2).trans rfl
    have hfz29_0 := blk_frozen BK261.out 0
    have hfz29_1 := blk_frozen BK261.out 1
    have hfz29_2 := blk_frozen BK261.out 2
    have hnb30 := NB262_259.out
    have hnc30 := NB259_262.out
    have hnb31 := NB262_260.out
    have hnc31 := NB260_262.out
    have hcz32_0 : wc.cell? ⟨gb262, 0, none⟩ = some (.int .i64 0) := (blk_cell BK262.out 0).trans rfl
    have hcz32_1 : wc.cell? ⟨gb262, 1, none⟩ = some (.int .i64 0) := (blk_cell BK262.out 1).trans rfl
    have hcz32_2 : wc.cell? ⟨gb262, 2, none⟩ = some (.int .i64 0) := (blk_cell BK262.out 2).trans rfl
    have hfz32_0 := blk_frozen BK262.out 0
    have hfz32_1 := blk_frozen BK262.out 1
    have hfz32_2 := blk_frozen BK262.out 2
    go_wp2
    refine bodyPost_ret (results_cc rfl _ _ gb261 gb262 26 26 #[.int .i64 0, .int .i64 0, .int .i64 0] #[.int .i64 0, .int .i64 0, .int .i64 0] (0, 0) (0, 0) _ _ rfl (by (with_reducible repeat (first | refine blk_drewN ?_ _ | refine blk_drew ?_ | refine blk_alloc ?_ _)); refine blk_far ?_ NB261_262.out _; (with_reducible repeat (first | refine blk_drewN ?_ _ | refine blk_drew ?_ | refine blk_alloc ?_ _)); refine blk_far ?_ NB261_262.out _; (with_reducible repeat (first | refine blk_drewN ?_ _ | refine blk_drew ?_ | refine blk_alloc ?_ _)); refine blk_far ?_ NB261_262.out _; (with_reducible repeat (first | refine blk_drewN ?_ _ | refine blk_drew ?_ | refine blk_alloc ?_ _)); refine blk_put (cs := #[.int .i64 0, .int .i64 0, .int .i64 0]) ?_ 2 _ rfl; (with_reducible repeat (first | refine blk_drewN ?_ _ | refine blk_drew ?_ | refine blk_alloc ?_ _)); refine blk_put (cs := #[.int .i64 0, .int .i64 0, .int .i64 0]) ?_ 1 _ rfl; (with_reducible repeat (first | refine blk_drewN ?_ _ | refine blk_drew ?_ | refine blk_alloc ?_ _)); refine blk_put (cs := #[.int .i64 0, .int .i64 0, .int .i64 0]) ?_ 0 _ rfl; (with_reducible repeat (first | refine blk_drewN ?_ _ | refine blk_drew ?_ | refine blk_alloc ?_ _)); exact BK261.out) Try.underlying26 rfl (by kernel_rfl) rfl (by (with_reducible repeat (first | refine blk_drewN ?_ _ | refine blk_drew ?_ | refine blk_alloc ?_ _)); refine blk_put (cs := #[.int .i64 0, .int .i64 0, .int .i64 0]) ?_ 2 _ rfl; (with_reducible repeat (first | refine blk_drewN ?_ _ | refine blk_drew ?_ | refine blk_alloc ?_ _)); refine blk_put (cs := #[.int .i64 0, .int .i64 0, .int .i64 0]) ?_ 1 _ rfl; (with_reducible repeat (first | refine blk_drewN ?_ _ | refine blk_drew ?_ | refine blk_alloc ?_ _)); refine blk_put (cs := #[.int .i64 0, .int .i64 0, .int .i64 0]) ?_ 0 _ rfl; (with_reducible repeat (first | refine blk_drewN ?_ _ | refine blk_drew ?_ | refine blk_alloc ?_ _)); refine blk_far ?_ NB262_261.out _; (with_reducible repeat (first | refine blk_drewN ?_ _ | refine blk_drew ?_ | refine blk_alloc ?_ _)); refine blk_far ?_ NB262_261.out _; (with_reducible repeat (first | refine blk_drewN ?_ _ | refine blk_drew ?_ | refine blk_alloc ?_ _)); refine blk_far ?_ NB262_261.out _; (with_reducible repeat (first | refine blk_drewN ?_ _ | refine blk_drew ?_ | refine blk_alloc ?_ _)); exact BK262.out) Try.underlying26 rfl (by kernel_rfl)) rfl ?_
    exact ⟨Gv.rt, Gv.bw⟩
   ·replace c25 := Bool.eq_false_iff.mpr c25
    subst c25
    have H1 : ((impl_Vec_plus.f a0_0 a0_1 a0_2 a1_0 a1_1 a1_2).bind fun bt265 => ((impl_Vec_each_c70.f bt265.1 bt265.2.1 bt265.2.2).bind fun bt269 => ((impl_Vec_minus.f bt265.1 bt265.2.1 bt265.2.2 bt269.1 bt269.2.1 bt269.2.2).bind fun bt273 => (some (bt269.1, bt269.2.1, bt269.2.2, bt273.1, bt273.2.1, bt273.2.2))))) = some (r1, r2, r3, r4, r5, r6) := by rw [if_neg (show ¬ (false = true) by decide)] at H; exact H
    clear H
    have H := H1
    clear H1
    replace H := Option.bind_eq_some_iff.mp H
    obtain ⟨⟨t265, t266, t267⟩, A330, H⟩ := H
    replace H : ((impl_Vec_each_c70.f t265 t266 t267).bind fun bt269 => ((impl_Vec_minus.f t265 t266 t267 bt269.1 bt269.2.1 bt269.2.2).bind fun bt273 => (some (bt269.1, bt269.2.1, bt269.2.2, bt273.1, bt273.2.1, bt273.2.2)))) = some (r1, r2, r3, r4, r5, r6) := H
    have A33 := Gv.a0 A330
    clear A330
    replace H := Option.bind_eq_some_iff.mp H
    obtain ⟨⟨t269, t270, t271⟩, A340, H⟩ := H
    replace H : ((impl_Vec_minus.f t265 t266 t267 t269 t270 t271).bind fun bt273 => (some (t269, t270, t271, bt273.1, bt273.2.1, bt273.2.2))) = some (r1, r2, r3, r4, r5, r6) := H
    have A34 := Gv.a0 A340
    clear A340
    replace H := Option.bind_eq_some_iff.mp H
    obtain ⟨⟨t273, t274, t275⟩, A350, H⟩ := H
    replace H : (some (t269, t270, t271, t273, t274, t275)) = some (r1, r2, r3, r4, r5, r6) := H
    have A35 := Gv.a0 A350
    clear A350
    simp only [Option.some.injEq, Prod.mk.injEq] at H
    obtain ⟨rfl, rfl, rfl, rfl, rfl, rfl⟩ := H
    have hnb36 := NB259_260.out
    have hnc36 := NB260_259.out
    have hnb37 := NB259_261.out
    have hnc37 := NB261_259.out
    have hnb38 := NB259_262.out
    have hnc38 := NB262_259.out
    have hcz39_0 : wc.cell? ⟨gb259, 0, none⟩ = some (.int .i64 a0_0) := (blk_cell BK259.out 0).trans rfl
    have hcz39_1 : wc.cell? ⟨gb259, 1, none⟩ = some (.int .i64 a0_1) := (blk_cell BK259.out 1).trans rfl
    have hcz39_2 : wc.cell? ⟨gb259, 2, none⟩ = some (.int .i64 a0_2) := (blk_cell BK259.out 2).trans rfl
    have hfz39_0 := blk_frozen BK259.out 0
    have hfz39_1 := blk_frozen BK259.out 1
    have hfz39_2 := blk_frozen BK259.out 2
    have hnb40 := NB260_261.out
    have hnc40 := NB261_260.out
    have hnb41 := NB260_262.out
    have hnc41 := NB262_260.out
    have hcz42_0 : wc.cell? ⟨gb260, 0, none⟩ = some (.int .i64 a1_0) := (blk_cell BK260.out 0).trans rfl
    have hcz42_1 : wc.cell? ⟨gb260, 1, none⟩ = some (.int .i64 a1_1) := (blk_cell BK260.out 1).trans rfl
    have hcz42_2 : wc.cell? ⟨gb260, 2, none⟩ = some (.int .i64 a1_2) := (blk_cell BK260.out 2).trans rfl
    have hfz42_0 := blk_frozen BK260.out 0
    have hfz42_1 := blk_frozen BK260.out 1
    have hfz42_2 := blk_frozen BK260.out 2
    try go_wp2_with (first | ((with_reducible refine gate_callee (f := 58) rfl ?_); refine goesL_ (some 20) rfl rfl Try.func58 (by kernel_rfl) rfl #[.agg #[.int .i64 a0_0, .int .i64 a0_1, .int .i64 a0_2], .agg #[.int .i64 a1_0, .int .i64 a1_1, .int .i64 a1_2]] rfl Gv.lm ?_; (with_reducible refine (impl_Vec_plus.calls a0_0 a0_1 a0_2 a1_0 a1_1 a1_2 t265 t266 t267 _ A33.out).mono ?_); rintro e w43 ⟨rfl, hb⟩; refine ⟨_, rfl, ?_⟩; have n0_ := Gv.a0 (Gv.bb BK259.out hb); have n1_ := Gv.a0 (Gv.bb BK260.out hb); have n2_ := Gv.a0 (Gv.bb BK261.out hb); have n3_ := Gv.a0 (Gv.bb BK262.out hb); have n4_ := Gv.a0 (below_step Gv.bw hb); clear BK259; clear BK260; clear BK261; clear BK262; clear HB; have BK259 := n0_; have BK260 := n1_; have BK261 := n2_; have BK262 := n3_; have HB := n4_; clear n0_ n1_ n2_ n3_ n4_; (try clear hb); (try clear hb2); (try clear hk); (try clear hi)) | ((with_reducible refine gate_dst (N := 6) rfl ?_); refine box_event ?hg (N := 6) ?hd (cs := #[.int .i64 0, .int .i64 0, .int .i64 0]) (t := 26) ?hr ?_; (case hd => rfl); (case hg => rfl); (case hr => first | (go_simp; done) | (go_simp; rfl)); intro gb268 hg w44 hbox hb; have n0_ := Gv.a0 (Gv.bb BK259.out hb); have n1_ := Gv.a0 (Gv.bb BK260.out hb); have n2_ := Gv.a0 (Gv.bb BK261.out hb); have n3_ := Gv.a0 (Gv.bb BK262.out hb); have n4_ := Gv.a0 (below_step Gv.bw hb); have n5_ := Gv.a0 (hbox); have n6_ := Gv.a0 ((Gv.ble hg Gv.bw : w.heap.size ≤ gb268)); have n7_ := Gv.a0 ((Gv.ble hg Gv.bw : w.heap.size ≤ gb268)); have n8_ := Gv.a0 ((Gv.nlt hg (Gv.kb BK259.out) : gb259 ≠ gb268)); have n9_ := Gv.a0 ((Gv.ngt hg (Gv.kb BK259.out) : gb268 ≠ gb259)); have n10_ := Gv.a0 ((Gv.nlt hg (Gv.kb BK260.out) : gb260 ≠ gb268)); have n11_ := Gv.a0 ((Gv.ngt hg (Gv.kb BK260.out) : gb268 ≠ gb260)); have n12_ := Gv.a0 ((Gv.nlt hg (Gv.kb BK261.out) : gb261 ≠ gb268)); have n13_ := Gv.a0 ((Gv.ngt hg (Gv.kb BK261.out) : gb268 ≠ gb261)); have n14_ := Gv.a0 ((Gv.nlt hg (Gv.kb BK262.out) : gb262 ≠ gb268)); have n15_ := Gv.a0 ((Gv.ngt hg (Gv.kb BK262.out) : gb268 ≠ gb262)); clear BK259; clear BK260; clear BK261; clear BK262; clear HB; have BK259 := n0_; have BK260 := n1_; have BK261 := n2_; have BK262 := n3_; have HB := n4_; have BK268 := n5_; have GW268 := n6_; have GE268 := n7_; have NB259_268 := n8_; have NB268_259 := n9_; have NB260_268 := n10_; have NB268_260 := n11_; have NB261_268 := n12_; have NB268_261 := n13_; have NB262_268 := n14_; have NB268_262 := n15_; clear n0_ n1_ n2_ n3_ n4_ n5_ n6_ n7_ n8_ n9_ n10_ n11_ n12_ n13_ n14_ n15_; clear hb hbox hg; have hnb45 := NB268_259.out; have hnc45 := NB259_268.out; have hnb46 := NB268_260.out; have hnc46 := NB260_268.out; have hnb47 := NB268_261.out; have hnc47 := NB261_268.out; have hnb48 := NB268_262.out; have hnc48 := NB262_268.out; have hcz49_0 : w44.cell? ⟨gb268, 0, none⟩ = some (.int .i64 0) := (blk_cell BK268.out 0).trans rfl; have hcz49_1 : w44.cell? ⟨gb268, 1, none⟩ = some (.int .i64 0) := (blk_cell BK268.out 1).trans rfl; have hcz49_2 : w44.cell? ⟨gb268, 2, none⟩ = some (.int .i64 0) := (blk_cell BK268.out 2).trans rfl; have hfz49_0 := blk_frozen BK268.out 0; have hfz49_1 := blk_frozen BK268.out 1; have hfz49_2 := blk_frozen BK268.out 2) | ((with_reducible refine gate_callee (f := 51) rfl ?_); refine goesL_ (some 22) rfl rfl Try.func51 (by kernel_rfl) rfl #[.agg #[.int .i64 t265, .int .i64 t266, .int .i64 t267], .func (.func 70) #[] #[]] rfl Gv.lm ?_; (with_reducible refine (impl_Vec_each_c70.calls t265 t266 t267  t269 t270 t271 _ A34.out).mono ?_); rintro e w50 ⟨rfl, hb⟩; refine ⟨_, rfl, ?_⟩; have n0_ := Gv.a0 (blk_below (g := gb259) (o := .cells #[.int .i64 a0_0, .int .i64 a0_1, .int .i64 a0_2] 26 (0, 0)) Gv.bkf hb); have n1_ := Gv.a0 (blk_below (g := gb260) (o := .cells #[.int .i64 a1_0, .int .i64 a1_1, .int .i64 a1_2] 26 (0, 0)) Gv.bkf hb); have n2_ := Gv.a0 (blk_below (g := gb261) (o := .cells #[.int .i64 0, .int .i64 0, .int .i64 0] 26 (0, 0)) Gv.bkf hb); have n3_ := Gv.a0 (blk_below (g := gb262) (o := .cells #[.int .i64 0, .int .i64 0, .int .i64 0] 26 (0, 0)) Gv.bkf hb); have n4_ := Gv.a0 (blk_below (g := gb268) (o := .cells #[.int .i64 t265, .int .i64 t266, .int .i64 t267] 26 (0, 0)) (by (with_reducible repeat (first | refine blk_drewN ?_ _ | refine blk_drew ?_ | refine blk_alloc ?_ _)); refine blk_put (cs := #[.int .i64 t265, .int .i64 t266, .int .i64 0]) ?_ 2 _ rfl; (with_reducible repeat (first | refine blk_drewN ?_ _ | refine blk_drew ?_ | refine blk_alloc ?_ _)); refine blk_put (cs := #[.int .i64 t265, .int .i64 0, .int .i64 0]) ?_ 1 _ rfl; (with_reducible repeat (first | refine blk_drewN ?_ _ | refine blk_drew ?_ | refine blk_alloc ?_ _)); refine blk_put (cs := #[.int .i64 0, .int .i64 0, .int .i64 0]) ?_ 0 _ rfl; (with_reducible repeat (first | refine blk_drewN ?_ _ | refine blk_drew ?_ | refine blk_alloc ?_ _)); exact BK268.out) hb); have n5_ := Gv.a0 (below_step Gv.bw hb); clear BK259; clear BK260; clear BK261; clear BK262; clear BK268; clear HB; have BK259 := n0_; have BK260 := n1_; have BK261 := n2_; have BK262 := n3_; have BK268 := n4_; have HB := n5_; clear n0_ n1_ n2_ n3_ n4_ n5_; (try clear hb); (try clear hb2); (try clear hk); (try clear hi)) | ((with_reducible refine gate_dst (N := 7) rfl ?_); refine box_event ?hg (N := 7) ?hd (cs := #[.int .i64 0, .int .i64 0, .int .i64 0]) (t := 26) ?hr ?_; (case hd => rfl); (case hg => rfl); (case hr => first | (go_simp; done) | (go_simp; rfl)); intro gb272 hg w51 hbox hb; have n0_ := Gv.a0 (Gv.bb BK259.out hb); have n1_ := Gv.a0 (Gv.bb BK260.out hb); have n2_ := Gv.a0 (Gv.bb BK261.out hb); have n3_ := Gv.a0 (Gv.bb BK262.out hb); have n4_ := Gv.a0 (Gv.bb BK268.out hb); have n5_ := Gv.a0 (below_step Gv.bw hb); have n6_ := Gv.a0 (hbox); have n7_ := Gv.a0 ((Gv.ble hg Gv.bw : w.heap.size ≤ gb272)); have n8_ := Gv.a0 ((Gv.ble hg Gv.bw : w.heap.size ≤ gb272)); have n9_ := Gv.a0 ((Gv.nlt hg (Gv.kb BK259.out) : gb259 ≠ gb272)); have n10_ := Gv.a0 ((Gv.ngt hg (Gv.kb BK259.out) : gb272 ≠ gb259)); have n11_ := Gv.a0 ((Gv.nlt hg (Gv.kb BK260.out) : gb260 ≠ gb272)); have n12_ := Gv.a0 ((Gv.ngt hg (Gv.kb BK260.out) : gb272 ≠ gb260)); have n13_ := Gv.a0 ((Gv.nlt hg (Gv.kb BK261.out) : gb261 ≠ gb272)); have n14_ := Gv.a0 ((Gv.ngt hg (Gv.kb BK261.out) : gb272 ≠ gb261)); have n15_ := Gv.a0 ((Gv.nlt hg (Gv.kb BK262.out) : gb262 ≠ gb272)); have n16_ := Gv.a0 ((Gv.ngt hg (Gv.kb BK262.out) : gb272 ≠ gb262)); have n17_ := Gv.a0 ((Gv.nlt hg (Gv.kb BK268.out) : gb268 ≠ gb272)); have n18_ := Gv.a0 ((Gv.ngt hg (Gv.kb BK268.out) : gb272 ≠ gb268)); clear BK259; clear BK260; clear BK261; clear BK262; clear BK268; clear HB; have BK259 := n0_; have BK260 := n1_; have BK261 := n2_; have BK262 := n3_; have BK268 := n4_; have HB := n5_; have BK272 := n6_; have GW272 := n7_; have GE272 := n8_; have NB259_272 := n9_; have NB272_259 := n10_; have NB260_272 := n11_; have NB272_260 := n12_; have NB261_272 := n13_; have NB272_261 := n14_; have NB262_272 := n15_; have NB272_262 := n16_; have NB268_272 := n17_; have NB272_268 := n18_; clear n0_ n1_ n2_ n3_ n4_ n5_ n6_ n7_ n8_ n9_ n10_ n11_ n12_ n13_ n14_ n15_ n16_ n17_ n18_; clear hb hbox hg; have hnb52 := NB272_259.out; have hnc52 := NB259_272.out; have hnb53 := NB272_260.out; have hnc53 := NB260_272.out; have hnb54 := NB272_261.out; have hnc54 := NB261_272.out; have hnb55 := NB272_262.out; have hnc55 := NB262_272.out; have hnb56 := NB272_268.out; have hnc56 := NB268_272.out; have hcz57_0 : w51.cell? ⟨gb272, 0, none⟩ = some (.int .i64 0) := (blk_cell BK272.out 0).trans rfl; have hcz57_1 : w51.cell? ⟨gb272, 1, none⟩ = some (.int .i64 0) := (blk_cell BK272.out 1).trans rfl; have hcz57_2 : w51.cell? ⟨gb272, 2, none⟩ = some (.int .i64 0) := (blk_cell BK272.out 2).trans rfl; have hfz57_0 := blk_frozen BK272.out 0; have hfz57_1 := blk_frozen BK272.out 1; have hfz57_2 := blk_frozen BK272.out 2))
    have n0_ : Aside0 ((((w51.setCell ⟨gb272, 0, none⟩ (.int .i64 t269)).setCell ⟨gb272, 1, none⟩ (.int .i64 t270)).setCell ⟨gb272, 2, none⟩ (.int .i64 t271)).heap[gb259]? = some (.cells #[.int .i64 a0_0, .int .i64 a0_1, .int .i64 a0_2] 26 (0, 0))) := ⟨by (with_reducible repeat (first | refine blk_drewN ?_ _ | refine blk_drew ?_ | refine blk_alloc ?_ _)); refine blk_far ?_ NB259_272.out _; (with_reducible repeat (first | refine blk_drewN ?_ _ | refine blk_drew ?_ | refine blk_alloc ?_ _)); refine blk_far ?_ NB259_272.out _; (with_reducible repeat (first | refine blk_drewN ?_ _ | refine blk_drew ?_ | refine blk_alloc ?_ _)); refine blk_far ?_ NB259_272.out _; (with_reducible repeat (first | refine blk_drewN ?_ _ | refine blk_drew ?_ | refine blk_alloc ?_ _)); exact BK259.out⟩
    have n1_ : Aside0 ((((w51.setCell ⟨gb272, 0, none⟩ (.int .i64 t269)).setCell ⟨gb272, 1, none⟩ (.int .i64 t270)).setCell ⟨gb272, 2, none⟩ (.int .i64 t271)).heap[gb260]? = some (.cells #[.int .i64 a1_0, .int .i64 a1_1, .int .i64 a1_2] 26 (0, 0))) := ⟨by (with_reducible repeat (first | refine blk_drewN ?_ _ | refine blk_drew ?_ | refine blk_alloc ?_ _)); refine blk_far ?_ NB260_272.out _; (with_reducible repeat (first | refine blk_drewN ?_ _ | refine blk_drew ?_ | refine blk_alloc ?_ _)); refine blk_far ?_ NB260_272.out _; (with_reducible repeat (first | refine blk_drewN ?_ _ | refine blk_drew ?_ | refine blk_alloc ?_ _)); refine blk_far ?_ NB260_272.out _; (with_reducible repeat (first | refine blk_drewN ?_ _ | refine blk_drew ?_ | refine blk_alloc ?_ _)); exact BK260.out⟩
    have n2_ : Aside0 ((((w51.setCell ⟨gb272, 0, none⟩ (.int .i64 t269)).setCell ⟨gb272, 1, none⟩ (.int .i64 t270)).setCell ⟨gb272, 2, none⟩ (.int .i64 t271)).heap[gb261]? = some (.cells #[.int .i64 0, .int .i64 0, .int .i64 0] 26 (0, 0))) := ⟨by (with_reducible repeat (first | refine blk_drewN ?_ _ | refine blk_drew ?_ | refine blk_alloc ?_ _)); refine blk_far ?_ NB261_272.out _; (with_reducible repeat (first | refine blk_drewN ?_ _ | refine blk_drew ?_ | refine blk_alloc ?_ _)); refine blk_far ?_ NB261_272.out _; (with_reducible repeat (first | refine blk_drewN ?_ _ | refine blk_drew ?_ | refine blk_alloc ?_ _)); refine blk_far ?_ NB261_272.out _; (with_reducible repeat (first | refine blk_drewN ?_ _ | refine blk_drew ?_ | refine blk_alloc ?_ _)); exact BK261.out⟩
    have n3_ : Aside0 ((((w51.setCell ⟨gb272, 0, none⟩ (.int .i64 t269)).setCell ⟨gb272, 1, none⟩ (.int .i64 t270)).setCell ⟨gb272, 2, none⟩ (.int .i64 t271)).heap[gb262]? = some (.cells #[.int .i64 0, .int .i64 0, .int .i64 0] 26 (0, 0))) := ⟨by (with_reducible repeat (first | refine blk_drewN ?_ _ | refine blk_drew ?_ | refine blk_alloc ?_ _)); refine blk_far ?_ NB262_272.out _; (with_reducible repeat (first | refine blk_drewN ?_ _ | refine blk_drew ?_ | refine blk_alloc ?_ _)); refine blk_far ?_ NB262_272.out _; (with_reducible repeat (first | refine blk_drewN ?_ _ | refine blk_drew ?_ | refine blk_alloc ?_ _)); refine blk_far ?_ NB262_272.out _; (with_reducible repeat (first | refine blk_drewN ?_ _ | refine blk_drew ?_ | refine blk_alloc ?_ _)); exact BK262.out⟩
    have n4_ : Aside0 ((((w51.setCell ⟨gb272, 0, none⟩ (.int .i64 t269)).setCell ⟨gb272, 1, none⟩ (.int .i64 t270)).setCell ⟨gb272, 2, none⟩ (.int .i64 t271)).heap[gb268]? = some (.cells #[.int .i64 t265, .int .i64 t266, .int .i64 t267] 26 (0, 0))) := ⟨by (with_reducible repeat (first | refine blk_drewN ?_ _ | refine blk_drew ?_ | refine blk_alloc ?_ _)); refine blk_far ?_ NB268_272.out _; (with_reducible repeat (first | refine blk_drewN ?_ _ | refine blk_drew ?_ | refine blk_alloc ?_ _)); refine blk_far ?_ NB268_272.out _; (with_reducible repeat (first | refine blk_drewN ?_ _ | refine blk_drew ?_ | refine blk_alloc ?_ _)); refine blk_far ?_ NB268_272.out _; (with_reducible repeat (first | refine blk_drewN ?_ _ | refine blk_drew ?_ | refine blk_alloc ?_ _)); exact BK268.out⟩
    have n5_ : Aside0 ((((w51.setCell ⟨gb272, 0, none⟩ (.int .i64 t269)).setCell ⟨gb272, 1, none⟩ (.int .i64 t270)).setCell ⟨gb272, 2, none⟩ (.int .i64 t271)).heap[gb272]? = some (.cells #[.int .i64 t269, .int .i64 t270, .int .i64 t271] 26 (0, 0))) := ⟨by (with_reducible repeat (first | refine blk_drewN ?_ _ | refine blk_drew ?_ | refine blk_alloc ?_ _)); refine blk_put (cs := #[.int .i64 t269, .int .i64 t270, .int .i64 0]) ?_ 2 _ rfl; (with_reducible repeat (first | refine blk_drewN ?_ _ | refine blk_drew ?_ | refine blk_alloc ?_ _)); refine blk_put (cs := #[.int .i64 t269, .int .i64 0, .int .i64 0]) ?_ 1 _ rfl; (with_reducible repeat (first | refine blk_drewN ?_ _ | refine blk_drew ?_ | refine blk_alloc ?_ _)); refine blk_put (cs := #[.int .i64 0, .int .i64 0, .int .i64 0]) ?_ 0 _ rfl; (with_reducible repeat (first | refine blk_drewN ?_ _ | refine blk_drew ?_ | refine blk_alloc ?_ _)); exact BK272.out⟩
    have n6_ : Aside0 (Below w.heap.size w (((w51.setCell ⟨gb272, 0, none⟩ (.int .i64 t269)).setCell ⟨gb272, 1, none⟩ (.int .i64 t270)).setCell ⟨gb272, 2, none⟩ (.int .i64 t271))) := ⟨Gv.bw⟩
    (try clear BK259)
    (try clear BK260)
    (try clear BK261)
    (try clear BK262)
    (try clear BK268)
    (try clear BK272)
    (try clear HB)
    generalize (((w51.setCell ⟨gb272, 0, none⟩ (.int .i64 t269)).setCell ⟨gb272, 1, none⟩ (.int .i64 t270)).setCell ⟨gb272, 2, none⟩ (.int .i64 t271)) = w58 at n0_ n1_ n2_ n3_ n4_ n5_ n6_ ⊢
    have BK259 := n0_
    have BK260 := n1_
    have BK261 := n2_
    have BK262 := n3_
    have BK268 := n4_
    have BK272 := n5_
    have HB := n6_
    clear n0_ n1_ n2_ n3_ n4_ n5_ n6_
    have n0_ := Gv.a0 (blk_drew BK259.out)
    have n1_ := Gv.a0 (blk_drew BK260.out)
    have n2_ := Gv.a0 (blk_drew BK261.out)
    have n3_ := Gv.a0 (blk_drew BK262.out)
    have n4_ := Gv.a0 (blk_drew BK268.out)
    have n5_ := Gv.a0 (blk_drew BK272.out)
    have n6_ := Gv.a0 (below_drew1 HB.out)
    clear BK259
    clear BK260
    clear BK261
    clear BK262
    clear BK268
    clear BK272
    clear HB
    have BK259 := n0_
    have BK260 := n1_
    have BK261 := n2_
    have BK262 := n3_
    have BK268 := n4_
    have BK272 := n5_
    have HB := n6_
    clear n0_ n1_ n2_ n3_ n4_ n5_ n6_
    refine start_ (n := 6) (S := fun w' => w'.cell? ⟨gb272, 0, none⟩ = some (.int .i64 t269) ∧ w'.cell? ⟨gb272, 1, none⟩ = some (.int .i64 t270) ∧ w'.cell? ⟨gb272, 2, none⟩ = some (.int .i64 t271) ∧ w'.cell? ⟨gb268, 0, none⟩ = some (.int .i64 t265) ∧ w'.cell? ⟨gb268, 1, none⟩ = some (.int .i64 t266) ∧ w'.cell? ⟨gb268, 2, none⟩ = some (.int .i64 t267)) (ds := []) #[false, false, false, false, false, false] (by kernel_rfl) rfl rfl ⟨(blk_cell BK272.out 0).trans rfl, (blk_cell BK272.out 1).trans rfl, (blk_cell BK272.out 2).trans rfl, (blk_cell BK268.out 0).trans rfl, (blk_cell BK268.out 1).trans rfl, (blk_cell BK268.out 2).trans rfl⟩ (fun hHeld => ?_)
    generalize w58.drew = w59 at BK259 BK260 BK261 BK262 BK268 BK272 HB hHeld ⊢
    refine take_ (i := 0) (N := some 23) (v := ?_) (a' := ?_) #[true, false, false, false, false, false] rfl rfl (by kernel_rfl) (fun _ _ _ h => h) (Or.inl ⟨by rfl, ?_⟩) hHeld ?_ ?_
    rotate_left
    ·rintro w' ⟨s0, s1, s2, s3, s4, s5⟩
     go_simp
     with_reducible rfl
    rotate_left
    ·simp only [Act.put, List.setIfInBounds_toArray, List.set_cons_zero, List.set_cons_succ, i64_w, i32_w]
     rfl
    refine take_ (i := 1) (N := some 24) (v := ?_) (a' := ?_) #[true, true, false, false, false, false] rfl rfl (by kernel_rfl) (fun _ _ _ h => h) (Or.inl ⟨by rfl, ?_⟩) hHeld ?_ ?_
    rotate_left
    ·rintro w' ⟨s0, s1, s2, s3, s4, s5⟩
     go_simp
     with_reducible rfl
    rotate_left
    ·simp only [Act.put, List.setIfInBounds_toArray, List.set_cons_zero, List.set_cons_succ, i64_w, i32_w]
     rfl
    refine take_ (i := 2) (N := some 25) (v := ?_) (a' := ?_) #[true, true, true, false, false, false] rfl rfl (by kernel_rfl) (fun _ _ _ h => h) (Or.inl ⟨by rfl, ?_⟩) hHeld ?_ ?_
    rotate_left
    ·rintro w' ⟨s0, s1, s2, s3, s4, s5⟩
     go_simp
     with_reducible rfl
    rotate_left
    ·simp only [Act.put, List.setIfInBounds_toArray, List.set_cons_zero, List.set_cons_succ, i64_w, i32_w]
     rfl
    refine one_ (i := 3) (N := some 26) #[true, true, true, true, false, false] rfl rfl (by kernel_rfl) (by decide) (fun K hK => ?_)
    refine goes_ Try.func59 (by kernel_rfl) rfl #[.agg #[.int .i64 t265, .int .i64 t266, .int .i64 t267], .agg #[.int .i64 t269, .int .i64 t270, .int .i64 t271]] (by rfl) rfl rfl Gv.lm ?_
    with_reducible refine (impl_Vec_minus.calls t265 t266 t267 t269 t270 t271 t273 t274 t275 _ A35.out).mono ?_
    rintro e w60 ⟨rfl, hb⟩
    refine ⟨_, rfl, ?_⟩
    have n0_ := Gv.a0 (Gv.bb BK259.out hb)
    have n1_ := Gv.a0 (Gv.bb BK260.out hb)
    have n2_ := Gv.a0 (Gv.bb BK261.out hb)
    have n3_ := Gv.a0 (Gv.bb BK262.out hb)
    have n4_ := Gv.a0 (Gv.bb BK268.out hb)
    have n5_ := Gv.a0 (Gv.bb BK272.out hb)
    have n6_ := Gv.a0 (below_step Gv.bw hb)
    clear BK259
    clear BK260
    clear BK261
    clear BK262
    clear BK268
    clear BK272
    clear HB
    have BK259 := n0_
    have BK260 := n1_
    have BK261 := n2_
    have BK262 := n3_
    have BK268 := n4_
    have BK272 := n5_
    have HB := n6_
    clear n0_ n1_ n2_ n3_ n4_ n5_ n6_
    (try clear hb)
    (try clear hb2)
    (try clear hk)
    (try clear hi)
    refine hK.out _ _ ⟨(blk_cell BK272.out 0).trans rfl, (blk_cell BK272.out 1).trans rfl, (blk_cell BK272.out 2).trans rfl, (blk_cell BK268.out 0).trans rfl, (blk_cell BK268.out 1).trans rfl, (blk_cell BK268.out 2).trans rfl⟩ (fun hHeld => ?_)
    clear hK K
    refine norm_ (a' := ?_) ?_ ?_
    rotate_left
    ·show Act.put _ (some 26) _ = _
     simp only [Act.put, List.setIfInBounds_toArray, List.set_cons_zero, List.set_cons_succ, i64_w, i32_w]
     rfl
    refine one_ (i := 4) (N := none) #[true, true, true, true, true, false] rfl rfl (by kernel_rfl) (by decide) (fun K hK => ?_)
    have hs61 : w60.cell? ⟨gb261, 0, none⟩ = some (.int .i64 0) := (blk_cell BK261.out 0).trans rfl
    have hfs61 := blk_frozen BK261.out 0
    have hns61_0 := NB259_261.out
    have hns61_1 := NB260_261.out
    have hns61_3 := NB262_261.out
    have hns61_4 := NB268_261.out
    have hns61_5 := NB272_261.out
    have hms61_0 := NB261_259.out
    have hms61_1 := NB261_260.out
    have hms61_3 := NB261_262.out
    have hms61_4 := NB261_268.out
    have hms61_5 := NB261_272.out
    have hs62 : w60.cell? ⟨gb261, 1, none⟩ = some (.int .i64 0) := (blk_cell BK261.out 1).trans rfl
    have hfs62 := blk_frozen BK261.out 1
    have hns62_0 := NB259_261.out
    have hns62_1 := NB260_261.out
    have hns62_3 := NB262_261.out
    have hns62_4 := NB268_261.out
    have hns62_5 := NB272_261.out
    have hms62_0 := NB261_259.out
    have hms62_1 := NB261_260.out
    have hms62_3 := NB261_262.out
    have hms62_4 := NB261_268.out
    have hms62_5 := NB261_272.out
    have hs63 : w60.cell? ⟨gb261, 2, none⟩ = some (.int .i64 0) := (blk_cell BK261.out 2).trans rfl
    have hfs63 := blk_frozen BK261.out 2
    have hns63_0 := NB259_261.out
    have hns63_1 := NB260_261.out
    have hns63_3 := NB262_261.out
    have hns63_4 := NB268_261.out
    have hns63_5 := NB272_261.out
    have hms63_0 := NB261_259.out
    have hms63_1 := NB261_260.out
    have hms63_3 := NB261_262.out
    have hms63_4 := NB261_268.out
    have hms63_5 := NB261_272.out
    refine skip_ (w1 := ?_) (by rfl) rfl ?_ ?_
    rotate_left
    ·go_simp
     rfl
    refine hK.out _ _ ⟨((cell_far (p := ⟨gb261, _, none⟩) NB272_261.out _).trans (((cell_far (p := ⟨gb261, _, none⟩) NB272_261.out _).trans (((cell_far (p := ⟨gb261, _, none⟩) NB272_261.out _).trans (hHeld.1)))))), ((cell_far (p := ⟨gb261, _, none⟩) NB272_261.out _).trans (((cell_far (p := ⟨gb261, _, none⟩) NB272_261.out _).trans (((cell_far (p := ⟨gb261, _, none⟩) NB272_261.out _).trans (hHeld.2.1)))))), ((cell_far (p := ⟨gb261, _, none⟩) NB272_261.out _).trans (((cell_far (p := ⟨gb261, _, none⟩) NB272_261.out _).trans (((cell_far (p := ⟨gb261, _, none⟩) NB272_261.out _).trans (hHeld.2.2.1)))))), ((cell_far (p := ⟨gb261, _, none⟩) NB268_261.out _).trans (((cell_far (p := ⟨gb261, _, none⟩) NB268_261.out _).trans (((cell_far (p := ⟨gb261, _, none⟩) NB268_261.out _).trans (hHeld.2.2.2.1)))))), ((cell_far (p := ⟨gb261, _, none⟩) NB268_261.out _).trans (((cell_far (p := ⟨gb261, _, none⟩) NB268_261.out _).trans (((cell_far (p := ⟨gb261, _, none⟩) NB268_261.out _).trans (hHeld.2.2.2.2.1)))))), ((cell_far (p := ⟨gb261, _, none⟩) NB268_261.out _).trans (((cell_far (p := ⟨gb261, _, none⟩) NB268_261.out _).trans (((cell_far (p := ⟨gb261, _, none⟩) NB268_261.out _).trans (hHeld.2.2.2.2.2))))))⟩ (fun hHeld => ?_)
    clear hK K
    refine one_ (i := 5) (N := none) #[true, true, true, true, true, true] rfl rfl (by kernel_rfl) (by decide) (fun K hK => ?_)
    have hs64 : w60.cell? ⟨gb262, 0, none⟩ = some (.int .i64 0) := (blk_cell BK262.out 0).trans rfl
    have hfs64 := blk_frozen BK262.out 0
    have hns64_0 := NB259_262.out
    have hns64_1 := NB260_262.out
    have hns64_2 := NB261_262.out
    have hns64_4 := NB268_262.out
    have hns64_5 := NB272_262.out
    have hms64_0 := NB262_259.out
    have hms64_1 := NB262_260.out
    have hms64_2 := NB262_261.out
    have hms64_4 := NB262_268.out
    have hms64_5 := NB262_272.out
    have hs65 : w60.cell? ⟨gb262, 1, none⟩ = some (.int .i64 0) := (blk_cell BK262.out 1).trans rfl
    have hfs65 := blk_frozen BK262.out 1
    have hns65_0 := NB259_262.out
    have hns65_1 := NB260_262.out
    have hns65_2 := NB261_262.out
    have hns65_4 := NB268_262.out
    have hns65_5 := NB272_262.out
    have hms65_0 := NB262_259.out
    have hms65_1 := NB262_260.out
    have hms65_2 := NB262_261.out
    have hms65_4 := NB262_268.out
    have hms65_5 := NB262_272.out
    have hs66 : w60.cell? ⟨gb262, 2, none⟩ = some (.int .i64 0) := (blk_cell BK262.out 2).trans rfl
    have hfs66 := blk_frozen BK262.out 2
    have hns66_0 := NB259_262.out
    have hns66_1 := NB260_262.out
    have hns66_2 := NB261_262.out
    have hns66_4 := NB268_262.out
    have hns66_5 := NB272_262.out
    have hms66_0 := NB262_259.out
    have hms66_1 := NB262_260.out
    have hms66_2 := NB262_261.out
    have hms66_4 := NB262_268.out
    have hms66_5 := NB262_272.out
    refine skip_ (w1 := ?_) (by rfl) rfl ?_ ?_
    rotate_left
    ·go_simp
     rfl
    refine hK.out _ _ ⟨((cell_far (p := ⟨gb262, _, none⟩) NB272_262.out _).trans (((cell_far (p := ⟨gb262, _, none⟩) NB272_262.out _).trans (((cell_far (p := ⟨gb262, _, none⟩) NB272_262.out _).trans (hHeld.1)))))), ((cell_far (p := ⟨gb262, _, none⟩) NB272_262.out _).trans (((cell_far (p := ⟨gb262, _, none⟩) NB272_262.out _).trans (((cell_far (p := ⟨gb262, _, none⟩) NB272_262.out _).trans (hHeld.2.1)))))), ((cell_far (p := ⟨gb262, _, none⟩) NB272_262.out _).trans (((cell_far (p := ⟨gb262, _, none⟩) NB272_262.out _).trans (((cell_far (p := ⟨gb262, _, none⟩) NB272_262.out _).trans (hHeld.2.2.1)))))), ((cell_far (p := ⟨gb262, _, none⟩) NB268_262.out _).trans (((cell_far (p := ⟨gb262, _, none⟩) NB268_262.out _).trans (((cell_far (p := ⟨gb262, _, none⟩) NB268_262.out _).trans (hHeld.2.2.2.1)))))), ((cell_far (p := ⟨gb262, _, none⟩) NB268_262.out _).trans (((cell_far (p := ⟨gb262, _, none⟩) NB268_262.out _).trans (((cell_far (p := ⟨gb262, _, none⟩) NB268_262.out _).trans (hHeld.2.2.2.2.1)))))), ((cell_far (p := ⟨gb262, _, none⟩) NB268_262.out _).trans (((cell_far (p := ⟨gb262, _, none⟩) NB268_262.out _).trans (((cell_far (p := ⟨gb262, _, none⟩) NB268_262.out _).trans (hHeld.2.2.2.2.2))))))⟩ (fun hHeld => ?_)
    clear hK K
    refine done_ (by kernel_rfl) ?_
    try go_wp2
    refine bodyPost_ret (results_cc rfl _ _ gb261 gb262 26 26 #[.int .i64 t269, .int .i64 t270, .int .i64 t271] #[.int .i64 t273, .int .i64 t274, .int .i64 t275] (0, 0) (0, 0) _ _ rfl (by (with_reducible repeat (first | refine blk_drewN ?_ _ | refine blk_drew ?_ | refine blk_alloc ?_ _)); refine blk_far ?_ NB261_262.out _; (with_reducible repeat (first | refine blk_drewN ?_ _ | refine blk_drew ?_ | refine blk_alloc ?_ _)); refine blk_far ?_ NB261_262.out _; (with_reducible repeat (first | refine blk_drewN ?_ _ | refine blk_drew ?_ | refine blk_alloc ?_ _)); refine blk_far ?_ NB261_262.out _; (with_reducible repeat (first | refine blk_drewN ?_ _ | refine blk_drew ?_ | refine blk_alloc ?_ _)); refine blk_put (cs := #[.int .i64 t269, .int .i64 t270, .int .i64 0]) ?_ 2 _ rfl; (with_reducible repeat (first | refine blk_drewN ?_ _ | refine blk_drew ?_ | refine blk_alloc ?_ _)); refine blk_put (cs := #[.int .i64 t269, .int .i64 0, .int .i64 0]) ?_ 1 _ rfl; (with_reducible repeat (first | refine blk_drewN ?_ _ | refine blk_drew ?_ | refine blk_alloc ?_ _)); refine blk_put (cs := #[.int .i64 0, .int .i64 0, .int .i64 0]) ?_ 0 _ rfl; (with_reducible repeat (first | refine blk_drewN ?_ _ | refine blk_drew ?_ | refine blk_alloc ?_ _)); exact BK261.out) Try.underlying26 rfl (by kernel_rfl) rfl (by (with_reducible repeat (first | refine blk_drewN ?_ _ | refine blk_drew ?_ | refine blk_alloc ?_ _)); refine blk_put (cs := #[.int .i64 t273, .int .i64 t274, .int .i64 0]) ?_ 2 _ rfl; (with_reducible repeat (first | refine blk_drewN ?_ _ | refine blk_drew ?_ | refine blk_alloc ?_ _)); refine blk_put (cs := #[.int .i64 t273, .int .i64 0, .int .i64 0]) ?_ 1 _ rfl; (with_reducible repeat (first | refine blk_drewN ?_ _ | refine blk_drew ?_ | refine blk_alloc ?_ _)); refine blk_put (cs := #[.int .i64 0, .int .i64 0, .int .i64 0]) ?_ 0 _ rfl; (with_reducible repeat (first | refine blk_drewN ?_ _ | refine blk_drew ?_ | refine blk_alloc ?_ _)); refine blk_far ?_ NB262_261.out _; (with_reducible repeat (first | refine blk_drewN ?_ _ | refine blk_drew ?_ | refine blk_alloc ?_ _)); refine blk_far ?_ NB262_261.out _; (with_reducible repeat (first | refine blk_drewN ?_ _ | refine blk_drew ?_ | refine blk_alloc ?_ _)); refine blk_far ?_ NB262_261.out _; (with_reducible repeat (first | refine blk_drewN ?_ _ | refine blk_drew ?_ | refine blk_alloc ?_ _)); exact BK262.out) Try.underlying26 rfl (by kernel_rfl)) rfl ?_
    exact ⟨Gv.rt, Gv.bw⟩

end Go.Proofs.Ytiokbmbdhejciaa.PCr
