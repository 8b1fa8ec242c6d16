/- Plain Lean functions of a law's Go functions, their contracts, by a program of this session (wip/pr.py over the kit's print). -/
import Derived.Test.YtjpmhbjbgooheaaPMvx0
import Derived.Test.YtjpmhbjbgooheaaPMvx3
import Derived.Test.YtjpmhbjbgooheaaPMvx4
import Derived.Test.YtjpmhbjbgooheaaPMvx5
import Derived.Test.YtjpmhbjbgooheaaPMvx6
namespace Go.Proofs.Ytjpmhbjbgooheaa.PMv
open Go.RowKit Go.Proofs.YtjpmhbjbgooheaaW.PrintWords Go.Proofs.YtjpmhbjbgooheaaW.PrintLast Go.Proofs.Ytjpmhbjbgooheaa.Th
set_option linter.unusedVariables false
set_option linter.unusedSimpArgs false

/-! ### impl_HeapMove: function 27 -/
def impl_HeapMove.j0 : Nat → Int → Bool → List (S25) → Int → Int → Option ((List (S25)) × Int)
 | 0, _, _, _, _, _ => none
 | k + 1, x6, x12, x248000, x249000, x249001 => if x12 = true then (some (([] : List (S25)), 1)) else (if x6 < 0 then (some (([] : List (S25)), 4)) else ((impl_copyHeap.f x248000).bind fun t253 => (if 0 ≤ x6 then (if x6 < (t253.length : Int) then ((impl_Heap_up.f k (t253.set (x6 : Int).toNat (⟨x249000, x249001⟩ : S25)) x6).bind fun bt258 => ((impl_Heap_down.f k bt258.2 bt258.1).bind fun t260 => (some (t260, 0)))) else (none)) else (none))))
def impl_HeapMove.f (k : Nat) (l0_0 : List (S25)) (a1_0 : Int) (a1_1 : Int) : Option ((List (S25)) × Int) := (impl_Heap_place.f l0_0 a1_1).bind fun t250 => ((impl_HeapOk.f k l0_0).bind fun t251 => (if t251 = true then ((impl_ItemOk.f a1_0 a1_1).bind fun t252 => (impl_HeapMove.j0 k t250 (!t252) l0_0 a1_0 a1_1)) else (impl_HeapMove.j0 k t250 true l0_0 a1_0 a1_1)))
theorem impl_HeapMove.mono_l : ∀ k, (∀ y0 y1 y2 y3 y4, LeO (impl_HeapMove.j0 k y0 y1 y2 y3 y4) (impl_HeapMove.j0 (k + 1) y0 y1 y2 y3 y4))
 | 0 => fun _ _ _ _ _ r h => by simp [impl_HeapMove.j0] at h
 | k + 1 => by
  have ih0 := impl_HeapMove.mono_l k
  ·intro y0 y1 y2 y3 y4
   unfold impl_HeapMove.j0
   repeat' first
   | (with_reducible exact ih0 _ _ _ _ _)
   | (with_reducible exact impl_HeapOk.mono _ _)
   | (with_reducible exact impl_Heap_down.mono _ _ _)
   | (with_reducible exact impl_Heap_up.mono _ _ _)
   | (with_reducible exact LeO.refl _)
   | (with_reducible exact LeO.none _)
   | (with_reducible refine LeO.ite ?_ ?_)
   | (with_reducible refine LeO.bind ?_ (fun _ => ?_))
   | exact ih0 _ _ _ _ _
   | exact impl_HeapOk.mono _ _
   | exact impl_Heap_down.mono _ _ _
   | exact impl_Heap_up.mono _ _ _
   | exact LeO.none _
   | refine LeO.ite ?_ ?_
   | refine LeO.bind ?_ (fun _ => ?_)
theorem impl_HeapMove.mono : ∀ a0 a1 a2 k, LeO (impl_HeapMove.f k a0 a1 a2) (impl_HeapMove.f (k + 1) a0 a1 a2) := by
 intro a0 a1 a2 k
 have ih0 := impl_HeapMove.mono_l k
 unfold impl_HeapMove.f
 repeat' first
   | (with_reducible exact ih0 _ _ _ _ _)
   | (with_reducible exact impl_HeapOk.mono _ _)
   | (with_reducible exact impl_Heap_down.mono _ _ _)
   | (with_reducible exact impl_Heap_up.mono _ _ _)
   | (with_reducible exact LeO.refl _)
   | (with_reducible exact LeO.none _)
   | (with_reducible refine LeO.ite ?_ ?_)
   | (with_reducible refine LeO.bind ?_ (fun _ => ?_))
   | exact ih0 _ _ _ _ _
   | exact impl_HeapOk.mono _ _
   | exact impl_Heap_down.mono _ _ _
   | exact impl_Heap_up.mono _ _ _
   | exact LeO.none _
   | refine LeO.ite ?_ ?_
   | refine LeO.bind ?_ (fun _ => ?_)
set_option maxHeartbeats 8000000 in
set_option maxRecDepth 100000 in
theorem impl_HeapMove.calls (k : Nat) (A0_0 : Option Addr) (c0_0 : Nat) (l0_0 : List (S25)) (a1_0 : Int) (a1_1 : Int) (r1 : List (S25)) (r2 : Int) (w : World) (hr0_0 : Kd.C k25 w A0_0 l0_0.length l0_0) (hc0_0 : l0_0.length ≤ c0_0) (h : impl_HeapMove.f k l0_0 a1_0 a1_1 = some (r1, r2)) :
  Calls Try.prog 27 #[.agg #[.slice A0_0 l0_0.length c0_0], .agg #[.int .i64 a1_0, .int .i64 a1_1]] w fun e w' => ∃ v0_ : Value, e = .returned (.tuple #[.agg #[v0_], .int .i64 r2]) ∧ Kd.R k25 25 w' w.heap.size (fun _ => True) v0_ r1 ∧ Below w.heap.size w w' := by
 have hu37 := Try.underlying37
 have hu25 := Try.underlying25
 have HR0_0 := Aside0.mk hr0_0
 have HC0_0 := Aside0.mk hc0_0
 clear hr0_0 hc0_0
 have HB := Aside0.mk (Below.refl w.heap.size w)
 have H : ((impl_Heap_place.f l0_0 a1_1).bind fun t250 => ((impl_HeapOk.f k l0_0).bind fun t251 => (if t251 = true then ((impl_ItemOk.f a1_0 a1_1).bind fun t252 => (impl_HeapMove.j0 k t250 (!t252) l0_0 a1_0 a1_1)) else (impl_HeapMove.j0 k t250 true l0_0 a1_0 a1_1)))) = some (r1, r2) := h
 clear h
 replace H := Option.bind_eq_some_iff.mp H
 obtain ⟨t250, A30, H⟩ := H
 replace H : ((impl_HeapOk.f k l0_0).bind fun t251 => (if t251 = true then ((impl_ItemOk.f a1_0 a1_1).bind fun t252 => (impl_HeapMove.j0 k t250 (!t252) l0_0 a1_0 a1_1)) else (impl_HeapMove.j0 k t250 true l0_0 a1_0 a1_1))) = some (r1, r2) := H
 have A3 := Aside0.mk A30
 clear A30
 have HC4 := Aside0.mk H
 clear H
 go_enter Try.func27, Try.ntmps27
 go_upto_region 2 with (first | ((with_reducible refine gate_dst (N := 2) rfl ?_); refine box_event ?hg (N := 2) ?hd (cs := #[.slice A0_0 l0_0.length c0_0]) (t := 37) ?hr ?_; (case hd => rfl); (case hg => rfl); (case hr => first | (go_simp; done) | (go_simp; rfl)); intro gb247 hg w5 hbox hb; have n0_ := Aside0.mk (below_step Gv.bw hb); have n1_ := Aside0.mk (hbox); have n2_ := Aside0.mk ((by rw [hg]; exact (below_size Gv.bw) : w.heap.size ≤ gb247)); have n3_ := Aside0.mk ((by rw [hg]; exact (below_size Gv.bw) : w.heap.size ≤ gb247)); clear HB; have HB := n0_; have BK247 := n1_; have GW247 := n2_; have GE247 := n3_; clear n0_ n1_ n2_ n3_; clear hb hbox hg) | ((with_reducible refine gate_dst (N := 3) rfl ?_); refine box_event ?hg (N := 3) ?hd (cs := #[.int .i64 a1_0, .int .i64 a1_1]) (t := 25) ?hr ?_; (case hd => rfl); (case hg => rfl); (case hr => first | (go_simp; done) | (go_simp; rfl)); intro gb248 hg w6 hbox hb; have n0_ := Aside0.mk (blk_below (g := gb247) (o := .cells #[.slice A0_0 l0_0.length c0_0] 37 (0, 0)) Gv.bk hb); have n1_ := Aside0.mk (below_step Gv.bw hb); have n2_ := Aside0.mk (hbox); have n3_ := Aside0.mk ((by rw [hg]; exact (below_size Gv.bw) : w.heap.size ≤ gb248)); have n4_ := Aside0.mk ((by rw [hg]; exact (below_size Gv.bw) : w.heap.size ≤ gb248)); have n5_ := Aside0.mk ((by rw [hg]; exact Nat.ne_of_lt (blk_lt (g := gb247) (o := .cells #[.slice A0_0 l0_0.length c0_0] 37 (0, 0)) Gv.bk) : gb247 ≠ gb248)); have n6_ := Aside0.mk ((by rw [hg]; exact Nat.ne_of_gt (blk_lt (g := gb247) (o := .cells #[.slice A0_0 l0_0.length c0_0] 37 (0, 0)) Gv.bk) : gb248 ≠ gb247)); clear BK247; clear HB; have BK247 := n0_; have HB := n1_; have BK248 := n2_; have GW248 := n3_; have GE248 := n4_; have NB247_248 := n5_; have NB248_247 := n6_; clear n0_ n1_ n2_ n3_ n4_ n5_ n6_; clear hb hbox hg) | ((with_reducible refine gate_dst (N := 4) rfl ?_); refine box_event ?hg (N := 4) ?hd (cs := #[.slice none 0 0]) (t := 37) ?hr ?_; (case hd => rfl); (case hg => rfl); (case hr => first | (go_simp; done) | (go_simp; rfl)); intro gb249 hg w7 hbox hb; have n0_ := Aside0.mk (blk_below (g := gb247) (o := .cells #[.slice A0_0 l0_0.length c0_0] 37 (0, 0)) Gv.bk hb); have n1_ := Aside0.mk (blk_below (g := gb248) (o := .cells #[.int .i64 a1_0, .int .i64 a1_1] 25 (0, 0)) Gv.bk hb); have n2_ := Aside0.mk (below_step Gv.bw hb); have n3_ := Aside0.mk (hbox); have n4_ := Aside0.mk ((by rw [hg]; exact (below_size Gv.bw) : w.heap.size ≤ gb249)); have n5_ := Aside0.mk ((by rw [hg]; exact (below_size Gv.bw) : w.heap.size ≤ gb249)); have n6_ := Aside0.mk ((by rw [hg]; exact Nat.ne_of_lt (blk_lt (g := gb247) (o := .cells #[.slice A0_0 l0_0.length c0_0] 37 (0, 0)) Gv.bk) : gb247 ≠ gb249)); have n7_ := Aside0.mk ((by rw [hg]; exact Nat.ne_of_gt (blk_lt (g := gb247) (o := .cells #[.slice A0_0 l0_0.length c0_0] 37 (0, 0)) Gv.bk) : gb249 ≠ gb247)); have n8_ := Aside0.mk ((by rw [hg]; exact Nat.ne_of_lt (blk_lt (g := gb248) (o := .cells #[.int .i64 a1_0, .int .i64 a1_1] 25 (0, 0)) Gv.bk) : gb248 ≠ gb249)); have n9_ := Aside0.mk ((by rw [hg]; exact Nat.ne_of_gt (blk_lt (g := gb248) (o := .cells #[.int .i64 a1_0, .int .i64 a1_1] 25 (0, 0)) Gv.bk) : gb249 ≠ gb248)); clear BK247; clear BK248; clear HB; have BK247 := n0_; have BK248 := n1_; have HB := n2_; have BK249 := n3_; have GW249 := n4_; have GE249 := n5_; have NB247_249 := n6_; have NB249_247 := n7_; have NB248_249 := n8_; have NB249_248 := n9_; clear n0_ n1_ n2_ n3_ n4_ n5_ n6_ n7_ n8_ n9_; clear hb hbox hg; have hnb8 := NB247_248.out; have hnc8 := NB248_247.out; have hnb9 := NB247_249.out; have hnc9 := NB249_247.out; have hcz10_0 : w7.cell? ⟨gb247, 0, none⟩ = some (.slice A0_0 l0_0.length c0_0) := (blk_cell BK247.out 0).trans rfl; have hfz10_0 := blk_frozen BK247.out 0; have hnb11 := NB248_249.out; have hnc11 := NB249_248.out; have hcz12_0 : w7.cell? ⟨gb248, 0, none⟩ = some (.int .i64 a1_0) := (blk_cell BK248.out 0).trans rfl; have hcz12_1 : w7.cell? ⟨gb248, 1, none⟩ = some (.int .i64 a1_1) := (blk_cell BK248.out 1).trans rfl; have hfz12_0 := blk_frozen BK248.out 0; have hfz12_1 := blk_frozen BK248.out 1) | ((with_reducible refine gate_callee (f := 35) rfl ?_); refine goesL_ (some 11) rfl rfl Try.func35 (by kernel_rfl) rfl #[.agg #[.slice A0_0 l0_0.length c0_0], .int .i64 a1_1] rfl (by (try simp only [List.map_toArray, List.map_cons, List.map_nil]); first | done | rfl | (simp only [List.length_drop, List.length_take]; rfl)) ?_; (with_reducible refine (impl_Heap_place.calls _ _ l0_0 a1_1 t250 _ ?side1 ?side2 A3.out).mono ?_); (case side1 => repeat (first | exact (Kd.C_below HR0_0.out HB.out) | (with_reducible refine Kd.C_alloc ?_ _) | (with_reducible refine Kd.C_drewN ?_ _) | (with_reducible refine Kd.C_drew ?_))); (case side2 => exact HC0_0.out); rintro e w13 ⟨rfl, hb⟩; refine ⟨_, rfl, ?_⟩; have n0_ := Aside0.mk (blk_below (g := gb247) (o := .cells #[.slice A0_0 l0_0.length c0_0] 37 (0, 0)) Gv.bk hb); have n1_ := Aside0.mk (blk_below (g := gb248) (o := .cells #[.int .i64 a1_0, .int .i64 a1_1] 25 (0, 0)) Gv.bk hb); have n2_ := Aside0.mk (blk_below (g := gb249) (o := .cells #[.slice none 0 0] 37 (0, 0)) Gv.bk hb); have n3_ := Aside0.mk (below_step Gv.bw hb); clear BK247; clear BK248; clear BK249; clear HB; have BK247 := n0_; have BK248 := n1_; have BK249 := n2_; have HB := n3_; clear n0_ n1_ n2_ n3_; (try clear hb); (try clear hb2); (try clear hk); (try clear hi)))
 (try simp only [Act.put, List.setIfInBounds_toArray, List.set_cons_zero, List.set_cons_succ])
 go_cut [12] (fun v12 wc => ∃ (kq : Nat) (x12_3 : Bool), v12 = .bool x12_3 ∧ Aside0 (impl_HeapMove.j0 kq t250 x12_3 l0_0 a1_0 a1_1 = some (r1, r2)) ∧ Aside0 (kq ≤ k) ∧ Aside0 (wc.heap[gb247]? = some (.cells #[(.slice A0_0 l0_0.length c0_0)] 37 (0, 0))) ∧ Aside0 (wc.heap[gb248]? = some (.cells #[.int .i64 a1_0, .int .i64 a1_1] 25 (0, 0))) ∧ Aside0 (wc.heap[gb249]? = some (.cells #[(.slice none 0 0)] 37 (0, 0))) ∧ Aside0 (Below w.heap.size w wc))
 case first =>
  have H := HC4.out
  clear HC4
  replace H := Option.bind_eq_some_iff.mp H
  obtain ⟨t251, A140, H⟩ := H
  replace H : (if t251 = true then ((impl_ItemOk.f a1_0 a1_1).bind fun t252 => (impl_HeapMove.j0 k t250 (!t252) l0_0 a1_0 a1_1)) else (impl_HeapMove.j0 k t250 true l0_0 a1_0 a1_1)) = some (r1, r2) := H
  have A14 := Aside0.mk A140
  clear A140
  by_cases c15 : t251 = true
  ·subst c15
   have H1 : ((impl_ItemOk.f a1_0 a1_1).bind fun t252 => (impl_HeapMove.j0 k t250 (!t252) l0_0 a1_0 a1_1)) = some (r1, r2) := by rw [if_pos rfl] at H; exact H
   clear H
   have H := H1
   clear H1
   replace H := Option.bind_eq_some_iff.mp H
   obtain ⟨t252, A160, H⟩ := H
   replace H : (impl_HeapMove.j0 k t250 (!t252) l0_0 a1_0 a1_1) = some (r1, r2) := H
   have A16 := Aside0.mk A160
   clear A160
   have H' := Aside0.mk H
   clear H
   have hnb17 := NB247_248.out
   have hnc17 := NB248_247.out
   have hnb18 := NB247_249.out
   have hnc18 := NB249_247.out
   have hcz19_0 : w13.cell? ⟨gb247, 0, none⟩ = some (.slice A0_0 l0_0.length c0_0) := (blk_cell BK247.out 0).trans rfl
   have hfz19_0 := blk_frozen BK247.out 0
   go_wp2_with (first | ((with_reducible refine gate_callee (f := 18) rfl ?_); refine goesL_ (some 14) rfl rfl Try.func18 (by kernel_rfl) rfl #[.agg #[.slice A0_0 l0_0.length c0_0]] rfl (by (try simp only [List.map_toArray, List.map_cons, List.map_nil]); first | done | rfl | (simp only [List.length_drop, List.length_take]; rfl)) ?_; (with_reducible refine (impl_HeapOk.calls k _ _ l0_0 true _ ?side1 ?side2 A14.out).mono ?_); (case side1 => repeat (first | exact (Kd.C_below HR0_0.out HB.out) | (with_reducible refine Kd.C_alloc ?_ _) | (with_reducible refine Kd.C_drewN ?_ _) | (with_reducible refine Kd.C_drew ?_))); (case side2 => exact HC0_0.out); rintro e w20 ⟨rfl, hb⟩; refine ⟨_, rfl, ?_⟩; have n0_ := Aside0.mk (blk_below (g := gb247) (o := .cells #[.slice A0_0 l0_0.length c0_0] 37 (0, 0)) Gv.bk hb); have n1_ := Aside0.mk (blk_below (g := gb248) (o := .cells #[.int .i64 a1_0, .int .i64 a1_1] 25 (0, 0)) Gv.bk hb); have n2_ := Aside0.mk (blk_below (g := gb249) (o := .cells #[.slice none 0 0] 37 (0, 0)) Gv.bk hb); have n3_ := Aside0.mk (below_step Gv.bw hb); clear BK247; clear BK248; clear BK249; clear HB; have BK247 := n0_; have BK248 := n1_; have BK249 := n2_; have HB := n3_; clear n0_ n1_ n2_ n3_; (try clear hb); (try clear hb2); (try clear hk); (try clear hi); have hnb21 := NB248_249.out; have hnc21 := NB249_248.out; have hcz22_0 : w20.cell? ⟨gb248, 0, none⟩ = some (.int .i64 a1_0) := (blk_cell BK248.out 0).trans rfl; have hcz22_1 : w20.cell? ⟨gb248, 1, none⟩ = some (.int .i64 a1_1) := (blk_cell BK248.out 1).trans rfl; have hfz22_0 := blk_frozen BK248.out 0; have hfz22_1 := blk_frozen BK248.out 1) | (go_at_call 14; (with_reducible refine (impl_ItemOk.calls a1_0 a1_1 t252 _ A16.out).mono ?_); rintro e w23 ⟨rfl, hb⟩; have n0_ := Aside0.mk (blk_below (g := gb247) (o := .cells #[.slice A0_0 l0_0.length c0_0] 37 (0, 0)) Gv.bk hb); have n1_ := Aside0.mk (blk_below (g := gb248) (o := .cells #[.int .i64 a1_0, .int .i64 a1_1] 25 (0, 0)) Gv.bk hb); have n2_ := Aside0.mk (blk_below (g := gb249) (o := .cells #[.slice none 0 0] 37 (0, 0)) Gv.bk hb); have n3_ := Aside0.mk (below_step Gv.bw hb); clear BK247; clear BK248; clear BK249; clear HB; have BK247 := n0_; have BK248 := n1_; have BK249 := n2_; have HB := n3_; clear n0_ n1_ n2_ n3_; (try clear hb); (try clear hb2); (try clear hk); (try clear hi)))
   go_meet
   case rel => exact ⟨_, (!t252), (by first | rfl | (simp; done) | (simp [Int.tdiv_eq_ediv_of_nonneg]; done) | (simp [*]; done)), H', ⟨by first | omega | exact Nat.le_refl _⟩, ⟨by (with_reducible repeat (first | refine blk_drewN ?_ _ | refine blk_drew ?_ | refine blk_alloc ?_ _)); exact BK247.out⟩, ⟨by (with_reducible repeat (first | refine blk_drewN ?_ _ | refine blk_drew ?_ | refine blk_alloc ?_ _)); exact BK248.out⟩, ⟨by (with_reducible repeat (first | refine blk_drewN ?_ _ | refine blk_drew ?_ | refine blk_alloc ?_ _)); exact BK249.out⟩, ⟨by repeat (first | (with_reducible first | exact HB.out | apply below_alloc | apply pw_below_drewN | apply below_drew1 | refine below_set ?_ GE247.out | refine below_set ?_ GE248.out | refine below_set ?_ GE249.out) | exact HB.out)⟩⟩
  ·replace c15 := Bool.eq_false_iff.mpr c15
   subst c15
   have H1 : (impl_HeapMove.j0 k t250 true l0_0 a1_0 a1_1) = some (r1, r2) := by rw [if_neg (show ¬ (false = true) by decide)] at H; exact H
   clear H
   have H := H1
   clear H1
   have H' := Aside0.mk H
   clear H
   have hnb24 := NB247_248.out
   have hnc24 := NB248_247.out
   have hnb25 := NB247_249.out
   have hnc25 := NB249_247.out
   have hcz26_0 : w13.cell? ⟨gb247, 0, none⟩ = some (.slice A0_0 l0_0.length c0_0) := (blk_cell BK247.out 0).trans rfl
   have hfz26_0 := blk_frozen BK247.out 0
   go_wp2_with (first | ((with_reducible refine gate_callee (f := 18) rfl ?_); refine goesL_ (some 14) rfl rfl Try.func18 (by kernel_rfl) rfl #[.agg #[.slice A0_0 l0_0.length c0_0]] rfl (by (try simp only [List.map_toArray, List.map_cons, List.map_nil]); first | done | rfl | (simp only [List.length_drop, List.length_take]; rfl)) ?_; (with_reducible refine (impl_HeapOk.calls k _ _ l0_0 false _ ?side1 ?side2 A14.out).mono ?_); (case side1 => repeat (first | exact (Kd.C_below HR0_0.out HB.out) | (with_reducible refine Kd.C_alloc ?_ _) | (with_reducible refine Kd.C_drewN ?_ _) | (with_reducible refine Kd.C_drew ?_))); (case side2 => exact HC0_0.out); rintro e w27 ⟨rfl, hb⟩; refine ⟨_, rfl, ?_⟩; have n0_ := Aside0.mk (blk_below (g := gb247) (o := .cells #[.slice A0_0 l0_0.length c0_0] 37 (0, 0)) Gv.bk hb); have n1_ := Aside0.mk (blk_below (g := gb248) (o := .cells #[.int .i64 a1_0, .int .i64 a1_1] 25 (0, 0)) Gv.bk hb); have n2_ := Aside0.mk (blk_below (g := gb249) (o := .cells #[.slice none 0 0] 37 (0, 0)) Gv.bk hb); have n3_ := Aside0.mk (below_step Gv.bw hb); clear BK247; clear BK248; clear BK249; clear HB; have BK247 := n0_; have BK248 := n1_; have BK249 := n2_; have HB := n3_; clear n0_ n1_ n2_ n3_; (try clear hb); (try clear hb2); (try clear hk); (try clear hi)))
   go_meet
   case rel => exact ⟨_, (true), (by first | rfl | (simp; done) | (simp [Int.tdiv_eq_ediv_of_nonneg]; done) | (simp [*]; done)), H', ⟨by first | omega | exact Nat.le_refl _⟩, ⟨by (with_reducible repeat (first | refine blk_drewN ?_ _ | refine blk_drew ?_ | refine blk_alloc ?_ _)); exact BK247.out⟩, ⟨by (with_reducible repeat (first | refine blk_drewN ?_ _ | refine blk_drew ?_ | refine blk_alloc ?_ _)); exact BK248.out⟩, ⟨by (with_reducible repeat (first | refine blk_drewN ?_ _ | refine blk_drew ?_ | refine blk_alloc ?_ _)); exact BK249.out⟩, ⟨by repeat (first | (with_reducible first | exact HB.out | apply below_alloc | apply pw_below_drewN | apply below_drew1 | refine below_set ?_ GE247.out | refine below_set ?_ GE248.out | refine below_set ?_ GE249.out) | exact HB.out)⟩⟩
 case rest =>
  clear HC4
  try clear c1
  try clear c2
  try clear p2
  try clear c3
  try clear c8
  try clear c9
  try clear c11
  try clear c15
  try clear c17
  try clear c18
  try clear c21
  try clear c24
  try clear c25
  try clear c27
  try clear hcz10_0
  try clear hcz12_0
  try clear hcz12_1
  try clear hcz19_0
  try clear hcz22_0
  try clear hcz22_1
  try clear hcz26_0
  try clear hfz10_0
  try clear hfz12_0
  try clear hfz12_1
  try clear hfz19_0
  try clear hfz22_0
  try clear hfz22_1
  try clear hfz26_0
  obtain ⟨kq, x12_3, rfl, HA, HJ3, BK247, BK248, BK249, HB⟩ := hcut
  cases kq with
  | zero => exact absurd HA.out (by simp [impl_HeapMove.j0])
  | succ kj3 =>
   have H := HA.out
   clear HA
   simp only [impl_HeapMove.j0] at H
   by_cases c28 : x12_3 = true
   ·subst c28
    have H1 : (some (([] : List (S25)), 1)) = some (r1, r2) := by rw [if_pos rfl] at H; exact H
    clear H
    have H := H1
    clear H1
    simp only [Option.some.injEq, Prod.mk.injEq] at H
    obtain ⟨rfl, rfl⟩ := H
    have hnb29 := NB249_247.out
    have hnc29 := NB247_249.out
    have hnb30 := NB249_248.out
    have hnc30 := NB248_249.out
    have hcz31_0 : wc.cell? ⟨gb249, 0, none⟩ = some (.slice none 0 0) := (blk_cell BK249.out 0).trans rfl
    have hfz31_0 := blk_frozen BK249.out 0
    go_wp2
    refine bodyPost_ret (results_ct rfl _ _ gb249 37 #[.slice none 0 0] (0, 0) _ rfl (by (with_reducible repeat (first | refine blk_drewN ?_ _ | refine blk_drew ?_ | refine blk_alloc ?_ _)); refine blk_put (cs := #[.slice none 0 0]) ?_ 0 _ rfl; (with_reducible repeat (first | refine blk_drewN ?_ _ | refine blk_drew ?_ | refine blk_alloc ?_ _)); exact BK249.out) Try.underlying37 rfl (by kernel_rfl)) rfl ?_
    exact ⟨_, by first | rfl | (simp [errW_none, errW_some] <;> rfl) | (simp [*, errW_none, errW_some] <;> rfl), by first | exact Kd.R_nil _ _ _ _ _ | exact Kd.N_nil _ _ _ _ _ | exact Kd.V_nil _ _ _ _ _ | exact Kd.Q_nil _ _ _ _ _ | exact Kd.S_nil _ _ _ _ _, by repeat (first | (with_reducible first | exact HB.out | apply below_alloc | apply pw_below_drewN | apply below_drew1 | refine below_set ?_ GE247.out | refine below_set ?_ GE248.out | refine below_set ?_ GE249.out) | exact HB.out)⟩
   ·replace c28 := Bool.eq_false_iff.mpr c28
    subst c28
    have H1 : (if t250 < 0 then (some (([] : List (S25)), 4)) else ((impl_copyHeap.f l0_0).bind fun t253 => (if 0 ≤ t250 then (if t250 < (t253.length : Int) then ((impl_Heap_up.f kj3 (t253.set (t250 : Int).toNat (⟨a1_0, a1_1⟩ : S25)) t250).bind fun bt258 => ((impl_Heap_down.f kj3 bt258.2 bt258.1).bind fun t260 => (some (t260, 0)))) else (none)) else (none)))) = some (r1, r2) := by rw [if_neg (show ¬ (false = true) by decide)] at H; exact H
    clear H
    have H := H1
    clear H1
    by_cases c32 : t250 < 0
    ·rw [if_pos c32] at H
     have c32b0 : decide (t250 < 0) = true := decide_eq_true c32
     clear c32
     simp only [Option.some.injEq, Prod.mk.injEq] at H
     obtain ⟨rfl, rfl⟩ := H
     have hnb33 := NB249_247.out
     have hnc33 := NB247_249.out
     have hnb34 := NB249_248.out
     have hnc34 := NB248_249.out
     have hcz35_0 : wc.cell? ⟨gb249, 0, none⟩ = some (.slice none 0 0) := (blk_cell BK249.out 0).trans rfl
     have hfz35_0 := blk_frozen BK249.out 0
     go_wp2
     refine bodyPost_ret (results_ct rfl _ _ gb249 37 #[.slice none 0 0] (0, 0) _ rfl (by (with_reducible repeat (first | refine blk_drewN ?_ _ | refine blk_drew ?_ | refine blk_alloc ?_ _)); refine blk_put (cs := #[.slice none 0 0]) ?_ 0 _ rfl; (with_reducible repeat (first | refine blk_drewN ?_ _ | refine blk_drew ?_ | refine blk_alloc ?_ _)); exact BK249.out) Try.underlying37 rfl (by kernel_rfl)) rfl ?_
     exact ⟨_, by first | rfl | (simp [errW_none, errW_some] <;> rfl) | (simp [*, errW_none, errW_some] <;> rfl), by first | exact Kd.R_nil _ _ _ _ _ | exact Kd.N_nil _ _ _ _ _ | exact Kd.V_nil _ _ _ _ _ | exact Kd.Q_nil _ _ _ _ _ | exact Kd.S_nil _ _ _ _ _, by repeat (first | (with_reducible first | exact HB.out | apply below_alloc | apply pw_below_drewN | apply below_drew1 | refine below_set ?_ GE247.out | refine below_set ?_ GE248.out | refine below_set ?_ GE249.out) | exact HB.out)⟩
    ·rw [if_neg c32] at H
     have c32b0 : decide (t250 < 0) = false := decide_eq_false c32
     clear c32
     replace H := Option.bind_eq_some_iff.mp H
     obtain ⟨t253, A360, H⟩ := H
     replace H : (if 0 ≤ t250 then (if t250 < (t253.length : Int) then ((impl_Heap_up.f kj3 (t253.set (t250 : Int).toNat (⟨a1_0, a1_1⟩ : S25)) t250).bind fun bt258 => ((impl_Heap_down.f kj3 bt258.2 bt258.1).bind fun t260 => (some (t260, 0)))) else (none)) else (none)) = some (r1, r2) := H
     have A36 := Aside0.mk A360
     clear A360
     by_cases c37 : 0 ≤ t250
     ·rw [if_pos c37] at H
      have c37b0 : decide (0 ≤ t250) = true := decide_eq_true c37
      clear c37
      by_cases c38 : t250 < (t253.length : Int)
      ·rw [if_pos c38] at H
       have c38b0 : decide (t250 < (t253.length : Int)) = true := decide_eq_true c38
       clear c38
       obtain ⟨y257, hy257⟩ : ∃ y_ : List (S25), y_ = (t253.set (t250 : Int).toNat (⟨a1_0, a1_1⟩ : S25)) := ⟨_, rfl⟩
       replace H : ((impl_Heap_up.f kj3 y257 t250).bind fun bt258 => ((impl_Heap_down.f kj3 bt258.2 bt258.1).bind fun t260 => (some (t260, 0)))) = some (r1, r2) := by first | (rw [hy257]; with_reducible exact H) | (have H2_ := (Option.bind_some _ _).symm.trans H; rw [hy257]; with_reducible exact H2_) | (have H2_ := (Option.bind_some _ _).symm.trans H; with_reducible exact H2_) | with_reducible exact H | (rw [hy257]; exact H) | exact H
       have Ny257 := Aside0.mk hy257
       clear hy257
       replace H := Option.bind_eq_some_iff.mp H
       obtain ⟨⟨t258, t259⟩, A400, H⟩ := H
       replace H : ((impl_Heap_down.f kj3 t259 t258).bind fun t260 => (some (t260, 0))) = some (r1, r2) := H
       have A40 := Aside0.mk A400
       clear A400
       replace H := Option.bind_eq_some_iff.mp H
       obtain ⟨t260, A410, H⟩ := H
       replace H : (some (t260, 0)) = some (r1, r2) := H
       have A41 := Aside0.mk A410
       clear A410
       simp only [Option.some.injEq, Prod.mk.injEq] at H
       obtain ⟨rfl, rfl⟩ := H
       have hnb42 := NB247_248.out
       have hnc42 := NB248_247.out
       have hnb43 := NB247_249.out
       have hnc43 := NB249_247.out
       have hcz44_0 : wc.cell? ⟨gb247, 0, none⟩ = some (.slice A0_0 l0_0.length c0_0) := (blk_cell BK247.out 0).trans rfl
       have hfz44_0 := blk_frozen BK247.out 0
       try go_wp2_with (first | ((with_reducible refine gate_callee (f := 38) rfl ?_); refine goesL_ (some 27) rfl rfl Try.func38 (by kernel_rfl) rfl #[.agg #[.slice A0_0 l0_0.length c0_0]] rfl (by (try simp only [List.map_toArray, List.map_cons, List.map_nil]); first | done | rfl | (simp only [List.length_drop, List.length_take]; rfl)) ?_; (with_reducible refine (impl_copyHeap.calls _ _ l0_0 t253 _ ?side1 ?side2 A36.out).mono ?_); (case side1 => repeat (first | exact (Kd.C_below HR0_0.out HB.out) | (with_reducible refine Kd.C_alloc ?_ _) | (with_reducible refine Kd.C_drewN ?_ _) | (with_reducible refine Kd.C_drew ?_))); (case side2 => exact HC0_0.out); rintro e w45 ⟨v254, rfl, ho0, hb⟩; refine ⟨_, rfl, ?_⟩; have n0_ := Aside0.mk (Kd.R_lower (Kd.R_newB ho0 (g := gb248) (o := .cells #[.int .i64 a1_0, .int .i64 a1_1] 25 (0, 0)) Gv.bk) (below_size Gv.bw)); have n1_ := Aside0.mk (blk_below (g := gb247) (o := .cells #[.slice A0_0 l0_0.length c0_0] 37 (0, 0)) Gv.bk hb); have n2_ := Aside0.mk (blk_below (g := gb248) (o := .cells #[.int .i64 a1_0, .int .i64 a1_1] 25 (0, 0)) Gv.bk hb); have n3_ := Aside0.mk (blk_below (g := gb249) (o := .cells #[.slice none 0 0] 37 (0, 0)) Gv.bk hb); have n4_ := Aside0.mk (below_step Gv.bw hb); clear BK247; clear BK248; clear BK249; clear HB; have HO255 := n0_; have BK247 := n1_; have BK248 := n2_; have BK249 := n3_; have HB := n4_; clear n0_ n1_ n2_ n3_ n4_; (try clear hb); (try clear hb2); (try clear hk); (try clear hi); (try clear ho0)) | ((with_reducible refine gate_dst (N := 7) rfl ?_); refine box_event ?hg (N := 7) ?hd (cs := #[.slice none 0 0]) (t := 37) ?hr ?_; (case hd => rfl); (case hg => rfl); (case hr => first | (go_simp; done) | (go_simp; rfl)); intro gb256 hg w46 hbox hb; have n0_ := Aside0.mk (Kd.R_below (by (with_reducible repeat (first | apply Kd.R_alloc | apply Kd.R_drewN | apply Kd.R_drew)); exact HO255.out) hb); have n1_ := Aside0.mk (blk_below (g := gb247) (o := .cells #[.slice A0_0 l0_0.length c0_0] 37 (0, 0)) Gv.bk hb); have n2_ := Aside0.mk (blk_below (g := gb248) (o := .cells #[.int .i64 a1_0, .int .i64 a1_1] 25 (0, 0)) Gv.bk hb); have n3_ := Aside0.mk (blk_below (g := gb249) (o := .cells #[.slice none 0 0] 37 (0, 0)) Gv.bk hb); have n4_ := Aside0.mk (below_step Gv.bw hb); have n5_ := Aside0.mk (hbox); have n6_ := Aside0.mk ((by rw [hg]; exact (below_size Gv.bw) : w.heap.size ≤ gb256)); have n7_ := Aside0.mk ((by rw [hg]; exact (below_size Gv.bw) : w.heap.size ≤ gb256)); have n8_ := Aside0.mk ((by rw [hg]; exact Nat.ne_of_lt (blk_lt (g := gb247) (o := .cells #[.slice A0_0 l0_0.length c0_0] 37 (0, 0)) Gv.bk) : gb247 ≠ gb256)); have n9_ := Aside0.mk ((by rw [hg]; exact Nat.ne_of_gt (blk_lt (g := gb247) (o := .cells #[.slice A0_0 l0_0.length c0_0] 37 (0, 0)) Gv.bk) : gb256 ≠ gb247)); have n10_ := Aside0.mk ((by rw [hg]; exact Nat.ne_of_lt (blk_lt (g := gb248) (o := .cells #[.int .i64 a1_0, .int .i64 a1_1] 25 (0, 0)) Gv.bk) : gb248 ≠ gb256)); have n11_ := Aside0.mk ((by rw [hg]; exact Nat.ne_of_gt (blk_lt (g := gb248) (o := .cells #[.int .i64 a1_0, .int .i64 a1_1] 25 (0, 0)) Gv.bk) : gb256 ≠ gb248)); have n12_ := Aside0.mk ((by rw [hg]; exact Nat.ne_of_lt (blk_lt (g := gb249) (o := .cells #[.slice none 0 0] 37 (0, 0)) Gv.bk) : gb249 ≠ gb256)); have n13_ := Aside0.mk ((by rw [hg]; exact Nat.ne_of_gt (blk_lt (g := gb249) (o := .cells #[.slice none 0 0] 37 (0, 0)) Gv.bk) : gb256 ≠ gb249)); clear HO255; clear BK247; clear BK248; clear BK249; clear HB; have HO255 := n0_; have BK247 := n1_; have BK248 := n2_; have BK249 := n3_; have HB := n4_; have BK256 := n5_; have GW256 := n6_; have GE256 := n7_; have NB247_256 := n8_; have NB256_247 := n9_; have NB248_256 := n10_; have NB256_248 := n11_; have NB249_256 := n12_; have NB256_249 := n13_; clear n0_ n1_ n2_ n3_ n4_ n5_ n6_ n7_ n8_ n9_ n10_ n11_ n12_ n13_; clear hb hbox hg; obtain ⟨Ao47, co47, eo47⟩ := Kd.R_slice HO255.out; subst eo47; have hnb48 := NB256_247.out; have hnc48 := NB247_256.out; have hnb49 := NB256_248.out; have hnc49 := NB248_256.out; have hnb50 := NB256_249.out; have hnc50 := NB249_256.out; have hcz51_0 : w46.cell? ⟨gb256, 0, none⟩ = some (.slice none 0 0) := (blk_cell BK256.out 0).trans rfl; have hfz51_0 := blk_frozen BK256.out 0) | ((with_reducible refine gate_store (t := 37) (p := 7) rfl ?_); refine store_event (t := 37) (p := 7) (v := ?vo_w52) (w1 := (w46.setCell ⟨gb256, 0, none⟩ (.slice Ao47 t253.length co47))) ?hg ?ho ?hn ?hr ?_; (case ho => rfl); (case hg => rfl); (case hn => rfl); (case hr => first | (go_simp; done) | (go_simp; rfl)); intro w52 hw; have n0_ : Aside0 (Kd.R k25 25 w52 w.heap.size (fun k_ => k_ ≠ gb248) (.slice Ao47 t253.length co47) t253) := ⟨(by rw [hw]; exact (by (with_reducible repeat (first | apply Kd.R_alloc | apply Kd.R_drewN | apply Kd.R_drew)); exact Kd.R_mono (Kd.R_far (p := ⟨gb256, 0, none⟩) (Kd.R_types HO255.out BK256.out (by decide)) (fun _ hk => hk.2) (.slice Ao47 t253.length co47)) (fun _ hk => hk.1.2)))⟩; have n1_ : Aside0 (w52.heap[gb247]? = some (.cells #[.slice A0_0 l0_0.length c0_0] 37 (0, 0))) := ⟨(by rw [hw]; exact Gv.bkf)⟩; have n2_ : Aside0 (w52.heap[gb248]? = some (.cells #[.int .i64 a1_0, .int .i64 a1_1] 25 (0, 0))) := ⟨(by rw [hw]; exact Gv.bkf)⟩; have n3_ : Aside0 (w52.heap[gb249]? = some (.cells #[.slice none 0 0] 37 (0, 0))) := ⟨(by rw [hw]; exact Gv.bkf)⟩; have n4_ : Aside0 (w52.heap[gb256]? = some (.cells #[.slice Ao47 t253.length co47] 37 (0, 0))) := ⟨(by rw [hw]; exact (by (with_reducible repeat (first | refine blk_drewN ?_ _ | refine blk_drew ?_ | refine blk_alloc ?_ _)); refine blk_put (cs := #[.slice none 0 0]) ?_ 0 _ rfl; (with_reducible repeat (first | refine blk_drewN ?_ _ | refine blk_drew ?_ | refine blk_alloc ?_ _)); exact BK256.out))⟩; have n5_ : Aside0 (Below w.heap.size w w52) := ⟨(by rw [hw]; exact Gv.bw)⟩; clear hw; clear HO255; clear BK247; clear BK248; clear BK249; clear BK256; clear HB; have HO255 := n0_; have BK247 := n1_; have BK248 := n2_; have BK249 := n3_; have BK256 := n4_; have HB := n5_; clear n0_ n1_ n2_ n3_ n4_ n5_; have hcz53_0 : w52.cell? ⟨gb256, 0, none⟩ = some (.slice Ao47 t253.length co47) := (blk_cell BK256.out 0).trans rfl; have hfz53_0 := blk_frozen BK256.out 0; have hnb54 := NB248_249.out; have hnc54 := NB249_248.out; have hcz55_0 : w52.cell? ⟨gb248, 0, none⟩ = some (.int .i64 a1_0) := (blk_cell BK248.out 0).trans rfl; have hcz55_1 : w52.cell? ⟨gb248, 1, none⟩ = some (.int .i64 a1_1) := (blk_cell BK248.out 1).trans rfl; have hfz55_0 := blk_frozen BK248.out 0; have hfz55_1 := blk_frozen BK248.out 1; have p39 : 0 ≤ (t250 : Int) := of_decide_eq_true (by first | (with_reducible assumption) | assumption); have q39 : (t250 : Int) < ((t253.length : Int) : Int) := of_decide_eq_true (by first | (with_reducible assumption) | assumption); obtain ⟨go39, co39, eo39, gb39, gl39, cl39, HG39⟩ := Kd.R_form HO255.out (by omega); (first | cases eo39 | (injection eo39 with ea_ en_ ec_; (first | subst ea_ | (injection ea_ with ea_; subst ea_)); subst ec_; clear en_)); have GB39 := Aside0.mk gb39; have GG39 := Aside0.mk HG39; clear gb39 gl39 HG39; obtain ⟨ce39, hcl39, hM39, hcc39, hfr39⟩ := Kd.R_elem HO255.out z25 (t250 : Int) p39 q39; obtain rfl := k25_openM hM39; have hx39_0 : w52.cell? ⟨go39, (t250 : Int).toNat * 2, none⟩ = some (.int .i64 ((rd_T25 t253 t250).f0)) := hcc39 0 _ rfl; have hx39_1 : w52.cell? ⟨go39, (t250 : Int).toNat * 2 + 1, none⟩ = some (.int .i64 ((rd_T25 t253 t250).f1)) := hcc39 1 _ rfl; have hf39_0 : w52.frozen? ⟨go39, (t250 : Int).toNat * 2, none⟩ = false := hfr39 0; have hf39_1 : w52.frozen? ⟨go39, (t250 : Int).toNat * 2 + 1, none⟩ = false := hfr39 1; clear hcl39 hcc39 hfr39 hM39; replace p39 := eq_true p39; replace q39 := eq_true q39; have HX56 := Aside0.mk (show Kd.R k25 25 w52 w.heap.size (fun k_ => k_ ≠ gb248) (.slice (some ⟨go39, 0, none⟩) t253.length co47) t253 from (by (with_reducible repeat (first | apply Kd.R_alloc | apply Kd.R_drewN | apply Kd.R_drew)); exact HO255.out)); obtain ⟨ce56, hcl56, hM56, hcc56, hfr56⟩ := Kd.R_elem HX56.out z25 (t250 : Int) (of_decide_eq_true (by first | (with_reducible assumption) | assumption)) (by have h_ : (t250 : Int) < ((t253.length : Int) : Int) := of_decide_eq_true (by first | (with_reducible assumption) | assumption); first | exact h_ | (have e_ := (Kd.R_reads' HO255.out).1; omega) | simpa using h_); obtain rfl := k25_openM hM56; have HP56 := Kd.R_seg HX56.out (t250 : Int) (of_decide_eq_true (by first | (with_reducible assumption) | assumption)) (by have h_ : (t250 : Int) < ((t253.length : Int) : Int) := of_decide_eq_true (by first | (with_reducible assumption) | assumption); first | exact h_ | (have e_ := (Kd.R_reads' HO255.out).1; omega) | simpa using h_) (seg := [.int .i64 a1_0, .int .i64 a1_1]) (j := 0) hcl56 hcc56 (show 2 ≤ 2 from by decide) (x' := (⟨a1_0, a1_1⟩ : S25)) (k25_mkM _ _ _ (⟨a1_0, a1_1⟩ : S25) ) (fun _ hk => hk); have hx56_0 := hcc56 0 _ rfl; (try simp only [show (k25).sz = 2 from rfl, Nat.mul_one, Nat.add_zero] at hx56_0); have hf56_0 := hfr56 0; (try simp only [show (k25).sz = 2 from rfl, Nat.mul_one, Nat.add_zero] at hf56_0); have hx56_1 := hcc56 1 _ rfl; (try simp only [show (k25).sz = 2 from rfl, Nat.mul_one, Nat.add_zero] at hx56_1); have hf56_1 := hfr56 1; (try simp only [show (k25).sz = 2 from rfl, Nat.mul_one, Nat.add_zero] at hf56_1); clear hcl56 hcc56 hfr56 hM56) | ((with_reducible refine gate_store (t := 25) (p := 32) rfl ?_); refine store_event (t := 25) (p := 32) (v := ?vo_w57) (w1 := ((w52.setCell ⟨go39, (t250 : Int).toNat * 2, none⟩ (.int .i64 a1_0)).setCell ⟨go39, (t250 : Int).toNat * 2 + 1, none⟩ (.int .i64 a1_1))) ?hg ?ho ?hn ?hr ?_; (case ho => rfl); (case hg => rfl); (case hn => rfl); (case hr => first | (go_simp; done) | (go_simp; rfl)); intro w57 hw; have hg : w52.grownBy w57 (some go39) := (by rw [hw]; exact HP56.2); have hp_ : Kd.R k25 25 w57 w.heap.size (fun k_ => k_ ≠ gb248) (.slice (some ⟨go39, 0, none⟩) t253.length co47) y257 := (by rw [hw, Ny257.out]; exact HP56.1); clear HP56; have n0_ := Aside0.mk (blk_grown (g := gb247) (o := .cells #[.slice A0_0 l0_0.length c0_0] 37 (0, 0)) Gv.bk hg (Kd.R_ne HO255.out BK247.out (by decide))); have n1_ := Aside0.mk (blk_grown (g := gb248) (o := .cells #[.int .i64 a1_0, .int .i64 a1_1] 25 (0, 0)) Gv.bk hg (Kd.R_away HO255.out (fun _ hk => hk))); have n2_ := Aside0.mk (blk_grown (g := gb249) (o := .cells #[.slice none 0 0] 37 (0, 0)) Gv.bk hg (Kd.R_ne HO255.out BK249.out (by decide))); have n3_ := Aside0.mk (hp_); have n4_ := Aside0.mk (blk_grown (g := gb256) (o := .cells #[.slice (some ⟨go39, 0, none⟩) t253.length co47] 37 (0, 0)) Gv.bk hg (Kd.R_ne HO255.out BK256.out (by decide))); have n5_ := Aside0.mk ((by rw [hw]; exact below_set (below_set (HB.out) GB39.out) GB39.out : Below w.heap.size w w57)); clear BK247; clear BK248; clear BK249; clear HO255; clear BK256; clear HB; have BK247 := n0_; have BK248 := n1_; have BK249 := n2_; have HO255 := n3_; have BK256 := n4_; have HB := n5_; clear n0_ n1_ n2_ n3_ n4_ n5_; clear hg hw hp_))
       have n0_ := Aside0.mk (Kd.R_drew HO255.out)
       have n1_ := Aside0.mk (blk_drew BK247.out)
       have n2_ := Aside0.mk (blk_drew BK248.out)
       have n3_ := Aside0.mk (blk_drew BK249.out)
       have n4_ := Aside0.mk (blk_drew BK256.out)
       have n5_ := Aside0.mk (below_drew1 HB.out)
       clear HO255
       clear BK247
       clear BK248
       clear BK249
       clear BK256
       clear HB
       have HO255 := n0_
       have BK247 := n1_
       have BK248 := n2_
       have BK249 := n3_
       have BK256 := n4_
       have HB := n5_
       clear n0_ n1_ n2_ n3_ n4_ n5_
       refine start_ (n := 5) (S := fun w' => w'.cell? ⟨gb256, 0, none⟩ = some (.slice (some ⟨go39, 0, none⟩) t253.length co47)) (ds := []) #[false, false, false, false, false] (by kernel_rfl) rfl rfl ((blk_cell BK256.out 0).trans rfl) (fun hHeld => ?_)
       generalize w57.drew = w58 at HO255 BK247 BK248 BK249 BK256 HB hHeld ⊢
       refine pure_ (i := 2) (N := some 35) (v := ?_) (a' := ?_) #[false, false, true, false, false] rfl rfl (by kernel_rfl) (fun _ _ _ h => h) (Or.inl ⟨by rfl, ?_⟩) ?_ ?_
       rotate_left
       ·intro w'
        go_simp
        with_reducible rfl
       rotate_left
       ·simp only [Act.put, List.setIfInBounds_toArray, List.set_cons_zero, List.set_cons_succ, i64_w, i32_w]
        rfl
       refine take_ (i := 0) (N := some 33) (v := ?_) (a' := ?_) #[true, false, true, false, false] rfl rfl (by kernel_rfl) (fun _ _ _ h => h) (Or.inl ⟨by rfl, ?_⟩) hHeld ?_ ?_
       rotate_left
       ·intro w' s0
        go_simp
        with_reducible rfl
       rotate_left
       ·simp only [Act.put, List.setIfInBounds_toArray, List.set_cons_zero, List.set_cons_succ, i64_w, i32_w]
        rfl
       refine take_ (i := 1) (N := some 34) (v := ?_) (a' := ?_) #[true, true, true, false, false] rfl rfl (by kernel_rfl) (fun _ _ _ h => h) (Or.inl ⟨by rfl, ?_⟩) hHeld ?_ ?_
       rotate_left
       ·intro w' s0
        go_simp
        with_reducible rfl
       rotate_left
       ·simp only [Act.put, List.setIfInBounds_toArray, List.set_cons_zero, List.set_cons_succ, i64_w, i32_w]
        rfl
       refine one_ (i := 3) (N := some 36) #[true, true, true, true, false] rfl rfl (by kernel_rfl) (by decide) (fun K hK => ?_)
       refine goes_ Try.func39 (by kernel_rfl) rfl #[.agg #[.slice (some ⟨go39, 0, none⟩) t253.length co47], .int .i64 t250] (by rfl) rfl rfl (by (try simp only [List.map_toArray, List.map_cons, List.map_nil]); first | done | rfl | (simp only [List.length_drop, List.length_take]; rfl)) ?_
       with_reducible refine (impl_Heap_up.calls kj3 (fun k_ => some k_ = (.slice (some ⟨go39, 0, none⟩) t253.length co47 : Value).ownBlock) (.slice (some ⟨go39, 0, none⟩) t253.length co47) y257 t250 t258 t259 w _ ?side1 ?side2 A40.out).mono ?_
       (case side1 => repeat (first | (with_reducible first | exact HB.out | apply below_alloc | apply pw_below_drewN | apply below_drew1 | refine below_set ?_ GE247.out | refine below_set ?_ GE248.out | refine below_set ?_ GE249.out | refine below_set ?_ GE256.out) | exact HB.out))
       (case side2 => exact Kd.R_tight rfl HO255.out)
       rintro e w59 ⟨rfl, hy0, hb, hkp⟩
       refine ⟨_, rfl, ?_⟩
       have n0_ := Aside0.mk (blk_kept Gv.bk hkp (fun hs_ => (fun e_ => (Kd.R_ne HO255.out BK247.out (by decide)) e_) hs_))
       have n1_ := Aside0.mk (blk_kept Gv.bk hkp (fun hs_ => (fun e_ => (Kd.R_away HO255.out (fun _ hk => hk)) e_) hs_))
       have n2_ := Aside0.mk (blk_kept Gv.bk hkp (fun hs_ => (fun e_ => (Kd.R_ne HO255.out BK249.out (by decide)) e_) hs_))
       have n3_ := Aside0.mk (Kd.R_reok rfl hy0 (fun k_ e_ => HO255.out.1 k_ e_))
       have n4_ := Aside0.mk (blk_kept Gv.bk hkp (fun hs_ => (fun e_ => (Kd.R_ne HO255.out BK256.out (by decide)) e_) hs_))
       have n5_ := Aside0.mk (hb)
       clear BK247
       clear BK248
       clear BK249
       clear HO255
       clear BK256
       clear HB
       have BK247 := n0_
       have BK248 := n1_
       have BK249 := n2_
       have HO255 := n3_
       have BK256 := n4_
       have HB := n5_
       clear n0_ n1_ n2_ n3_ n4_ n5_
       (try clear hb)
       (try clear hkp)
       (try clear hy0)
       refine hK.out _ _ ((blk_cell BK256.out 0).trans rfl) (fun hHeld => ?_)
       clear hK K
       refine norm_ (a' := ?_) ?_ ?_
       rotate_left
       ·show Act.put _ (some 36) _ = _
        simp only [Act.put, List.setIfInBounds_toArray, List.set_cons_zero, List.set_cons_succ, i64_w, i32_w]
        rfl
       refine one_ (i := 4) (N := some 37) #[true, true, true, true, true] rfl rfl (by kernel_rfl) (by decide) (fun K hK => ?_)
       refine goes_ Try.func43 (by kernel_rfl) rfl #[.agg #[.slice (some ⟨go39, 0, none⟩) t253.length co47], .int .i64 t258] (by rfl) rfl rfl (by (try simp only [List.map_toArray, List.map_cons, List.map_nil]); first | done | rfl | (simp only [List.length_drop, List.length_take]; rfl)) ?_
       with_reducible refine (impl_Heap_down.calls kj3 (fun k_ => some k_ = (.slice (some ⟨go39, 0, none⟩) t253.length co47 : Value).ownBlock) (.slice (some ⟨go39, 0, none⟩) t253.length co47) t259 t258 t260 w _ ?side1 ?side2 A41.out).mono ?_
       (case side1 => repeat (first | (with_reducible first | exact HB.out | apply below_alloc | apply pw_below_drewN | apply below_drew1 | refine below_set ?_ GE247.out | refine below_set ?_ GE248.out | refine below_set ?_ GE249.out | refine below_set ?_ GE256.out) | exact HB.out))
       (case side2 => exact Kd.R_tight rfl HO255.out)
       rintro e w60 ⟨rfl, hy0, hb, hkp⟩
       refine ⟨_, rfl, ?_⟩
       have n0_ := Aside0.mk (blk_kept Gv.bk hkp (fun hs_ => (fun e_ => (Kd.R_ne HO255.out BK247.out (by decide)) e_) hs_))
       have n1_ := Aside0.mk (blk_kept Gv.bk hkp (fun hs_ => (fun e_ => (Kd.R_away HO255.out (fun _ hk => hk)) e_) hs_))
       have n2_ := Aside0.mk (blk_kept Gv.bk hkp (fun hs_ => (fun e_ => (Kd.R_ne HO255.out BK249.out (by decide)) e_) hs_))
       have n3_ := Aside0.mk (Kd.R_reok rfl hy0 (fun k_ e_ => HO255.out.1 k_ e_))
       have n4_ := Aside0.mk (blk_kept Gv.bk hkp (fun hs_ => (fun e_ => (Kd.R_ne HO255.out BK256.out (by decide)) e_) hs_))
       have n5_ := Aside0.mk (hb)
       clear BK247
       clear BK248
       clear BK249
       clear HO255
       clear BK256
       clear HB
       have BK247 := n0_
       have BK248 := n1_
       have BK249 := n2_
       have HO255 := n3_
       have BK256 := n4_
       have HB := n5_
       clear n0_ n1_ n2_ n3_ n4_ n5_
       (try clear hb)
       (try clear hkp)
       (try clear hy0)
       refine hK.out _ _ ((blk_cell BK256.out 0).trans rfl) (fun hHeld => ?_)
       clear hK K
       refine norm_ (a' := ?_) ?_ ?_
       rotate_left
       ·show Act.put _ (some 37) _ = _
        simp only [Act.put, List.setIfInBounds_toArray, List.set_cons_zero, List.set_cons_succ, i64_w, i32_w]
        rfl
       refine done_ (by kernel_rfl) ?_
       have hcz61_0 : w60.cell? ⟨gb256, 0, none⟩ = some (.slice (some ⟨go39, 0, none⟩) t253.length co47) := (blk_cell BK256.out 0).trans rfl
       have hfz61_0 := blk_frozen BK256.out 0
       have hcz62_0 : w60.cell? ⟨gb249, 0, none⟩ = some (.slice none 0 0) := (blk_cell BK249.out 0).trans rfl
       have hfz62_0 := blk_frozen BK249.out 0
       try go_wp2
       refine bodyPost_ret (results_ct rfl _ _ gb249 37 #[.slice (some ⟨go39, 0, none⟩) t253.length co47] (0, 0) _ rfl (by (with_reducible repeat (first | refine blk_drewN ?_ _ | refine blk_drew ?_ | refine blk_alloc ?_ _)); refine blk_put (cs := #[.slice none 0 0]) ?_ 0 _ rfl; (with_reducible repeat (first | refine blk_drewN ?_ _ | refine blk_drew ?_ | refine blk_alloc ?_ _)); exact BK249.out) Try.underlying37 rfl (by kernel_rfl)) rfl ?_
       exact ⟨_, by first | rfl | (simp [errW_none, errW_some] <;> rfl) | (simp [*, errW_none, errW_some] <;> rfl), by (with_reducible repeat (first | apply Kd.R_alloc | apply Kd.R_drewN | apply Kd.R_drew)); exact Kd.R_mono (Kd.R_far (p := ⟨gb249, 0, none⟩) (Kd.R_types HO255.out BK249.out (by decide)) (fun _ hk => hk.2) (.slice (some ⟨go39, 0, none⟩) t253.length co47)) (fun _ hk => trivial), by repeat (first | (with_reducible first | exact HB.out | apply below_alloc | apply pw_below_drewN | apply below_drew1 | refine below_set ?_ GE247.out | refine below_set ?_ GE248.out | refine below_set ?_ GE249.out | refine below_set ?_ GE256.out) | exact HB.out)⟩
      ·rw [if_neg c38] at H
       exact absurd H (by simp)
     ·rw [if_neg c37] at H
      exact absurd H (by simp)

end Go.Proofs.Ytjpmhbjbgooheaa.PMv
