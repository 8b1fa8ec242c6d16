/- Plain Lean functions of a law's Go functions, their contracts, by a program of this session (wip/pr.py over the kit's print). -/
import Derived.Test.YtjpmhbjbgooheaaPMvx0
import Derived.Test.YtjpmhbjbgooheaaPMvx1
import Derived.Test.YtjpmhbjbgooheaaPMvx3
import Derived.Test.YtjpmhbjbgooheaaPMvx7
namespace Go.Proofs.Ytjpmhbjbgooheaa.PMv
open Go.RowKit Go.Proofs.YtjpmhbjbgooheaaW.PrintWords Go.Proofs.YtjpmhbjbgooheaaW.PrintLast Go.Proofs.Ytjpmhbjbgooheaa.Th
set_option linter.unusedVariables false
set_option linter.unusedSimpArgs false

/-! ### laws_FnExactHeapMove: function 8 -/
def laws_FnExactHeapMove.f (k : Nat) (l0_0 : List (S23)) (a1_0 : Int) (a1_1 : Int) : Option (Bool) := (laws_szHeap.f l0_0 1048576).bind fun t263 => (if t263 < 0 then (some true) else ((laws_toHeap.f k l0_0).bind fun t264 => ((laws_toItem.f a1_0 a1_1).bind fun bt267 => ((spec_HeapMove.f k t264 bt267.1 bt267.2).bind fun bt269 => ((laws_toHeap.f k l0_0).bind fun t274 => ((laws_toItem.f a1_0 a1_1).bind fun bt278 => ((impl_HeapMove.f k t274 bt278.1 bt278.2).bind fun bt280 => ((laws_eqHeap.f k bt280.1 bt269.1).bind fun t285 => (if t285 = true then (if bt280.2 = bt269.2 then ((laws_toHeap.f k l0_0).bind fun t286 => ((laws_eqHeap.f k t274 t286).bind fun t289 => (if t289 = true then ((laws_markHeap.f k t274 1).bind fun bt290 => (if bt290.1 < 0 then (none) else ((laws_eqHeap.f k bt280.1 bt269.1).bind fun t292 => (if t292 = true then ((laws_markHeap.f k bt280.1 1).bind fun bt293 => ((laws_heldHeap.f k bt293.2 1).bind fun t295 => (if t295 < 0 then (none) else (if t295 = bt293.1 then ((laws_toHeap.f k l0_0).bind fun t296 => ((laws_toItem.f a1_0 a1_1).bind fun bt299 => ((impl_HeapMove.f k t296 bt299.1 bt299.2).bind fun bt301 => ((laws_eqHeap.f k bt301.1 bt269.1).bind fun t306 => (if t306 = true then (if bt301.2 = bt269.2 then ((laws_heldHeap.f k bt293.2 1).bind fun t307 => (if t307 < 0 then (none) else (if t307 = bt293.1 then (some true) else (none)))) else (none)) else (none)))))) else (none))))) else (none))))) else (none)))) else (none)) else (none))))))))))
theorem laws_FnExactHeapMove.mono : ∀ a0 a1 a2 k, LeO (laws_FnExactHeapMove.f k a0 a1 a2) (laws_FnExactHeapMove.f (k + 1) a0 a1 a2) := by
 intro a0 a1 a2 k
 unfold laws_FnExactHeapMove.f
 repeat' first
   | (with_reducible exact impl_HeapMove.mono _ _ _ _)
   | (with_reducible exact laws_eqHeap.mono _ _ _)
   | (with_reducible exact laws_heldHeap.mono _ _ _)
   | (with_reducible exact laws_markHeap.mono _ _ _)
   | (with_reducible exact laws_toHeap.mono _ _)
   | (with_reducible exact spec_HeapMove.mono _ _ _ _)
   | (with_reducible exact LeO.refl _)
   | (with_reducible exact LeO.none _)
   | (with_reducible refine LeO.ite ?_ ?_)
   | (with_reducible refine LeO.bind ?_ (fun _ => ?_))
   | exact impl_HeapMove.mono _ _ _ _
   | exact laws_eqHeap.mono _ _ _
   | exact laws_heldHeap.mono _ _ _
   | exact laws_markHeap.mono _ _ _
   | exact laws_toHeap.mono _ _
   | exact spec_HeapMove.mono _ _ _ _
   | exact LeO.none _
   | refine LeO.ite ?_ ?_
   | refine LeO.bind ?_ (fun _ => ?_)
def laws_FnExactHeapMove.T5 : Bool × List (List Nat × List Nat) := (true, [([], []), ([0], [0]), ([], []), ([2, 1], [2]), ([1, 3, 3], [1, 3]), ([4], [4]), ([5], [5]), ([5], [5]), ([], []), ([8, 6, 4, 0, 1, 2, 3, 4, 5, 6, 8], [6, 8]), ([7, 9, 0, 1, 2, 3, 4, 5, 6, 7, 8, 9], [7])])
def laws_FnExactHeapMove.B5 : List Nat := [0, 1, 0, 7, 15, 31, 63, 63, 0, 383, 1023]
theorem laws_FnExactHeapMove.tab5 : rtab .any (opsOf Try.f8 5) = laws_FnExactHeapMove.T5 := by kernel_rfl
theorem laws_FnExactHeapMove.bits5 : waitsOk laws_FnExactHeapMove.T5.2 laws_FnExactHeapMove.B5 = true := by kernel_rfl
def laws_FnExactHeapMove.T7 : Bool × List (List Nat × List Nat) := (true, [([], []), ([], []), ([1], [1]), ([0, 2, 2], [0, 2]), ([3], [3]), ([4], [4]), ([4], [4]), ([], []), ([7, 5, 3, 0, 1, 2, 3, 4, 5, 7], [5, 7]), ([6, 8, 0, 1, 2, 3, 4, 5, 6, 7, 8], [6])])
def laws_FnExactHeapMove.B7 : List Nat := [0, 0, 2, 7, 15, 31, 31, 0, 191, 511]
theorem laws_FnExactHeapMove.tab7 : rtab .any (opsOf Try.f8 7) = laws_FnExactHeapMove.T7 := by kernel_rfl
theorem laws_FnExactHeapMove.bits7 : waitsOk laws_FnExactHeapMove.T7.2 laws_FnExactHeapMove.B7 = true := by kernel_rfl
def laws_FnExactHeapMove.T24 : Bool × List (List Nat × List Nat) := (true, [([], []), ([0], [0]), ([], []), ([2, 1], [2]), ([1, 3, 3], [1, 3]), ([4], [4]), ([5], [5]), ([5], [5]), ([], []), ([8, 6, 4, 0, 1, 2, 3, 4, 5, 6, 8], [6, 8]), ([7, 9, 0, 1, 2, 3, 4, 5, 6, 7, 8, 9], [7])])
def laws_FnExactHeapMove.B24 : List Nat := [0, 1, 0, 7, 15, 31, 63, 63, 0, 383, 1023]
theorem laws_FnExactHeapMove.tab24 : rtab .any (opsOf Try.f8 24) = laws_FnExactHeapMove.T24 := by kernel_rfl
theorem laws_FnExactHeapMove.bits24 : waitsOk laws_FnExactHeapMove.T24.2 laws_FnExactHeapMove.B24 = true := by kernel_rfl
set_option maxHeartbeats 8000000 in
set_option maxRecDepth 100000 in
theorem laws_FnExactHeapMove.calls (k : Nat) (A0_0 : Option Addr) (c0_0 : Nat) (l0_0 : List (S23)) (a1_0 : Int) (a1_1 : Int) (r : Bool) (w : World) (hr0_0 : Kd.C k23 w A0_0 l0_0.length l0_0) (hc0_0 : l0_0.length ≤ c0_0) (h : laws_FnExactHeapMove.f k l0_0 a1_0 a1_1 = some r) :
  Calls Try.prog 8 #[.agg #[.slice A0_0 l0_0.length c0_0], .agg #[.int .i64 a1_0, .int .i64 a1_1]] w fun e w' => e = .returned (.bool r) ∧ Below w.heap.size w w' := by
 have hu32 := Try.underlying32
 have hu23 := Try.underlying23
 have hu37 := Try.underlying37
 have HR0_0 := Aside0.mk hr0_0
 have HC0_0 := Aside0.mk hc0_0
 clear hr0_0 hc0_0
 have HB := Aside0.mk (Below.refl w.heap.size w)
 have H : ((laws_szHeap.f l0_0 1048576).bind fun t263 => (if t263 < 0 then (some true) else ((laws_toHeap.f k l0_0).bind fun t264 => ((laws_toItem.f a1_0 a1_1).bind fun bt267 => ((spec_HeapMove.f k t264 bt267.1 bt267.2).bind fun bt269 => ((laws_toHeap.f k l0_0).bind fun t274 => ((laws_toItem.f a1_0 a1_1).bind fun bt278 => ((impl_HeapMove.f k t274 bt278.1 bt278.2).bind fun bt280 => ((laws_eqHeap.f k bt280.1 bt269.1).bind fun t285 => (if t285 = true then (if bt280.2 = bt269.2 then ((laws_toHeap.f k l0_0).bind fun t286 => ((laws_eqHeap.f k t274 t286).bind fun t289 => (if t289 = true then ((laws_markHeap.f k t274 1).bind fun bt290 => (if bt290.1 < 0 then (none) else ((laws_eqHeap.f k bt280.1 bt269.1).bind fun t292 => (if t292 = true then ((laws_markHeap.f k bt280.1 1).bind fun bt293 => ((laws_heldHeap.f k bt293.2 1).bind fun t295 => (if t295 < 0 then (none) else (if t295 = bt293.1 then ((laws_toHeap.f k l0_0).bind fun t296 => ((laws_toItem.f a1_0 a1_1).bind fun bt299 => ((impl_HeapMove.f k t296 bt299.1 bt299.2).bind fun bt301 => ((laws_eqHeap.f k bt301.1 bt269.1).bind fun t306 => (if t306 = true then (if bt301.2 = bt269.2 then ((laws_heldHeap.f k bt293.2 1).bind fun t307 => (if t307 < 0 then (none) else (if t307 = bt293.1 then (some true) else (none)))) else (none)) else (none)))))) else (none))))) else (none))))) else (none)))) else (none)) else (none))))))))))) = some r := h
 clear h
 replace H := Option.bind_eq_some_iff.mp H
 obtain ⟨t263, A30, H⟩ := H
 replace H : (if t263 < 0 then (some true) else ((laws_toHeap.f k l0_0).bind fun t264 => ((laws_toItem.f a1_0 a1_1).bind fun bt267 => ((spec_HeapMove.f k t264 bt267.1 bt267.2).bind fun bt269 => ((laws_toHeap.f k l0_0).bind fun t274 => ((laws_toItem.f a1_0 a1_1).bind fun bt278 => ((impl_HeapMove.f k t274 bt278.1 bt278.2).bind fun bt280 => ((laws_eqHeap.f k bt280.1 bt269.1).bind fun t285 => (if t285 = true then (if bt280.2 = bt269.2 then ((laws_toHeap.f k l0_0).bind fun t286 => ((laws_eqHeap.f k t274 t286).bind fun t289 => (if t289 = true then ((laws_markHeap.f k t274 1).bind fun bt290 => (if bt290.1 < 0 then (none) else ((laws_eqHeap.f k bt280.1 bt269.1).bind fun t292 => (if t292 = true then ((laws_markHeap.f k bt280.1 1).bind fun bt293 => ((laws_heldHeap.f k bt293.2 1).bind fun t295 => (if t295 < 0 then (none) else (if t295 = bt293.1 then ((laws_toHeap.f k l0_0).bind fun t296 => ((laws_toItem.f a1_0 a1_1).bind fun bt299 => ((impl_HeapMove.f k t296 bt299.1 bt299.2).bind fun bt301 => ((laws_eqHeap.f k bt301.1 bt269.1).bind fun t306 => (if t306 = true then (if bt301.2 = bt269.2 then ((laws_heldHeap.f k bt293.2 1).bind fun t307 => (if t307 < 0 then (none) else (if t307 = bt293.1 then (some true) else (none)))) else (none)) else (none)))))) else (none))))) else (none))))) else (none)))) else (none)) else (none)))))))))) = some r := H
 have A3 := Aside0.mk A30
 clear A30
 by_cases c4 : t263 < 0
 ·rw [if_pos c4] at H
  have c4b0 : decide (t263 < 0) = true := decide_eq_true c4
  clear c4
  obtain rfl := Option.some.inj H
  go_enter Try.func8, Try.ntmps8
  go_wp2_with (first | ((with_reducible refine gate_dst (N := 2) rfl ?_); refine box_event ?hg (N := 2) ?hd (cs := #[.slice A0_0 l0_0.length c0_0]) (t := 32) ?hr ?_; (case hd => rfl); (case hg => rfl); (case hr => first | (go_simp; done) | (go_simp; rfl)); intro gb261 hg w5 hbox hb; have n0_ := Aside0.mk (below_step Gv.bw hb); have n1_ := Aside0.mk (hbox); have n2_ := Aside0.mk ((by rw [hg]; exact (below_size Gv.bw) : w.heap.size ≤ gb261)); have n3_ := Aside0.mk ((by rw [hg]; exact (below_size Gv.bw) : w.heap.size ≤ gb261)); clear HB; have HB := n0_; have BK261 := n1_; have GW261 := n2_; have GE261 := n3_; clear n0_ n1_ n2_ n3_; clear hb hbox hg) | ((with_reducible refine gate_dst (N := 3) rfl ?_); refine box_event ?hg (N := 3) ?hd (cs := #[.int .i64 a1_0, .int .i64 a1_1]) (t := 23) ?hr ?_; (case hd => rfl); (case hg => rfl); (case hr => first | (go_simp; done) | (go_simp; rfl)); intro gb262 hg w6 hbox hb; have n0_ := Aside0.mk (blk_below (g := gb261) (o := .cells #[.slice A0_0 l0_0.length c0_0] 32 (0, 0)) Gv.bk hb); have n1_ := Aside0.mk (below_step Gv.bw hb); have n2_ := Aside0.mk (hbox); have n3_ := Aside0.mk ((by rw [hg]; exact (below_size Gv.bw) : w.heap.size ≤ gb262)); have n4_ := Aside0.mk ((by rw [hg]; exact (below_size Gv.bw) : w.heap.size ≤ gb262)); have n5_ := Aside0.mk ((by rw [hg]; exact Nat.ne_of_lt (blk_lt (g := gb261) (o := .cells #[.slice A0_0 l0_0.length c0_0] 32 (0, 0)) Gv.bk) : gb261 ≠ gb262)); have n6_ := Aside0.mk ((by rw [hg]; exact Nat.ne_of_gt (blk_lt (g := gb261) (o := .cells #[.slice A0_0 l0_0.length c0_0] 32 (0, 0)) Gv.bk) : gb262 ≠ gb261)); clear BK261; clear HB; have BK261 := n0_; have HB := n1_; have BK262 := n2_; have GW262 := n3_; have GE262 := n4_; have NB261_262 := n5_; have NB262_261 := n6_; clear n0_ n1_ n2_ n3_ n4_ n5_ n6_; clear hb hbox hg; have hnb7 := NB261_262.out; have hnc7 := NB262_261.out; have hcz8_0 : w6.cell? ⟨gb261, 0, none⟩ = some (.slice A0_0 l0_0.length c0_0) := (blk_cell BK261.out 0).trans rfl; have hfz8_0 := blk_frozen BK261.out 0) | ((with_reducible refine gate_callee (f := 15) rfl ?_); refine goesL_ (some 18) rfl rfl Try.func15 (by kernel_rfl) rfl #[.agg #[.slice A0_0 l0_0.length c0_0], .int .i64 1048576] rfl (by (try simp only [List.map_toArray, List.map_cons, List.map_nil]); first | done | rfl | (simp only [List.length_drop, List.length_take]; rfl)) ?_; (with_reducible refine (laws_szHeap.calls _ _ l0_0 1048576 t263 _ ?side1 ?side2 A3.out).mono ?_); (case side1 => repeat (first | exact (Kd.C_below HR0_0.out HB.out) | (with_reducible refine Kd.C_alloc ?_ _) | (with_reducible refine Kd.C_drewN ?_ _) | (with_reducible refine Kd.C_drew ?_))); (case side2 => exact HC0_0.out); rintro e w9 ⟨rfl, hb⟩; refine ⟨_, rfl, ?_⟩; have n0_ := Aside0.mk (blk_below (g := gb261) (o := .cells #[.slice A0_0 l0_0.length c0_0] 32 (0, 0)) Gv.bk hb); have n1_ := Aside0.mk (blk_below (g := gb262) (o := .cells #[.int .i64 a1_0, .int .i64 a1_1] 23 (0, 0)) Gv.bk hb); have n2_ := Aside0.mk (below_step Gv.bw hb); clear BK261; clear BK262; clear HB; have BK261 := n0_; have BK262 := n1_; have HB := n2_; clear n0_ n1_ n2_; (try clear hb); (try clear hb2); (try clear hk); (try clear hi)))
  go_ret
  exact ⟨by first | rfl | (simp [errW_none, errW_some] <;> rfl) | (simp [*, errW_none, errW_some] <;> rfl), by repeat (first | (with_reducible first | exact HB.out | apply below_alloc | apply pw_below_drewN | apply below_drew1 | refine below_set ?_ GE261.out | refine below_set ?_ GE262.out) | exact HB.out)⟩
 ·rw [if_neg c4] at H
  have c4b0 : decide (t263 < 0) = false := decide_eq_false c4
  clear c4
  replace H := Option.bind_eq_some_iff.mp H
  obtain ⟨t264, A100, H⟩ := H
  replace H : ((laws_toItem.f a1_0 a1_1).bind fun bt267 => ((spec_HeapMove.f k t264 bt267.1 bt267.2).bind fun bt269 => ((laws_toHeap.f k l0_0).bind fun t274 => ((laws_toItem.f a1_0 a1_1).bind fun bt278 => ((impl_HeapMove.f k t274 bt278.1 bt278.2).bind fun bt280 => ((laws_eqHeap.f k bt280.1 bt269.1).bind fun t285 => (if t285 = true then (if bt280.2 = bt269.2 then ((laws_toHeap.f k l0_0).bind fun t286 => ((laws_eqHeap.f k t274 t286).bind fun t289 => (if t289 = true then ((laws_markHeap.f k t274 1).bind fun bt290 => (if bt290.1 < 0 then (none) else ((laws_eqHeap.f k bt280.1 bt269.1).bind fun t292 => (if t292 = true then ((laws_markHeap.f k bt280.1 1).bind fun bt293 => ((laws_heldHeap.f k bt293.2 1).bind fun t295 => (if t295 < 0 then (none) else (if t295 = bt293.1 then ((laws_toHeap.f k l0_0).bind fun t296 => ((laws_toItem.f a1_0 a1_1).bind fun bt299 => ((impl_HeapMove.f k t296 bt299.1 bt299.2).bind fun bt301 => ((laws_eqHeap.f k bt301.1 bt269.1).bind fun t306 => (if t306 = true then (if bt301.2 = bt269.2 then ((laws_heldHeap.f k bt293.2 1).bind fun t307 => (if t307 < 0 then (none) else (if t307 = bt293.1 then (some true) else (none)))) else (none)) else (none)))))) else (none))))) else (none))))) else (none)))) else (none)) else (none)))))))) = some r := H
  have A10 := Aside0.mk A100
  clear A100
  replace H := Option.bind_eq_some_iff.mp H
  obtain ⟨⟨t267, t268⟩, A110, H⟩ := H
  replace H : ((spec_HeapMove.f k t264 t267 t268).bind fun bt269 => ((laws_toHeap.f k l0_0).bind fun t274 => ((laws_toItem.f a1_0 a1_1).bind fun bt278 => ((impl_HeapMove.f k t274 bt278.1 bt278.2).bind fun bt280 => ((laws_eqHeap.f k bt280.1 bt269.1).bind fun t285 => (if t285 = true then (if bt280.2 = bt269.2 then ((laws_toHeap.f k l0_0).bind fun t286 => ((laws_eqHeap.f k t274 t286).bind fun t289 => (if t289 = true then ((laws_markHeap.f k t274 1).bind fun bt290 => (if bt290.1 < 0 then (none) else ((laws_eqHeap.f k bt280.1 bt269.1).bind fun t292 => (if t292 = true then ((laws_markHeap.f k bt280.1 1).bind fun bt293 => ((laws_heldHeap.f k bt293.2 1).bind fun t295 => (if t295 < 0 then (none) else (if t295 = bt293.1 then ((laws_toHeap.f k l0_0).bind fun t296 => ((laws_toItem.f a1_0 a1_1).bind fun bt299 => ((impl_HeapMove.f k t296 bt299.1 bt299.2).bind fun bt301 => ((laws_eqHeap.f k bt301.1 bt269.1).bind fun t306 => (if t306 = true then (if bt301.2 = bt269.2 then ((laws_heldHeap.f k bt293.2 1).bind fun t307 => (if t307 < 0 then (none) else (if t307 = bt293.1 then (some true) else (none)))) else (none)) else (none)))))) else (none))))) else (none))))) else (none)))) else (none)) else (none))))))) = some r := H
  have A11 := Aside0.mk A110
  clear A110
  replace H := Option.bind_eq_some_iff.mp H
  obtain ⟨⟨t269, t272⟩, A120, H⟩ := H
  replace H : ((laws_toHeap.f k l0_0).bind fun t274 => ((laws_toItem.f a1_0 a1_1).bind fun bt278 => ((impl_HeapMove.f k t274 bt278.1 bt278.2).bind fun bt280 => ((laws_eqHeap.f k bt280.1 t269).bind fun t285 => (if t285 = true then (if bt280.2 = t272 then ((laws_toHeap.f k l0_0).bind fun t286 => ((laws_eqHeap.f k t274 t286).bind fun t289 => (if t289 = true then ((laws_markHeap.f k t274 1).bind fun bt290 => (if bt290.1 < 0 then (none) else ((laws_eqHeap.f k bt280.1 t269).bind fun t292 => (if t292 = true then ((laws_markHeap.f k bt280.1 1).bind fun bt293 => ((laws_heldHeap.f k bt293.2 1).bind fun t295 => (if t295 < 0 then (none) else (if t295 = bt293.1 then ((laws_toHeap.f k l0_0).bind fun t296 => ((laws_toItem.f a1_0 a1_1).bind fun bt299 => ((impl_HeapMove.f k t296 bt299.1 bt299.2).bind fun bt301 => ((laws_eqHeap.f k bt301.1 t269).bind fun t306 => (if t306 = true then (if bt301.2 = t272 then ((laws_heldHeap.f k bt293.2 1).bind fun t307 => (if t307 < 0 then (none) else (if t307 = bt293.1 then (some true) else (none)))) else (none)) else (none)))))) else (none))))) else (none))))) else (none)))) else (none)) else (none)))))) = some r := H
  have A12 := Aside0.mk A120
  clear A120
  replace H := Option.bind_eq_some_iff.mp H
  obtain ⟨t274, A130, H⟩ := H
  replace H : ((laws_toItem.f a1_0 a1_1).bind fun bt278 => ((impl_HeapMove.f k t274 bt278.1 bt278.2).bind fun bt280 => ((laws_eqHeap.f k bt280.1 t269).bind fun t285 => (if t285 = true then (if bt280.2 = t272 then ((laws_toHeap.f k l0_0).bind fun t286 => ((laws_eqHeap.f k t274 t286).bind fun t289 => (if t289 = true then ((laws_markHeap.f k t274 1).bind fun bt290 => (if bt290.1 < 0 then (none) else ((laws_eqHeap.f k bt280.1 t269).bind fun t292 => (if t292 = true then ((laws_markHeap.f k bt280.1 1).bind fun bt293 => ((laws_heldHeap.f k bt293.2 1).bind fun t295 => (if t295 < 0 then (none) else (if t295 = bt293.1 then ((laws_toHeap.f k l0_0).bind fun t296 => ((laws_toItem.f a1_0 a1_1).bind fun bt299 => ((impl_HeapMove.f k t296 bt299.1 bt299.2).bind fun bt301 => ((laws_eqHeap.f k bt301.1 t269).bind fun t306 => (if t306 = true then (if bt301.2 = t272 then ((laws_heldHeap.f k bt293.2 1).bind fun t307 => (if t307 < 0 then (none) else (if t307 = bt293.1 then (some true) else (none)))) else (none)) else (none)))))) else (none))))) else (none))))) else (none)))) else (none)) else (none))))) = some r := H
  have A13 := Aside0.mk A130
  clear A130
  replace H := Option.bind_eq_some_iff.mp H
  obtain ⟨⟨t278, t279⟩, A140, H⟩ := H
  replace H : ((impl_HeapMove.f k t274 t278 t279).bind fun bt280 => ((laws_eqHeap.f k bt280.1 t269).bind fun t285 => (if t285 = true then (if bt280.2 = t272 then ((laws_toHeap.f k l0_0).bind fun t286 => ((laws_eqHeap.f k t274 t286).bind fun t289 => (if t289 = true then ((laws_markHeap.f k t274 1).bind fun bt290 => (if bt290.1 < 0 then (none) else ((laws_eqHeap.f k bt280.1 t269).bind fun t292 => (if t292 = true then ((laws_markHeap.f k bt280.1 1).bind fun bt293 => ((laws_heldHeap.f k bt293.2 1).bind fun t295 => (if t295 < 0 then (none) else (if t295 = bt293.1 then ((laws_toHeap.f k l0_0).bind fun t296 => ((laws_toItem.f a1_0 a1_1).bind fun bt299 => ((impl_HeapMove.f k t296 bt299.1 bt299.2).bind fun bt301 => ((laws_eqHeap.f k bt301.1 t269).bind fun t306 => (if t306 = true then (if bt301.2 = t272 then ((laws_heldHeap.f k bt293.2 1).bind fun t307 => (if t307 < 0 then (none) else (if t307 = bt293.1 then (some true) else (none)))) else (none)) else (none)))))) else (none))))) else (none))))) else (none)))) else (none)) else (none)))) = some r := H
  have A14 := Aside0.mk A140
  clear A140
  replace H := Option.bind_eq_some_iff.mp H
  obtain ⟨⟨t280, t283⟩, A150, H⟩ := H
  replace H : ((laws_eqHeap.f k t280 t269).bind fun t285 => (if t285 = true then (if t283 = t272 then ((laws_toHeap.f k l0_0).bind fun t286 => ((laws_eqHeap.f k t274 t286).bind fun t289 => (if t289 = true then ((laws_markHeap.f k t274 1).bind fun bt290 => (if bt290.1 < 0 then (none) else ((laws_eqHeap.f k t280 t269).bind fun t292 => (if t292 = true then ((laws_markHeap.f k t280 1).bind fun bt293 => ((laws_heldHeap.f k bt293.2 1).bind fun t295 => (if t295 < 0 then (none) else (if t295 = bt293.1 then ((laws_toHeap.f k l0_0).bind fun t296 => ((laws_toItem.f a1_0 a1_1).bind fun bt299 => ((impl_HeapMove.f k t296 bt299.1 bt299.2).bind fun bt301 => ((laws_eqHeap.f k bt301.1 t269).bind fun t306 => (if t306 = true then (if bt301.2 = t272 then ((laws_heldHeap.f k bt293.2 1).bind fun t307 => (if t307 < 0 then (none) else (if t307 = bt293.1 then (some true) else (none)))) else (none)) else (none)))))) else (none))))) else (none))))) else (none)))) else (none)) else (none))) = some r := H
  have A15 := Aside0.mk A150
  clear A150
  replace H := Option.bind_eq_some_iff.mp H
  obtain ⟨t285, A160, H⟩ := H
  replace H : (if t285 = true then (if t283 = t272 then ((laws_toHeap.f k l0_0).bind fun t286 => ((laws_eqHeap.f k t274 t286).bind fun t289 => (if t289 = true then ((laws_markHeap.f k t274 1).bind fun bt290 => (if bt290.1 < 0 then (none) else ((laws_eqHeap.f k t280 t269).bind fun t292 => (if t292 = true then ((laws_markHeap.f k t280 1).bind fun bt293 => ((laws_heldHeap.f k bt293.2 1).bind fun t295 => (if t295 < 0 then (none) else (if t295 = bt293.1 then ((laws_toHeap.f k l0_0).bind fun t296 => ((laws_toItem.f a1_0 a1_1).bind fun bt299 => ((impl_HeapMove.f k t296 bt299.1 bt299.2).bind fun bt301 => ((laws_eqHeap.f k bt301.1 t269).bind fun t306 => (if t306 = true then (if bt301.2 = t272 then ((laws_heldHeap.f k bt293.2 1).bind fun t307 => (if t307 < 0 then (none) else (if t307 = bt293.1 then (some true) else (none)))) else (none)) else (none)))))) else (none))))) else (none))))) else (none)))) else (none)) else (none)) = some r := H
  have A16 := Aside0.mk A160
  clear A160
  by_cases c17 : t285 = true
  ·subst c17
   have H1 : (if t283 = t272 then ((laws_toHeap.f k l0_0).bind fun t286 => ((laws_eqHeap.f k t274 t286).bind fun t289 => (if t289 = true then ((laws_markHeap.f k t274 1).bind fun bt290 => (if bt290.1 < 0 then (none) else ((laws_eqHeap.f k t280 t269).bind fun t292 => (if t292 = true then ((laws_markHeap.f k t280 1).bind fun bt293 => ((laws_heldHeap.f k bt293.2 1).bind fun t295 => (if t295 < 0 then (none) else (if t295 = bt293.1 then ((laws_toHeap.f k l0_0).bind fun t296 => ((laws_toItem.f a1_0 a1_1).bind fun bt299 => ((impl_HeapMove.f k t296 bt299.1 bt299.2).bind fun bt301 => ((laws_eqHeap.f k bt301.1 t269).bind fun t306 => (if t306 = true then (if bt301.2 = t272 then ((laws_heldHeap.f k bt293.2 1).bind fun t307 => (if t307 < 0 then (none) else (if t307 = bt293.1 then (some true) else (none)))) else (none)) else (none)))))) else (none))))) else (none))))) else (none)))) else (none)) = some r := by rw [if_pos rfl] at H; exact H
   clear H
   have H := H1
   clear H1
   by_cases c18 : t283 = t272
   ·rw [if_pos c18] at H
    have c18b0 : (t283 == t272) = true := beq_iff_eq.mpr c18
    have c18b1 : (t283 != t272) = false := bne_eq_false_iff_eq.mpr c18
    clear c18
    replace H := Option.bind_eq_some_iff.mp H
    obtain ⟨t286, A190, H⟩ := H
    replace H : ((laws_eqHeap.f k t274 t286).bind fun t289 => (if t289 = true then ((laws_markHeap.f k t274 1).bind fun bt290 => (if bt290.1 < 0 then (none) else ((laws_eqHeap.f k t280 t269).bind fun t292 => (if t292 = true then ((laws_markHeap.f k t280 1).bind fun bt293 => ((laws_heldHeap.f k bt293.2 1).bind fun t295 => (if t295 < 0 then (none) else (if t295 = bt293.1 then ((laws_toHeap.f k l0_0).bind fun t296 => ((laws_toItem.f a1_0 a1_1).bind fun bt299 => ((impl_HeapMove.f k t296 bt299.1 bt299.2).bind fun bt301 => ((laws_eqHeap.f k bt301.1 t269).bind fun t306 => (if t306 = true then (if bt301.2 = t272 then ((laws_heldHeap.f k bt293.2 1).bind fun t307 => (if t307 < 0 then (none) else (if t307 = bt293.1 then (some true) else (none)))) else (none)) else (none)))))) else (none))))) else (none))))) else (none))) = some r := H
    have A19 := Aside0.mk A190
    clear A190
    replace H := Option.bind_eq_some_iff.mp H
    obtain ⟨t289, A200, H⟩ := H
    replace H : (if t289 = true then ((laws_markHeap.f k t274 1).bind fun bt290 => (if bt290.1 < 0 then (none) else ((laws_eqHeap.f k t280 t269).bind fun t292 => (if t292 = true then ((laws_markHeap.f k t280 1).bind fun bt293 => ((laws_heldHeap.f k bt293.2 1).bind fun t295 => (if t295 < 0 then (none) else (if t295 = bt293.1 then ((laws_toHeap.f k l0_0).bind fun t296 => ((laws_toItem.f a1_0 a1_1).bind fun bt299 => ((impl_HeapMove.f k t296 bt299.1 bt299.2).bind fun bt301 => ((laws_eqHeap.f k bt301.1 t269).bind fun t306 => (if t306 = true then (if bt301.2 = t272 then ((laws_heldHeap.f k bt293.2 1).bind fun t307 => (if t307 < 0 then (none) else (if t307 = bt293.1 then (some true) else (none)))) else (none)) else (none)))))) else (none))))) else (none))))) else (none)) = some r := H
    have A20 := Aside0.mk A200
    clear A200
    by_cases c21 : t289 = true
    ·subst c21
     have H1 : ((laws_markHeap.f k t274 1).bind fun bt290 => (if bt290.1 < 0 then (none) else ((laws_eqHeap.f k t280 t269).bind fun t292 => (if t292 = true then ((laws_markHeap.f k t280 1).bind fun bt293 => ((laws_heldHeap.f k bt293.2 1).bind fun t295 => (if t295 < 0 then (none) else (if t295 = bt293.1 then ((laws_toHeap.f k l0_0).bind fun t296 => ((laws_toItem.f a1_0 a1_1).bind fun bt299 => ((impl_HeapMove.f k t296 bt299.1 bt299.2).bind fun bt301 => ((laws_eqHeap.f k bt301.1 t269).bind fun t306 => (if t306 = true then (if bt301.2 = t272 then ((laws_heldHeap.f k bt293.2 1).bind fun t307 => (if t307 < 0 then (none) else (if t307 = bt293.1 then (some true) else (none)))) else (none)) else (none)))))) else (none))))) else (none))))) = some r := by rw [if_pos rfl] at H; exact H
     clear H
     have H := H1
     clear H1
     replace H := Option.bind_eq_some_iff.mp H
     obtain ⟨⟨t290, t291⟩, A220, H⟩ := H
     replace H : (if t290 < 0 then (none) else ((laws_eqHeap.f k t280 t269).bind fun t292 => (if t292 = true then ((laws_markHeap.f k t280 1).bind fun bt293 => ((laws_heldHeap.f k bt293.2 1).bind fun t295 => (if t295 < 0 then (none) else (if t295 = bt293.1 then ((laws_toHeap.f k l0_0).bind fun t296 => ((laws_toItem.f a1_0 a1_1).bind fun bt299 => ((impl_HeapMove.f k t296 bt299.1 bt299.2).bind fun bt301 => ((laws_eqHeap.f k bt301.1 t269).bind fun t306 => (if t306 = true then (if bt301.2 = t272 then ((laws_heldHeap.f k bt293.2 1).bind fun t307 => (if t307 < 0 then (none) else (if t307 = bt293.1 then (some true) else (none)))) else (none)) else (none)))))) else (none))))) else (none)))) = some r := H
     have A22 := Aside0.mk A220
     clear A220
     by_cases c23 : t290 < 0
     ·rw [if_pos c23] at H
      exact absurd H (by simp)
     ·rw [if_neg c23] at H
      have c23b0 : decide (t290 < 0) = false := decide_eq_false c23
      clear c23
      replace H := Option.bind_eq_some_iff.mp H
      obtain ⟨t292, A240, H⟩ := H
      replace H : (if t292 = true then ((laws_markHeap.f k t280 1).bind fun bt293 => ((laws_heldHeap.f k bt293.2 1).bind fun t295 => (if t295 < 0 then (none) else (if t295 = bt293.1 then ((laws_toHeap.f k l0_0).bind fun t296 => ((laws_toItem.f a1_0 a1_1).bind fun bt299 => ((impl_HeapMove.f k t296 bt299.1 bt299.2).bind fun bt301 => ((laws_eqHeap.f k bt301.1 t269).bind fun t306 => (if t306 = true then (if bt301.2 = t272 then ((laws_heldHeap.f k bt293.2 1).bind fun t307 => (if t307 < 0 then (none) else (if t307 = bt293.1 then (some true) else (none)))) else (none)) else (none)))))) else (none))))) else (none)) = some r := H
      have A24 := Aside0.mk A240
      clear A240
      by_cases c25 : t292 = true
      ·subst c25
       have H1 : ((laws_markHeap.f k t280 1).bind fun bt293 => ((laws_heldHeap.f k bt293.2 1).bind fun t295 => (if t295 < 0 then (none) else (if t295 = bt293.1 then ((laws_toHeap.f k l0_0).bind fun t296 => ((laws_toItem.f a1_0 a1_1).bind fun bt299 => ((impl_HeapMove.f k t296 bt299.1 bt299.2).bind fun bt301 => ((laws_eqHeap.f k bt301.1 t269).bind fun t306 => (if t306 = true then (if bt301.2 = t272 then ((laws_heldHeap.f k bt293.2 1).bind fun t307 => (if t307 < 0 then (none) else (if t307 = bt293.1 then (some true) else (none)))) else (none)) else (none)))))) else (none))))) = some r := by rw [if_pos rfl] at H; exact H
       clear H
       have H := H1
       clear H1
       replace H := Option.bind_eq_some_iff.mp H
       obtain ⟨⟨t293, t294⟩, A260, H⟩ := H
       replace H : ((laws_heldHeap.f k t294 1).bind fun t295 => (if t295 < 0 then (none) else (if t295 = t293 then ((laws_toHeap.f k l0_0).bind fun t296 => ((laws_toItem.f a1_0 a1_1).bind fun bt299 => ((impl_HeapMove.f k t296 bt299.1 bt299.2).bind fun bt301 => ((laws_eqHeap.f k bt301.1 t269).bind fun t306 => (if t306 = true then (if bt301.2 = t272 then ((laws_heldHeap.f k t294 1).bind fun t307 => (if t307 < 0 then (none) else (if t307 = t293 then (some true) else (none)))) else (none)) else (none)))))) else (none)))) = some r := H
       have A26 := Aside0.mk A260
       clear A260
       replace H := Option.bind_eq_some_iff.mp H
       obtain ⟨t295, A270, H⟩ := H
       replace H : (if t295 < 0 then (none) else (if t295 = t293 then ((laws_toHeap.f k l0_0).bind fun t296 => ((laws_toItem.f a1_0 a1_1).bind fun bt299 => ((impl_HeapMove.f k t296 bt299.1 bt299.2).bind fun bt301 => ((laws_eqHeap.f k bt301.1 t269).bind fun t306 => (if t306 = true then (if bt301.2 = t272 then ((laws_heldHeap.f k t294 1).bind fun t307 => (if t307 < 0 then (none) else (if t307 = t293 then (some true) else (none)))) else (none)) else (none)))))) else (none))) = some r := H
       have A27 := Aside0.mk A270
       clear A270
       by_cases c28 : t295 < 0
       ·rw [if_pos c28] at H
        exact absurd H (by simp)
       ·rw [if_neg c28] at H
        have c28b0 : decide (t295 < 0) = false := decide_eq_false c28
        clear c28
        by_cases c29 : t295 = t293
        ·rw [if_pos c29] at H
         have c29b0 : (t295 == t293) = true := beq_iff_eq.mpr c29
         have c29b1 : (t295 != t293) = false := bne_eq_false_iff_eq.mpr c29
         clear c29
         replace H := Option.bind_eq_some_iff.mp H
         obtain ⟨t296, A300, H⟩ := H
         replace H : ((laws_toItem.f a1_0 a1_1).bind fun bt299 => ((impl_HeapMove.f k t296 bt299.1 bt299.2).bind fun bt301 => ((laws_eqHeap.f k bt301.1 t269).bind fun t306 => (if t306 = true then (if bt301.2 = t272 then ((laws_heldHeap.f k t294 1).bind fun t307 => (if t307 < 0 then (none) else (if t307 = t293 then (some true) else (none)))) else (none)) else (none))))) = some r := H
         have A30 := Aside0.mk A300
         clear A300
         replace H := Option.bind_eq_some_iff.mp H
         obtain ⟨⟨t299, t300⟩, A310, H⟩ := H
         replace H : ((impl_HeapMove.f k t296 t299 t300).bind fun bt301 => ((laws_eqHeap.f k bt301.1 t269).bind fun t306 => (if t306 = true then (if bt301.2 = t272 then ((laws_heldHeap.f k t294 1).bind fun t307 => (if t307 < 0 then (none) else (if t307 = t293 then (some true) else (none)))) else (none)) else (none)))) = some r := H
         have A31 := Aside0.mk A310
         clear A310
         replace H := Option.bind_eq_some_iff.mp H
         obtain ⟨⟨t301, t304⟩, A320, H⟩ := H
         replace H : ((laws_eqHeap.f k t301 t269).bind fun t306 => (if t306 = true then (if t304 = t272 then ((laws_heldHeap.f k t294 1).bind fun t307 => (if t307 < 0 then (none) else (if t307 = t293 then (some true) else (none)))) else (none)) else (none))) = some r := H
         have A32 := Aside0.mk A320
         clear A320
         replace H := Option.bind_eq_some_iff.mp H
         obtain ⟨t306, A330, H⟩ := H
         replace H : (if t306 = true then (if t304 = t272 then ((laws_heldHeap.f k t294 1).bind fun t307 => (if t307 < 0 then (none) else (if t307 = t293 then (some true) else (none)))) else (none)) else (none)) = some r := H
         have A33 := Aside0.mk A330
         clear A330
         by_cases c34 : t306 = true
         ·subst c34
          have H1 : (if t304 = t272 then ((laws_heldHeap.f k t294 1).bind fun t307 => (if t307 < 0 then (none) else (if t307 = t293 then (some true) else (none)))) else (none)) = some r := by rw [if_pos rfl] at H; exact H
          clear H
          have H := H1
          clear H1
          by_cases c35 : t304 = t272
          ·rw [if_pos c35] at H
           have c35b0 : (t304 == t272) = true := beq_iff_eq.mpr c35
           have c35b1 : (t304 != t272) = false := bne_eq_false_iff_eq.mpr c35
           clear c35
           replace H := Option.bind_eq_some_iff.mp H
           obtain ⟨t307, A360, H⟩ := H
           replace H : (if t307 < 0 then (none) else (if t307 = t293 then (some true) else (none))) = some r := H
           have A36 := Aside0.mk A360
           clear A360
           by_cases c37 : t307 < 0
           ·rw [if_pos c37] at H
            exact absurd H (by simp)
           ·rw [if_neg c37] at H
            have c37b0 : decide (t307 < 0) = false := decide_eq_false c37
            clear c37
            by_cases c38 : t307 = t293
            ·rw [if_pos c38] at H
             have c38b0 : (t307 == t293) = true := beq_iff_eq.mpr c38
             have c38b1 : (t307 != t293) = false := bne_eq_false_iff_eq.mpr c38
             clear c38
             obtain rfl := Option.some.inj H
             go_enter Try.func8, Try.ntmps8
             try go_wp2_with (first | ((with_reducible refine gate_dst (N := 2) rfl ?_); refine box_event ?hg (N := 2) ?hd (cs := #[.slice A0_0 l0_0.length c0_0]) (t := 32) ?hr ?_; (case hd => rfl); (case hg => rfl); (case hr => first | (go_simp; done) | (go_simp; rfl)); intro gb261 hg w39 hbox hb; have n0_ := Aside0.mk (below_step Gv.bw hb); have n1_ := Aside0.mk (hbox); have n2_ := Aside0.mk ((by rw [hg]; exact (below_size Gv.bw) : w.heap.size ≤ gb261)); have n3_ := Aside0.mk ((by rw [hg]; exact (below_size Gv.bw) : w.heap.size ≤ gb261)); clear HB; have HB := n0_; have BK261 := n1_; have GW261 := n2_; have GE261 := n3_; clear n0_ n1_ n2_ n3_; clear hb hbox hg) | ((with_reducible refine gate_dst (N := 3) rfl ?_); refine box_event ?hg (N := 3) ?hd (cs := #[.int .i64 a1_0, .int .i64 a1_1]) (t := 23) ?hr ?_; (case hd => rfl); (case hg => rfl); (case hr => first | (go_simp; done) | (go_simp; rfl)); intro gb262 hg w40 hbox hb; have n0_ := Aside0.mk (blk_below (g := gb261) (o := .cells #[.slice A0_0 l0_0.length c0_0] 32 (0, 0)) Gv.bk hb); have n1_ := Aside0.mk (below_step Gv.bw hb); have n2_ := Aside0.mk (hbox); have n3_ := Aside0.mk ((by rw [hg]; exact (below_size Gv.bw) : w.heap.size ≤ gb262)); have n4_ := Aside0.mk ((by rw [hg]; exact (below_size Gv.bw) : w.heap.size ≤ gb262)); have n5_ := Aside0.mk ((by rw [hg]; exact Nat.ne_of_lt (blk_lt (g := gb261) (o := .cells #[.slice A0_0 l0_0.length c0_0] 32 (0, 0)) Gv.bk) : gb261 ≠ gb262)); have n6_ := Aside0.mk ((by rw [hg]; exact Nat.ne_of_gt (blk_lt (g := gb261) (o := .cells #[.slice A0_0 l0_0.length c0_0] 32 (0, 0)) Gv.bk) : gb262 ≠ gb261)); clear BK261; clear HB; have BK261 := n0_; have HB := n1_; have BK262 := n2_; have GW262 := n3_; have GE262 := n4_; have NB261_262 := n5_; have NB262_261 := n6_; clear n0_ n1_ n2_ n3_ n4_ n5_ n6_; clear hb hbox hg; have hnb41 := NB261_262.out; have hnc41 := NB262_261.out; have hcz42_0 : w40.cell? ⟨gb261, 0, none⟩ = some (.slice A0_0 l0_0.length c0_0) := (blk_cell BK261.out 0).trans rfl; have hfz42_0 := blk_frozen BK261.out 0) | ((with_reducible refine gate_callee (f := 15) rfl ?_); refine goesL_ (some 18) rfl rfl Try.func15 (by kernel_rfl) rfl #[.agg #[.slice A0_0 l0_0.length c0_0], .int .i64 1048576] rfl (by (try simp only [List.map_toArray, List.map_cons, List.map_nil]); first | done | rfl | (simp only [List.length_drop, List.length_take]; rfl)) ?_; (with_reducible refine (laws_szHeap.calls _ _ l0_0 1048576 t263 _ ?side1 ?side2 A3.out).mono ?_); (case side1 => repeat (first | exact (Kd.C_below HR0_0.out HB.out) | (with_reducible refine Kd.C_alloc ?_ _) | (with_reducible refine Kd.C_drewN ?_ _) | (with_reducible refine Kd.C_drew ?_))); (case side2 => exact HC0_0.out); rintro e w43 ⟨rfl, hb⟩; refine ⟨_, rfl, ?_⟩; have n0_ := Aside0.mk (blk_below (g := gb261) (o := .cells #[.slice A0_0 l0_0.length c0_0] 32 (0, 0)) Gv.bk hb); have n1_ := Aside0.mk (blk_below (g := gb262) (o := .cells #[.int .i64 a1_0, .int .i64 a1_1] 23 (0, 0)) Gv.bk hb); have n2_ := Aside0.mk (below_step Gv.bw hb); clear BK261; clear BK262; clear HB; have BK261 := n0_; have BK262 := n1_; have HB := n2_; clear n0_ n1_ n2_; (try clear hb); (try clear hb2); (try clear hk); (try clear hi)))
             have n0_ := Aside0.mk (blk_drew BK261.out)
             have n1_ := Aside0.mk (blk_drew BK262.out)
             have n2_ := Aside0.mk (below_drew1 HB.out)
             clear BK261 BK262 HB
             have BK261 := n0_
             have BK262 := n1_
             have HB := n2_
             clear n0_ n1_ n2_
             refine start_ (n := 11) (S := fun w' => w'.cell? ⟨gb261, 0, none⟩ = some (.slice A0_0 l0_0.length c0_0) ∧ w'.cell? ⟨gb262, 0, none⟩ = some (.int .i64 a1_0) ∧ w'.cell? ⟨gb262, 1, none⟩ = some (.int .i64 a1_1)) (ds := []) #[false, false, false, false, false, false, false, false, false, false, false] (by kernel_rfl) rfl rfl ⟨(blk_cell BK261.out 0).trans rfl, (blk_cell BK262.out 0).trans rfl, (blk_cell BK262.out 1).trans rfl⟩ (fun hHeld => ?_); refine with_tabW laws_FnExactHeapMove.tab5 laws_FnExactHeapMove.bits5 (fun HT_ HW_ => ?_)
             generalize w43.drew = w44 at BK261 BK262 HB hHeld ⊢
             refine take_ (i := 0) (N := some 22) (v := ?_) (a' := ?_) #[true, false, false, false, false, false, false, false, false, false, false] rfl rfl (take_ofW HT_.out HW_.out (by kernel_rfl)) (fun _ _ _ h => h) (Or.inl ⟨by rfl, ?_⟩) hHeld ?_ ?_
             rotate_left
             ·rintro w' ⟨s0, s1, s2⟩
              go_simp
              with_reducible rfl
             rotate_left
             ·simp only [Act.put, List.setIfInBounds_toArray, List.set_cons_zero, List.set_cons_succ, i64_w, i32_w]
              rfl
             refine take_ (i := 2) (N := some 24) (v := ?_) (a' := ?_) #[true, false, true, false, false, false, false, false, false, false, false] rfl rfl (take_ofW HT_.out HW_.out (by kernel_rfl)) (fun _ _ _ h => h) (Or.inl ⟨by rfl, ?_⟩) hHeld ?_ ?_
             rotate_left
             ·rintro w' ⟨s0, s1, s2⟩
              go_simp
              with_reducible rfl
             rotate_left
             ·simp only [Act.put, List.setIfInBounds_toArray, List.set_cons_zero, List.set_cons_succ, i64_w, i32_w]
              rfl
             refine join_ (σ := Value × Value × Nat) 2 #[true, true, true, true, true, true, true, true, true, false, false] (fun s_ => [(23, .agg #[s_.1]), (25, .agg #[.int .i64 t267, .int .i64 t268]), (26, .tuple #[.agg #[s_.2.1], .int .i64 t272]), (6, .pointer (some ⟨s_.2.2, 0, none⟩)), (21, .tuple #[.agg #[s_.2.1], .int .i64 t272]), (27, .agg #[s_.2.1]), (28, .int .i64 t272)]) (fun s_ w' => (w'.cell? ⟨gb261, 0, none⟩ = some (.slice A0_0 l0_0.length c0_0) ∧ w'.cell? ⟨gb262, 0, none⟩ = some (.int .i64 a1_0) ∧ w'.cell? ⟨gb262, 1, none⟩ = some (.int .i64 a1_1)) ∧ (Kd.R k25 25 w' w.heap.size (fun k_ => some k_ ≠ (s_.2.1 : Value).ownBlock) s_.1 t264) ∧ (Kd.R k25 25 w' w.heap.size (fun k_ => some k_ ≠ (s_.1 : Value).ownBlock) s_.2.1 t269) ∧ (w'.heap[gb261]? = some (.cells #[.slice A0_0 l0_0.length c0_0] 32 (0, 0))) ∧ (w'.heap[gb262]? = some (.cells #[.int .i64 a1_0, .int .i64 a1_1] 23 (0, 0))) ∧ (w'.heap[s_.2.2]? = some (.cells #[.slice none 0 0] 37 (0, 0))) ∧ (w.heap.size ≤ s_.2.2) ∧ (w.heap.size ≤ s_.2.2) ∧ (gb261 ≠ s_.2.2) ∧ (s_.2.2 ≠ gb261) ∧ (gb262 ≠ s_.2.2) ∧ (s_.2.2 ≠ gb262) ∧ (Below w.heap.size w w')) ?_ ?_
             rotate_left
             ·intro hCont
              refine two_ (i := 1) (j := 8) (Ni := some 23) (Nj := some 6) #[true, true, true, false, false, false, false, false, false, false, false] #[true, false, true, false, false, false, false, false, true, false, false] rfl rfl rfl rfl (two_of HT_.out (by kernel_rfl)) (by decide) (by decide) (fun K hK => ?_) (fun K hK => ?_)
              ·skip
               refine goes_ Try.func17 (by kernel_rfl) rfl #[.agg #[.slice A0_0 l0_0.length c0_0]] (by rfl) rfl rfl (by (try simp only [List.map_toArray, List.map_cons, List.map_nil]); first | done | rfl | (simp only [List.length_drop, List.length_take]; rfl)) ?_
               with_reducible refine (laws_toHeap.calls k _ _ l0_0 t264 _ ?side1 ?side2 A10.out).mono ?_
               (case side1 => repeat (first | exact (Kd.C_below HR0_0.out HB.out) | (with_reducible refine Kd.C_alloc ?_ _) | (with_reducible refine Kd.C_drewN ?_ _) | (with_reducible refine Kd.C_drew ?_)))
               (case side2 => exact HC0_0.out)
               rintro e w45 ⟨v265, rfl, ho0, hb⟩
               refine ⟨_, rfl, ?_⟩
               have n0_ := Aside0.mk (Kd.R_lower ho0 (below_size HB.out))
               have n1_ := Aside0.mk (blk_below BK261.out hb)
               have n2_ := Aside0.mk (blk_below BK262.out hb)
               have n3_ := Aside0.mk (below_step HB.out hb)
               clear BK261 BK262 HB
               have HO266 := n0_
               have BK261 := n1_
               have BK262 := n2_
               have HB := n3_
               clear n0_ n1_ n2_ n3_
               (try clear hb)
               (try clear hb2)
               (try clear hk)
               (try clear hi)
               (try clear ho0)
               refine hK.out _ _ ⟨(blk_cell BK261.out 0).trans rfl, (blk_cell BK262.out 0).trans rfl, (blk_cell BK262.out 1).trans rfl⟩ (fun hHeld => ?_)
               clear hK K
               refine norm_ (a' := ?_) ?_ ?_
               rotate_left
               ·show Act.put _ (some 23) _ = _
                simp only [Act.put, List.setIfInBounds_toArray, List.set_cons_zero, List.set_cons_succ, i64_w, i32_w]
                rfl
               refine two_ (i := 3) (j := 8) (Ni := some 25) (Nj := some 6) #[true, true, true, true, false, false, false, false, false, false, false] #[true, true, true, false, false, false, false, false, true, false, false] rfl rfl rfl rfl (two_of HT_.out (by kernel_rfl)) (by decide) (by decide) (fun K hK => ?_) (fun K hK => ?_)
               ·skip
                refine goes_ Try.func11 (by kernel_rfl) rfl #[.agg #[.int .i64 a1_0, .int .i64 a1_1]] (by rfl) rfl rfl (by (try simp only [List.map_toArray, List.map_cons, List.map_nil]); first | done | rfl | (simp only [List.length_drop, List.length_take]; rfl)) ?_
                with_reducible refine (laws_toItem.calls a1_0 a1_1 t267 t268 _ A11.out).mono ?_
                rintro e w46 ⟨rfl, hb⟩
                refine ⟨_, rfl, ?_⟩
                have n0_ := Aside0.mk (Kd.R_below HO266.out hb)
                have n1_ := Aside0.mk (blk_below BK261.out hb)
                have n2_ := Aside0.mk (blk_below BK262.out hb)
                have n3_ := Aside0.mk (below_step HB.out hb)
                clear HO266 BK261 BK262 HB
                have HO266 := n0_
                have BK261 := n1_
                have BK262 := n2_
                have HB := n3_
                clear n0_ n1_ n2_ n3_
                (try clear hb)
                (try clear hb2)
                (try clear hk)
                (try clear hi)
                obtain ⟨Ao47, co47, eo47⟩ := Kd.R_slice HO266.out
                (first | subst eo47 | (injection eo47 with f1_ f2_ f3_; have f4_ := f1_.symm; have f5_ := f3_.symm; clear f1_ f2_ f3_; subst f4_; subst f5_))
                refine hK.out _ _ ⟨(blk_cell BK261.out 0).trans rfl, (blk_cell BK262.out 0).trans rfl, (blk_cell BK262.out 1).trans rfl⟩ (fun hHeld => ?_)
                clear hK K
                refine norm_ (a' := ?_) ?_ ?_
                rotate_left
                ·show Act.put _ (some 25) _ = _
                 simp only [Act.put, List.setIfInBounds_toArray, List.set_cons_zero, List.set_cons_succ, i64_w, i32_w]
                 rfl
                refine two_ (i := 4) (j := 8) (Ni := some 26) (Nj := some 6) #[true, true, true, true, true, false, false, false, false, false, false] #[true, true, true, true, false, false, false, false, true, false, false] rfl rfl rfl rfl (two_of HT_.out (by kernel_rfl)) (by decide) (by decide) (fun K hK => ?_) (fun K hK => ?_)
                ·skip
                 refine goes_ Try.func26 (by kernel_rfl) rfl #[.agg #[.slice Ao47 t264.length co47], .agg #[.int .i64 t267, .int .i64 t268]] (by rfl) rfl rfl (by (try simp only [List.map_toArray, List.map_cons, List.map_nil]); first | done | rfl | (simp only [List.length_drop, List.length_take]; rfl)) ?_
                 with_reducible refine (spec_HeapMove.calls k _ _ t264 t267 t268 t269 t272 _ ?side1 ?side2 A12.out).mono ?_
                 (case side1 => repeat (first | exact (Kd.R_reads' HO266.out).2.2 | (with_reducible refine Kd.C_alloc ?_ _) | (with_reducible refine Kd.C_drewN ?_ _) | (with_reducible refine Kd.C_drew ?_)))
                 (case side2 => exact (Kd.R_reads' HO266.out).2.1)
                 rintro e w48 ⟨v270, rfl, ho0, hb⟩
                 refine ⟨_, rfl, ?_⟩
                 have n0_ := Aside0.mk (Kd.R_elder' HO266.out (Kd.R_base ho0) hb)
                 have n1_ := Aside0.mk (Kd.R_lower (Kd.R_new' ho0 (Kd.R_lt HO266.out)) (below_size HB.out))
                 have n2_ := Aside0.mk (blk_below BK261.out hb)
                 have n3_ := Aside0.mk (blk_below BK262.out hb)
                 have n4_ := Aside0.mk (below_step HB.out hb)
                 clear HO266 BK261 BK262 HB
                 have HO266 := n0_
                 have HO271 := n1_
                 have BK261 := n2_
                 have BK262 := n3_
                 have HB := n4_
                 clear n0_ n1_ n2_ n3_ n4_
                 (try clear hb)
                 (try clear hb2)
                 (try clear hk)
                 (try clear hi)
                 (try clear ho0)
                 refine hK.out _ _ ⟨(blk_cell BK261.out 0).trans rfl, (blk_cell BK262.out 0).trans rfl, (blk_cell BK262.out 1).trans rfl⟩ (fun hHeld => ?_)
                 clear hK K
                 refine norm_ (a' := ?_) ?_ ?_
                 rotate_left
                 ·show Act.put _ (some 26) _ = _
                  simp only [Act.put, List.setIfInBounds_toArray, List.set_cons_zero, List.set_cons_succ, i64_w, i32_w]
                  rfl
                 refine pure_ (i := 5) (N := some 21) (v := ?_) (a' := ?_) #[true, true, true, true, true, true, false, false, false, false, false] rfl rfl (any_of HT_.out (by kernel_rfl)) (fun _ _ _ h => h) (Or.inl ⟨by rfl, ?_⟩) ?_ ?_
                 rotate_left
                 ·intro w'
                  go_simp
                  with_reducible rfl
                 rotate_left
                 ·simp only [Act.put, List.setIfInBounds_toArray, List.set_cons_zero, List.set_cons_succ, i64_w, i32_w]
                  rfl
                 refine pure_ (i := 6) (N := some 27) (v := ?_) (a' := ?_) #[true, true, true, true, true, true, true, false, false, false, false] rfl rfl (any_of HT_.out (by kernel_rfl)) (fun _ _ _ h => h) (Or.inl ⟨by rfl, ?_⟩) ?_ ?_
                 rotate_left
                 ·intro w'
                  go_simp
                  with_reducible rfl
                 rotate_left
                 ·simp only [Act.put, List.setIfInBounds_toArray, List.set_cons_zero, List.set_cons_succ, i64_w, i32_w]
                  rfl
                 refine pure_ (i := 7) (N := some 28) (v := ?_) (a' := ?_) #[true, true, true, true, true, true, true, true, false, false, false] rfl rfl (any_of HT_.out (by kernel_rfl)) (fun _ _ _ h => h) (Or.inl ⟨by rfl, ?_⟩) ?_ ?_
                 rotate_left
                 ·intro w'
                  go_simp
                  with_reducible rfl
                 rotate_left
                 ·simp only [Act.put, List.setIfInBounds_toArray, List.set_cons_zero, List.set_cons_succ, i64_w, i32_w]
                  rfl
                 refine one_ (i := 8) (N := some 6) #[true, true, true, true, true, true, true, true, true, false, false] rfl rfl (one_of HT_.out (by kernel_rfl)) (by decide) (fun K hK => ?_)
                 refine box_step ?hg (N := 6) ?hd (cs := #[.slice none 0 0]) (t := 37) ?hr ?_; (case hd => rfl); (case hg => rfl); (case hr => first | (go_simp; done) | (go_simp; rfl))
                 intro gb273 hg w49 hbox hb
                 have n0_ := Aside0.mk (Kd.R_below HO266.out hb)
                 have n1_ := Aside0.mk (Kd.R_below HO271.out hb)
                 have n2_ := Aside0.mk (blk_below BK261.out hb)
                 have n3_ := Aside0.mk (blk_below BK262.out hb)
                 have n4_ := Aside0.mk (below_step HB.out hb)
                 have n5_ := Aside0.mk (hbox)
                 have n6_ := Aside0.mk ((by rw [hg]; exact (below_size HB.out) : w.heap.size ≤ gb273))
                 have n7_ := Aside0.mk ((by rw [hg]; exact (below_size HB.out) : w.heap.size ≤ gb273))
                 have n8_ := Aside0.mk ((by rw [hg]; exact Nat.ne_of_lt (blk_lt BK261.out) : gb261 ≠ gb273))
                 have n9_ := Aside0.mk ((by rw [hg]; exact Nat.ne_of_gt (blk_lt BK261.out) : gb273 ≠ gb261))
                 have n10_ := Aside0.mk ((by rw [hg]; exact Nat.ne_of_lt (blk_lt BK262.out) : gb262 ≠ gb273))
                 have n11_ := Aside0.mk ((by rw [hg]; exact Nat.ne_of_gt (blk_lt BK262.out) : gb273 ≠ gb262))
                 clear HO266 HO271 BK261 BK262 HB
                 have HO266 := n0_
                 have HO271 := n1_
                 have BK261 := n2_
                 have BK262 := n3_
                 have HB := n4_
                 have BK273 := n5_
                 have GW273 := n6_
                 have GE273 := n7_
                 have NB261_273 := n8_
                 have NB273_261 := n9_
                 have NB262_273 := n10_
                 have NB273_262 := n11_
                 clear n0_ n1_ n2_ n3_ n4_ n5_ n6_ n7_ n8_ n9_ n10_ n11_
                 clear hb hbox hg
                 refine hK.out _ _ ⟨(blk_cell BK261.out 0).trans rfl, (blk_cell BK262.out 0).trans rfl, (blk_cell BK262.out 1).trans rfl⟩ (fun hHeld => ?_)
                 clear hK K
                 refine norm_ (a' := ?_) ?_ ?_
                 rotate_left
                 ·show Act.put _ (some 6) _ = _
                  simp only [Act.put, List.setIfInBounds_toArray, List.set_cons_zero, List.set_cons_succ, i64_w, i32_w]
                  rfl
                 exact norm_ (by simp only [putAll, Act.put, List.setIfInBounds_toArray, List.set_cons_zero, List.set_cons_succ]) (hCont (.slice Ao47 t264.length co47, v270, gb273) _ ⟨hHeld, (by (with_reducible repeat (first | apply Kd.R_alloc | apply Kd.R_drewN | apply Kd.R_drew)); exact Kd.R_mono HO266.out (fun _ hk => hk.2)), (by (with_reducible repeat (first | apply Kd.R_alloc | apply Kd.R_drewN | apply Kd.R_drew)); exact Kd.R_mono HO271.out (fun _ hk => hk.2)), BK261.out, BK262.out, BK273.out, GW273.out, GE273.out, NB261_273.out, NB273_261.out, NB262_273.out, NB273_262.out, HB.out⟩)
                ·skip
                 refine box_step ?hg (N := 6) ?hd (cs := #[.slice none 0 0]) (t := 37) ?hr ?_; (case hd => rfl); (case hg => rfl); (case hr => first | (go_simp; done) | (go_simp; rfl))
                 intro gb273 hg w47 hbox hb
                 have n0_ := Aside0.mk (Kd.R_below HO266.out hb)
                 have n1_ := Aside0.mk (blk_below BK261.out hb)
                 have n2_ := Aside0.mk (blk_below BK262.out hb)
                 have n3_ := Aside0.mk (below_step HB.out hb)
                 have n4_ := Aside0.mk (hbox)
                 have n5_ := Aside0.mk ((by rw [hg]; exact (below_size HB.out) : w.heap.size ≤ gb273))
                 have n6_ := Aside0.mk ((by rw [hg]; exact (below_size HB.out) : w.heap.size ≤ gb273))
                 have n7_ := Aside0.mk ((by rw [hg]; exact Nat.ne_of_lt (blk_lt BK261.out) : gb261 ≠ gb273))
                 have n8_ := Aside0.mk ((by rw [hg]; exact Nat.ne_of_gt (blk_lt BK261.out) : gb273 ≠ gb261))
                 have n9_ := Aside0.mk ((by rw [hg]; exact Nat.ne_of_lt (blk_lt BK262.out) : gb262 ≠ gb273))
                 have n10_ := Aside0.mk ((by rw [hg]; exact Nat.ne_of_gt (blk_lt BK262.out) : gb273 ≠ gb262))
                 clear HO266 BK261 BK262 HB
                 have HO266 := n0_
                 have BK261 := n1_
                 have BK262 := n2_
                 have HB := n3_
                 have BK273 := n4_
                 have GW273 := n5_
                 have GE273 := n6_
                 have NB261_273 := n7_
                 have NB273_261 := n8_
                 have NB262_273 := n9_
                 have NB273_262 := n10_
                 clear n0_ n1_ n2_ n3_ n4_ n5_ n6_ n7_ n8_ n9_ n10_
                 clear hb hbox hg
                 obtain ⟨Ao48, co48, eo48⟩ := Kd.R_slice HO266.out
                 (first | subst eo48 | (injection eo48 with f1_ f2_ f3_; have f4_ := f1_.symm; have f5_ := f3_.symm; clear f1_ f2_ f3_; subst f4_; subst f5_))
                 refine hK.out _ _ ⟨(blk_cell BK261.out 0).trans rfl, (blk_cell BK262.out 0).trans rfl, (blk_cell BK262.out 1).trans rfl⟩ (fun hHeld => ?_)
                 clear hK K
                 refine norm_ (a' := ?_) ?_ ?_
                 rotate_left
                 ·show Act.put _ (some 6) _ = _
                  simp only [Act.put, List.setIfInBounds_toArray, List.set_cons_zero, List.set_cons_succ, i64_w, i32_w]
                  rfl
                 refine one_ (i := 4) (N := some 26) #[true, true, true, true, true, false, false, false, true, false, false] rfl rfl (one_of HT_.out (by kernel_rfl)) (by decide) (fun K hK => ?_)
                 refine goes_ Try.func26 (by kernel_rfl) rfl #[.agg #[.slice Ao48 t264.length co48], .agg #[.int .i64 t267, .int .i64 t268]] (by rfl) rfl rfl (by (try simp only [List.map_toArray, List.map_cons, List.map_nil]); first | done | rfl | (simp only [List.length_drop, List.length_take]; rfl)) ?_
                 with_reducible refine (spec_HeapMove.calls k _ _ t264 t267 t268 t269 t272 _ ?side1 ?side2 A12.out).mono ?_
                 (case side1 => repeat (first | exact (Kd.R_reads' HO266.out).2.2 | (with_reducible refine Kd.C_alloc ?_ _) | (with_reducible refine Kd.C_drewN ?_ _) | (with_reducible refine Kd.C_drew ?_)))
                 (case side2 => exact (Kd.R_reads' HO266.out).2.1)
                 rintro e w49 ⟨v270, rfl, ho0, hb⟩
                 refine ⟨_, rfl, ?_⟩
                 have n0_ := Aside0.mk (Kd.R_elder' HO266.out (Kd.R_base ho0) hb)
                 have n1_ := Aside0.mk (Kd.R_lower (Kd.R_new' ho0 (Kd.R_lt HO266.out)) (below_size HB.out))
                 have n2_ := Aside0.mk (blk_below BK261.out hb)
                 have n3_ := Aside0.mk (blk_below BK262.out hb)
                 have n4_ := Aside0.mk (blk_below BK273.out hb)
                 have n5_ := Aside0.mk (below_step HB.out hb)
                 clear HO266 BK261 BK262 BK273 HB
                 have HO266 := n0_
                 have HO271 := n1_
                 have BK261 := n2_
                 have BK262 := n3_
                 have BK273 := n4_
                 have HB := n5_
                 clear n0_ n1_ n2_ n3_ n4_ n5_
                 (try clear hb)
                 (try clear hb2)
                 (try clear hk)
                 (try clear hi)
                 (try clear ho0)
                 refine hK.out _ _ ⟨(blk_cell BK261.out 0).trans rfl, (blk_cell BK262.out 0).trans rfl, (blk_cell BK262.out 1).trans rfl⟩ (fun hHeld => ?_)
                 clear hK K
                 refine norm_ (a' := ?_) ?_ ?_
                 rotate_left
                 ·show Act.put _ (some 26) _ = _
                  simp only [Act.put, List.setIfInBounds_toArray, List.set_cons_zero, List.set_cons_succ, i64_w, i32_w]
                  rfl
                 refine pure_ (i := 5) (N := some 21) (v := ?_) (a' := ?_) #[true, true, true, true, true, true, false, false, true, false, false] rfl rfl (any_of HT_.out (by kernel_rfl)) (fun _ _ _ h => h) (Or.inl ⟨by rfl, ?_⟩) ?_ ?_
                 rotate_left
                 ·intro w'
                  go_simp
                  with_reducible rfl
                 rotate_left
                 ·simp only [Act.put, List.setIfInBounds_toArray, List.set_cons_zero, List.set_cons_succ, i64_w, i32_w]
                  rfl
                 refine pure_ (i := 6) (N := some 27) (v := ?_) (a' := ?_) #[true, true, true, true, true, true, true, false, true, false, false] rfl rfl (any_of HT_.out (by kernel_rfl)) (fun _ _ _ h => h) (Or.inl ⟨by rfl, ?_⟩) ?_ ?_
                 rotate_left
                 ·intro w'
                  go_simp
                  with_reducible rfl
                 rotate_left
                 ·simp only [Act.put, List.setIfInBounds_toArray, List.set_cons_zero, List.set_cons_succ, i64_w, i32_w]
                  rfl
                 refine pure_ (i := 7) (N := some 28) (v := ?_) (a' := ?_) #[true, true, true, true, true, true, true, true, true, false, false] rfl rfl (any_of HT_.out (by kernel_rfl)) (fun _ _ _ h => h) (Or.inl ⟨by rfl, ?_⟩) ?_ ?_
                 rotate_left
                 ·intro w'
                  go_simp
                  with_reducible rfl
                 rotate_left
                 ·simp only [Act.put, List.setIfInBounds_toArray, List.set_cons_zero, List.set_cons_succ, i64_w, i32_w]
                  rfl
                 exact norm_ (by simp only [putAll, Act.put, List.setIfInBounds_toArray, List.set_cons_zero, List.set_cons_succ]) (hCont (.slice Ao48 t264.length co48, v270, gb273) _ ⟨hHeld, (by (with_reducible repeat (first | apply Kd.R_alloc | apply Kd.R_drewN | apply Kd.R_drew)); exact Kd.R_mono HO266.out (fun _ hk => hk.2)), (by (with_reducible repeat (first | apply Kd.R_alloc | apply Kd.R_drewN | apply Kd.R_drew)); exact Kd.R_mono HO271.out (fun _ hk => hk.2)), BK261.out, BK262.out, BK273.out, GW273.out, GE273.out, NB261_273.out, NB273_261.out, NB262_273.out, NB273_262.out, HB.out⟩)
               ·skip
                refine box_step ?hg (N := 6) ?hd (cs := #[.slice none 0 0]) (t := 37) ?hr ?_; (case hd => rfl); (case hg => rfl); (case hr => first | (go_simp; done) | (go_simp; rfl))
                intro gb273 hg w46 hbox hb
                have n0_ := Aside0.mk (Kd.R_below HO266.out hb)
                have n1_ := Aside0.mk (blk_below BK261.out hb)
                have n2_ := Aside0.mk (blk_below BK262.out hb)
                have n3_ := Aside0.mk (below_step HB.out hb)
                have n4_ := Aside0.mk (hbox)
                have n5_ := Aside0.mk ((by rw [hg]; exact (below_size HB.out) : w.heap.size ≤ gb273))
                have n6_ := Aside0.mk ((by rw [hg]; exact (below_size HB.out) : w.heap.size ≤ gb273))
                have n7_ := Aside0.mk ((by rw [hg]; exact Nat.ne_of_lt (blk_lt BK261.out) : gb261 ≠ gb273))
                have n8_ := Aside0.mk ((by rw [hg]; exact Nat.ne_of_gt (blk_lt BK261.out) : gb273 ≠ gb261))
                have n9_ := Aside0.mk ((by rw [hg]; exact Nat.ne_of_lt (blk_lt BK262.out) : gb262 ≠ gb273))
                have n10_ := Aside0.mk ((by rw [hg]; exact Nat.ne_of_gt (blk_lt BK262.out) : gb273 ≠ gb262))
                clear HO266 BK261 BK262 HB
                have HO266 := n0_
                have BK261 := n1_
                have BK262 := n2_
                have HB := n3_
                have BK273 := n4_
                have GW273 := n5_
                have GE273 := n6_
                have NB261_273 := n7_
                have NB273_261 := n8_
                have NB262_273 := n9_
                have NB273_262 := n10_
                clear n0_ n1_ n2_ n3_ n4_ n5_ n6_ n7_ n8_ n9_ n10_
                clear hb hbox hg
                refine hK.out _ _ ⟨(blk_cell BK261.out 0).trans rfl, (blk_cell BK262.out 0).trans rfl, (blk_cell BK262.out 1).trans rfl⟩ (fun hHeld => ?_)
                clear hK K
                refine norm_ (a' := ?_) ?_ ?_
                rotate_left
                ·show Act.put _ (some 6) _ = _
                 simp only [Act.put, List.setIfInBounds_toArray, List.set_cons_zero, List.set_cons_succ, i64_w, i32_w]
                 rfl
                refine one_ (i := 3) (N := some 25) #[true, true, true, true, false, false, false, false, true, false, false] rfl rfl (one_of HT_.out (by kernel_rfl)) (by decide) (fun K hK => ?_)
                refine goes_ Try.func11 (by kernel_rfl) rfl #[.agg #[.int .i64 a1_0, .int .i64 a1_1]] (by rfl) rfl rfl (by (try simp only [List.map_toArray, List.map_cons, List.map_nil]); first | done | rfl | (simp only [List.length_drop, List.length_take]; rfl)) ?_
                with_reducible refine (laws_toItem.calls a1_0 a1_1 t267 t268 _ A11.out).mono ?_
                rintro e w47 ⟨rfl, hb⟩
                refine ⟨_, rfl, ?_⟩
                have n0_ := Aside0.mk (Kd.R_below HO266.out hb)
                have n1_ := Aside0.mk (blk_below BK261.out hb)
                have n2_ := Aside0.mk (blk_below BK262.out hb)
                have n3_ := Aside0.mk (blk_below BK273.out hb)
                have n4_ := Aside0.mk (below_step HB.out hb)
                clear HO266 BK261 BK262 BK273 HB
                have HO266 := n0_
                have BK261 := n1_
                have BK262 := n2_
                have BK273 := n3_
                have HB := n4_
                clear n0_ n1_ n2_ n3_ n4_
                (try clear hb)
                (try clear hb2)
                (try clear hk)
                (try clear hi)
                obtain ⟨Ao48, co48, eo48⟩ := Kd.R_slice HO266.out
                (first | subst eo48 | (injection eo48 with f1_ f2_ f3_; have f4_ := f1_.symm; have f5_ := f3_.symm; clear f1_ f2_ f3_; subst f4_; subst f5_))
                refine hK.out _ _ ⟨(blk_cell BK261.out 0).trans rfl, (blk_cell BK262.out 0).trans rfl, (blk_cell BK262.out 1).trans rfl⟩ (fun hHeld => ?_)
                clear hK K
                refine norm_ (a' := ?_) ?_ ?_
                rotate_left
                ·show Act.put _ (some 25) _ = _
                 simp only [Act.put, List.setIfInBounds_toArray, List.set_cons_zero, List.set_cons_succ, i64_w, i32_w]
                 rfl
                refine one_ (i := 4) (N := some 26) #[true, true, true, true, true, false, false, false, true, false, false] rfl rfl (one_of HT_.out (by kernel_rfl)) (by decide) (fun K hK => ?_)
                refine goes_ Try.func26 (by kernel_rfl) rfl #[.agg #[.slice Ao48 t264.length co48], .agg #[.int .i64 t267, .int .i64 t268]] (by rfl) rfl rfl (by (try simp only [List.map_toArray, List.map_cons, List.map_nil]); first | done | rfl | (simp only [List.length_drop, List.length_take]; rfl)) ?_
                with_reducible refine (spec_HeapMove.calls k _ _ t264 t267 t268 t269 t272 _ ?side1 ?side2 A12.out).mono ?_
                (case side1 => repeat (first | exact (Kd.R_reads' HO266.out).2.2 | (with_reducible refine Kd.C_alloc ?_ _) | (with_reducible refine Kd.C_drewN ?_ _) | (with_reducible refine Kd.C_drew ?_)))
                (case side2 => exact (Kd.R_reads' HO266.out).2.1)
                rintro e w49 ⟨v270, rfl, ho0, hb⟩
                refine ⟨_, rfl, ?_⟩
                have n0_ := Aside0.mk (Kd.R_elder' HO266.out (Kd.R_base ho0) hb)
                have n1_ := Aside0.mk (Kd.R_lower (Kd.R_new' ho0 (Kd.R_lt HO266.out)) (below_size HB.out))
                have n2_ := Aside0.mk (blk_below BK261.out hb)
                have n3_ := Aside0.mk (blk_below BK262.out hb)
                have n4_ := Aside0.mk (blk_below BK273.out hb)
                have n5_ := Aside0.mk (below_step HB.out hb)
                clear HO266 BK261 BK262 BK273 HB
                have HO266 := n0_
                have HO271 := n1_
                have BK261 := n2_
                have BK262 := n3_
                have BK273 := n4_
                have HB := n5_
                clear n0_ n1_ n2_ n3_ n4_ n5_
                (try clear hb)
                (try clear hb2)
                (try clear hk)
                (try clear hi)
                (try clear ho0)
                refine hK.out _ _ ⟨(blk_cell BK261.out 0).trans rfl, (blk_cell BK262.out 0).trans rfl, (blk_cell BK262.out 1).trans rfl⟩ (fun hHeld => ?_)
                clear hK K
                refine norm_ (a' := ?_) ?_ ?_
                rotate_left
                ·show Act.put _ (some 26) _ = _
                 simp only [Act.put, List.setIfInBounds_toArray, List.set_cons_zero, List.set_cons_succ, i64_w, i32_w]
                 rfl
                refine pure_ (i := 5) (N := some 21) (v := ?_) (a' := ?_) #[true, true, true, true, true, true, false, false, true, false, false] rfl rfl (any_of HT_.out (by kernel_rfl)) (fun _ _ _ h => h) (Or.inl ⟨by rfl, ?_⟩) ?_ ?_
                rotate_left
                ·intro w'
                 go_simp
                 with_reducible rfl
                rotate_left
                ·simp only [Act.put, List.setIfInBounds_toArray, List.set_cons_zero, List.set_cons_succ, i64_w, i32_w]
                 rfl
                refine pure_ (i := 6) (N := some 27) (v := ?_) (a' := ?_) #[true, true, true, true, true, true, true, false, true, false, false] rfl rfl (any_of HT_.out (by kernel_rfl)) (fun _ _ _ h => h) (Or.inl ⟨by rfl, ?_⟩) ?_ ?_
                rotate_left
                ·intro w'
                 go_simp
                 with_reducible rfl
                rotate_left
                ·simp only [Act.put, List.setIfInBounds_toArray, List.set_cons_zero, List.set_cons_succ, i64_w, i32_w]
                 rfl
                refine pure_ (i := 7) (N := some 28) (v := ?_) (a' := ?_) #[true, true, true, true, true, true, true, true, true, false, false] rfl rfl (any_of HT_.out (by kernel_rfl)) (fun _ _ _ h => h) (Or.inl ⟨by rfl, ?_⟩) ?_ ?_
                rotate_left
                ·intro w'
                 go_simp
                 with_reducible rfl
                rotate_left
                ·simp only [Act.put, List.setIfInBounds_toArray, List.set_cons_zero, List.set_cons_succ, i64_w, i32_w]
                 rfl
                exact norm_ (by simp only [putAll, Act.put, List.setIfInBounds_toArray, List.set_cons_zero, List.set_cons_succ]) (hCont (.slice Ao48 t264.length co48, v270, gb273) _ ⟨hHeld, (by (with_reducible repeat (first | apply Kd.R_alloc | apply Kd.R_drewN | apply Kd.R_drew)); exact Kd.R_mono HO266.out (fun _ hk => hk.2)), (by (with_reducible repeat (first | apply Kd.R_alloc | apply Kd.R_drewN | apply Kd.R_drew)); exact Kd.R_mono HO271.out (fun _ hk => hk.2)), BK261.out, BK262.out, BK273.out, GW273.out, GE273.out, NB261_273.out, NB273_261.out, NB262_273.out, NB273_262.out, HB.out⟩)
              ·skip
               refine box_step ?hg (N := 6) ?hd (cs := #[.slice none 0 0]) (t := 37) ?hr ?_; (case hd => rfl); (case hg => rfl); (case hr => first | (go_simp; done) | (go_simp; rfl))
               intro gb273 hg w45 hbox hb
               have n0_ := Aside0.mk (blk_below BK261.out hb)
               have n1_ := Aside0.mk (blk_below BK262.out hb)
               have n2_ := Aside0.mk (below_step HB.out hb)
               have n3_ := Aside0.mk (hbox)
               have n4_ := Aside0.mk ((by rw [hg]; exact (below_size HB.out) : w.heap.size ≤ gb273))
               have n5_ := Aside0.mk ((by rw [hg]; exact (below_size HB.out) : w.heap.size ≤ gb273))
               have n6_ := Aside0.mk ((by rw [hg]; exact Nat.ne_of_lt (blk_lt BK261.out) : gb261 ≠ gb273))
               have n7_ := Aside0.mk ((by rw [hg]; exact Nat.ne_of_gt (blk_lt BK261.out) : gb273 ≠ gb261))
               have n8_ := Aside0.mk ((by rw [hg]; exact Nat.ne_of_lt (blk_lt BK262.out) : gb262 ≠ gb273))
               have n9_ := Aside0.mk ((by rw [hg]; exact Nat.ne_of_gt (blk_lt BK262.out) : gb273 ≠ gb262))
               clear BK261 BK262 HB
               have BK261 := n0_
               have BK262 := n1_
               have HB := n2_
               have BK273 := n3_
               have GW273 := n4_
               have GE273 := n5_
               have NB261_273 := n6_
               have NB273_261 := n7_
               have NB262_273 := n8_
               have NB273_262 := n9_
               clear n0_ n1_ n2_ n3_ n4_ n5_ n6_ n7_ n8_ n9_
               clear hb hbox hg
               refine hK.out _ _ ⟨(blk_cell BK261.out 0).trans rfl, (blk_cell BK262.out 0).trans rfl, (blk_cell BK262.out 1).trans rfl⟩ (fun hHeld => ?_)
               clear hK K
               refine norm_ (a' := ?_) ?_ ?_
               rotate_left
               ·show Act.put _ (some 6) _ = _
                simp only [Act.put, List.setIfInBounds_toArray, List.set_cons_zero, List.set_cons_succ, i64_w, i32_w]
                rfl
               refine one_ (i := 1) (N := some 23) #[true, true, true, false, false, false, false, false, true, false, false] rfl rfl (one_of HT_.out (by kernel_rfl)) (by decide) (fun K hK => ?_)
               refine goes_ Try.func17 (by kernel_rfl) rfl #[.agg #[.slice A0_0 l0_0.length c0_0]] (by rfl) rfl rfl (by (try simp only [List.map_toArray, List.map_cons, List.map_nil]); first | done | rfl | (simp only [List.length_drop, List.length_take]; rfl)) ?_
               with_reducible refine (laws_toHeap.calls k _ _ l0_0 t264 _ ?side1 ?side2 A10.out).mono ?_
               (case side1 => repeat (first | exact (Kd.C_below HR0_0.out HB.out) | (with_reducible refine Kd.C_alloc ?_ _) | (with_reducible refine Kd.C_drewN ?_ _) | (with_reducible refine Kd.C_drew ?_)))
               (case side2 => exact HC0_0.out)
               rintro e w46 ⟨v265, rfl, ho0, hb⟩
               refine ⟨_, rfl, ?_⟩
               have n0_ := Aside0.mk (Kd.R_lower ho0 (below_size HB.out))
               have n1_ := Aside0.mk (blk_below BK261.out hb)
               have n2_ := Aside0.mk (blk_below BK262.out hb)
               have n3_ := Aside0.mk (blk_below BK273.out hb)
               have n4_ := Aside0.mk (below_step HB.out hb)
               clear BK261 BK262 BK273 HB
               have HO266 := n0_
               have BK261 := n1_
               have BK262 := n2_
               have BK273 := n3_
               have HB := n4_
               clear n0_ n1_ n2_ n3_ n4_
               (try clear hb)
               (try clear hb2)
               (try clear hk)
               (try clear hi)
               (try clear ho0)
               refine hK.out _ _ ⟨(blk_cell BK261.out 0).trans rfl, (blk_cell BK262.out 0).trans rfl, (blk_cell BK262.out 1).trans rfl⟩ (fun hHeld => ?_)
               clear hK K
               refine norm_ (a' := ?_) ?_ ?_
               rotate_left
               ·show Act.put _ (some 23) _ = _
                simp only [Act.put, List.setIfInBounds_toArray, List.set_cons_zero, List.set_cons_succ, i64_w, i32_w]
                rfl
               refine one_ (i := 3) (N := some 25) #[true, true, true, true, false, false, false, false, true, false, false] rfl rfl (one_of HT_.out (by kernel_rfl)) (by decide) (fun K hK => ?_)
               refine goes_ Try.func11 (by kernel_rfl) rfl #[.agg #[.int .i64 a1_0, .int .i64 a1_1]] (by rfl) rfl rfl (by (try simp only [List.map_toArray, List.map_cons, List.map_nil]); first | done | rfl | (simp only [List.length_drop, List.length_take]; rfl)) ?_
               with_reducible refine (laws_toItem.calls a1_0 a1_1 t267 t268 _ A11.out).mono ?_
               rintro e w47 ⟨rfl, hb⟩
               refine ⟨_, rfl, ?_⟩
               have n0_ := Aside0.mk (Kd.R_below HO266.out hb)
               have n1_ := Aside0.mk (blk_below BK261.out hb)
               have n2_ := Aside0.mk (blk_below BK262.out hb)
               have n3_ := Aside0.mk (blk_below BK273.out hb)
               have n4_ := Aside0.mk (below_step HB.out hb)
               clear HO266 BK261 BK262 BK273 HB
               have HO266 := n0_
               have BK261 := n1_
               have BK262 := n2_
               have BK273 := n3_
               have HB := n4_
               clear n0_ n1_ n2_ n3_ n4_
               (try clear hb)
               (try clear hb2)
               (try clear hk)
               (try clear hi)
               obtain ⟨Ao48, co48, eo48⟩ := Kd.R_slice HO266.out
               (first | subst eo48 | (injection eo48 with f1_ f2_ f3_; have f4_ := f1_.symm; have f5_ := f3_.symm; clear f1_ f2_ f3_; subst f4_; subst f5_))
               refine hK.out _ _ ⟨(blk_cell BK261.out 0).trans rfl, (blk_cell BK262.out 0).trans rfl, (blk_cell BK262.out 1).trans rfl⟩ (fun hHeld => ?_)
               clear hK K
               refine norm_ (a' := ?_) ?_ ?_
               rotate_left
               ·show Act.put _ (some 25) _ = _
                simp only [Act.put, List.setIfInBounds_toArray, List.set_cons_zero, List.set_cons_succ, i64_w, i32_w]
                rfl
               refine one_ (i := 4) (N := some 26) #[true, true, true, true, true, false, false, false, true, false, false] rfl rfl (one_of HT_.out (by kernel_rfl)) (by decide) (fun K hK => ?_)
               refine goes_ Try.func26 (by kernel_rfl) rfl #[.agg #[.slice Ao48 t264.length co48], .agg #[.int .i64 t267, .int .i64 t268]] (by rfl) rfl rfl (by (try simp only [List.map_toArray, List.map_cons, List.map_nil]); first | done | rfl | (simp only [List.length_drop, List.length_take]; rfl)) ?_
               with_reducible refine (spec_HeapMove.calls k _ _ t264 t267 t268 t269 t272 _ ?side1 ?side2 A12.out).mono ?_
               (case side1 => repeat (first | exact (Kd.R_reads' HO266.out).2.2 | (with_reducible refine Kd.C_alloc ?_ _) | (with_reducible refine Kd.C_drewN ?_ _) | (with_reducible refine Kd.C_drew ?_)))
               (case side2 => exact (Kd.R_reads' HO266.out).2.1)
               rintro e w49 ⟨v270, rfl, ho0, hb⟩
               refine ⟨_, rfl, ?_⟩
               have n0_ := Aside0.mk (Kd.R_elder' HO266.out (Kd.R_base ho0) hb)
               have n1_ := Aside0.mk (Kd.R_lower (Kd.R_new' ho0 (Kd.R_lt HO266.out)) (below_size HB.out))
               have n2_ := Aside0.mk (blk_below BK261.out hb)
               have n3_ := Aside0.mk (blk_below BK262.out hb)
               have n4_ := Aside0.mk (blk_below BK273.out hb)
               have n5_ := Aside0.mk (below_step HB.out hb)
               clear HO266 BK261 BK262 BK273 HB
               have HO266 := n0_
               have HO271 := n1_
               have BK261 := n2_
               have BK262 := n3_
               have BK273 := n4_
               have HB := n5_
               clear n0_ n1_ n2_ n3_ n4_ n5_
               (try clear hb)
               (try clear hb2)
               (try clear hk)
               (try clear hi)
               (try clear ho0)
               refine hK.out _ _ ⟨(blk_cell BK261.out 0).trans rfl, (blk_cell BK262.out 0).trans rfl, (blk_cell BK262.out 1).trans rfl⟩ (fun hHeld => ?_)
               clear hK K
               refine norm_ (a' := ?_) ?_ ?_
               rotate_left
               ·show Act.put _ (some 26) _ = _
                simp only [Act.put, List.setIfInBounds_toArray, List.set_cons_zero, List.set_cons_succ, i64_w, i32_w]
                rfl
               refine pure_ (i := 5) (N := some 21) (v := ?_) (a' := ?_) #[true, true, true, true, true, true, false, false, true, false, false] rfl rfl (any_of HT_.out (by kernel_rfl)) (fun _ _ _ h => h) (Or.inl ⟨by rfl, ?_⟩) ?_ ?_
               rotate_left
               ·intro w'
                go_simp
                with_reducible rfl
               rotate_left
               ·simp only [Act.put, List.setIfInBounds_toArray, List.set_cons_zero, List.set_cons_succ, i64_w, i32_w]
                rfl
               refine pure_ (i := 6) (N := some 27) (v := ?_) (a' := ?_) #[true, true, true, true, true, true, true, false, true, false, false] rfl rfl (any_of HT_.out (by kernel_rfl)) (fun _ _ _ h => h) (Or.inl ⟨by rfl, ?_⟩) ?_ ?_
               rotate_left
               ·intro w'
                go_simp
                with_reducible rfl
               rotate_left
               ·simp only [Act.put, List.setIfInBounds_toArray, List.set_cons_zero, List.set_cons_succ, i64_w, i32_w]
                rfl
               refine pure_ (i := 7) (N := some 28) (v := ?_) (a' := ?_) #[true, true, true, true, true, true, true, true, true, false, false] rfl rfl (any_of HT_.out (by kernel_rfl)) (fun _ _ _ h => h) (Or.inl ⟨by rfl, ?_⟩) ?_ ?_
               rotate_left
               ·intro w'
                go_simp
                with_reducible rfl
               rotate_left
               ·simp only [Act.put, List.setIfInBounds_toArray, List.set_cons_zero, List.set_cons_succ, i64_w, i32_w]
                rfl
               exact norm_ (by simp only [putAll, Act.put, List.setIfInBounds_toArray, List.set_cons_zero, List.set_cons_succ]) (hCont (.slice Ao48 t264.length co48, v270, gb273) _ ⟨hHeld, (by (with_reducible repeat (first | apply Kd.R_alloc | apply Kd.R_drewN | apply Kd.R_drew)); exact Kd.R_mono HO266.out (fun _ hk => hk.2)), (by (with_reducible repeat (first | apply Kd.R_alloc | apply Kd.R_drewN | apply Kd.R_drew)); exact Kd.R_mono HO271.out (fun _ hk => hk.2)), BK261.out, BK262.out, BK273.out, GW273.out, GE273.out, NB261_273.out, NB273_261.out, NB262_273.out, NB273_262.out, HB.out⟩)
             rintro ⟨v265, v270, gb273⟩ w50 ⟨hS_, h0_, h1_, h2_, h3_, h4_, h5_, h6_, h7_, h8_, h9_, h10_, h11_⟩
             have n0_ : Aside0 (Kd.R k25 25 w50 w.heap.size (fun k_ => some k_ ≠ (v270 : Value).ownBlock) v265 t264) := ⟨h0_⟩
             have n1_ : Aside0 (Kd.R k25 25 w50 w.heap.size (fun k_ => some k_ ≠ (v265 : Value).ownBlock) v270 t269) := ⟨h1_⟩
             have n2_ : Aside0 (w50.heap[gb261]? = some (.cells #[.slice A0_0 l0_0.length c0_0] 32 (0, 0))) := ⟨h2_⟩
             have n3_ : Aside0 (w50.heap[gb262]? = some (.cells #[.int .i64 a1_0, .int .i64 a1_1] 23 (0, 0))) := ⟨h3_⟩
             have n4_ : Aside0 (w50.heap[gb273]? = some (.cells #[.slice none 0 0] 37 (0, 0))) := ⟨h4_⟩
             have n5_ : Aside0 (w.heap.size ≤ gb273) := ⟨h5_⟩
             have n6_ : Aside0 (w.heap.size ≤ gb273) := ⟨h6_⟩
             have n7_ : Aside0 (gb261 ≠ gb273) := ⟨h7_⟩
             have n8_ : Aside0 (gb273 ≠ gb261) := ⟨h8_⟩
             have n9_ : Aside0 (gb262 ≠ gb273) := ⟨h9_⟩
             have n10_ : Aside0 (gb273 ≠ gb262) := ⟨h10_⟩
             have n11_ : Aside0 (Below w.heap.size w w50) := ⟨h11_⟩
             clear BK261 BK262 HB
             clear h0_ h1_ h2_ h3_ h4_ h5_ h6_ h7_ h8_ h9_ h10_ h11_
             have HO266 := n0_
             have HO271 := n1_
             have BK261 := n2_
             have BK262 := n3_
             have BK273 := n4_
             have GW273 := n5_
             have GE273 := n6_
             have NB261_273 := n7_
             have NB273_261 := n8_
             have NB262_273 := n9_
             have NB273_262 := n10_
             have HB := n11_
             clear n0_ n1_ n2_ n3_ n4_ n5_ n6_ n7_ n8_ n9_ n10_ n11_
             have hHeld : w50.cell? ⟨gb261, 0, none⟩ = some (.slice A0_0 l0_0.length c0_0) ∧ w50.cell? ⟨gb262, 0, none⟩ = some (.int .i64 a1_0) ∧ w50.cell? ⟨gb262, 1, none⟩ = some (.int .i64 a1_1) := hS_
             obtain ⟨Ao51, co51, eo51⟩ := Kd.R_slice HO271.out
             (first | subst eo51 | (injection eo51 with f1_ f2_ f3_; have f4_ := f1_.symm; have f5_ := f3_.symm; clear f1_ f2_ f3_; subst f4_; subst f5_))
             refine norm_ (a' := ?_) ?_ ?_
             rotate_left
             ·simp only [putAll, Act.put, List.setIfInBounds_toArray, List.set_cons_zero, List.set_cons_succ]
              rfl
             refine one_ (i := 9) (N := none) #[true, true, true, true, true, true, true, true, true, true, false] rfl rfl (one_of HT_.out (by kernel_rfl)) (by decide) (fun K hK => ?_)
             have hs52 : w50.cell? ⟨gb273, 0, none⟩ = some (.slice none 0 0) := (blk_cell BK273.out 0).trans rfl
             have hfs52 := blk_frozen BK273.out 0
             have hns52_0 := NB261_273.out
             have hns52_1 := NB262_273.out
             have hms52_0 := NB273_261.out
             have hms52_1 := NB273_262.out
             refine skip_ (w1 := ?_) (by rfl) rfl ?_ ?_
             rotate_left
             ·go_simp
              rfl
             refine hK.out _ _ ⟨((cell_far (p := ⟨gb273, _, none⟩) NB261_273.out _).trans (hHeld.1)), ((cell_far (p := ⟨gb273, _, none⟩) NB262_273.out _).trans (hHeld.2.1)), ((cell_far (p := ⟨gb273, _, none⟩) NB262_273.out _).trans (hHeld.2.2))⟩ (fun hHeld => ?_)
             clear hK K
             refine pure_ (i := 10) (N := some 7) (v := ?_) (a' := ?_) #[true, true, true, true, true, true, true, true, true, true, true] rfl rfl (any_of HT_.out (by kernel_rfl)) (fun _ _ _ h => h) (Or.inl ⟨by rfl, ?_⟩) ?_ ?_
             rotate_left
             ·intro w'
              go_simp
              with_reducible rfl
             rotate_left
             ·simp only [Act.put, List.setIfInBounds_toArray, List.set_cons_zero, List.set_cons_succ, i64_w, i32_w]
              rfl
             refine done_ (done_of HT_.out (by kernel_rfl)) ?_
             have hnb53 := NB261_273.out
             have hnc53 := NB273_261.out
             have hcz54_0 : w50.cell? ⟨gb261, 0, none⟩ = some (.slice A0_0 l0_0.length c0_0) := (blk_cell BK261.out 0).trans rfl
             have hfz54_0 := blk_frozen BK261.out 0
             try go_wp2_with (first | ((with_reducible refine gate_callee (f := 17) rfl ?_); refine goesL_ (some 30) rfl rfl Try.func17 (by kernel_rfl) rfl #[.agg #[.slice A0_0 l0_0.length c0_0]] rfl (by (try simp only [List.map_toArray, List.map_cons, List.map_nil]); first | done | rfl | (simp only [List.length_drop, List.length_take]; rfl)) ?_; (with_reducible refine (laws_toHeap.calls k _ _ l0_0 t274 _ ?side1 ?side2 A13.out).mono ?_); (case side1 => exact Kd.C_below HR0_0.out Gv.bw); (case side2 => exact HC0_0.out); rintro e w55 ⟨v275, rfl, ho0, hb⟩; refine ⟨_, rfl, ?_⟩; have n0_ := Aside0.mk (Kd.R_elder' (by (with_reducible repeat (first | apply Kd.R_alloc | apply Kd.R_drewN | apply Kd.R_drew)); exact (Kd.R_mono (Kd.R_far (p := ⟨gb273, 0, none⟩) (Kd.R_types HO266.out BK273.out (by decide)) (fun _ hk => hk.2) (.slice Ao51 t269.length co51)) (fun _ h_ => h_.1))) (Kd.R_base ho0) hb); have n1_ := Aside0.mk (Kd.R_elder' (by (with_reducible repeat (first | apply Kd.R_alloc | apply Kd.R_drewN | apply Kd.R_drew)); exact (Kd.R_mono (Kd.R_far (p := ⟨gb273, 0, none⟩) (Kd.R_types HO271.out BK273.out (by decide)) (fun _ hk => hk.2) (.slice Ao51 t269.length co51)) (fun _ h_ => h_.1))) (Kd.R_base ho0) hb); have n2_ := Aside0.mk (Kd.R_lower (Kd.R_new' (Kd.R_new' ho0 (Kd.R_lt (by (with_reducible repeat (first | apply Kd.R_alloc | apply Kd.R_drewN | apply Kd.R_drew)); exact (Kd.R_mono (Kd.R_far (p := ⟨gb273, 0, none⟩) (Kd.R_types HO266.out BK273.out (by decide)) (fun _ hk => hk.2) (.slice Ao51 t269.length co51)) (fun _ h_ => h_.1))))) (Kd.R_lt (by (with_reducible repeat (first | apply Kd.R_alloc | apply Kd.R_drewN | apply Kd.R_drew)); exact (Kd.R_mono (Kd.R_far (p := ⟨gb273, 0, none⟩) (Kd.R_types HO271.out BK273.out (by decide)) (fun _ hk => hk.2) (.slice Ao51 t269.length co51)) (fun _ h_ => h_.1))))) (below_size Gv.bw)); have n3_ := Aside0.mk (blk_below (g := gb261) (o := .cells #[.slice A0_0 l0_0.length c0_0] 32 (0, 0)) Gv.bkf hb); have n4_ := Aside0.mk (blk_below (g := gb262) (o := .cells #[.int .i64 a1_0, .int .i64 a1_1] 23 (0, 0)) Gv.bkf hb); have n5_ := Aside0.mk (blk_below (g := gb273) (o := .cells #[.slice Ao51 t269.length co51] 37 (0, 0)) (by (with_reducible repeat (first | refine blk_drewN ?_ _ | refine blk_drew ?_ | refine blk_alloc ?_ _)); refine blk_put (cs := #[.slice none 0 0]) ?_ 0 _ rfl; (with_reducible repeat (first | refine blk_drewN ?_ _ | refine blk_drew ?_ | refine blk_alloc ?_ _)); exact BK273.out) hb); have n6_ := Aside0.mk (below_step Gv.bw hb); clear HO266; clear HO271; clear BK261; clear BK262; clear BK273; clear HB; have HO266 := n0_; have HO271 := n1_; have HO276 := n2_; have BK261 := n3_; have BK262 := n4_; have BK273 := n5_; have HB := n6_; clear n0_ n1_ n2_ n3_ n4_ n5_ n6_; (try clear hb); (try clear hb2); (try clear hk); (try clear hi); (try clear ho0)) | ((with_reducible refine gate_dst (N := 8) rfl ?_); refine box_event ?hg (N := 8) ?hd (cs := #[.slice none 0 0]) (t := 37) ?hr ?_; (case hd => rfl); (case hg => rfl); (case hr => first | (go_simp; done) | (go_simp; rfl)); intro gb277 hg w56 hbox hb; have n0_ := Aside0.mk (Kd.R_below (by (with_reducible repeat (first | apply Kd.R_alloc | apply Kd.R_drewN | apply Kd.R_drew)); exact HO266.out) hb); have n1_ := Aside0.mk (Kd.R_below (by (with_reducible repeat (first | apply Kd.R_alloc | apply Kd.R_drewN | apply Kd.R_drew)); exact HO271.out) hb); have n2_ := Aside0.mk (Kd.R_below (by (with_reducible repeat (first | apply Kd.R_alloc | apply Kd.R_drewN | apply Kd.R_drew)); exact HO276.out) hb); have n3_ := Aside0.mk (blk_below (g := gb261) (o := .cells #[.slice A0_0 l0_0.length c0_0] 32 (0, 0)) Gv.bk hb); have n4_ := Aside0.mk (blk_below (g := gb262) (o := .cells #[.int .i64 a1_0, .int .i64 a1_1] 23 (0, 0)) Gv.bk hb); have n5_ := Aside0.mk (blk_below (g := gb273) (o := .cells #[.slice Ao51 t269.length co51] 37 (0, 0)) Gv.bk hb); have n6_ := Aside0.mk (below_step Gv.bw hb); have n7_ := Aside0.mk (hbox); have n8_ := Aside0.mk ((by rw [hg]; exact (below_size Gv.bw) : w.heap.size ≤ gb277)); have n9_ := Aside0.mk ((by rw [hg]; exact (below_size Gv.bw) : w.heap.size ≤ gb277)); have n10_ := Aside0.mk ((by rw [hg]; exact Nat.ne_of_lt (blk_lt (g := gb261) (o := .cells #[.slice A0_0 l0_0.length c0_0] 32 (0, 0)) Gv.bk) : gb261 ≠ gb277)); have n11_ := Aside0.mk ((by rw [hg]; exact Nat.ne_of_gt (blk_lt (g := gb261) (o := .cells #[.slice A0_0 l0_0.length c0_0] 32 (0, 0)) Gv.bk) : gb277 ≠ gb261)); have n12_ := Aside0.mk ((by rw [hg]; exact Nat.ne_of_lt (blk_lt (g := gb262) (o := .cells #[.int .i64 a1_0, .int .i64 a1_1] 23 (0, 0)) Gv.bk) : gb262 ≠ gb277)); have n13_ := Aside0.mk ((by rw [hg]; exact Nat.ne_of_gt (blk_lt (g := gb262) (o := .cells #[.int .i64 a1_0, .int .i64 a1_1] 23 (0, 0)) Gv.bk) : gb277 ≠ gb262)); have n14_ := Aside0.mk ((by rw [hg]; exact Nat.ne_of_lt (blk_lt (g := gb273) (o := .cells #[.slice Ao51 t269.length co51] 37 (0, 0)) Gv.bk) : gb273 ≠ gb277)); have n15_ := Aside0.mk ((by rw [hg]; exact Nat.ne_of_gt (blk_lt (g := gb273) (o := .cells #[.slice Ao51 t269.length co51] 37 (0, 0)) Gv.bk) : gb277 ≠ gb273)); clear HO266; clear HO271; clear HO276; clear BK261; clear BK262; clear BK273; clear HB; have HO266 := n0_; have HO271 := n1_; have HO276 := n2_; have BK261 := n3_; have BK262 := n4_; have BK273 := n5_; have HB := n6_; have BK277 := n7_; have GW277 := n8_; have GE277 := n9_; have NB261_277 := n10_; have NB277_261 := n11_; have NB262_277 := n12_; have NB277_262 := n13_; have NB273_277 := n14_; have NB277_273 := n15_; clear n0_ n1_ n2_ n3_ n4_ n5_ n6_ n7_ n8_ n9_ n10_ n11_ n12_ n13_ n14_ n15_; clear hb hbox hg; obtain ⟨Ao57, co57, eo57⟩ := Kd.R_slice HO276.out; subst eo57; have hnb58 := NB277_261.out; have hnc58 := NB261_277.out; have hnb59 := NB277_262.out; have hnc59 := NB262_277.out; have hnb60 := NB277_273.out; have hnc60 := NB273_277.out; have hcz61_0 : w56.cell? ⟨gb277, 0, none⟩ = some (.slice none 0 0) := (blk_cell BK277.out 0).trans rfl; have hfz61_0 := blk_frozen BK277.out 0))
             have n0_ : Aside0 (Kd.R k25 25 (w56.setCell ⟨gb277, 0, none⟩ (.slice Ao57 t274.length co57)) w.heap.size (fun k_ => some k_ ≠ (.slice Ao51 t269.length co51 : Value).ownBlock ∧ some k_ ≠ (.slice Ao57 t274.length co57 : Value).ownBlock) v265 t264) := ⟨by (with_reducible repeat (first | apply Kd.R_alloc | apply Kd.R_drewN | apply Kd.R_drew)); exact Kd.R_mono (Kd.R_far (p := ⟨gb277, 0, none⟩) (Kd.R_types HO266.out BK277.out (by decide)) (fun _ hk => hk.2) (.slice Ao57 t274.length co57)) (fun _ hk => ⟨hk.1.1, hk.1.2⟩)⟩
             have n1_ : Aside0 (Kd.R k25 25 (w56.setCell ⟨gb277, 0, none⟩ (.slice Ao57 t274.length co57)) w.heap.size (fun k_ => some k_ ≠ (v265 : Value).ownBlock ∧ some k_ ≠ (.slice Ao57 t274.length co57 : Value).ownBlock) (.slice Ao51 t269.length co51) t269) := ⟨by (with_reducible repeat (first | apply Kd.R_alloc | apply Kd.R_drewN | apply Kd.R_drew)); exact Kd.R_mono (Kd.R_far (p := ⟨gb277, 0, none⟩) (Kd.R_types HO271.out BK277.out (by decide)) (fun _ hk => hk.2) (.slice Ao57 t274.length co57)) (fun _ hk => ⟨hk.1.1, hk.1.2⟩)⟩
             have n2_ : Aside0 (Kd.R k25 25 (w56.setCell ⟨gb277, 0, none⟩ (.slice Ao57 t274.length co57)) w.heap.size (fun k_ => some k_ ≠ (v265 : Value).ownBlock ∧ some k_ ≠ (.slice Ao51 t269.length co51 : Value).ownBlock) (.slice Ao57 t274.length co57) t274) := ⟨by (with_reducible repeat (first | apply Kd.R_alloc | apply Kd.R_drewN | apply Kd.R_drew)); exact Kd.R_mono (Kd.R_far (p := ⟨gb277, 0, none⟩) (Kd.R_types HO276.out BK277.out (by decide)) (fun _ hk => hk.2) (.slice Ao57 t274.length co57)) (fun _ hk => ⟨hk.1.1.2, hk.1.2⟩)⟩
             have n3_ : Aside0 ((w56.setCell ⟨gb277, 0, none⟩ (.slice Ao57 t274.length co57)).heap[gb261]? = some (.cells #[.slice A0_0 l0_0.length c0_0] 32 (0, 0))) := ⟨by (with_reducible repeat (first | refine blk_drewN ?_ _ | refine blk_drew ?_ | refine blk_alloc ?_ _)); refine blk_far ?_ NB261_277.out _; (with_reducible repeat (first | refine blk_drewN ?_ _ | refine blk_drew ?_ | refine blk_alloc ?_ _)); exact BK261.out⟩
             have n4_ : Aside0 ((w56.setCell ⟨gb277, 0, none⟩ (.slice Ao57 t274.length co57)).heap[gb262]? = some (.cells #[.int .i64 a1_0, .int .i64 a1_1] 23 (0, 0))) := ⟨by (with_reducible repeat (first | refine blk_drewN ?_ _ | refine blk_drew ?_ | refine blk_alloc ?_ _)); refine blk_far ?_ NB262_277.out _; (with_reducible repeat (first | refine blk_drewN ?_ _ | refine blk_drew ?_ | refine blk_alloc ?_ _)); exact BK262.out⟩
             have n5_ : Aside0 ((w56.setCell ⟨gb277, 0, none⟩ (.slice Ao57 t274.length co57)).heap[gb273]? = some (.cells #[.slice Ao51 t269.length co51] 37 (0, 0))) := ⟨by (with_reducible repeat (first | refine blk_drewN ?_ _ | refine blk_drew ?_ | refine blk_alloc ?_ _)); refine blk_far ?_ NB273_277.out _; (with_reducible repeat (first | refine blk_drewN ?_ _ | refine blk_drew ?_ | refine blk_alloc ?_ _)); exact BK273.out⟩
             have n6_ : Aside0 ((w56.setCell ⟨gb277, 0, none⟩ (.slice Ao57 t274.length co57)).heap[gb277]? = some (.cells #[.slice Ao57 t274.length co57] 37 (0, 0))) := ⟨by (with_reducible repeat (first | refine blk_drewN ?_ _ | refine blk_drew ?_ | refine blk_alloc ?_ _)); refine blk_put (cs := #[.slice none 0 0]) ?_ 0 _ rfl; (with_reducible repeat (first | refine blk_drewN ?_ _ | refine blk_drew ?_ | refine blk_alloc ?_ _)); exact BK277.out⟩
             have n7_ : Aside0 (Below w.heap.size w (w56.setCell ⟨gb277, 0, none⟩ (.slice Ao57 t274.length co57))) := ⟨by repeat (first | (with_reducible first | exact HB.out | apply below_alloc | apply pw_below_drewN | apply below_drew1 | refine below_set ?_ GE261.out | refine below_set ?_ GE262.out | refine below_set ?_ GE273.out | refine below_set ?_ GE277.out) | exact HB.out)⟩
             (try clear HO266)
             (try clear HO271)
             (try clear HO276)
             (try clear BK261)
             (try clear BK262)
             (try clear BK273)
             (try clear BK277)
             (try clear HB)
             generalize (w56.setCell ⟨gb277, 0, none⟩ (.slice Ao57 t274.length co57)) = w62 at n0_ n1_ n2_ n3_ n4_ n5_ n6_ n7_ ⊢
             have HO266 := n0_
             have HO271 := n1_
             have HO276 := n2_
             have BK261 := n3_
             have BK262 := n4_
             have BK273 := n5_
             have BK277 := n6_
             have HB := n7_
             clear n0_ n1_ n2_ n3_ n4_ n5_ n6_ n7_
             have n0_ := Aside0.mk (Kd.R_drew HO266.out)
             have n1_ := Aside0.mk (Kd.R_drew HO271.out)
             have n2_ := Aside0.mk (Kd.R_drew HO276.out)
             have n3_ := Aside0.mk (blk_drew BK261.out)
             have n4_ := Aside0.mk (blk_drew BK262.out)
             have n5_ := Aside0.mk (blk_drew BK273.out)
             have n6_ := Aside0.mk (blk_drew BK277.out)
             have n7_ := Aside0.mk (below_drew1 HB.out)
             clear HO266 HO271 HO276 BK261 BK262 BK273 BK277 HB
             have HO266 := n0_
             have HO271 := n1_
             have HO276 := n2_
             have BK261 := n3_
             have BK262 := n4_
             have BK273 := n5_
             have BK277 := n6_
             have HB := n7_
             clear n0_ n1_ n2_ n3_ n4_ n5_ n6_ n7_
             refine start_ (n := 10) (S := fun w' => w'.cell? ⟨gb277, 0, none⟩ = some (.slice Ao57 t274.length co57) ∧ w'.cell? ⟨gb262, 0, none⟩ = some (.int .i64 a1_0) ∧ w'.cell? ⟨gb262, 1, none⟩ = some (.int .i64 a1_1)) (ds := []) #[false, false, false, false, false, false, false, false, false, false] (by kernel_rfl) rfl rfl ⟨(blk_cell BK277.out 0).trans rfl, (blk_cell BK262.out 0).trans rfl, (blk_cell BK262.out 1).trans rfl⟩ (fun hHeld => ?_); refine with_tabW laws_FnExactHeapMove.tab7 laws_FnExactHeapMove.bits7 (fun HT_ HW_ => ?_)
             generalize w62.drew = w63 at HO266 HO271 HO276 BK261 BK262 BK273 BK277 HB hHeld ⊢
             refine take_ (i := 0) (N := some 32) (v := ?_) (a' := ?_) #[true, false, false, false, false, false, false, false, false, false] rfl rfl (take_ofW HT_.out HW_.out (by kernel_rfl)) (fun _ _ _ h => h) (Or.inl ⟨by rfl, ?_⟩) hHeld ?_ ?_
             rotate_left
             ·rintro w' ⟨s0, s1, s2⟩
              go_simp
              with_reducible rfl
             rotate_left
             ·simp only [Act.put, List.setIfInBounds_toArray, List.set_cons_zero, List.set_cons_succ, i64_w, i32_w]
              rfl
             refine take_ (i := 1) (N := some 33) (v := ?_) (a' := ?_) #[true, true, false, false, false, false, false, false, false, false] rfl rfl (take_ofW HT_.out HW_.out (by kernel_rfl)) (fun _ _ _ h => h) (Or.inl ⟨by rfl, ?_⟩) hHeld ?_ ?_
             rotate_left
             ·rintro w' ⟨s0, s1, s2⟩
              go_simp
              with_reducible rfl
             rotate_left
             ·simp only [Act.put, List.setIfInBounds_toArray, List.set_cons_zero, List.set_cons_succ, i64_w, i32_w]
              rfl
             refine join_ (σ := Value × Nat) 2 #[true, true, true, true, true, true, true, true, false, false] (fun s_ => [(34, .agg #[.int .i64 t278, .int .i64 t279]), (35, .tuple #[.agg #[s_.1], .int .i64 t283]), (9, .pointer (some ⟨s_.2, 0, none⟩)), (31, .tuple #[.agg #[s_.1], .int .i64 t283]), (36, .agg #[s_.1]), (37, .int .i64 t283)]) (fun s_ w' => (w'.cell? ⟨gb277, 0, none⟩ = some (.slice Ao57 t274.length co57) ∧ w'.cell? ⟨gb262, 0, none⟩ = some (.int .i64 a1_0) ∧ w'.cell? ⟨gb262, 1, none⟩ = some (.int .i64 a1_1)) ∧ (Kd.R k25 25 w' w.heap.size (fun k_ => some k_ ≠ (.slice Ao51 t269.length co51 : Value).ownBlock ∧ some k_ ≠ (.slice Ao57 t274.length co57 : Value).ownBlock ∧ some k_ ≠ (s_.1 : Value).ownBlock) v265 t264) ∧ (Kd.R k25 25 w' w.heap.size (fun k_ => some k_ ≠ (v265 : Value).ownBlock ∧ some k_ ≠ (.slice Ao57 t274.length co57 : Value).ownBlock ∧ some k_ ≠ (s_.1 : Value).ownBlock) (.slice Ao51 t269.length co51) t269) ∧ (Kd.R k25 25 w' w.heap.size (fun k_ => some k_ ≠ (v265 : Value).ownBlock ∧ some k_ ≠ (.slice Ao51 t269.length co51 : Value).ownBlock ∧ some k_ ≠ (s_.1 : Value).ownBlock) (.slice Ao57 t274.length co57) t274) ∧ (Kd.R k25 25 w' w.heap.size (fun k_ => some k_ ≠ (v265 : Value).ownBlock ∧ some k_ ≠ (.slice Ao51 t269.length co51 : Value).ownBlock ∧ some k_ ≠ (.slice Ao57 t274.length co57 : Value).ownBlock) s_.1 t280) ∧ (w'.heap[gb261]? = some (.cells #[.slice A0_0 l0_0.length c0_0] 32 (0, 0))) ∧ (w'.heap[gb262]? = some (.cells #[.int .i64 a1_0, .int .i64 a1_1] 23 (0, 0))) ∧ (w'.heap[gb273]? = some (.cells #[.slice Ao51 t269.length co51] 37 (0, 0))) ∧ (w'.heap[gb277]? = some (.cells #[.slice Ao57 t274.length co57] 37 (0, 0))) ∧ (w'.heap[s_.2]? = some (.cells #[.slice none 0 0] 37 (0, 0))) ∧ (w.heap.size ≤ s_.2) ∧ (w.heap.size ≤ s_.2) ∧ (gb261 ≠ s_.2) ∧ (s_.2 ≠ gb261) ∧ (gb262 ≠ s_.2) ∧ (s_.2 ≠ gb262) ∧ (gb273 ≠ s_.2) ∧ (s_.2 ≠ gb273) ∧ (gb277 ≠ s_.2) ∧ (s_.2 ≠ gb277) ∧ (Below w.heap.size w w')) ?_ ?_
             rotate_left
             ·intro hCont
              refine two_ (i := 2) (j := 7) (Ni := some 34) (Nj := some 9) #[true, true, true, false, false, false, false, false, false, false] #[true, true, false, false, false, false, false, true, false, false] rfl rfl rfl rfl (two_of HT_.out (by kernel_rfl)) (by decide) (by decide) (fun K hK => ?_) (fun K hK => ?_)
              ·skip
               refine goes_ Try.func11 (by kernel_rfl) rfl #[.agg #[.int .i64 a1_0, .int .i64 a1_1]] (by rfl) rfl rfl (by (try simp only [List.map_toArray, List.map_cons, List.map_nil]); first | done | rfl | (simp only [List.length_drop, List.length_take]; rfl)) ?_
               with_reducible refine (laws_toItem.calls a1_0 a1_1 t278 t279 _ A14.out).mono ?_
               rintro e w64 ⟨rfl, hb⟩
               refine ⟨_, rfl, ?_⟩
               have n0_ := Aside0.mk (Kd.R_below HO266.out hb)
               have n1_ := Aside0.mk (Kd.R_below HO271.out hb)
               have n2_ := Aside0.mk (Kd.R_below HO276.out hb)
               have n3_ := Aside0.mk (blk_below BK261.out hb)
               have n4_ := Aside0.mk (blk_below BK262.out hb)
               have n5_ := Aside0.mk (blk_below BK273.out hb)
               have n6_ := Aside0.mk (blk_below BK277.out hb)
               have n7_ := Aside0.mk (below_step HB.out hb)
               clear HO266 HO271 HO276 BK261 BK262 BK273 BK277 HB
               have HO266 := n0_
               have HO271 := n1_
               have HO276 := n2_
               have BK261 := n3_
               have BK262 := n4_
               have BK273 := n5_
               have BK277 := n6_
               have HB := n7_
               clear n0_ n1_ n2_ n3_ n4_ n5_ n6_ n7_
               (try clear hb)
               (try clear hb2)
               (try clear hk)
               (try clear hi)
               refine hK.out _ _ ⟨(blk_cell BK277.out 0).trans rfl, (blk_cell BK262.out 0).trans rfl, (blk_cell BK262.out 1).trans rfl⟩ (fun hHeld => ?_)
               clear hK K
               refine norm_ (a' := ?_) ?_ ?_
               rotate_left
               ·show Act.put _ (some 34) _ = _
                simp only [Act.put, List.setIfInBounds_toArray, List.set_cons_zero, List.set_cons_succ, i64_w, i32_w]
                rfl
               refine two_ (i := 3) (j := 7) (Ni := some 35) (Nj := some 9) #[true, true, true, true, false, false, false, false, false, false] #[true, true, true, false, false, false, false, true, false, false] rfl rfl rfl rfl (two_of HT_.out (by kernel_rfl)) (by decide) (by decide) (fun K hK => ?_) (fun K hK => ?_)
               ·skip
                refine goes_ Try.func27 (by kernel_rfl) rfl #[.agg #[.slice Ao57 t274.length co57], .agg #[.int .i64 t278, .int .i64 t279]] (by rfl) rfl rfl (by (try simp only [List.map_toArray, List.map_cons, List.map_nil]); first | done | rfl | (simp only [List.length_drop, List.length_take]; rfl)) ?_
                with_reducible refine (impl_HeapMove.calls k _ _ t274 t278 t279 t280 t283 _ ?side1 ?side2 A15.out).mono ?_
                (case side1 => repeat (first | exact (Kd.R_reads' HO276.out).2.2 | (with_reducible refine Kd.C_alloc ?_ _) | (with_reducible refine Kd.C_drewN ?_ _) | (with_reducible refine Kd.C_drew ?_)))
                (case side2 => exact (Kd.R_reads' HO276.out).2.1)
                rintro e w65 ⟨v281, rfl, ho0, hb⟩
                refine ⟨_, rfl, ?_⟩
                have n0_ := Aside0.mk (Kd.R_elder' HO266.out (Kd.R_base ho0) hb)
                have n1_ := Aside0.mk (Kd.R_elder' HO271.out (Kd.R_base ho0) hb)
                have n2_ := Aside0.mk (Kd.R_elder' HO276.out (Kd.R_base ho0) hb)
                have n3_ := Aside0.mk (Kd.R_lower (Kd.R_new' (Kd.R_new' (Kd.R_new' ho0 (Kd.R_lt HO266.out)) (Kd.R_lt HO271.out)) (Kd.R_lt HO276.out)) (below_size HB.out))
                have n4_ := Aside0.mk (blk_below BK261.out hb)
                have n5_ := Aside0.mk (blk_below BK262.out hb)
                have n6_ := Aside0.mk (blk_below BK273.out hb)
                have n7_ := Aside0.mk (blk_below BK277.out hb)
                have n8_ := Aside0.mk (below_step HB.out hb)
                clear HO266 HO271 HO276 BK261 BK262 BK273 BK277 HB
                have HO266 := n0_
                have HO271 := n1_
                have HO276 := n2_
                have HO282 := n3_
                have BK261 := n4_
                have BK262 := n5_
                have BK273 := n6_
                have BK277 := n7_
                have HB := n8_
                clear n0_ n1_ n2_ n3_ n4_ n5_ n6_ n7_ n8_
                (try clear hb)
                (try clear hb2)
                (try clear hk)
                (try clear hi)
                (try clear ho0)
                refine hK.out _ _ ⟨(blk_cell BK277.out 0).trans rfl, (blk_cell BK262.out 0).trans rfl, (blk_cell BK262.out 1).trans rfl⟩ (fun hHeld => ?_)
                clear hK K
                refine norm_ (a' := ?_) ?_ ?_
                rotate_left
                ·show Act.put _ (some 35) _ = _
                 simp only [Act.put, List.setIfInBounds_toArray, List.set_cons_zero, List.set_cons_succ, i64_w, i32_w]
                 rfl
                refine pure_ (i := 4) (N := some 31) (v := ?_) (a' := ?_) #[true, true, true, true, true, false, false, false, false, false] rfl rfl (any_of HT_.out (by kernel_rfl)) (fun _ _ _ h => h) (Or.inl ⟨by rfl, ?_⟩) ?_ ?_
                rotate_left
                ·intro w'
                 go_simp
                 with_reducible rfl
                rotate_left
                ·simp only [Act.put, List.setIfInBounds_toArray, List.set_cons_zero, List.set_cons_succ, i64_w, i32_w]
                 rfl
                refine pure_ (i := 5) (N := some 36) (v := ?_) (a' := ?_) #[true, true, true, true, true, true, false, false, false, false] rfl rfl (any_of HT_.out (by kernel_rfl)) (fun _ _ _ h => h) (Or.inl ⟨by rfl, ?_⟩) ?_ ?_
                rotate_left
                ·intro w'
                 go_simp
                 with_reducible rfl
                rotate_left
                ·simp only [Act.put, List.setIfInBounds_toArray, List.set_cons_zero, List.set_cons_succ, i64_w, i32_w]
                 rfl
                refine pure_ (i := 6) (N := some 37) (v := ?_) (a' := ?_) #[true, true, true, true, true, true, true, false, false, false] rfl rfl (any_of HT_.out (by kernel_rfl)) (fun _ _ _ h => h) (Or.inl ⟨by rfl, ?_⟩) ?_ ?_
                rotate_left
                ·intro w'
                 go_simp
                 with_reducible rfl
                rotate_left
                ·simp only [Act.put, List.setIfInBounds_toArray, List.set_cons_zero, List.set_cons_succ, i64_w, i32_w]
                 rfl
                refine one_ (i := 7) (N := some 9) #[true, true, true, true, true, true, true, true, false, false] rfl rfl (one_of HT_.out (by kernel_rfl)) (by decide) (fun K hK => ?_)
                refine box_step ?hg (N := 9) ?hd (cs := #[.slice none 0 0]) (t := 37) ?hr ?_; (case hd => rfl); (case hg => rfl); (case hr => first | (go_simp; done) | (go_simp; rfl))
                intro gb284 hg w66 hbox hb
                have n0_ := Aside0.mk (Kd.R_below HO266.out hb)
                have n1_ := Aside0.mk (Kd.R_below HO271.out hb)
                have n2_ := Aside0.mk (Kd.R_below HO276.out hb)
                have n3_ := Aside0.mk (Kd.R_below HO282.out hb)
                have n4_ := Aside0.mk (blk_below BK261.out hb)
                have n5_ := Aside0.mk (blk_below BK262.out hb)
                have n6_ := Aside0.mk (blk_below BK273.out hb)
                have n7_ := Aside0.mk (blk_below BK277.out hb)
                have n8_ := Aside0.mk (below_step HB.out hb)
                have n9_ := Aside0.mk (hbox)
                have n10_ := Aside0.mk ((by rw [hg]; exact (below_size HB.out) : w.heap.size ≤ gb284))
                have n11_ := Aside0.mk ((by rw [hg]; exact (below_size HB.out) : w.heap.size ≤ gb284))
                have n12_ := Aside0.mk ((by rw [hg]; exact Nat.ne_of_lt (blk_lt BK261.out) : gb261 ≠ gb284))
                have n13_ := Aside0.mk ((by rw [hg]; exact Nat.ne_of_gt (blk_lt BK261.out) : gb284 ≠ gb261))
                have n14_ := Aside0.mk ((by rw [hg]; exact Nat.ne_of_lt (blk_lt BK262.out) : gb262 ≠ gb284))
                have n15_ := Aside0.mk ((by rw [hg]; exact Nat.ne_of_gt (blk_lt BK262.out) : gb284 ≠ gb262))
                have n16_ := Aside0.mk ((by rw [hg]; exact Nat.ne_of_lt (blk_lt BK273.out) : gb273 ≠ gb284))
                have n17_ := Aside0.mk ((by rw [hg]; exact Nat.ne_of_gt (blk_lt BK273.out) : gb284 ≠ gb273))
                have n18_ := Aside0.mk ((by rw [hg]; exact Nat.ne_of_lt (blk_lt BK277.out) : gb277 ≠ gb284))
                have n19_ := Aside0.mk ((by rw [hg]; exact Nat.ne_of_gt (blk_lt BK277.out) : gb284 ≠ gb277))
                clear HO266 HO271 HO276 HO282 BK261 BK262 BK273 BK277 HB
                have HO266 := n0_
                have HO271 := n1_
                have HO276 := n2_
                have HO282 := n3_
                have BK261 := n4_
                have BK262 := n5_
                have BK273 := n6_
                have BK277 := n7_
                have HB := n8_
                have BK284 := n9_
                have GW284 := n10_
                have GE284 := n11_
                have NB261_284 := n12_
                have NB284_261 := n13_
                have NB262_284 := n14_
                have NB284_262 := n15_
                have NB273_284 := n16_
                have NB284_273 := n17_
                have NB277_284 := n18_
                have NB284_277 := n19_
                clear n0_ n1_ n2_ n3_ n4_ n5_ n6_ n7_ n8_ n9_ n10_ n11_ n12_ n13_ n14_ n15_ n16_ n17_ n18_ n19_
                clear hb hbox hg
                refine hK.out _ _ ⟨(blk_cell BK277.out 0).trans rfl, (blk_cell BK262.out 0).trans rfl, (blk_cell BK262.out 1).trans rfl⟩ (fun hHeld => ?_)
                clear hK K
                refine norm_ (a' := ?_) ?_ ?_
                rotate_left
                ·show Act.put _ (some 9) _ = _
                 simp only [Act.put, List.setIfInBounds_toArray, List.set_cons_zero, List.set_cons_succ, i64_w, i32_w]
                 rfl
                exact norm_ (by simp only [putAll, Act.put, List.setIfInBounds_toArray, List.set_cons_zero, List.set_cons_succ]) (hCont (v281, gb284) _ ⟨hHeld, (by (with_reducible repeat (first | apply Kd.R_alloc | apply Kd.R_drewN | apply Kd.R_drew)); exact Kd.R_mono HO266.out (fun _ hk => ⟨hk.1.1, ⟨hk.1.2, hk.2⟩⟩)), (by (with_reducible repeat (first | apply Kd.R_alloc | apply Kd.R_drewN | apply Kd.R_drew)); exact Kd.R_mono HO271.out (fun _ hk => ⟨hk.1.1, ⟨hk.1.2, hk.2⟩⟩)), (by (with_reducible repeat (first | apply Kd.R_alloc | apply Kd.R_drewN | apply Kd.R_drew)); exact Kd.R_mono HO276.out (fun _ hk => ⟨hk.1.1, ⟨hk.1.2, hk.2⟩⟩)), (by (with_reducible repeat (first | apply Kd.R_alloc | apply Kd.R_drewN | apply Kd.R_drew)); exact Kd.R_mono HO282.out (fun _ hk => ⟨hk.1.1.2, ⟨hk.1.2, hk.2⟩⟩)), BK261.out, BK262.out, BK273.out, BK277.out, BK284.out, GW284.out, GE284.out, NB261_284.out, NB284_261.out, NB262_284.out, NB284_262.out, NB273_284.out, NB284_273.out, NB277_284.out, NB284_277.out, HB.out⟩)
               ·skip
                refine box_step ?hg (N := 9) ?hd (cs := #[.slice none 0 0]) (t := 37) ?hr ?_; (case hd => rfl); (case hg => rfl); (case hr => first | (go_simp; done) | (go_simp; rfl))
                intro gb284 hg w65 hbox hb
                have n0_ := Aside0.mk (Kd.R_below HO266.out hb)
                have n1_ := Aside0.mk (Kd.R_below HO271.out hb)
                have n2_ := Aside0.mk (Kd.R_below HO276.out hb)
                have n3_ := Aside0.mk (blk_below BK261.out hb)
                have n4_ := Aside0.mk (blk_below BK262.out hb)
                have n5_ := Aside0.mk (blk_below BK273.out hb)
                have n6_ := Aside0.mk (blk_below BK277.out hb)
                have n7_ := Aside0.mk (below_step HB.out hb)
                have n8_ := Aside0.mk (hbox)
                have n9_ := Aside0.mk ((by rw [hg]; exact (below_size HB.out) : w.heap.size ≤ gb284))
                have n10_ := Aside0.mk ((by rw [hg]; exact (below_size HB.out) : w.heap.size ≤ gb284))
                have n11_ := Aside0.mk ((by rw [hg]; exact Nat.ne_of_lt (blk_lt BK261.out) : gb261 ≠ gb284))
                have n12_ := Aside0.mk ((by rw [hg]; exact Nat.ne_of_gt (blk_lt BK261.out) : gb284 ≠ gb261))
                have n13_ := Aside0.mk ((by rw [hg]; exact Nat.ne_of_lt (blk_lt BK262.out) : gb262 ≠ gb284))
                have n14_ := Aside0.mk ((by rw [hg]; exact Nat.ne_of_gt (blk_lt BK262.out) : gb284 ≠ gb262))
                have n15_ := Aside0.mk ((by rw [hg]; exact Nat.ne_of_lt (blk_lt BK273.out) : gb273 ≠ gb284))
                have n16_ := Aside0.mk ((by rw [hg]; exact Nat.ne_of_gt (blk_lt BK273.out) : gb284 ≠ gb273))
                have n17_ := Aside0.mk ((by rw [hg]; exact Nat.ne_of_lt (blk_lt BK277.out) : gb277 ≠ gb284))
                have n18_ := Aside0.mk ((by rw [hg]; exact Nat.ne_of_gt (blk_lt BK277.out) : gb284 ≠ gb277))
                clear HO266 HO271 HO276 BK261 BK262 BK273 BK277 HB
                have HO266 := n0_
                have HO271 := n1_
                have HO276 := n2_
                have BK261 := n3_
                have BK262 := n4_
                have BK273 := n5_
                have BK277 := n6_
                have HB := n7_
                have BK284 := n8_
                have GW284 := n9_
                have GE284 := n10_
                have NB261_284 := n11_
                have NB284_261 := n12_
                have NB262_284 := n13_
                have NB284_262 := n14_
                have NB273_284 := n15_
                have NB284_273 := n16_
                have NB277_284 := n17_
                have NB284_277 := n18_
                clear n0_ n1_ n2_ n3_ n4_ n5_ n6_ n7_ n8_ n9_ n10_ n11_ n12_ n13_ n14_ n15_ n16_ n17_ n18_
                clear hb hbox hg
                refine hK.out _ _ ⟨(blk_cell BK277.out 0).trans rfl, (blk_cell BK262.out 0).trans rfl, (blk_cell BK262.out 1).trans rfl⟩ (fun hHeld => ?_)
                clear hK K
                refine norm_ (a' := ?_) ?_ ?_
                rotate_left
                ·show Act.put _ (some 9) _ = _
                 simp only [Act.put, List.setIfInBounds_toArray, List.set_cons_zero, List.set_cons_succ, i64_w, i32_w]
                 rfl
                refine one_ (i := 3) (N := some 35) #[true, true, true, true, false, false, false, true, false, false] rfl rfl (one_of HT_.out (by kernel_rfl)) (by decide) (fun K hK => ?_)
                refine goes_ Try.func27 (by kernel_rfl) rfl #[.agg #[.slice Ao57 t274.length co57], .agg #[.int .i64 t278, .int .i64 t279]] (by rfl) rfl rfl (by (try simp only [List.map_toArray, List.map_cons, List.map_nil]); first | done | rfl | (simp only [List.length_drop, List.length_take]; rfl)) ?_
                with_reducible refine (impl_HeapMove.calls k _ _ t274 t278 t279 t280 t283 _ ?side1 ?side2 A15.out).mono ?_
                (case side1 => repeat (first | exact (Kd.R_reads' HO276.out).2.2 | (with_reducible refine Kd.C_alloc ?_ _) | (with_reducible refine Kd.C_drewN ?_ _) | (with_reducible refine Kd.C_drew ?_)))
                (case side2 => exact (Kd.R_reads' HO276.out).2.1)
                rintro e w66 ⟨v281, rfl, ho0, hb⟩
                refine ⟨_, rfl, ?_⟩
                have n0_ := Aside0.mk (Kd.R_elder' HO266.out (Kd.R_base ho0) hb)
                have n1_ := Aside0.mk (Kd.R_elder' HO271.out (Kd.R_base ho0) hb)
                have n2_ := Aside0.mk (Kd.R_elder' HO276.out (Kd.R_base ho0) hb)
                have n3_ := Aside0.mk (Kd.R_lower (Kd.R_new' (Kd.R_new' (Kd.R_new' ho0 (Kd.R_lt HO266.out)) (Kd.R_lt HO271.out)) (Kd.R_lt HO276.out)) (below_size HB.out))
                have n4_ := Aside0.mk (blk_below BK261.out hb)
                have n5_ := Aside0.mk (blk_below BK262.out hb)
                have n6_ := Aside0.mk (blk_below BK273.out hb)
                have n7_ := Aside0.mk (blk_below BK277.out hb)
                have n8_ := Aside0.mk (blk_below BK284.out hb)
                have n9_ := Aside0.mk (below_step HB.out hb)
                clear HO266 HO271 HO276 BK261 BK262 BK273 BK277 BK284 HB
                have HO266 := n0_
                have HO271 := n1_
                have HO276 := n2_
                have HO282 := n3_
                have BK261 := n4_
                have BK262 := n5_
                have BK273 := n6_
                have BK277 := n7_
                have BK284 := n8_
                have HB := n9_
                clear n0_ n1_ n2_ n3_ n4_ n5_ n6_ n7_ n8_ n9_
                (try clear hb)
                (try clear hb2)
                (try clear hk)
                (try clear hi)
                (try clear ho0)
                refine hK.out _ _ ⟨(blk_cell BK277.out 0).trans rfl, (blk_cell BK262.out 0).trans rfl, (blk_cell BK262.out 1).trans rfl⟩ (fun hHeld => ?_)
                clear hK K
                refine norm_ (a' := ?_) ?_ ?_
                rotate_left
                ·show Act.put _ (some 35) _ = _
                 simp only [Act.put, List.setIfInBounds_toArray, List.set_cons_zero, List.set_cons_succ, i64_w, i32_w]
                 rfl
                refine pure_ (i := 4) (N := some 31) (v := ?_) (a' := ?_) #[true, true, true, true, true, false, false, true, false, false] rfl rfl (any_of HT_.out (by kernel_rfl)) (fun _ _ _ h => h) (Or.inl ⟨by rfl, ?_⟩) ?_ ?_
                rotate_left
                ·intro w'
                 go_simp
                 with_reducible rfl
                rotate_left
                ·simp only [Act.put, List.setIfInBounds_toArray, List.set_cons_zero, List.set_cons_succ, i64_w, i32_w]
                 rfl
                refine pure_ (i := 5) (N := some 36) (v := ?_) (a' := ?_) #[true, true, true, true, true, true, false, true, false, false] rfl rfl (any_of HT_.out (by kernel_rfl)) (fun _ _ _ h => h) (Or.inl ⟨by rfl, ?_⟩) ?_ ?_
                rotate_left
                ·intro w'
                 go_simp
                 with_reducible rfl
                rotate_left
                ·simp only [Act.put, List.setIfInBounds_toArray, List.set_cons_zero, List.set_cons_succ, i64_w, i32_w]
                 rfl
                refine pure_ (i := 6) (N := some 37) (v := ?_) (a' := ?_) #[true, true, true, true, true, true, true, true, false, false] rfl rfl (any_of HT_.out (by kernel_rfl)) (fun _ _ _ h => h) (Or.inl ⟨by rfl, ?_⟩) ?_ ?_
                rotate_left
                ·intro w'
                 go_simp
                 with_reducible rfl
                rotate_left
                ·simp only [Act.put, List.setIfInBounds_toArray, List.set_cons_zero, List.set_cons_succ, i64_w, i32_w]
                 rfl
                exact norm_ (by simp only [putAll, Act.put, List.setIfInBounds_toArray, List.set_cons_zero, List.set_cons_succ]) (hCont (v281, gb284) _ ⟨hHeld, (by (with_reducible repeat (first | apply Kd.R_alloc | apply Kd.R_drewN | apply Kd.R_drew)); exact Kd.R_mono HO266.out (fun _ hk => ⟨hk.1.1, ⟨hk.1.2, hk.2⟩⟩)), (by (with_reducible repeat (first | apply Kd.R_alloc | apply Kd.R_drewN | apply Kd.R_drew)); exact Kd.R_mono HO271.out (fun _ hk => ⟨hk.1.1, ⟨hk.1.2, hk.2⟩⟩)), (by (with_reducible repeat (first | apply Kd.R_alloc | apply Kd.R_drewN | apply Kd.R_drew)); exact Kd.R_mono HO276.out (fun _ hk => ⟨hk.1.1, ⟨hk.1.2, hk.2⟩⟩)), (by (with_reducible repeat (first | apply Kd.R_alloc | apply Kd.R_drewN | apply Kd.R_drew)); exact Kd.R_mono HO282.out (fun _ hk => ⟨hk.1.1.2, ⟨hk.1.2, hk.2⟩⟩)), BK261.out, BK262.out, BK273.out, BK277.out, BK284.out, GW284.out, GE284.out, NB261_284.out, NB284_261.out, NB262_284.out, NB284_262.out, NB273_284.out, NB284_273.out, NB277_284.out, NB284_277.out, HB.out⟩)
              ·skip
               refine box_step ?hg (N := 9) ?hd (cs := #[.slice none 0 0]) (t := 37) ?hr ?_; (case hd => rfl); (case hg => rfl); (case hr => first | (go_simp; done) | (go_simp; rfl))
               intro gb284 hg w64 hbox hb
               have n0_ := Aside0.mk (Kd.R_below HO266.out hb)
               have n1_ := Aside0.mk (Kd.R_below HO271.out hb)
               have n2_ := Aside0.mk (Kd.R_below HO276.out hb)
               have n3_ := Aside0.mk (blk_below BK261.out hb)
               have n4_ := Aside0.mk (blk_below BK262.out hb)
               have n5_ := Aside0.mk (blk_below BK273.out hb)
               have n6_ := Aside0.mk (blk_below BK277.out hb)
               have n7_ := Aside0.mk (below_step HB.out hb)
               have n8_ := Aside0.mk (hbox)
               have n9_ := Aside0.mk ((by rw [hg]; exact (below_size HB.out) : w.heap.size ≤ gb284))
               have n10_ := Aside0.mk ((by rw [hg]; exact (below_size HB.out) : w.heap.size ≤ gb284))
               have n11_ := Aside0.mk ((by rw [hg]; exact Nat.ne_of_lt (blk_lt BK261.out) : gb261 ≠ gb284))
               have n12_ := Aside0.mk ((by rw [hg]; exact Nat.ne_of_gt (blk_lt BK261.out) : gb284 ≠ gb261))
               have n13_ := Aside0.mk ((by rw [hg]; exact Nat.ne_of_lt (blk_lt BK262.out) : gb262 ≠ gb284))
               have n14_ := Aside0.mk ((by rw [hg]; exact Nat.ne_of_gt (blk_lt BK262.out) : gb284 ≠ gb262))
               have n15_ := Aside0.mk ((by rw [hg]; exact Nat.ne_of_lt (blk_lt BK273.out) : gb273 ≠ gb284))
               have n16_ := Aside0.mk ((by rw [hg]; exact Nat.ne_of_gt (blk_lt BK273.out) : gb284 ≠ gb273))
               have n17_ := Aside0.mk ((by rw [hg]; exact Nat.ne_of_lt (blk_lt BK277.out) : gb277 ≠ gb284))
               have n18_ := Aside0.mk ((by rw [hg]; exact Nat.ne_of_gt (blk_lt BK277.out) : gb284 ≠ gb277))
               clear HO266 HO271 HO276 BK261 BK262 BK273 BK277 HB
               have HO266 := n0_
               have HO271 := n1_
               have HO276 := n2_
               have BK261 := n3_
               have BK262 := n4_
               have BK273 := n5_
               have BK277 := n6_
               have HB := n7_
               have BK284 := n8_
               have GW284 := n9_
               have GE284 := n10_
               have NB261_284 := n11_
               have NB284_261 := n12_
               have NB262_284 := n13_
               have NB284_262 := n14_
               have NB273_284 := n15_
               have NB284_273 := n16_
               have NB277_284 := n17_
               have NB284_277 := n18_
               clear n0_ n1_ n2_ n3_ n4_ n5_ n6_ n7_ n8_ n9_ n10_ n11_ n12_ n13_ n14_ n15_ n16_ n17_ n18_
               clear hb hbox hg
               refine hK.out _ _ ⟨(blk_cell BK277.out 0).trans rfl, (blk_cell BK262.out 0).trans rfl, (blk_cell BK262.out 1).trans rfl⟩ (fun hHeld => ?_)
               clear hK K
               refine norm_ (a' := ?_) ?_ ?_
               rotate_left
               ·show Act.put _ (some 9) _ = _
                simp only [Act.put, List.setIfInBounds_toArray, List.set_cons_zero, List.set_cons_succ, i64_w, i32_w]
                rfl
               refine one_ (i := 2) (N := some 34) #[true, true, true, false, false, false, false, true, false, false] rfl rfl (one_of HT_.out (by kernel_rfl)) (by decide) (fun K hK => ?_)
               refine goes_ Try.func11 (by kernel_rfl) rfl #[.agg #[.int .i64 a1_0, .int .i64 a1_1]] (by rfl) rfl rfl (by (try simp only [List.map_toArray, List.map_cons, List.map_nil]); first | done | rfl | (simp only [List.length_drop, List.length_take]; rfl)) ?_
               with_reducible refine (laws_toItem.calls a1_0 a1_1 t278 t279 _ A14.out).mono ?_
               rintro e w65 ⟨rfl, hb⟩
               refine ⟨_, rfl, ?_⟩
               have n0_ := Aside0.mk (Kd.R_below HO266.out hb)
               have n1_ := Aside0.mk (Kd.R_below HO271.out hb)
               have n2_ := Aside0.mk (Kd.R_below HO276.out hb)
               have n3_ := Aside0.mk (blk_below BK261.out hb)
               have n4_ := Aside0.mk (blk_below BK262.out hb)
               have n5_ := Aside0.mk (blk_below BK273.out hb)
               have n6_ := Aside0.mk (blk_below BK277.out hb)
               have n7_ := Aside0.mk (blk_below BK284.out hb)
               have n8_ := Aside0.mk (below_step HB.out hb)
               clear HO266 HO271 HO276 BK261 BK262 BK273 BK277 BK284 HB
               have HO266 := n0_
               have HO271 := n1_
               have HO276 := n2_
               have BK261 := n3_
               have BK262 := n4_
               have BK273 := n5_
               have BK277 := n6_
               have BK284 := n7_
               have HB := n8_
               clear n0_ n1_ n2_ n3_ n4_ n5_ n6_ n7_ n8_
               (try clear hb)
               (try clear hb2)
               (try clear hk)
               (try clear hi)
               refine hK.out _ _ ⟨(blk_cell BK277.out 0).trans rfl, (blk_cell BK262.out 0).trans rfl, (blk_cell BK262.out 1).trans rfl⟩ (fun hHeld => ?_)
               clear hK K
               refine norm_ (a' := ?_) ?_ ?_
               rotate_left
               ·show Act.put _ (some 34) _ = _
                simp only [Act.put, List.setIfInBounds_toArray, List.set_cons_zero, List.set_cons_succ, i64_w, i32_w]
                rfl
               refine one_ (i := 3) (N := some 35) #[true, true, true, true, false, false, false, true, false, false] rfl rfl (one_of HT_.out (by kernel_rfl)) (by decide) (fun K hK => ?_)
               refine goes_ Try.func27 (by kernel_rfl) rfl #[.agg #[.slice Ao57 t274.length co57], .agg #[.int .i64 t278, .int .i64 t279]] (by rfl) rfl rfl (by (try simp only [List.map_toArray, List.map_cons, List.map_nil]); first | done | rfl | (simp only [List.length_drop, List.length_take]; rfl)) ?_
               with_reducible refine (impl_HeapMove.calls k _ _ t274 t278 t279 t280 t283 _ ?side1 ?side2 A15.out).mono ?_
               (case side1 => repeat (first | exact (Kd.R_reads' HO276.out).2.2 | (with_reducible refine Kd.C_alloc ?_ _) | (with_reducible refine Kd.C_drewN ?_ _) | (with_reducible refine Kd.C_drew ?_)))
               (case side2 => exact (Kd.R_reads' HO276.out).2.1)
               rintro e w66 ⟨v281, rfl, ho0, hb⟩
               refine ⟨_, rfl, ?_⟩
               have n0_ := Aside0.mk (Kd.R_elder' HO266.out (Kd.R_base ho0) hb)
               have n1_ := Aside0.mk (Kd.R_elder' HO271.out (Kd.R_base ho0) hb)
               have n2_ := Aside0.mk (Kd.R_elder' HO276.out (Kd.R_base ho0) hb)
               have n3_ := Aside0.mk (Kd.R_lower (Kd.R_new' (Kd.R_new' (Kd.R_new' ho0 (Kd.R_lt HO266.out)) (Kd.R_lt HO271.out)) (Kd.R_lt HO276.out)) (below_size HB.out))
               have n4_ := Aside0.mk (blk_below BK261.out hb)
               have n5_ := Aside0.mk (blk_below BK262.out hb)
               have n6_ := Aside0.mk (blk_below BK273.out hb)
               have n7_ := Aside0.mk (blk_below BK277.out hb)
               have n8_ := Aside0.mk (blk_below BK284.out hb)
               have n9_ := Aside0.mk (below_step HB.out hb)
               clear HO266 HO271 HO276 BK261 BK262 BK273 BK277 BK284 HB
               have HO266 := n0_
               have HO271 := n1_
               have HO276 := n2_
               have HO282 := n3_
               have BK261 := n4_
               have BK262 := n5_
               have BK273 := n6_
               have BK277 := n7_
               have BK284 := n8_
               have HB := n9_
               clear n0_ n1_ n2_ n3_ n4_ n5_ n6_ n7_ n8_ n9_
               (try clear hb)
               (try clear hb2)
               (try clear hk)
               (try clear hi)
               (try clear ho0)
               refine hK.out _ _ ⟨(blk_cell BK277.out 0).trans rfl, (blk_cell BK262.out 0).trans rfl, (blk_cell BK262.out 1).trans rfl⟩ (fun hHeld => ?_)
               clear hK K
               refine norm_ (a' := ?_) ?_ ?_
               rotate_left
               ·show Act.put _ (some 35) _ = _
                simp only [Act.put, List.setIfInBounds_toArray, List.set_cons_zero, List.set_cons_succ, i64_w, i32_w]
                rfl
               refine pure_ (i := 4) (N := some 31) (v := ?_) (a' := ?_) #[true, true, true, true, true, false, false, true, false, false] rfl rfl (any_of HT_.out (by kernel_rfl)) (fun _ _ _ h => h) (Or.inl ⟨by rfl, ?_⟩) ?_ ?_
               rotate_left
               ·intro w'
                go_simp
                with_reducible rfl
               rotate_left
               ·simp only [Act.put, List.setIfInBounds_toArray, List.set_cons_zero, List.set_cons_succ, i64_w, i32_w]
                rfl
               refine pure_ (i := 5) (N := some 36) (v := ?_) (a' := ?_) #[true, true, true, true, true, true, false, true, false, false] rfl rfl (any_of HT_.out (by kernel_rfl)) (fun _ _ _ h => h) (Or.inl ⟨by rfl, ?_⟩) ?_ ?_
               rotate_left
               ·intro w'
                go_simp
                with_reducible rfl
               rotate_left
               ·simp only [Act.put, List.setIfInBounds_toArray, List.set_cons_zero, List.set_cons_succ, i64_w, i32_w]
                rfl
               refine pure_ (i := 6) (N := some 37) (v := ?_) (a' := ?_) #[true, true, true, true, true, true, true, true, false, false] rfl rfl (any_of HT_.out (by kernel_rfl)) (fun _ _ _ h => h) (Or.inl ⟨by rfl, ?_⟩) ?_ ?_
               rotate_left
               ·intro w'
                go_simp
                with_reducible rfl
               rotate_left
               ·simp only [Act.put, List.setIfInBounds_toArray, List.set_cons_zero, List.set_cons_succ, i64_w, i32_w]
                rfl
               exact norm_ (by simp only [putAll, Act.put, List.setIfInBounds_toArray, List.set_cons_zero, List.set_cons_succ]) (hCont (v281, gb284) _ ⟨hHeld, (by (with_reducible repeat (first | apply Kd.R_alloc | apply Kd.R_drewN | apply Kd.R_drew)); exact Kd.R_mono HO266.out (fun _ hk => ⟨hk.1.1, ⟨hk.1.2, hk.2⟩⟩)), (by (with_reducible repeat (first | apply Kd.R_alloc | apply Kd.R_drewN | apply Kd.R_drew)); exact Kd.R_mono HO271.out (fun _ hk => ⟨hk.1.1, ⟨hk.1.2, hk.2⟩⟩)), (by (with_reducible repeat (first | apply Kd.R_alloc | apply Kd.R_drewN | apply Kd.R_drew)); exact Kd.R_mono HO276.out (fun _ hk => ⟨hk.1.1, ⟨hk.1.2, hk.2⟩⟩)), (by (with_reducible repeat (first | apply Kd.R_alloc | apply Kd.R_drewN | apply Kd.R_drew)); exact Kd.R_mono HO282.out (fun _ hk => ⟨hk.1.1.2, ⟨hk.1.2, hk.2⟩⟩)), BK261.out, BK262.out, BK273.out, BK277.out, BK284.out, GW284.out, GE284.out, NB261_284.out, NB284_261.out, NB262_284.out, NB284_262.out, NB273_284.out, NB284_273.out, NB277_284.out, NB284_277.out, HB.out⟩)
             rintro ⟨v281, gb284⟩ w67 ⟨hS_, h0_, h1_, h2_, h3_, h4_, h5_, h6_, h7_, h8_, h9_, h10_, h11_, h12_, h13_, h14_, h15_, h16_, h17_, h18_, h19_⟩
             have n0_ : Aside0 (Kd.R k25 25 w67 w.heap.size (fun k_ => some k_ ≠ (.slice Ao51 t269.length co51 : Value).ownBlock ∧ some k_ ≠ (.slice Ao57 t274.length co57 : Value).ownBlock ∧ some k_ ≠ (v281 : Value).ownBlock) v265 t264) := ⟨h0_⟩
             have n1_ : Aside0 (Kd.R k25 25 w67 w.heap.size (fun k_ => some k_ ≠ (v265 : Value).ownBlock ∧ some k_ ≠ (.slice Ao57 t274.length co57 : Value).ownBlock ∧ some k_ ≠ (v281 : Value).ownBlock) (.slice Ao51 t269.length co51) t269) := ⟨h1_⟩
             have n2_ : Aside0 (Kd.R k25 25 w67 w.heap.size (fun k_ => some k_ ≠ (v265 : Value).ownBlock ∧ some k_ ≠ (.slice Ao51 t269.length co51 : Value).ownBlock ∧ some k_ ≠ (v281 : Value).ownBlock) (.slice Ao57 t274.length co57) t274) := ⟨h2_⟩
             have n3_ : Aside0 (Kd.R k25 25 w67 w.heap.size (fun k_ => some k_ ≠ (v265 : Value).ownBlock ∧ some k_ ≠ (.slice Ao51 t269.length co51 : Value).ownBlock ∧ some k_ ≠ (.slice Ao57 t274.length co57 : Value).ownBlock) v281 t280) := ⟨h3_⟩
             have n4_ : Aside0 (w67.heap[gb261]? = some (.cells #[.slice A0_0 l0_0.length c0_0] 32 (0, 0))) := ⟨h4_⟩
             have n5_ : Aside0 (w67.heap[gb262]? = some (.cells #[.int .i64 a1_0, .int .i64 a1_1] 23 (0, 0))) := ⟨h5_⟩
             have n6_ : Aside0 (w67.heap[gb273]? = some (.cells #[.slice Ao51 t269.length co51] 37 (0, 0))) := ⟨h6_⟩
             have n7_ : Aside0 (w67.heap[gb277]? = some (.cells #[.slice Ao57 t274.length co57] 37 (0, 0))) := ⟨h7_⟩
             have n8_ : Aside0 (w67.heap[gb284]? = some (.cells #[.slice none 0 0] 37 (0, 0))) := ⟨h8_⟩
             have n9_ : Aside0 (w.heap.size ≤ gb284) := ⟨h9_⟩
             have n10_ : Aside0 (w.heap.size ≤ gb284) := ⟨h10_⟩
             have n11_ : Aside0 (gb261 ≠ gb284) := ⟨h11_⟩
             have n12_ : Aside0 (gb284 ≠ gb261) := ⟨h12_⟩
             have n13_ : Aside0 (gb262 ≠ gb284) := ⟨h13_⟩
             have n14_ : Aside0 (gb284 ≠ gb262) := ⟨h14_⟩
             have n15_ : Aside0 (gb273 ≠ gb284) := ⟨h15_⟩
             have n16_ : Aside0 (gb284 ≠ gb273) := ⟨h16_⟩
             have n17_ : Aside0 (gb277 ≠ gb284) := ⟨h17_⟩
             have n18_ : Aside0 (gb284 ≠ gb277) := ⟨h18_⟩
             have n19_ : Aside0 (Below w.heap.size w w67) := ⟨h19_⟩
             clear HO266 HO271 HO276 BK261 BK262 BK273 BK277 HB
             clear h0_ h1_ h2_ h3_ h4_ h5_ h6_ h7_ h8_ h9_ h10_ h11_ h12_ h13_ h14_ h15_ h16_ h17_ h18_ h19_
             have HO266 := n0_
             have HO271 := n1_
             have HO276 := n2_
             have HO282 := n3_
             have BK261 := n4_
             have BK262 := n5_
             have BK273 := n6_
             have BK277 := n7_
             have BK284 := n8_
             have GW284 := n9_
             have GE284 := n10_
             have NB261_284 := n11_
             have NB284_261 := n12_
             have NB262_284 := n13_
             have NB284_262 := n14_
             have NB273_284 := n15_
             have NB284_273 := n16_
             have NB277_284 := n17_
             have NB284_277 := n18_
             have HB := n19_
             clear n0_ n1_ n2_ n3_ n4_ n5_ n6_ n7_ n8_ n9_ n10_ n11_ n12_ n13_ n14_ n15_ n16_ n17_ n18_ n19_
             have hHeld : w67.cell? ⟨gb277, 0, none⟩ = some (.slice Ao57 t274.length co57) ∧ w67.cell? ⟨gb262, 0, none⟩ = some (.int .i64 a1_0) ∧ w67.cell? ⟨gb262, 1, none⟩ = some (.int .i64 a1_1) := hS_
             obtain ⟨Ao68, co68, eo68⟩ := Kd.R_slice HO282.out
             (first | subst eo68 | (injection eo68 with f1_ f2_ f3_; have f4_ := f1_.symm; have f5_ := f3_.symm; clear f1_ f2_ f3_; subst f4_; subst f5_))
             refine norm_ (a' := ?_) ?_ ?_
             rotate_left
             ·simp only [putAll, Act.put, List.setIfInBounds_toArray, List.set_cons_zero, List.set_cons_succ]
              rfl
             refine one_ (i := 8) (N := none) #[true, true, true, true, true, true, true, true, true, false] rfl rfl (one_of HT_.out (by kernel_rfl)) (by decide) (fun K hK => ?_)
             have hs69 : w67.cell? ⟨gb284, 0, none⟩ = some (.slice none 0 0) := (blk_cell BK284.out 0).trans rfl
             have hfs69 := blk_frozen BK284.out 0
             have hns69_0 := NB261_284.out
             have hns69_1 := NB262_284.out
             have hns69_2 := NB273_284.out
             have hns69_3 := NB277_284.out
             have hms69_0 := NB284_261.out
             have hms69_1 := NB284_262.out
             have hms69_2 := NB284_273.out
             have hms69_3 := NB284_277.out
             refine skip_ (w1 := ?_) (by rfl) rfl ?_ ?_
             rotate_left
             ·go_simp
              rfl
             refine hK.out _ _ ⟨((cell_far (p := ⟨gb284, _, none⟩) NB277_284.out _).trans (hHeld.1)), ((cell_far (p := ⟨gb284, _, none⟩) NB262_284.out _).trans (hHeld.2.1)), ((cell_far (p := ⟨gb284, _, none⟩) NB262_284.out _).trans (hHeld.2.2))⟩ (fun hHeld => ?_)
             clear hK K
             refine pure_ (i := 9) (N := some 10) (v := ?_) (a' := ?_) #[true, true, true, true, true, true, true, true, true, true] rfl rfl (any_of HT_.out (by kernel_rfl)) (fun _ _ _ h => h) (Or.inl ⟨by rfl, ?_⟩) ?_ ?_
             rotate_left
             ·intro w'
              go_simp
              with_reducible rfl
             rotate_left
             ·simp only [Act.put, List.setIfInBounds_toArray, List.set_cons_zero, List.set_cons_succ, i64_w, i32_w]
              rfl
             refine done_ (done_of HT_.out (by kernel_rfl)) ?_
             have hnb70 := NB284_261.out
             have hnc70 := NB261_284.out
             have hnb71 := NB284_262.out
             have hnc71 := NB262_284.out
             have hnb72 := NB284_273.out
             have hnc72 := NB273_284.out
             have hnb73 := NB284_277.out
             have hnc73 := NB277_284.out
             have hcz74_0 : w67.cell? ⟨gb284, 0, none⟩ = some (.slice none 0 0) := (blk_cell BK284.out 0).trans rfl
             have hfz74_0 := blk_frozen BK284.out 0
             have hnb75 := NB273_262.out
             have hnc75 := NB262_273.out
             have hcz76_0 : w67.cell? ⟨gb273, 0, none⟩ = some (.slice Ao51 t269.length co51) := (blk_cell BK273.out 0).trans rfl
             have hfz76_0 := blk_frozen BK273.out 0
             try go_wp2_with (first | ((with_reducible refine gate_callee (f := 19) rfl ?_); refine goesL_ (some 40) rfl rfl Try.func19 (by kernel_rfl) rfl #[.agg #[.slice Ao68 t280.length co68], .agg #[.slice Ao51 t269.length co51]] rfl (by (try simp only [List.map_toArray, List.map_cons, List.map_nil]); first | done | rfl | (simp only [List.length_drop, List.length_take]; rfl)) ?_; (with_reducible refine (laws_eqHeap.calls k _ _ t280 _ _ t269 true _ ?side1 ?side2 ?side3 ?side4 A16.out).mono ?_); (case side1 => refine (Kd.R_reads' (e := 25) (base := w.heap.size) (ok := fun k_ => (some k_ ≠ (v265 : Value).ownBlock ∧ (some k_ ≠ (.slice Ao51 t269.length co51 : Value).ownBlock ∧ some k_ ≠ (.slice Ao57 t274.length co57 : Value).ownBlock))) (n := t280.length) (c := co68) ?_).2.2; exact (by (with_reducible repeat (first | apply Kd.R_alloc | apply Kd.R_drewN | apply Kd.R_drew)); exact (Kd.R_mono (Kd.R_far (p := ⟨gb284, 0, none⟩) (Kd.R_types HO282.out BK284.out (by decide)) (fun _ hk => hk.2) (.slice Ao68 t280.length co68)) (fun _ h_ => h_.1)))); (case side2 => exact (Kd.R_reads' HO282.out).2.1); (case side3 => refine (Kd.R_reads' (e := 25) (base := w.heap.size) (ok := fun k_ => (some k_ ≠ (v265 : Value).ownBlock ∧ (some k_ ≠ (.slice Ao57 t274.length co57 : Value).ownBlock ∧ some k_ ≠ (.slice Ao68 t280.length co68 : Value).ownBlock))) (n := t269.length) (c := co51) ?_).2.2; exact (by (with_reducible repeat (first | apply Kd.R_alloc | apply Kd.R_drewN | apply Kd.R_drew)); exact (Kd.R_mono (Kd.R_far (p := ⟨gb284, 0, none⟩) (Kd.R_types HO271.out BK284.out (by decide)) (fun _ hk => hk.2) (.slice Ao68 t280.length co68)) (fun _ h_ => h_.1)))); (case side4 => exact (Kd.R_reads' HO271.out).2.1); rintro e w77 ⟨rfl, hb⟩; refine ⟨_, rfl, ?_⟩; have n0_ := Aside0.mk (Kd.R_below (by (with_reducible repeat (first | apply Kd.R_alloc | apply Kd.R_drewN | apply Kd.R_drew)); exact (Kd.R_mono (Kd.R_far (p := ⟨gb284, 0, none⟩) (Kd.R_types HO266.out BK284.out (by decide)) (fun _ hk => hk.2) (.slice Ao68 t280.length co68)) (fun _ h_ => h_.1))) hb); have n1_ := Aside0.mk (Kd.R_below (by (with_reducible repeat (first | apply Kd.R_alloc | apply Kd.R_drewN | apply Kd.R_drew)); exact (Kd.R_mono (Kd.R_far (p := ⟨gb284, 0, none⟩) (Kd.R_types HO271.out BK284.out (by decide)) (fun _ hk => hk.2) (.slice Ao68 t280.length co68)) (fun _ h_ => h_.1))) hb); have n2_ := Aside0.mk (Kd.R_below (by (with_reducible repeat (first | apply Kd.R_alloc | apply Kd.R_drewN | apply Kd.R_drew)); exact (Kd.R_mono (Kd.R_far (p := ⟨gb284, 0, none⟩) (Kd.R_types HO276.out BK284.out (by decide)) (fun _ hk => hk.2) (.slice Ao68 t280.length co68)) (fun _ h_ => h_.1))) hb); have n3_ := Aside0.mk (Kd.R_below (by (with_reducible repeat (first | apply Kd.R_alloc | apply Kd.R_drewN | apply Kd.R_drew)); exact (Kd.R_mono (Kd.R_far (p := ⟨gb284, 0, none⟩) (Kd.R_types HO282.out BK284.out (by decide)) (fun _ hk => hk.2) (.slice Ao68 t280.length co68)) (fun _ h_ => h_.1))) hb); have n4_ := Aside0.mk (blk_below (g := gb261) (o := .cells #[.slice A0_0 l0_0.length c0_0] 32 (0, 0)) Gv.bkf hb); have n5_ := Aside0.mk (blk_below (g := gb262) (o := .cells #[.int .i64 a1_0, .int .i64 a1_1] 23 (0, 0)) Gv.bkf hb); have n6_ := Aside0.mk (blk_below (g := gb273) (o := .cells #[.slice Ao51 t269.length co51] 37 (0, 0)) Gv.bkf hb); have n7_ := Aside0.mk (blk_below (g := gb277) (o := .cells #[.slice Ao57 t274.length co57] 37 (0, 0)) Gv.bkf hb); have n8_ := Aside0.mk (blk_below (g := gb284) (o := .cells #[.slice Ao68 t280.length co68] 37 (0, 0)) (by (with_reducible repeat (first | refine blk_drewN ?_ _ | refine blk_drew ?_ | refine blk_alloc ?_ _)); refine blk_put (cs := #[.slice none 0 0]) ?_ 0 _ rfl; (with_reducible repeat (first | refine blk_drewN ?_ _ | refine blk_drew ?_ | refine blk_alloc ?_ _)); exact BK284.out) hb); have n9_ := Aside0.mk (below_step Gv.bw hb); clear HO266; clear HO271; clear HO276; clear HO282; clear BK261; clear BK262; clear BK273; clear BK277; clear BK284; clear HB; have HO266 := n0_; have HO271 := n1_; have HO276 := n2_; have HO282 := n3_; have BK261 := n4_; have BK262 := n5_; have BK273 := n6_; have BK277 := n7_; have BK284 := n8_; have HB := n9_; clear n0_ n1_ n2_ n3_ n4_ n5_ n6_ n7_ n8_ n9_; (try clear hb); (try clear hb2); (try clear hk); (try clear hi)))
             have n0_ := Aside0.mk (Kd.R_drew HO266.out)
             have n1_ := Aside0.mk (Kd.R_drew HO271.out)
             have n2_ := Aside0.mk (Kd.R_drew HO276.out)
             have n3_ := Aside0.mk (Kd.R_drew HO282.out)
             have n4_ := Aside0.mk (blk_drew BK261.out)
             have n5_ := Aside0.mk (blk_drew BK262.out)
             have n6_ := Aside0.mk (blk_drew BK273.out)
             have n7_ := Aside0.mk (blk_drew BK277.out)
             have n8_ := Aside0.mk (blk_drew BK284.out)
             have n9_ := Aside0.mk (below_drew1 HB.out)
             clear HO266 HO271 HO276 HO282 BK261 BK262 BK273 BK277 BK284 HB
             have HO266 := n0_
             have HO271 := n1_
             have HO276 := n2_
             have HO282 := n3_
             have BK261 := n4_
             have BK262 := n5_
             have BK273 := n6_
             have BK277 := n7_
             have BK284 := n8_
             have HB := n9_
             clear n0_ n1_ n2_ n3_ n4_ n5_ n6_ n7_ n8_ n9_
             refine start_ (n := 5) (S := fun w' => w'.cell? ⟨gb277, 0, none⟩ = some (.slice Ao57 t274.length co57) ∧ w'.cell? ⟨gb261, 0, none⟩ = some (.slice A0_0 l0_0.length c0_0)) (ds := []) #[false, false, false, false, false] (by kernel_rfl) rfl rfl ⟨(blk_cell BK277.out 0).trans rfl, (blk_cell BK261.out 0).trans rfl⟩ (fun hHeld => ?_)
             generalize w77.drew = w78 at HO266 HO271 HO276 HO282 BK261 BK262 BK273 BK277 BK284 HB hHeld ⊢
             refine take_ (i := 0) (N := some 47) (v := ?_) (a' := ?_) #[true, false, false, false, false] rfl rfl (by kernel_rfl) (fun _ _ _ h => h) (Or.inl ⟨by rfl, ?_⟩) hHeld ?_ ?_
             rotate_left
             ·rintro w' ⟨s0, s1⟩
              go_simp
              with_reducible rfl
             rotate_left
             ·simp only [Act.put, List.setIfInBounds_toArray, List.set_cons_zero, List.set_cons_succ, i64_w, i32_w]
              rfl
             refine take_ (i := 1) (N := some 48) (v := ?_) (a' := ?_) #[true, true, false, false, false] rfl rfl (by kernel_rfl) (fun _ _ _ h => h) (Or.inl ⟨by rfl, ?_⟩) hHeld ?_ ?_
             rotate_left
             ·rintro w' ⟨s0, s1⟩
              go_simp
              with_reducible rfl
             rotate_left
             ·simp only [Act.put, List.setIfInBounds_toArray, List.set_cons_zero, List.set_cons_succ, i64_w, i32_w]
              rfl
             refine one_ (i := 2) (N := some 49) #[true, true, true, false, false] rfl rfl (by kernel_rfl) (by decide) (fun K hK => ?_)
             refine goes_ Try.func17 (by kernel_rfl) rfl #[.agg #[.slice A0_0 l0_0.length c0_0]] (by rfl) rfl rfl (by (try simp only [List.map_toArray, List.map_cons, List.map_nil]); first | done | rfl | (simp only [List.length_drop, List.length_take]; rfl)) ?_
             with_reducible refine (laws_toHeap.calls k _ _ l0_0 t286 _ ?side1 ?side2 A19.out).mono ?_
             (case side1 => repeat (first | exact (Kd.C_below HR0_0.out HB.out) | (with_reducible refine Kd.C_alloc ?_ _) | (with_reducible refine Kd.C_drewN ?_ _) | (with_reducible refine Kd.C_drew ?_)))
             (case side2 => exact HC0_0.out)
             rintro e w79 ⟨v287, rfl, ho0, hb⟩
             refine ⟨_, rfl, ?_⟩
             have n0_ := Aside0.mk (Kd.R_elder' HO266.out (Kd.R_base ho0) hb)
             have n1_ := Aside0.mk (Kd.R_elder' HO271.out (Kd.R_base ho0) hb)
             have n2_ := Aside0.mk (Kd.R_elder' HO276.out (Kd.R_base ho0) hb)
             have n3_ := Aside0.mk (Kd.R_elder' HO282.out (Kd.R_base ho0) hb)
             have n4_ := Aside0.mk (Kd.R_lower (Kd.R_new' (Kd.R_new' (Kd.R_new' (Kd.R_new' ho0 (Kd.R_lt HO266.out)) (Kd.R_lt HO271.out)) (Kd.R_lt HO276.out)) (Kd.R_lt HO282.out)) (below_size HB.out))
             have n5_ := Aside0.mk (blk_below BK261.out hb)
             have n6_ := Aside0.mk (blk_below BK262.out hb)
             have n7_ := Aside0.mk (blk_below BK273.out hb)
             have n8_ := Aside0.mk (blk_below BK277.out hb)
             have n9_ := Aside0.mk (blk_below BK284.out hb)
             have n10_ := Aside0.mk (below_step HB.out hb)
             clear HO266 HO271 HO276 HO282 BK261 BK262 BK273 BK277 BK284 HB
             have HO266 := n0_
             have HO271 := n1_
             have HO276 := n2_
             have HO282 := n3_
             have HO288 := n4_
             have BK261 := n5_
             have BK262 := n6_
             have BK273 := n7_
             have BK277 := n8_
             have BK284 := n9_
             have HB := n10_
             clear n0_ n1_ n2_ n3_ n4_ n5_ n6_ n7_ n8_ n9_ n10_
             (try clear hb)
             (try clear hb2)
             (try clear hk)
             (try clear hi)
             (try clear ho0)
             obtain ⟨Ao80, co80, eo80⟩ := Kd.R_slice HO288.out
             (first | subst eo80 | (injection eo80 with f1_ f2_ f3_; have f4_ := f1_.symm; have f5_ := f3_.symm; clear f1_ f2_ f3_; subst f4_; subst f5_))
             refine hK.out _ _ ⟨(blk_cell BK277.out 0).trans rfl, (blk_cell BK261.out 0).trans rfl⟩ (fun hHeld => ?_)
             clear hK K
             refine norm_ (a' := ?_) ?_ ?_
             rotate_left
             ·show Act.put _ (some 49) _ = _
              simp only [Act.put, List.setIfInBounds_toArray, List.set_cons_zero, List.set_cons_succ, i64_w, i32_w]
              rfl
             refine one_ (i := 3) (N := some 50) #[true, true, true, true, false] rfl rfl (by kernel_rfl) (by decide) (fun K hK => ?_)
             refine goes_ Try.func19 (by kernel_rfl) rfl #[.agg #[.slice Ao57 t274.length co57], .agg #[.slice Ao80 t286.length co80]] (by rfl) rfl rfl (by (try simp only [List.map_toArray, List.map_cons, List.map_nil]); first | done | rfl | (simp only [List.length_drop, List.length_take]; rfl)) ?_
             with_reducible refine (laws_eqHeap.calls k _ _ t274 _ _ t286 true _ ?side1 ?side2 ?side3 ?side4 A20.out).mono ?_
             (case side1 => repeat (first | exact (Kd.R_reads' HO276.out).2.2 | (with_reducible refine Kd.C_alloc ?_ _) | (with_reducible refine Kd.C_drewN ?_ _) | (with_reducible refine Kd.C_drew ?_)))
             (case side2 => exact (Kd.R_reads' HO276.out).2.1)
             (case side3 => repeat (first | exact (Kd.R_reads' HO288.out).2.2 | (with_reducible refine Kd.C_alloc ?_ _) | (with_reducible refine Kd.C_drewN ?_ _) | (with_reducible refine Kd.C_drew ?_)))
             (case side4 => exact (Kd.R_reads' HO288.out).2.1)
             rintro e w81 ⟨rfl, hb⟩
             refine ⟨_, rfl, ?_⟩
             have n0_ := Aside0.mk (Kd.R_below HO266.out hb)
             have n1_ := Aside0.mk (Kd.R_below HO271.out hb)
             have n2_ := Aside0.mk (Kd.R_below HO276.out hb)
             have n3_ := Aside0.mk (Kd.R_below HO282.out hb)
             have n4_ := Aside0.mk (Kd.R_below HO288.out hb)
             have n5_ := Aside0.mk (blk_below BK261.out hb)
             have n6_ := Aside0.mk (blk_below BK262.out hb)
             have n7_ := Aside0.mk (blk_below BK273.out hb)
             have n8_ := Aside0.mk (blk_below BK277.out hb)
             have n9_ := Aside0.mk (blk_below BK284.out hb)
             have n10_ := Aside0.mk (below_step HB.out hb)
             clear HO266 HO271 HO276 HO282 HO288 BK261 BK262 BK273 BK277 BK284 HB
             have HO266 := n0_
             have HO271 := n1_
             have HO276 := n2_
             have HO282 := n3_
             have HO288 := n4_
             have BK261 := n5_
             have BK262 := n6_
             have BK273 := n7_
             have BK277 := n8_
             have BK284 := n9_
             have HB := n10_
             clear n0_ n1_ n2_ n3_ n4_ n5_ n6_ n7_ n8_ n9_ n10_
             (try clear hb)
             (try clear hb2)
             (try clear hk)
             (try clear hi)
             refine hK.out _ _ ⟨(blk_cell BK277.out 0).trans rfl, (blk_cell BK261.out 0).trans rfl⟩ (fun hHeld => ?_)
             clear hK K
             refine norm_ (a' := ?_) ?_ ?_
             rotate_left
             ·show Act.put _ (some 50) _ = _
              simp only [Act.put, List.setIfInBounds_toArray, List.set_cons_zero, List.set_cons_succ, i64_w, i32_w]
              rfl
             refine pure_ (i := 4) (N := some 51) (v := ?_) (a' := ?_) #[true, true, true, true, true] rfl rfl (by kernel_rfl) (fun _ _ _ h => h) (Or.inl ⟨by rfl, ?_⟩) ?_ ?_
             rotate_left
             ·intro w'
              go_simp
              with_reducible rfl
             rotate_left
             ·simp only [Act.put, List.setIfInBounds_toArray, List.set_cons_zero, List.set_cons_succ, i64_w, i32_w]
              rfl
             refine done_ (by kernel_rfl) ?_
             have hcz82_0 : w81.cell? ⟨gb277, 0, none⟩ = some (.slice Ao57 t274.length co57) := (blk_cell BK277.out 0).trans rfl
             have hfz82_0 := blk_frozen BK277.out 0
             try go_wp2_with (first | ((with_reducible refine gate_callee (f := 24) rfl ?_); refine goesL_ (some 54) rfl rfl Try.func24 (by kernel_rfl) rfl #[.agg #[.slice Ao57 t274.length co57], .int .i64 1] rfl (by (try simp only [List.map_toArray, List.map_cons, List.map_nil]); first | done | rfl | (simp only [List.length_drop, List.length_take]; rfl)) ?_; (with_reducible refine (laws_markHeap.calls k (fun k_ => some k_ = (.slice Ao57 t274.length co57 : Value).ownBlock) (.slice Ao57 t274.length co57) t274 1 t290 t291 w _ ?side1 ?side2 A22.out).mono ?_); (case side1 => repeat (first | (with_reducible first | exact HB.out | apply below_alloc | apply pw_below_drewN | apply below_drew1 | refine below_set ?_ GE261.out | refine below_set ?_ GE262.out | refine below_set ?_ GE273.out | refine below_set ?_ GE277.out | refine below_set ?_ GE284.out) | exact HB.out)); (case side2 => exact Kd.R_tight rfl HO276.out); rintro e w83 ⟨rfl, hy0, hb, hkp⟩; refine ⟨_, rfl, ?_⟩; have n0_ := Aside0.mk (blk_kept Gv.bk hkp (fun hs_ => (fun e_ => (Kd.R_ne HO276.out BK261.out (by decide)) e_) hs_)); have n1_ := Aside0.mk (blk_kept Gv.bk hkp (fun hs_ => (fun e_ => (Kd.R_ne HO276.out BK262.out (by decide)) e_) hs_)); have n2_ := Aside0.mk (Kd.R_mono (ok' := fun k_ => some k_ ≠ (.slice Ao51 t269.length co51 : Value).ownBlock ∧ some k_ ≠ (.slice Ao57 t274.length co57 : Value).ownBlock ∧ some k_ ≠ (.slice Ao68 t280.length co68 : Value).ownBlock ∧ some k_ ≠ (.slice Ao80 t286.length co80 : Value).ownBlock) (Kd.R_keptB (HO266.out) hkp (fun k_ hk_ hs_ => (hk_.1.2.1) hs_)) (fun k_ hk_ => ⟨hk_.1.1.1, hk_.1.1.2.1, hk_.1.1.2.2, hk_.1.2⟩)); have n3_ := Aside0.mk (Kd.R_mono (ok' := fun k_ => some k_ ≠ (v265 : Value).ownBlock ∧ some k_ ≠ (.slice Ao57 t274.length co57 : Value).ownBlock ∧ some k_ ≠ (.slice Ao68 t280.length co68 : Value).ownBlock ∧ some k_ ≠ (.slice Ao80 t286.length co80 : Value).ownBlock) (Kd.R_keptB (HO271.out) hkp (fun k_ hk_ hs_ => (hk_.1.2.1) hs_)) (fun k_ hk_ => ⟨hk_.1.1.1, hk_.1.1.2.1, hk_.1.1.2.2, hk_.1.2⟩)); have n4_ := Aside0.mk (blk_kept Gv.bk hkp (fun hs_ => (fun e_ => (Kd.R_ne HO276.out BK273.out (by decide)) e_) hs_)); have n5_ := Aside0.mk (Kd.R_reok rfl hy0 (fun k_ e_ => HO276.out.1 k_ e_)); have n6_ := Aside0.mk (blk_kept Gv.bk hkp (fun hs_ => (fun e_ => (Kd.R_ne HO276.out BK277.out (by decide)) e_) hs_)); have n7_ := Aside0.mk (Kd.R_mono (ok' := fun k_ => some k_ ≠ (v265 : Value).ownBlock ∧ some k_ ≠ (.slice Ao51 t269.length co51 : Value).ownBlock ∧ some k_ ≠ (.slice Ao57 t274.length co57 : Value).ownBlock ∧ some k_ ≠ (.slice Ao80 t286.length co80 : Value).ownBlock) (Kd.R_keptB (HO282.out) hkp (fun k_ hk_ hs_ => (hk_.1.2.2) hs_)) (fun k_ hk_ => ⟨hk_.1.1.1, hk_.1.1.2.1, hk_.1.1.2.2, hk_.1.2⟩)); have n8_ := Aside0.mk (blk_kept Gv.bk hkp (fun hs_ => (fun e_ => (Kd.R_ne HO276.out BK284.out (by decide)) e_) hs_)); have n9_ := Aside0.mk (Kd.R_mono (ok' := fun k_ => some k_ ≠ (v265 : Value).ownBlock ∧ some k_ ≠ (.slice Ao51 t269.length co51 : Value).ownBlock ∧ some k_ ≠ (.slice Ao57 t274.length co57 : Value).ownBlock ∧ some k_ ≠ (.slice Ao68 t280.length co68 : Value).ownBlock) (Kd.R_keptB (HO288.out) hkp (fun k_ hk_ hs_ => (hk_.1.2) hs_)) (fun k_ hk_ => ⟨hk_.1.1.1.1.2, hk_.1.1.1.2, hk_.1.1.2, hk_.1.2⟩)); have n10_ := Aside0.mk (hb); clear BK261; clear BK262; clear HO266; clear HO271; clear BK273; clear HO276; clear BK277; clear HO282; clear BK284; clear HO288; clear HB; have BK261 := n0_; have BK262 := n1_; have HO266 := n2_; have HO271 := n3_; have BK273 := n4_; have HO276 := n5_; have BK277 := n6_; have HO282 := n7_; have BK284 := n8_; have HO288 := n9_; have HB := n10_; clear n0_ n1_ n2_ n3_ n4_ n5_ n6_ n7_ n8_ n9_ n10_; (try clear hb); (try clear hkp); (try clear hy0); have hcz84_0 : w83.cell? ⟨gb284, 0, none⟩ = some (.slice Ao68 t280.length co68) := (blk_cell BK284.out 0).trans rfl; have hfz84_0 := blk_frozen BK284.out 0; have hcz85_0 : w83.cell? ⟨gb273, 0, none⟩ = some (.slice Ao51 t269.length co51) := (blk_cell BK273.out 0).trans rfl; have hfz85_0 := blk_frozen BK273.out 0) | (go_at_call 19; (with_reducible refine (laws_eqHeap.calls k _ _ t280 _ _ t269 true _ ?side1 ?side2 ?side3 ?side4 A24.out).mono ?_); (case side1 => repeat (first | exact (Kd.R_reads' HO282.out).2.2 | (with_reducible refine Kd.C_alloc ?_ _) | (with_reducible refine Kd.C_drewN ?_ _) | (with_reducible refine Kd.C_drew ?_))); (case side2 => exact (Kd.R_reads' HO282.out).2.1); (case side3 => repeat (first | exact (Kd.R_reads' HO271.out).2.2 | (with_reducible refine Kd.C_alloc ?_ _) | (with_reducible refine Kd.C_drewN ?_ _) | (with_reducible refine Kd.C_drew ?_))); (case side4 => exact (Kd.R_reads' HO271.out).2.1); rintro e w86 ⟨rfl, hb⟩; have n0_ := Aside0.mk (Kd.R_below (by (with_reducible repeat (first | apply Kd.R_alloc | apply Kd.R_drewN | apply Kd.R_drew)); exact HO266.out) hb); have n1_ := Aside0.mk (Kd.R_below (by (with_reducible repeat (first | apply Kd.R_alloc | apply Kd.R_drewN | apply Kd.R_drew)); exact HO271.out) hb); have n2_ := Aside0.mk (Kd.R_below (by (with_reducible repeat (first | apply Kd.R_alloc | apply Kd.R_drewN | apply Kd.R_drew)); exact HO276.out) hb); have n3_ := Aside0.mk (Kd.R_below (by (with_reducible repeat (first | apply Kd.R_alloc | apply Kd.R_drewN | apply Kd.R_drew)); exact HO282.out) hb); have n4_ := Aside0.mk (Kd.R_below (by (with_reducible repeat (first | apply Kd.R_alloc | apply Kd.R_drewN | apply Kd.R_drew)); exact HO288.out) hb); have n5_ := Aside0.mk (blk_below (g := gb261) (o := .cells #[.slice A0_0 l0_0.length c0_0] 32 (0, 0)) Gv.bk hb); have n6_ := Aside0.mk (blk_below (g := gb262) (o := .cells #[.int .i64 a1_0, .int .i64 a1_1] 23 (0, 0)) Gv.bk hb); have n7_ := Aside0.mk (blk_below (g := gb273) (o := .cells #[.slice Ao51 t269.length co51] 37 (0, 0)) Gv.bk hb); have n8_ := Aside0.mk (blk_below (g := gb277) (o := .cells #[.slice Ao57 t274.length co57] 37 (0, 0)) Gv.bk hb); have n9_ := Aside0.mk (blk_below (g := gb284) (o := .cells #[.slice Ao68 t280.length co68] 37 (0, 0)) Gv.bk hb); have n10_ := Aside0.mk (below_step Gv.bw hb); clear HO266; clear HO271; clear HO276; clear HO282; clear HO288; clear BK261; clear BK262; clear BK273; clear BK277; clear BK284; clear HB; have HO266 := n0_; have HO271 := n1_; have HO276 := n2_; have HO282 := n3_; have HO288 := n4_; have BK261 := n5_; have BK262 := n6_; have BK273 := n7_; have BK277 := n8_; have BK284 := n9_; have HB := n10_; clear n0_ n1_ n2_ n3_ n4_ n5_ n6_ n7_ n8_ n9_ n10_; (try clear hb); (try clear hb2); (try clear hk); (try clear hi); have hcz87_0 : w86.cell? ⟨gb284, 0, none⟩ = some (.slice Ao68 t280.length co68) := (blk_cell BK284.out 0).trans rfl; have hfz87_0 := blk_frozen BK284.out 0) | ((with_reducible refine gate_callee (f := 24) rfl ?_); refine goesL_ (some 70) rfl rfl Try.func24 (by kernel_rfl) rfl #[.agg #[.slice Ao68 t280.length co68], .int .i64 1] rfl (by (try simp only [List.map_toArray, List.map_cons, List.map_nil]); first | done | rfl | (simp only [List.length_drop, List.length_take]; rfl)) ?_; (with_reducible refine (laws_markHeap.calls k (fun k_ => some k_ = (.slice Ao68 t280.length co68 : Value).ownBlock) (.slice Ao68 t280.length co68) t280 1 t293 t294 w _ ?side1 ?side2 A26.out).mono ?_); (case side1 => repeat (first | (with_reducible first | exact HB.out | apply below_alloc | apply pw_below_drewN | apply below_drew1 | refine below_set ?_ GE261.out | refine below_set ?_ GE262.out | refine below_set ?_ GE273.out | refine below_set ?_ GE277.out | refine below_set ?_ GE284.out) | exact HB.out)); (case side2 => exact Kd.R_tight rfl HO282.out); rintro e w88 ⟨rfl, hy0, hb, hkp⟩; refine ⟨_, rfl, ?_⟩; have n0_ := Aside0.mk (blk_kept Gv.bk hkp (fun hs_ => (fun e_ => (Kd.R_ne HO282.out BK261.out (by decide)) e_) hs_)); have n1_ := Aside0.mk (blk_kept Gv.bk hkp (fun hs_ => (fun e_ => (Kd.R_ne HO282.out BK262.out (by decide)) e_) hs_)); have n2_ := Aside0.mk (Kd.R_mono (ok' := fun k_ => some k_ ≠ (.slice Ao51 t269.length co51 : Value).ownBlock ∧ some k_ ≠ (.slice Ao57 t274.length co57 : Value).ownBlock ∧ some k_ ≠ (.slice Ao68 t280.length co68 : Value).ownBlock ∧ some k_ ≠ (.slice Ao80 t286.length co80 : Value).ownBlock) (Kd.R_keptB (HO266.out) hkp (fun k_ hk_ hs_ => (hk_.2.2.1) hs_)) (fun k_ hk_ => ⟨hk_.1.1, hk_.1.2.1, hk_.1.2.2.1, hk_.1.2.2.2⟩)); have n3_ := Aside0.mk (Kd.R_mono (ok' := fun k_ => some k_ ≠ (v265 : Value).ownBlock ∧ some k_ ≠ (.slice Ao57 t274.length co57 : Value).ownBlock ∧ some k_ ≠ (.slice Ao68 t280.length co68 : Value).ownBlock ∧ some k_ ≠ (.slice Ao80 t286.length co80 : Value).ownBlock) (Kd.R_keptB (HO271.out) hkp (fun k_ hk_ hs_ => (hk_.2.2.1) hs_)) (fun k_ hk_ => ⟨hk_.1.1, hk_.1.2.1, hk_.1.2.2.1, hk_.1.2.2.2⟩)); have n4_ := Aside0.mk (blk_kept Gv.bk hkp (fun hs_ => (fun e_ => (Kd.R_ne HO282.out BK273.out (by decide)) e_) hs_)); have n5_ := Aside0.mk (Kd.R_mono (ok' := fun k_ => some k_ ≠ (v265 : Value).ownBlock ∧ some k_ ≠ (.slice Ao51 t269.length co51 : Value).ownBlock ∧ some k_ ≠ (.slice Ao68 t280.length co68 : Value).ownBlock ∧ some k_ ≠ (.slice Ao80 t286.length co80 : Value).ownBlock) (Kd.R_keptB (HO276.out) hkp (fun k_ hk_ hs_ => (hk_.1.2.2) hs_)) (fun k_ hk_ => ⟨hk_.1.1.1, hk_.1.1.2.1, hk_.1.1.2.2, hk_.1.2⟩)); have n6_ := Aside0.mk (blk_kept Gv.bk hkp (fun hs_ => (fun e_ => (Kd.R_ne HO282.out BK277.out (by decide)) e_) hs_)); have n7_ := Aside0.mk (Kd.R_reok rfl hy0 (fun k_ e_ => HO282.out.1 k_ e_)); have n8_ := Aside0.mk (blk_kept Gv.bk hkp (fun hs_ => (fun e_ => (Kd.R_ne HO282.out BK284.out (by decide)) e_) hs_)); have n9_ := Aside0.mk (Kd.R_mono (ok' := fun k_ => some k_ ≠ (v265 : Value).ownBlock ∧ some k_ ≠ (.slice Ao51 t269.length co51 : Value).ownBlock ∧ some k_ ≠ (.slice Ao57 t274.length co57 : Value).ownBlock ∧ some k_ ≠ (.slice Ao68 t280.length co68 : Value).ownBlock) (Kd.R_keptB (HO288.out) hkp (fun k_ hk_ hs_ => (hk_.2.2.2) hs_)) (fun k_ hk_ => ⟨hk_.1.1, hk_.1.2.1, hk_.1.2.2.1, hk_.1.2.2.2⟩)); have n10_ := Aside0.mk (hb); clear BK261; clear BK262; clear HO266; clear HO271; clear BK273; clear HO276; clear BK277; clear HO282; clear BK284; clear HO288; clear HB; have BK261 := n0_; have BK262 := n1_; have HO266 := n2_; have HO271 := n3_; have BK273 := n4_; have HO276 := n5_; have BK277 := n6_; have HO282 := n7_; have BK284 := n8_; have HO288 := n9_; have HB := n10_; clear n0_ n1_ n2_ n3_ n4_ n5_ n6_ n7_ n8_ n9_ n10_; (try clear hb); (try clear hkp); (try clear hy0); have hcz89_0 : w88.cell? ⟨gb284, 0, none⟩ = some (.slice Ao68 t280.length co68) := (blk_cell BK284.out 0).trans rfl; have hfz89_0 := blk_frozen BK284.out 0) | ((with_reducible refine gate_callee (f := 25) rfl ?_); refine goesL_ (some 73) rfl rfl Try.func25 (by kernel_rfl) rfl #[.agg #[.slice Ao68 t294.length co68], .int .i64 1] rfl (by (try simp only [List.map_toArray, List.map_cons, List.map_nil]); first | done | (rw [show t294.length = t280.length from (Kd.R_reads' HO282.out).1.symm] <;> rfl) | rfl | (simp only [List.length_drop, List.length_take]; rfl)) ?_; (with_reducible refine (laws_heldHeap.calls k _ _ t294 1 t295 _ ?side1 ?side2 A27.out).mono ?_); (case side1 => repeat (first | exact (Kd.R_reads' HO282.out).2.2 | (with_reducible refine Kd.C_alloc ?_ _) | (with_reducible refine Kd.C_drewN ?_ _) | (with_reducible refine Kd.C_drew ?_))); (case side2 => rw [show t294.length = t280.length from (Kd.R_reads' HO282.out).1.symm]; exact (Kd.R_reads' HO282.out).2.1); rintro e w90 ⟨rfl, hb⟩; refine ⟨_, rfl, ?_⟩; have n0_ := Aside0.mk (Kd.R_below (by (with_reducible repeat (first | apply Kd.R_alloc | apply Kd.R_drewN | apply Kd.R_drew)); exact HO266.out) hb); have n1_ := Aside0.mk (Kd.R_below (by (with_reducible repeat (first | apply Kd.R_alloc | apply Kd.R_drewN | apply Kd.R_drew)); exact HO271.out) hb); have n2_ := Aside0.mk (Kd.R_below (by (with_reducible repeat (first | apply Kd.R_alloc | apply Kd.R_drewN | apply Kd.R_drew)); exact HO276.out) hb); have n3_ := Aside0.mk (Kd.R_below (by (with_reducible repeat (first | apply Kd.R_alloc | apply Kd.R_drewN | apply Kd.R_drew)); exact HO282.out) hb); have n4_ := Aside0.mk (Kd.R_below (by (with_reducible repeat (first | apply Kd.R_alloc | apply Kd.R_drewN | apply Kd.R_drew)); exact HO288.out) hb); have n5_ := Aside0.mk (blk_below (g := gb261) (o := .cells #[.slice A0_0 l0_0.length c0_0] 32 (0, 0)) Gv.bk hb); have n6_ := Aside0.mk (blk_below (g := gb262) (o := .cells #[.int .i64 a1_0, .int .i64 a1_1] 23 (0, 0)) Gv.bk hb); have n7_ := Aside0.mk (blk_below (g := gb273) (o := .cells #[.slice Ao51 t269.length co51] 37 (0, 0)) Gv.bk hb); have n8_ := Aside0.mk (blk_below (g := gb277) (o := .cells #[.slice Ao57 t274.length co57] 37 (0, 0)) Gv.bk hb); have n9_ := Aside0.mk (blk_below (g := gb284) (o := .cells #[.slice Ao68 t280.length co68] 37 (0, 0)) Gv.bk hb); have n10_ := Aside0.mk (below_step Gv.bw hb); clear HO266; clear HO271; clear HO276; clear HO282; clear HO288; clear BK261; clear BK262; clear BK273; clear BK277; clear BK284; clear HB; have HO266 := n0_; have HO271 := n1_; have HO276 := n2_; have HO282 := n3_; have HO288 := n4_; have BK261 := n5_; have BK262 := n6_; have BK273 := n7_; have BK277 := n8_; have BK284 := n9_; have HB := n10_; clear n0_ n1_ n2_ n3_ n4_ n5_ n6_ n7_ n8_ n9_ n10_; (try clear hb); (try clear hb2); (try clear hk); (try clear hi)))
             have n0_ := Aside0.mk (Kd.R_drew HO266.out)
             have n1_ := Aside0.mk (Kd.R_drew HO271.out)
             have n2_ := Aside0.mk (Kd.R_drew HO276.out)
             have n3_ := Aside0.mk (Kd.R_drew HO282.out)
             have n4_ := Aside0.mk (Kd.R_drew HO288.out)
             have n5_ := Aside0.mk (blk_drew BK261.out)
             have n6_ := Aside0.mk (blk_drew BK262.out)
             have n7_ := Aside0.mk (blk_drew BK273.out)
             have n8_ := Aside0.mk (blk_drew BK277.out)
             have n9_ := Aside0.mk (blk_drew BK284.out)
             have n10_ := Aside0.mk (below_drew1 HB.out)
             clear HO266 HO271 HO276 HO282 HO288 BK261 BK262 BK273 BK277 BK284 HB
             have HO266 := n0_
             have HO271 := n1_
             have HO276 := n2_
             have HO282 := n3_
             have HO288 := n4_
             have BK261 := n5_
             have BK262 := n6_
             have BK273 := n7_
             have BK277 := n8_
             have BK284 := n9_
             have HB := n10_
             clear n0_ n1_ n2_ n3_ n4_ n5_ n6_ n7_ n8_ n9_ n10_
             refine start_ (n := 11) (S := fun w' => w'.cell? ⟨gb261, 0, none⟩ = some (.slice A0_0 l0_0.length c0_0) ∧ w'.cell? ⟨gb262, 0, none⟩ = some (.int .i64 a1_0) ∧ w'.cell? ⟨gb262, 1, none⟩ = some (.int .i64 a1_1)) (ds := []) #[false, false, false, false, false, false, false, false, false, false, false] (by kernel_rfl) rfl rfl ⟨(blk_cell BK261.out 0).trans rfl, (blk_cell BK262.out 0).trans rfl, (blk_cell BK262.out 1).trans rfl⟩ (fun hHeld => ?_); refine with_tabW laws_FnExactHeapMove.tab24 laws_FnExactHeapMove.bits24 (fun HT_ HW_ => ?_)
             generalize w90.drew = w91 at HO266 HO271 HO276 HO282 HO288 BK261 BK262 BK273 BK277 BK284 HB hHeld ⊢
             refine take_ (i := 0) (N := some 80) (v := ?_) (a' := ?_) #[true, false, false, false, false, false, false, false, false, false, false] rfl rfl (take_ofW HT_.out HW_.out (by kernel_rfl)) (fun _ _ _ h => h) (Or.inl ⟨by rfl, ?_⟩) hHeld ?_ ?_
             rotate_left
             ·rintro w' ⟨s0, s1, s2⟩
              go_simp
              with_reducible rfl
             rotate_left
             ·simp only [Act.put, List.setIfInBounds_toArray, List.set_cons_zero, List.set_cons_succ, i64_w, i32_w]
              rfl
             refine take_ (i := 2) (N := some 82) (v := ?_) (a' := ?_) #[true, false, true, false, false, false, false, false, false, false, false] rfl rfl (take_ofW HT_.out HW_.out (by kernel_rfl)) (fun _ _ _ h => h) (Or.inl ⟨by rfl, ?_⟩) hHeld ?_ ?_
             rotate_left
             ·rintro w' ⟨s0, s1, s2⟩
              go_simp
              with_reducible rfl
             rotate_left
             ·simp only [Act.put, List.setIfInBounds_toArray, List.set_cons_zero, List.set_cons_succ, i64_w, i32_w]
              rfl
             refine join_ (σ := Value × Value × Nat) 2 #[true, true, true, true, true, true, true, true, true, false, false] (fun s_ => [(81, .agg #[s_.1]), (83, .agg #[.int .i64 t299, .int .i64 t300]), (84, .tuple #[.agg #[s_.2.1], .int .i64 t304]), (14, .pointer (some ⟨s_.2.2, 0, none⟩)), (79, .tuple #[.agg #[s_.2.1], .int .i64 t304]), (85, .agg #[s_.2.1]), (86, .int .i64 t304)]) (fun s_ w' => (w'.cell? ⟨gb261, 0, none⟩ = some (.slice A0_0 l0_0.length c0_0) ∧ w'.cell? ⟨gb262, 0, none⟩ = some (.int .i64 a1_0) ∧ w'.cell? ⟨gb262, 1, none⟩ = some (.int .i64 a1_1)) ∧ (Kd.R k25 25 w' w.heap.size (fun k_ => some k_ ≠ (.slice Ao51 t269.length co51 : Value).ownBlock ∧ some k_ ≠ (.slice Ao57 t274.length co57 : Value).ownBlock ∧ some k_ ≠ (.slice Ao68 t280.length co68 : Value).ownBlock ∧ some k_ ≠ (.slice Ao80 t286.length co80 : Value).ownBlock ∧ some k_ ≠ (s_.1 : Value).ownBlock ∧ some k_ ≠ (s_.2.1 : Value).ownBlock) v265 t264) ∧ (Kd.R k25 25 w' w.heap.size (fun k_ => some k_ ≠ (v265 : Value).ownBlock ∧ some k_ ≠ (.slice Ao57 t274.length co57 : Value).ownBlock ∧ some k_ ≠ (.slice Ao68 t280.length co68 : Value).ownBlock ∧ some k_ ≠ (.slice Ao80 t286.length co80 : Value).ownBlock ∧ some k_ ≠ (s_.1 : Value).ownBlock ∧ some k_ ≠ (s_.2.1 : Value).ownBlock) (.slice Ao51 t269.length co51) t269) ∧ (Kd.R k25 25 w' w.heap.size (fun k_ => some k_ ≠ (v265 : Value).ownBlock ∧ some k_ ≠ (.slice Ao51 t269.length co51 : Value).ownBlock ∧ some k_ ≠ (.slice Ao68 t280.length co68 : Value).ownBlock ∧ some k_ ≠ (.slice Ao80 t286.length co80 : Value).ownBlock ∧ some k_ ≠ (s_.1 : Value).ownBlock ∧ some k_ ≠ (s_.2.1 : Value).ownBlock) (.slice Ao57 t274.length co57) t291) ∧ (Kd.R k25 25 w' w.heap.size (fun k_ => some k_ ≠ (v265 : Value).ownBlock ∧ some k_ ≠ (.slice Ao51 t269.length co51 : Value).ownBlock ∧ some k_ ≠ (.slice Ao57 t274.length co57 : Value).ownBlock ∧ some k_ ≠ (.slice Ao80 t286.length co80 : Value).ownBlock ∧ some k_ ≠ (s_.1 : Value).ownBlock ∧ some k_ ≠ (s_.2.1 : Value).ownBlock) (.slice Ao68 t280.length co68) t294) ∧ (Kd.R k25 25 w' w.heap.size (fun k_ => some k_ ≠ (v265 : Value).ownBlock ∧ some k_ ≠ (.slice Ao51 t269.length co51 : Value).ownBlock ∧ some k_ ≠ (.slice Ao57 t274.length co57 : Value).ownBlock ∧ some k_ ≠ (.slice Ao68 t280.length co68 : Value).ownBlock ∧ some k_ ≠ (s_.1 : Value).ownBlock ∧ some k_ ≠ (s_.2.1 : Value).ownBlock) (.slice Ao80 t286.length co80) t286) ∧ (Kd.R k25 25 w' w.heap.size (fun k_ => some k_ ≠ (v265 : Value).ownBlock ∧ some k_ ≠ (.slice Ao51 t269.length co51 : Value).ownBlock ∧ some k_ ≠ (.slice Ao57 t274.length co57 : Value).ownBlock ∧ some k_ ≠ (.slice Ao68 t280.length co68 : Value).ownBlock ∧ some k_ ≠ (.slice Ao80 t286.length co80 : Value).ownBlock ∧ some k_ ≠ (s_.2.1 : Value).ownBlock) s_.1 t296) ∧ (Kd.R k25 25 w' w.heap.size (fun k_ => some k_ ≠ (v265 : Value).ownBlock ∧ some k_ ≠ (.slice Ao51 t269.length co51 : Value).ownBlock ∧ some k_ ≠ (.slice Ao57 t274.length co57 : Value).ownBlock ∧ some k_ ≠ (.slice Ao68 t280.length co68 : Value).ownBlock ∧ some k_ ≠ (.slice Ao80 t286.length co80 : Value).ownBlock ∧ some k_ ≠ (s_.1 : Value).ownBlock) s_.2.1 t301) ∧ (w'.heap[gb261]? = some (.cells #[.slice A0_0 l0_0.length c0_0] 32 (0, 0))) ∧ (w'.heap[gb262]? = some (.cells #[.int .i64 a1_0, .int .i64 a1_1] 23 (0, 0))) ∧ (w'.heap[gb273]? = some (.cells #[.slice Ao51 t269.length co51] 37 (0, 0))) ∧ (w'.heap[gb277]? = some (.cells #[.slice Ao57 t274.length co57] 37 (0, 0))) ∧ (w'.heap[gb284]? = some (.cells #[.slice Ao68 t280.length co68] 37 (0, 0))) ∧ (w'.heap[s_.2.2]? = some (.cells #[.slice none 0 0] 37 (0, 0))) ∧ (w.heap.size ≤ s_.2.2) ∧ (w.heap.size ≤ s_.2.2) ∧ (gb261 ≠ s_.2.2) ∧ (s_.2.2 ≠ gb261) ∧ (gb262 ≠ s_.2.2) ∧ (s_.2.2 ≠ gb262) ∧ (gb273 ≠ s_.2.2) ∧ (s_.2.2 ≠ gb273) ∧ (gb277 ≠ s_.2.2) ∧ (s_.2.2 ≠ gb277) ∧ (gb284 ≠ s_.2.2) ∧ (s_.2.2 ≠ gb284) ∧ (Below w.heap.size w w')) ?_ ?_
             rotate_left
             ·intro hCont
              refine two_ (i := 1) (j := 8) (Ni := some 81) (Nj := some 14) #[true, true, true, false, false, false, false, false, false, false, false] #[true, false, true, false, false, false, false, false, true, false, false] rfl rfl rfl rfl (two_of HT_.out (by kernel_rfl)) (by decide) (by decide) (fun K hK => ?_) (fun K hK => ?_)
              ·skip
               refine goes_ Try.func17 (by kernel_rfl) rfl #[.agg #[.slice A0_0 l0_0.length c0_0]] (by rfl) rfl rfl (by (try simp only [List.map_toArray, List.map_cons, List.map_nil]); first | done | rfl | (simp only [List.length_drop, List.length_take]; rfl)) ?_
               with_reducible refine (laws_toHeap.calls k _ _ l0_0 t296 _ ?side1 ?side2 A30.out).mono ?_
               (case side1 => repeat (first | exact (Kd.C_below HR0_0.out HB.out) | (with_reducible refine Kd.C_alloc ?_ _) | (with_reducible refine Kd.C_drewN ?_ _) | (with_reducible refine Kd.C_drew ?_)))
               (case side2 => exact HC0_0.out)
               rintro e w92 ⟨v297, rfl, ho0, hb⟩
               refine ⟨_, rfl, ?_⟩
               have n0_ := Aside0.mk (Kd.R_elder' HO266.out (Kd.R_base ho0) hb)
               have n1_ := Aside0.mk (Kd.R_elder' HO271.out (Kd.R_base ho0) hb)
               have n2_ := Aside0.mk (Kd.R_elder' HO276.out (Kd.R_base ho0) hb)
               have n3_ := Aside0.mk (Kd.R_elder' HO282.out (Kd.R_base ho0) hb)
               have n4_ := Aside0.mk (Kd.R_elder' HO288.out (Kd.R_base ho0) hb)
               have n5_ := Aside0.mk (Kd.R_lower (Kd.R_new' (Kd.R_new' (Kd.R_new' (Kd.R_new' (Kd.R_new' ho0 (Kd.R_lt HO266.out)) (Kd.R_lt HO271.out)) (Kd.R_lt HO276.out)) (Kd.R_lt HO282.out)) (Kd.R_lt HO288.out)) (below_size HB.out))
               have n6_ := Aside0.mk (blk_below BK261.out hb)
               have n7_ := Aside0.mk (blk_below BK262.out hb)
               have n8_ := Aside0.mk (blk_below BK273.out hb)
               have n9_ := Aside0.mk (blk_below BK277.out hb)
               have n10_ := Aside0.mk (blk_below BK284.out hb)
               have n11_ := Aside0.mk (below_step HB.out hb)
               clear HO266 HO271 HO276 HO282 HO288 BK261 BK262 BK273 BK277 BK284 HB
               have HO266 := n0_
               have HO271 := n1_
               have HO276 := n2_
               have HO282 := n3_
               have HO288 := n4_
               have HO298 := n5_
               have BK261 := n6_
               have BK262 := n7_
               have BK273 := n8_
               have BK277 := n9_
               have BK284 := n10_
               have HB := n11_
               clear n0_ n1_ n2_ n3_ n4_ n5_ n6_ n7_ n8_ n9_ n10_ n11_
               (try clear hb)
               (try clear hb2)
               (try clear hk)
               (try clear hi)
               (try clear ho0)
               refine hK.out _ _ ⟨(blk_cell BK261.out 0).trans rfl, (blk_cell BK262.out 0).trans rfl, (blk_cell BK262.out 1).trans rfl⟩ (fun hHeld => ?_)
               clear hK K
               refine norm_ (a' := ?_) ?_ ?_
               rotate_left
               ·show Act.put _ (some 81) _ = _
                simp only [Act.put, List.setIfInBounds_toArray, List.set_cons_zero, List.set_cons_succ, i64_w, i32_w]
                rfl
               refine two_ (i := 3) (j := 8) (Ni := some 83) (Nj := some 14) #[true, true, true, true, false, false, false, false, false, false, false] #[true, true, true, false, false, false, false, false, true, false, false] rfl rfl rfl rfl (two_of HT_.out (by kernel_rfl)) (by decide) (by decide) (fun K hK => ?_) (fun K hK => ?_)
               ·skip
                refine goes_ Try.func11 (by kernel_rfl) rfl #[.agg #[.int .i64 a1_0, .int .i64 a1_1]] (by rfl) rfl rfl (by (try simp only [List.map_toArray, List.map_cons, List.map_nil]); first | done | rfl | (simp only [List.length_drop, List.length_take]; rfl)) ?_
                with_reducible refine (laws_toItem.calls a1_0 a1_1 t299 t300 _ A31.out).mono ?_
                rintro e w93 ⟨rfl, hb⟩
                refine ⟨_, rfl, ?_⟩
                have n0_ := Aside0.mk (Kd.R_below HO266.out hb)
                have n1_ := Aside0.mk (Kd.R_below HO271.out hb)
                have n2_ := Aside0.mk (Kd.R_below HO276.out hb)
                have n3_ := Aside0.mk (Kd.R_below HO282.out hb)
                have n4_ := Aside0.mk (Kd.R_below HO288.out hb)
                have n5_ := Aside0.mk (Kd.R_below HO298.out hb)
                have n6_ := Aside0.mk (blk_below BK261.out hb)
                have n7_ := Aside0.mk (blk_below BK262.out hb)
                have n8_ := Aside0.mk (blk_below BK273.out hb)
                have n9_ := Aside0.mk (blk_below BK277.out hb)
                have n10_ := Aside0.mk (blk_below BK284.out hb)
                have n11_ := Aside0.mk (below_step HB.out hb)
                clear HO266 HO271 HO276 HO282 HO288 HO298 BK261 BK262 BK273 BK277 BK284 HB
                have HO266 := n0_
                have HO271 := n1_
                have HO276 := n2_
                have HO282 := n3_
                have HO288 := n4_
                have HO298 := n5_
                have BK261 := n6_
                have BK262 := n7_
                have BK273 := n8_
                have BK277 := n9_
                have BK284 := n10_
                have HB := n11_
                clear n0_ n1_ n2_ n3_ n4_ n5_ n6_ n7_ n8_ n9_ n10_ n11_
                (try clear hb)
                (try clear hb2)
                (try clear hk)
                (try clear hi)
                obtain ⟨Ao94, co94, eo94⟩ := Kd.R_slice HO298.out
                (first | subst eo94 | (injection eo94 with f1_ f2_ f3_; have f4_ := f1_.symm; have f5_ := f3_.symm; clear f1_ f2_ f3_; subst f4_; subst f5_))
                refine hK.out _ _ ⟨(blk_cell BK261.out 0).trans rfl, (blk_cell BK262.out 0).trans rfl, (blk_cell BK262.out 1).trans rfl⟩ (fun hHeld => ?_)
                clear hK K
                refine norm_ (a' := ?_) ?_ ?_
                rotate_left
                ·show Act.put _ (some 83) _ = _
                 simp only [Act.put, List.setIfInBounds_toArray, List.set_cons_zero, List.set_cons_succ, i64_w, i32_w]
                 rfl
                refine two_ (i := 4) (j := 8) (Ni := some 84) (Nj := some 14) #[true, true, true, true, true, false, false, false, false, false, false] #[true, true, true, true, false, false, false, false, true, false, false] rfl rfl rfl rfl (two_of HT_.out (by kernel_rfl)) (by decide) (by decide) (fun K hK => ?_) (fun K hK => ?_)
                ·skip
                 refine goes_ Try.func27 (by kernel_rfl) rfl #[.agg #[.slice Ao94 t296.length co94], .agg #[.int .i64 t299, .int .i64 t300]] (by rfl) rfl rfl (by (try simp only [List.map_toArray, List.map_cons, List.map_nil]); first | done | rfl | (simp only [List.length_drop, List.length_take]; rfl)) ?_
                 with_reducible refine (impl_HeapMove.calls k _ _ t296 t299 t300 t301 t304 _ ?side1 ?side2 A32.out).mono ?_
                 (case side1 => repeat (first | exact (Kd.R_reads' HO298.out).2.2 | (with_reducible refine Kd.C_alloc ?_ _) | (with_reducible refine Kd.C_drewN ?_ _) | (with_reducible refine Kd.C_drew ?_)))
                 (case side2 => exact (Kd.R_reads' HO298.out).2.1)
                 rintro e w95 ⟨v302, rfl, ho0, hb⟩
                 refine ⟨_, rfl, ?_⟩
                 have n0_ := Aside0.mk (Kd.R_elder' HO266.out (Kd.R_base ho0) hb)
                 have n1_ := Aside0.mk (Kd.R_elder' HO271.out (Kd.R_base ho0) hb)
                 have n2_ := Aside0.mk (Kd.R_elder' HO276.out (Kd.R_base ho0) hb)
                 have n3_ := Aside0.mk (Kd.R_elder' HO282.out (Kd.R_base ho0) hb)
                 have n4_ := Aside0.mk (Kd.R_elder' HO288.out (Kd.R_base ho0) hb)
                 have n5_ := Aside0.mk (Kd.R_elder' HO298.out (Kd.R_base ho0) hb)
                 have n6_ := Aside0.mk (Kd.R_lower (Kd.R_new' (Kd.R_new' (Kd.R_new' (Kd.R_new' (Kd.R_new' (Kd.R_new' ho0 (Kd.R_lt HO266.out)) (Kd.R_lt HO271.out)) (Kd.R_lt HO276.out)) (Kd.R_lt HO282.out)) (Kd.R_lt HO288.out)) (Kd.R_lt HO298.out)) (below_size HB.out))
                 have n7_ := Aside0.mk (blk_below BK261.out hb)
                 have n8_ := Aside0.mk (blk_below BK262.out hb)
                 have n9_ := Aside0.mk (blk_below BK273.out hb)
                 have n10_ := Aside0.mk (blk_below BK277.out hb)
                 have n11_ := Aside0.mk (blk_below BK284.out hb)
                 have n12_ := Aside0.mk (below_step HB.out hb)
                 clear HO266 HO271 HO276 HO282 HO288 HO298 BK261 BK262 BK273 BK277 BK284 HB
                 have HO266 := n0_
                 have HO271 := n1_
                 have HO276 := n2_
                 have HO282 := n3_
                 have HO288 := n4_
                 have HO298 := n5_
                 have HO303 := n6_
                 have BK261 := n7_
                 have BK262 := n8_
                 have BK273 := n9_
                 have BK277 := n10_
                 have BK284 := n11_
                 have HB := n12_
                 clear n0_ n1_ n2_ n3_ n4_ n5_ n6_ n7_ n8_ n9_ n10_ n11_ n12_
                 (try clear hb)
                 (try clear hb2)
                 (try clear hk)
                 (try clear hi)
                 (try clear ho0)
                 refine hK.out _ _ ⟨(blk_cell BK261.out 0).trans rfl, (blk_cell BK262.out 0).trans rfl, (blk_cell BK262.out 1).trans rfl⟩ (fun hHeld => ?_)
                 clear hK K
                 refine norm_ (a' := ?_) ?_ ?_
                 rotate_left
                 ·show Act.put _ (some 84) _ = _
                  simp only [Act.put, List.setIfInBounds_toArray, List.set_cons_zero, List.set_cons_succ, i64_w, i32_w]
                  rfl
                 refine pure_ (i := 5) (N := some 79) (v := ?_) (a' := ?_) #[true, true, true, true, true, true, false, false, false, false, false] rfl rfl (any_of HT_.out (by kernel_rfl)) (fun _ _ _ h => h) (Or.inl ⟨by rfl, ?_⟩) ?_ ?_
                 rotate_left
                 ·intro w'
                  go_simp
                  with_reducible rfl
                 rotate_left
                 ·simp only [Act.put, List.setIfInBounds_toArray, List.set_cons_zero, List.set_cons_succ, i64_w, i32_w]
                  rfl
                 refine pure_ (i := 6) (N := some 85) (v := ?_) (a' := ?_) #[true, true, true, true, true, true, true, false, false, false, false] rfl rfl (any_of HT_.out (by kernel_rfl)) (fun _ _ _ h => h) (Or.inl ⟨by rfl, ?_⟩) ?_ ?_
                 rotate_left
                 ·intro w'
                  go_simp
                  with_reducible rfl
                 rotate_left
                 ·simp only [Act.put, List.setIfInBounds_toArray, List.set_cons_zero, List.set_cons_succ, i64_w, i32_w]
                  rfl
                 refine pure_ (i := 7) (N := some 86) (v := ?_) (a' := ?_) #[true, true, true, true, true, true, true, true, false, false, false] rfl rfl (any_of HT_.out (by kernel_rfl)) (fun _ _ _ h => h) (Or.inl ⟨by rfl, ?_⟩) ?_ ?_
                 rotate_left
                 ·intro w'
                  go_simp
                  with_reducible rfl
                 rotate_left
                 ·simp only [Act.put, List.setIfInBounds_toArray, List.set_cons_zero, List.set_cons_succ, i64_w, i32_w]
                  rfl
                 refine one_ (i := 8) (N := some 14) #[true, true, true, true, true, true, true, true, true, false, false] rfl rfl (one_of HT_.out (by kernel_rfl)) (by decide) (fun K hK => ?_)
                 refine box_step ?hg (N := 14) ?hd (cs := #[.slice none 0 0]) (t := 37) ?hr ?_; (case hd => rfl); (case hg => rfl); (case hr => first | (go_simp; done) | (go_simp; rfl))
                 intro gb305 hg w96 hbox hb
                 have n0_ := Aside0.mk (Kd.R_below HO266.out hb)
                 have n1_ := Aside0.mk (Kd.R_below HO271.out hb)
                 have n2_ := Aside0.mk (Kd.R_below HO276.out hb)
                 have n3_ := Aside0.mk (Kd.R_below HO282.out hb)
                 have n4_ := Aside0.mk (Kd.R_below HO288.out hb)
                 have n5_ := Aside0.mk (Kd.R_below HO298.out hb)
                 have n6_ := Aside0.mk (Kd.R_below HO303.out hb)
                 have n7_ := Aside0.mk (blk_below BK261.out hb)
                 have n8_ := Aside0.mk (blk_below BK262.out hb)
                 have n9_ := Aside0.mk (blk_below BK273.out hb)
                 have n10_ := Aside0.mk (blk_below BK277.out hb)
                 have n11_ := Aside0.mk (blk_below BK284.out hb)
                 have n12_ := Aside0.mk (below_step HB.out hb)
                 have n13_ := Aside0.mk (hbox)
                 have n14_ := Aside0.mk ((by rw [hg]; exact (below_size HB.out) : w.heap.size ≤ gb305))
                 have n15_ := Aside0.mk ((by rw [hg]; exact (below_size HB.out) : w.heap.size ≤ gb305))
                 have n16_ := Aside0.mk ((by rw [hg]; exact Nat.ne_of_lt (blk_lt BK261.out) : gb261 ≠ gb305))
                 have n17_ := Aside0.mk ((by rw [hg]; exact Nat.ne_of_gt (blk_lt BK261.out) : gb305 ≠ gb261))
                 have n18_ := Aside0.mk ((by rw [hg]; exact Nat.ne_of_lt (blk_lt BK262.out) : gb262 ≠ gb305))
                 have n19_ := Aside0.mk ((by rw [hg]; exact Nat.ne_of_gt (blk_lt BK262.out) : gb305 ≠ gb262))
                 have n20_ := Aside0.mk ((by rw [hg]; exact Nat.ne_of_lt (blk_lt BK273.out) : gb273 ≠ gb305))
                 have n21_ := Aside0.mk ((by rw [hg]; exact Nat.ne_of_gt (blk_lt BK273.out) : gb305 ≠ gb273))
                 have n22_ := Aside0.mk ((by rw [hg]; exact Nat.ne_of_lt (blk_lt BK277.out) : gb277 ≠ gb305))
                 have n23_ := Aside0.mk ((by rw [hg]; exact Nat.ne_of_gt (blk_lt BK277.out) : gb305 ≠ gb277))
                 have n24_ := Aside0.mk ((by rw [hg]; exact Nat.ne_of_lt (blk_lt BK284.out) : gb284 ≠ gb305))
                 have n25_ := Aside0.mk ((by rw [hg]; exact Nat.ne_of_gt (blk_lt BK284.out) : gb305 ≠ gb284))
                 clear HO266 HO271 HO276 HO282 HO288 HO298 HO303 BK261 BK262 BK273 BK277 BK284 HB
                 have HO266 := n0_
                 have HO271 := n1_
                 have HO276 := n2_
                 have HO282 := n3_
                 have HO288 := n4_
                 have HO298 := n5_
                 have HO303 := n6_
                 have BK261 := n7_
                 have BK262 := n8_
                 have BK273 := n9_
                 have BK277 := n10_
                 have BK284 := n11_
                 have HB := n12_
                 have BK305 := n13_
                 have GW305 := n14_
                 have GE305 := n15_
                 have NB261_305 := n16_
                 have NB305_261 := n17_
                 have NB262_305 := n18_
                 have NB305_262 := n19_
                 have NB273_305 := n20_
                 have NB305_273 := n21_
                 have NB277_305 := n22_
                 have NB305_277 := n23_
                 have NB284_305 := n24_
                 have NB305_284 := n25_
                 clear n0_ n1_ n2_ n3_ n4_ n5_ n6_ n7_ n8_ n9_ n10_ n11_ n12_ n13_ n14_ n15_ n16_ n17_ n18_ n19_ n20_ n21_ n22_ n23_ n24_ n25_
                 clear hb hbox hg
                 refine hK.out _ _ ⟨(blk_cell BK261.out 0).trans rfl, (blk_cell BK262.out 0).trans rfl, (blk_cell BK262.out 1).trans rfl⟩ (fun hHeld => ?_)
                 clear hK K
                 refine norm_ (a' := ?_) ?_ ?_
                 rotate_left
                 ·show Act.put _ (some 14) _ = _
                  simp only [Act.put, List.setIfInBounds_toArray, List.set_cons_zero, List.set_cons_succ, i64_w, i32_w]
                  rfl
                 exact norm_ (by simp only [putAll, Act.put, List.setIfInBounds_toArray, List.set_cons_zero, List.set_cons_succ]) (hCont (.slice Ao94 t296.length co94, v302, gb305) _ ⟨hHeld, (by (with_reducible repeat (first | apply Kd.R_alloc | apply Kd.R_drewN | apply Kd.R_drew)); exact Kd.R_mono HO266.out (fun _ hk => ⟨hk.1.1.1, ⟨hk.1.1.2.1, ⟨hk.1.1.2.2.1, ⟨hk.1.1.2.2.2, ⟨hk.1.2, hk.2⟩⟩⟩⟩⟩)), (by (with_reducible repeat (first | apply Kd.R_alloc | apply Kd.R_drewN | apply Kd.R_drew)); exact Kd.R_mono HO271.out (fun _ hk => ⟨hk.1.1.1, ⟨hk.1.1.2.1, ⟨hk.1.1.2.2.1, ⟨hk.1.1.2.2.2, ⟨hk.1.2, hk.2⟩⟩⟩⟩⟩)), (by (with_reducible repeat (first | apply Kd.R_alloc | apply Kd.R_drewN | apply Kd.R_drew)); exact Kd.R_mono HO276.out (fun _ hk => ⟨hk.1.1.1, ⟨hk.1.1.2.1, ⟨hk.1.1.2.2.1, ⟨hk.1.1.2.2.2, ⟨hk.1.2, hk.2⟩⟩⟩⟩⟩)), (by (with_reducible repeat (first | apply Kd.R_alloc | apply Kd.R_drewN | apply Kd.R_drew)); exact Kd.R_mono HO282.out (fun _ hk => ⟨hk.1.1.1, ⟨hk.1.1.2.1, ⟨hk.1.1.2.2.1, ⟨hk.1.1.2.2.2, ⟨hk.1.2, hk.2⟩⟩⟩⟩⟩)), (by (with_reducible repeat (first | apply Kd.R_alloc | apply Kd.R_drewN | apply Kd.R_drew)); exact Kd.R_mono HO288.out (fun _ hk => ⟨hk.1.1.1, ⟨hk.1.1.2.1, ⟨hk.1.1.2.2.1, ⟨hk.1.1.2.2.2, ⟨hk.1.2, hk.2⟩⟩⟩⟩⟩)), (by (with_reducible repeat (first | apply Kd.R_alloc | apply Kd.R_drewN | apply Kd.R_drew)); exact Kd.R_mono HO298.out (fun _ hk => ⟨hk.1.1.1.1.1.2, ⟨hk.1.1.1.1.2, ⟨hk.1.1.1.2, ⟨hk.1.1.2, ⟨hk.1.2, hk.2⟩⟩⟩⟩⟩)), (by (with_reducible repeat (first | apply Kd.R_alloc | apply Kd.R_drewN | apply Kd.R_drew)); exact Kd.R_mono HO303.out (fun _ hk => ⟨hk.1.1.1.1.1.2, ⟨hk.1.1.1.1.2, ⟨hk.1.1.1.2, ⟨hk.1.1.2, ⟨hk.1.2, hk.2⟩⟩⟩⟩⟩)), BK261.out, BK262.out, BK273.out, BK277.out, BK284.out, BK305.out, GW305.out, GE305.out, NB261_305.out, NB305_261.out, NB262_305.out, NB305_262.out, NB273_305.out, NB305_273.out, NB277_305.out, NB305_277.out, NB284_305.out, NB305_284.out, HB.out⟩)
                ·skip
                 refine box_step ?hg (N := 14) ?hd (cs := #[.slice none 0 0]) (t := 37) ?hr ?_; (case hd => rfl); (case hg => rfl); (case hr => first | (go_simp; done) | (go_simp; rfl))
                 intro gb305 hg w94 hbox hb
                 have n0_ := Aside0.mk (Kd.R_below HO266.out hb)
                 have n1_ := Aside0.mk (Kd.R_below HO271.out hb)
                 have n2_ := Aside0.mk (Kd.R_below HO276.out hb)
                 have n3_ := Aside0.mk (Kd.R_below HO282.out hb)
                 have n4_ := Aside0.mk (Kd.R_below HO288.out hb)
                 have n5_ := Aside0.mk (Kd.R_below HO298.out hb)
                 have n6_ := Aside0.mk (blk_below BK261.out hb)
                 have n7_ := Aside0.mk (blk_below BK262.out hb)
                 have n8_ := Aside0.mk (blk_below BK273.out hb)
                 have n9_ := Aside0.mk (blk_below BK277.out hb)
                 have n10_ := Aside0.mk (blk_below BK284.out hb)
                 have n11_ := Aside0.mk (below_step HB.out hb)
                 have n12_ := Aside0.mk (hbox)
                 have n13_ := Aside0.mk ((by rw [hg]; exact (below_size HB.out) : w.heap.size ≤ gb305))
                 have n14_ := Aside0.mk ((by rw [hg]; exact (below_size HB.out) : w.heap.size ≤ gb305))
                 have n15_ := Aside0.mk ((by rw [hg]; exact Nat.ne_of_lt (blk_lt BK261.out) : gb261 ≠ gb305))
                 have n16_ := Aside0.mk ((by rw [hg]; exact Nat.ne_of_gt (blk_lt BK261.out) : gb305 ≠ gb261))
                 have n17_ := Aside0.mk ((by rw [hg]; exact Nat.ne_of_lt (blk_lt BK262.out) : gb262 ≠ gb305))
                 have n18_ := Aside0.mk ((by rw [hg]; exact Nat.ne_of_gt (blk_lt BK262.out) : gb305 ≠ gb262))
                 have n19_ := Aside0.mk ((by rw [hg]; exact Nat.ne_of_lt (blk_lt BK273.out) : gb273 ≠ gb305))
                 have n20_ := Aside0.mk ((by rw [hg]; exact Nat.ne_of_gt (blk_lt BK273.out) : gb305 ≠ gb273))
                 have n21_ := Aside0.mk ((by rw [hg]; exact Nat.ne_of_lt (blk_lt BK277.out) : gb277 ≠ gb305))
                 have n22_ := Aside0.mk ((by rw [hg]; exact Nat.ne_of_gt (blk_lt BK277.out) : gb305 ≠ gb277))
                 have n23_ := Aside0.mk ((by rw [hg]; exact Nat.ne_of_lt (blk_lt BK284.out) : gb284 ≠ gb305))
                 have n24_ := Aside0.mk ((by rw [hg]; exact Nat.ne_of_gt (blk_lt BK284.out) : gb305 ≠ gb284))
                 clear HO266 HO271 HO276 HO282 HO288 HO298 BK261 BK262 BK273 BK277 BK284 HB
                 have HO266 := n0_
                 have HO271 := n1_
                 have HO276 := n2_
                 have HO282 := n3_
                 have HO288 := n4_
                 have HO298 := n5_
                 have BK261 := n6_
                 have BK262 := n7_
                 have BK273 := n8_
                 have BK277 := n9_
                 have BK284 := n10_
                 have HB := n11_
                 have BK305 := n12_
                 have GW305 := n13_
                 have GE305 := n14_
                 have NB261_305 := n15_
                 have NB305_261 := n16_
                 have NB262_305 := n17_
                 have NB305_262 := n18_
                 have NB273_305 := n19_
                 have NB305_273 := n20_
                 have NB277_305 := n21_
                 have NB305_277 := n22_
                 have NB284_305 := n23_
                 have NB305_284 := n24_
                 clear n0_ n1_ n2_ n3_ n4_ n5_ n6_ n7_ n8_ n9_ n10_ n11_ n12_ n13_ n14_ n15_ n16_ n17_ n18_ n19_ n20_ n21_ n22_ n23_ n24_
                 clear hb hbox hg
                 obtain ⟨Ao95, co95, eo95⟩ := Kd.R_slice HO298.out
                 (first | subst eo95 | (injection eo95 with f1_ f2_ f3_; have f4_ := f1_.symm; have f5_ := f3_.symm; clear f1_ f2_ f3_; subst f4_; subst f5_))
                 refine hK.out _ _ ⟨(blk_cell BK261.out 0).trans rfl, (blk_cell BK262.out 0).trans rfl, (blk_cell BK262.out 1).trans rfl⟩ (fun hHeld => ?_)
                 clear hK K
                 refine norm_ (a' := ?_) ?_ ?_
                 rotate_left
                 ·show Act.put _ (some 14) _ = _
                  simp only [Act.put, List.setIfInBounds_toArray, List.set_cons_zero, List.set_cons_succ, i64_w, i32_w]
                  rfl
                 refine one_ (i := 4) (N := some 84) #[true, true, true, true, true, false, false, false, true, false, false] rfl rfl (one_of HT_.out (by kernel_rfl)) (by decide) (fun K hK => ?_)
                 refine goes_ Try.func27 (by kernel_rfl) rfl #[.agg #[.slice Ao95 t296.length co95], .agg #[.int .i64 t299, .int .i64 t300]] (by rfl) rfl rfl (by (try simp only [List.map_toArray, List.map_cons, List.map_nil]); first | done | rfl | (simp only [List.length_drop, List.length_take]; rfl)) ?_
                 with_reducible refine (impl_HeapMove.calls k _ _ t296 t299 t300 t301 t304 _ ?side1 ?side2 A32.out).mono ?_
                 (case side1 => repeat (first | exact (Kd.R_reads' HO298.out).2.2 | (with_reducible refine Kd.C_alloc ?_ _) | (with_reducible refine Kd.C_drewN ?_ _) | (with_reducible refine Kd.C_drew ?_)))
                 (case side2 => exact (Kd.R_reads' HO298.out).2.1)
                 rintro e w96 ⟨v302, rfl, ho0, hb⟩
                 refine ⟨_, rfl, ?_⟩
                 have n0_ := Aside0.mk (Kd.R_elder' HO266.out (Kd.R_base ho0) hb)
                 have n1_ := Aside0.mk (Kd.R_elder' HO271.out (Kd.R_base ho0) hb)
                 have n2_ := Aside0.mk (Kd.R_elder' HO276.out (Kd.R_base ho0) hb)
                 have n3_ := Aside0.mk (Kd.R_elder' HO282.out (Kd.R_base ho0) hb)
                 have n4_ := Aside0.mk (Kd.R_elder' HO288.out (Kd.R_base ho0) hb)
                 have n5_ := Aside0.mk (Kd.R_elder' HO298.out (Kd.R_base ho0) hb)
                 have n6_ := Aside0.mk (Kd.R_lower (Kd.R_new' (Kd.R_new' (Kd.R_new' (Kd.R_new' (Kd.R_new' (Kd.R_new' ho0 (Kd.R_lt HO266.out)) (Kd.R_lt HO271.out)) (Kd.R_lt HO276.out)) (Kd.R_lt HO282.out)) (Kd.R_lt HO288.out)) (Kd.R_lt HO298.out)) (below_size HB.out))
                 have n7_ := Aside0.mk (blk_below BK261.out hb)
                 have n8_ := Aside0.mk (blk_below BK262.out hb)
                 have n9_ := Aside0.mk (blk_below BK273.out hb)
                 have n10_ := Aside0.mk (blk_below BK277.out hb)
                 have n11_ := Aside0.mk (blk_below BK284.out hb)
                 have n12_ := Aside0.mk (blk_below BK305.out hb)
                 have n13_ := Aside0.mk (below_step HB.out hb)
                 clear HO266 HO271 HO276 HO282 HO288 HO298 BK261 BK262 BK273 BK277 BK284 BK305 HB
                 have HO266 := n0_
                 have HO271 := n1_
                 have HO276 := n2_
                 have HO282 := n3_
                 have HO288 := n4_
                 have HO298 := n5_
                 have HO303 := n6_
                 have BK261 := n7_
                 have BK262 := n8_
                 have BK273 := n9_
                 have BK277 := n10_
                 have BK284 := n11_
                 have BK305 := n12_
                 have HB := n13_
                 clear n0_ n1_ n2_ n3_ n4_ n5_ n6_ n7_ n8_ n9_ n10_ n11_ n12_ n13_
                 (try clear hb)
                 (try clear hb2)
                 (try clear hk)
                 (try clear hi)
                 (try clear ho0)
                 refine hK.out _ _ ⟨(blk_cell BK261.out 0).trans rfl, (blk_cell BK262.out 0).trans rfl, (blk_cell BK262.out 1).trans rfl⟩ (fun hHeld => ?_)
                 clear hK K
                 refine norm_ (a' := ?_) ?_ ?_
                 rotate_left
                 ·show Act.put _ (some 84) _ = _
                  simp only [Act.put, List.setIfInBounds_toArray, List.set_cons_zero, List.set_cons_succ, i64_w, i32_w]
                  rfl
                 refine pure_ (i := 5) (N := some 79) (v := ?_) (a' := ?_) #[true, true, true, true, true, true, false, false, true, false, false] rfl rfl (any_of HT_.out (by kernel_rfl)) (fun _ _ _ h => h) (Or.inl ⟨by rfl, ?_⟩) ?_ ?_
                 rotate_left
                 ·intro w'
                  go_simp
                  with_reducible rfl
                 rotate_left
                 ·simp only [Act.put, List.setIfInBounds_toArray, List.set_cons_zero, List.set_cons_succ, i64_w, i32_w]
                  rfl
                 refine pure_ (i := 6) (N := some 85) (v := ?_) (a' := ?_) #[true, true, true, true, true, true, true, false, true, false, false] rfl rfl (any_of HT_.out (by kernel_rfl)) (fun _ _ _ h => h) (Or.inl ⟨by rfl, ?_⟩) ?_ ?_
                 rotate_left
                 ·intro w'
                  go_simp
                  with_reducible rfl
                 rotate_left
                 ·simp only [Act.put, List.setIfInBounds_toArray, List.set_cons_zero, List.set_cons_succ, i64_w, i32_w]
                  rfl
                 refine pure_ (i := 7) (N := some 86) (v := ?_) (a' := ?_) #[true, true, true, true, true, true, true, true, true, false, false] rfl rfl (any_of HT_.out (by kernel_rfl)) (fun _ _ _ h => h) (Or.inl ⟨by rfl, ?_⟩) ?_ ?_
                 rotate_left
                 ·intro w'
                  go_simp
                  with_reducible rfl
                 rotate_left
                 ·simp only [Act.put, List.setIfInBounds_toArray, List.set_cons_zero, List.set_cons_succ, i64_w, i32_w]
                  rfl
                 exact norm_ (by simp only [putAll, Act.put, List.setIfInBounds_toArray, List.set_cons_zero, List.set_cons_succ]) (hCont (.slice Ao95 t296.length co95, v302, gb305) _ ⟨hHeld, (by (with_reducible repeat (first | apply Kd.R_alloc | apply Kd.R_drewN | apply Kd.R_drew)); exact Kd.R_mono HO266.out (fun _ hk => ⟨hk.1.1.1, ⟨hk.1.1.2.1, ⟨hk.1.1.2.2.1, ⟨hk.1.1.2.2.2, ⟨hk.1.2, hk.2⟩⟩⟩⟩⟩)), (by (with_reducible repeat (first | apply Kd.R_alloc | apply Kd.R_drewN | apply Kd.R_drew)); exact Kd.R_mono HO271.out (fun _ hk => ⟨hk.1.1.1, ⟨hk.1.1.2.1, ⟨hk.1.1.2.2.1, ⟨hk.1.1.2.2.2, ⟨hk.1.2, hk.2⟩⟩⟩⟩⟩)), (by (with_reducible repeat (first | apply Kd.R_alloc | apply Kd.R_drewN | apply Kd.R_drew)); exact Kd.R_mono HO276.out (fun _ hk => ⟨hk.1.1.1, ⟨hk.1.1.2.1, ⟨hk.1.1.2.2.1, ⟨hk.1.1.2.2.2, ⟨hk.1.2, hk.2⟩⟩⟩⟩⟩)), (by (with_reducible repeat (first | apply Kd.R_alloc | apply Kd.R_drewN | apply Kd.R_drew)); exact Kd.R_mono HO282.out (fun _ hk => ⟨hk.1.1.1, ⟨hk.1.1.2.1, ⟨hk.1.1.2.2.1, ⟨hk.1.1.2.2.2, ⟨hk.1.2, hk.2⟩⟩⟩⟩⟩)), (by (with_reducible repeat (first | apply Kd.R_alloc | apply Kd.R_drewN | apply Kd.R_drew)); exact Kd.R_mono HO288.out (fun _ hk => ⟨hk.1.1.1, ⟨hk.1.1.2.1, ⟨hk.1.1.2.2.1, ⟨hk.1.1.2.2.2, ⟨hk.1.2, hk.2⟩⟩⟩⟩⟩)), (by (with_reducible repeat (first | apply Kd.R_alloc | apply Kd.R_drewN | apply Kd.R_drew)); exact Kd.R_mono HO298.out (fun _ hk => ⟨hk.1.1.1.1.1.2, ⟨hk.1.1.1.1.2, ⟨hk.1.1.1.2, ⟨hk.1.1.2, ⟨hk.1.2, hk.2⟩⟩⟩⟩⟩)), (by (with_reducible repeat (first | apply Kd.R_alloc | apply Kd.R_drewN | apply Kd.R_drew)); exact Kd.R_mono HO303.out (fun _ hk => ⟨hk.1.1.1.1.1.2, ⟨hk.1.1.1.1.2, ⟨hk.1.1.1.2, ⟨hk.1.1.2, ⟨hk.1.2, hk.2⟩⟩⟩⟩⟩)), BK261.out, BK262.out, BK273.out, BK277.out, BK284.out, BK305.out, GW305.out, GE305.out, NB261_305.out, NB305_261.out, NB262_305.out, NB305_262.out, NB273_305.out, NB305_273.out, NB277_305.out, NB305_277.out, NB284_305.out, NB305_284.out, HB.out⟩)
               ·skip
                refine box_step ?hg (N := 14) ?hd (cs := #[.slice none 0 0]) (t := 37) ?hr ?_; (case hd => rfl); (case hg => rfl); (case hr => first | (go_simp; done) | (go_simp; rfl))
                intro gb305 hg w93 hbox hb
                have n0_ := Aside0.mk (Kd.R_below HO266.out hb)
                have n1_ := Aside0.mk (Kd.R_below HO271.out hb)
                have n2_ := Aside0.mk (Kd.R_below HO276.out hb)
                have n3_ := Aside0.mk (Kd.R_below HO282.out hb)
                have n4_ := Aside0.mk (Kd.R_below HO288.out hb)
                have n5_ := Aside0.mk (Kd.R_below HO298.out hb)
                have n6_ := Aside0.mk (blk_below BK261.out hb)
                have n7_ := Aside0.mk (blk_below BK262.out hb)
                have n8_ := Aside0.mk (blk_below BK273.out hb)
                have n9_ := Aside0.mk (blk_below BK277.out hb)
                have n10_ := Aside0.mk (blk_below BK284.out hb)
                have n11_ := Aside0.mk (below_step HB.out hb)
                have n12_ := Aside0.mk (hbox)
                have n13_ := Aside0.mk ((by rw [hg]; exact (below_size HB.out) : w.heap.size ≤ gb305))
                have n14_ := Aside0.mk ((by rw [hg]; exact (below_size HB.out) : w.heap.size ≤ gb305))
                have n15_ := Aside0.mk ((by rw [hg]; exact Nat.ne_of_lt (blk_lt BK261.out) : gb261 ≠ gb305))
                have n16_ := Aside0.mk ((by rw [hg]; exact Nat.ne_of_gt (blk_lt BK261.out) : gb305 ≠ gb261))
                have n17_ := Aside0.mk ((by rw [hg]; exact Nat.ne_of_lt (blk_lt BK262.out) : gb262 ≠ gb305))
                have n18_ := Aside0.mk ((by rw [hg]; exact Nat.ne_of_gt (blk_lt BK262.out) : gb305 ≠ gb262))
                have n19_ := Aside0.mk ((by rw [hg]; exact Nat.ne_of_lt (blk_lt BK273.out) : gb273 ≠ gb305))
                have n20_ := Aside0.mk ((by rw [hg]; exact Nat.ne_of_gt (blk_lt BK273.out) : gb305 ≠ gb273))
                have n21_ := Aside0.mk ((by rw [hg]; exact Nat.ne_of_lt (blk_lt BK277.out) : gb277 ≠ gb305))
                have n22_ := Aside0.mk ((by rw [hg]; exact Nat.ne_of_gt (blk_lt BK277.out) : gb305 ≠ gb277))
                have n23_ := Aside0.mk ((by rw [hg]; exact Nat.ne_of_lt (blk_lt BK284.out) : gb284 ≠ gb305))
                have n24_ := Aside0.mk ((by rw [hg]; exact Nat.ne_of_gt (blk_lt BK284.out) : gb305 ≠ gb284))
                clear HO266 HO271 HO276 HO282 HO288 HO298 BK261 BK262 BK273 BK277 BK284 HB
                have HO266 := n0_
                have HO271 := n1_
                have HO276 := n2_
                have HO282 := n3_
                have HO288 := n4_
                have HO298 := n5_
                have BK261 := n6_
                have BK262 := n7_
                have BK273 := n8_
                have BK277 := n9_
                have BK284 := n10_
                have HB := n11_
                have BK305 := n12_
                have GW305 := n13_
                have GE305 := n14_
                have NB261_305 := n15_
                have NB305_261 := n16_
                have NB262_305 := n17_
                have NB305_262 := n18_
                have NB273_305 := n19_
                have NB305_273 := n20_
                have NB277_305 := n21_
                have NB305_277 := n22_
                have NB284_305 := n23_
                have NB305_284 := n24_
                clear n0_ n1_ n2_ n3_ n4_ n5_ n6_ n7_ n8_ n9_ n10_ n11_ n12_ n13_ n14_ n15_ n16_ n17_ n18_ n19_ n20_ n21_ n22_ n23_ n24_
                clear hb hbox hg
                refine hK.out _ _ ⟨(blk_cell BK261.out 0).trans rfl, (blk_cell BK262.out 0).trans rfl, (blk_cell BK262.out 1).trans rfl⟩ (fun hHeld => ?_)
                clear hK K
                refine norm_ (a' := ?_) ?_ ?_
                rotate_left
                ·show Act.put _ (some 14) _ = _
                 simp only [Act.put, List.setIfInBounds_toArray, List.set_cons_zero, List.set_cons_succ, i64_w, i32_w]
                 rfl
                refine one_ (i := 3) (N := some 83) #[true, true, true, true, false, false, false, false, true, false, false] rfl rfl (one_of HT_.out (by kernel_rfl)) (by decide) (fun K hK => ?_)
                refine goes_ Try.func11 (by kernel_rfl) rfl #[.agg #[.int .i64 a1_0, .int .i64 a1_1]] (by rfl) rfl rfl (by (try simp only [List.map_toArray, List.map_cons, List.map_nil]); first | done | rfl | (simp only [List.length_drop, List.length_take]; rfl)) ?_
                with_reducible refine (laws_toItem.calls a1_0 a1_1 t299 t300 _ A31.out).mono ?_
                rintro e w94 ⟨rfl, hb⟩
                refine ⟨_, rfl, ?_⟩
                have n0_ := Aside0.mk (Kd.R_below HO266.out hb)
                have n1_ := Aside0.mk (Kd.R_below HO271.out hb)
                have n2_ := Aside0.mk (Kd.R_below HO276.out hb)
                have n3_ := Aside0.mk (Kd.R_below HO282.out hb)
                have n4_ := Aside0.mk (Kd.R_below HO288.out hb)
                have n5_ := Aside0.mk (Kd.R_below HO298.out hb)
                have n6_ := Aside0.mk (blk_below BK261.out hb)
                have n7_ := Aside0.mk (blk_below BK262.out hb)
                have n8_ := Aside0.mk (blk_below BK273.out hb)
                have n9_ := Aside0.mk (blk_below BK277.out hb)
                have n10_ := Aside0.mk (blk_below BK284.out hb)
                have n11_ := Aside0.mk (blk_below BK305.out hb)
                have n12_ := Aside0.mk (below_step HB.out hb)
                clear HO266 HO271 HO276 HO282 HO288 HO298 BK261 BK262 BK273 BK277 BK284 BK305 HB
                have HO266 := n0_
                have HO271 := n1_
                have HO276 := n2_
                have HO282 := n3_
                have HO288 := n4_
                have HO298 := n5_
                have BK261 := n6_
                have BK262 := n7_
                have BK273 := n8_
                have BK277 := n9_
                have BK284 := n10_
                have BK305 := n11_
                have HB := n12_
                clear n0_ n1_ n2_ n3_ n4_ n5_ n6_ n7_ n8_ n9_ n10_ n11_ n12_
                (try clear hb)
                (try clear hb2)
                (try clear hk)
                (try clear hi)
                obtain ⟨Ao95, co95, eo95⟩ := Kd.R_slice HO298.out
                (first | subst eo95 | (injection eo95 with f1_ f2_ f3_; have f4_ := f1_.symm; have f5_ := f3_.symm; clear f1_ f2_ f3_; subst f4_; subst f5_))
                refine hK.out _ _ ⟨(blk_cell BK261.out 0).trans rfl, (blk_cell BK262.out 0).trans rfl, (blk_cell BK262.out 1).trans rfl⟩ (fun hHeld => ?_)
                clear hK K
                refine norm_ (a' := ?_) ?_ ?_
                rotate_left
                ·show Act.put _ (some 83) _ = _
                 simp only [Act.put, List.setIfInBounds_toArray, List.set_cons_zero, List.set_cons_succ, i64_w, i32_w]
                 rfl
                refine one_ (i := 4) (N := some 84) #[true, true, true, true, true, false, false, false, true, false, false] rfl rfl (one_of HT_.out (by kernel_rfl)) (by decide) (fun K hK => ?_)
                refine goes_ Try.func27 (by kernel_rfl) rfl #[.agg #[.slice Ao95 t296.length co95], .agg #[.int .i64 t299, .int .i64 t300]] (by rfl) rfl rfl (by (try simp only [List.map_toArray, List.map_cons, List.map_nil]); first | done | rfl | (simp only [List.length_drop, List.length_take]; rfl)) ?_
                with_reducible refine (impl_HeapMove.calls k _ _ t296 t299 t300 t301 t304 _ ?side1 ?side2 A32.out).mono ?_
                (case side1 => repeat (first | exact (Kd.R_reads' HO298.out).2.2 | (with_reducible refine Kd.C_alloc ?_ _) | (with_reducible refine Kd.C_drewN ?_ _) | (with_reducible refine Kd.C_drew ?_)))
                (case side2 => exact (Kd.R_reads' HO298.out).2.1)
                rintro e w96 ⟨v302, rfl, ho0, hb⟩
                refine ⟨_, rfl, ?_⟩
                have n0_ := Aside0.mk (Kd.R_elder' HO266.out (Kd.R_base ho0) hb)
                have n1_ := Aside0.mk (Kd.R_elder' HO271.out (Kd.R_base ho0) hb)
                have n2_ := Aside0.mk (Kd.R_elder' HO276.out (Kd.R_base ho0) hb)
                have n3_ := Aside0.mk (Kd.R_elder' HO282.out (Kd.R_base ho0) hb)
                have n4_ := Aside0.mk (Kd.R_elder' HO288.out (Kd.R_base ho0) hb)
                have n5_ := Aside0.mk (Kd.R_elder' HO298.out (Kd.R_base ho0) hb)
                have n6_ := Aside0.mk (Kd.R_lower (Kd.R_new' (Kd.R_new' (Kd.R_new' (Kd.R_new' (Kd.R_new' (Kd.R_new' ho0 (Kd.R_lt HO266.out)) (Kd.R_lt HO271.out)) (Kd.R_lt HO276.out)) (Kd.R_lt HO282.out)) (Kd.R_lt HO288.out)) (Kd.R_lt HO298.out)) (below_size HB.out))
                have n7_ := Aside0.mk (blk_below BK261.out hb)
                have n8_ := Aside0.mk (blk_below BK262.out hb)
                have n9_ := Aside0.mk (blk_below BK273.out hb)
                have n10_ := Aside0.mk (blk_below BK277.out hb)
                have n11_ := Aside0.mk (blk_below BK284.out hb)
                have n12_ := Aside0.mk (blk_below BK305.out hb)
                have n13_ := Aside0.mk (below_step HB.out hb)
                clear HO266 HO271 HO276 HO282 HO288 HO298 BK261 BK262 BK273 BK277 BK284 BK305 HB
                have HO266 := n0_
                have HO271 := n1_
                have HO276 := n2_
                have HO282 := n3_
                have HO288 := n4_
                have HO298 := n5_
                have HO303 := n6_
                have BK261 := n7_
                have BK262 := n8_
                have BK273 := n9_
                have BK277 := n10_
                have BK284 := n11_
                have BK305 := n12_
                have HB := n13_
                clear n0_ n1_ n2_ n3_ n4_ n5_ n6_ n7_ n8_ n9_ n10_ n11_ n12_ n13_
                (try clear hb)
                (try clear hb2)
                (try clear hk)
                (try clear hi)
                (try clear ho0)
                refine hK.out _ _ ⟨(blk_cell BK261.out 0).trans rfl, (blk_cell BK262.out 0).trans rfl, (blk_cell BK262.out 1).trans rfl⟩ (fun hHeld => ?_)
                clear hK K
                refine norm_ (a' := ?_) ?_ ?_
                rotate_left
                ·show Act.put _ (some 84) _ = _
                 simp only [Act.put, List.setIfInBounds_toArray, List.set_cons_zero, List.set_cons_succ, i64_w, i32_w]
                 rfl
                refine pure_ (i := 5) (N := some 79) (v := ?_) (a' := ?_) #[true, true, true, true, true, true, false, false, true, false, false] rfl rfl (any_of HT_.out (by kernel_rfl)) (fun _ _ _ h => h) (Or.inl ⟨by rfl, ?_⟩) ?_ ?_
                rotate_left
                ·intro w'
                 go_simp
                 with_reducible rfl
                rotate_left
                ·simp only [Act.put, List.setIfInBounds_toArray, List.set_cons_zero, List.set_cons_succ, i64_w, i32_w]
                 rfl
                refine pure_ (i := 6) (N := some 85) (v := ?_) (a' := ?_) #[true, true, true, true, true, true, true, false, true, false, false] rfl rfl (any_of HT_.out (by kernel_rfl)) (fun _ _ _ h => h) (Or.inl ⟨by rfl, ?_⟩) ?_ ?_
                rotate_left
                ·intro w'
                 go_simp
                 with_reducible rfl
                rotate_left
                ·simp only [Act.put, List.setIfInBounds_toArray, List.set_cons_zero, List.set_cons_succ, i64_w, i32_w]
                 rfl
                refine pure_ (i := 7) (N := some 86) (v := ?_) (a' := ?_) #[true, true, true, true, true, true, true, true, true, false, false] rfl rfl (any_of HT_.out (by kernel_rfl)) (fun _ _ _ h => h) (Or.inl ⟨by rfl, ?_⟩) ?_ ?_
                rotate_left
                ·intro w'
                 go_simp
                 with_reducible rfl
                rotate_left
                ·simp only [Act.put, List.setIfInBounds_toArray, List.set_cons_zero, List.set_cons_succ, i64_w, i32_w]
                 rfl
                exact norm_ (by simp only [putAll, Act.put, List.setIfInBounds_toArray, List.set_cons_zero, List.set_cons_succ]) (hCont (.slice Ao95 t296.length co95, v302, gb305) _ ⟨hHeld, (by (with_reducible repeat (first | apply Kd.R_alloc | apply Kd.R_drewN | apply Kd.R_drew)); exact Kd.R_mono HO266.out (fun _ hk => ⟨hk.1.1.1, ⟨hk.1.1.2.1, ⟨hk.1.1.2.2.1, ⟨hk.1.1.2.2.2, ⟨hk.1.2, hk.2⟩⟩⟩⟩⟩)), (by (with_reducible repeat (first | apply Kd.R_alloc | apply Kd.R_drewN | apply Kd.R_drew)); exact Kd.R_mono HO271.out (fun _ hk => ⟨hk.1.1.1, ⟨hk.1.1.2.1, ⟨hk.1.1.2.2.1, ⟨hk.1.1.2.2.2, ⟨hk.1.2, hk.2⟩⟩⟩⟩⟩)), (by (with_reducible repeat (first | apply Kd.R_alloc | apply Kd.R_drewN | apply Kd.R_drew)); exact Kd.R_mono HO276.out (fun _ hk => ⟨hk.1.1.1, ⟨hk.1.1.2.1, ⟨hk.1.1.2.2.1, ⟨hk.1.1.2.2.2, ⟨hk.1.2, hk.2⟩⟩⟩⟩⟩)), (by (with_reducible repeat (first | apply Kd.R_alloc | apply Kd.R_drewN | apply Kd.R_drew)); exact Kd.R_mono HO282.out (fun _ hk => ⟨hk.1.1.1, ⟨hk.1.1.2.1, ⟨hk.1.1.2.2.1, ⟨hk.1.1.2.2.2, ⟨hk.1.2, hk.2⟩⟩⟩⟩⟩)), (by (with_reducible repeat (first | apply Kd.R_alloc | apply Kd.R_drewN | apply Kd.R_drew)); exact Kd.R_mono HO288.out (fun _ hk => ⟨hk.1.1.1, ⟨hk.1.1.2.1, ⟨hk.1.1.2.2.1, ⟨hk.1.1.2.2.2, ⟨hk.1.2, hk.2⟩⟩⟩⟩⟩)), (by (with_reducible repeat (first | apply Kd.R_alloc | apply Kd.R_drewN | apply Kd.R_drew)); exact Kd.R_mono HO298.out (fun _ hk => ⟨hk.1.1.1.1.1.2, ⟨hk.1.1.1.1.2, ⟨hk.1.1.1.2, ⟨hk.1.1.2, ⟨hk.1.2, hk.2⟩⟩⟩⟩⟩)), (by (with_reducible repeat (first | apply Kd.R_alloc | apply Kd.R_drewN | apply Kd.R_drew)); exact Kd.R_mono HO303.out (fun _ hk => ⟨hk.1.1.1.1.1.2, ⟨hk.1.1.1.1.2, ⟨hk.1.1.1.2, ⟨hk.1.1.2, ⟨hk.1.2, hk.2⟩⟩⟩⟩⟩)), BK261.out, BK262.out, BK273.out, BK277.out, BK284.out, BK305.out, GW305.out, GE305.out, NB261_305.out, NB305_261.out, NB262_305.out, NB305_262.out, NB273_305.out, NB305_273.out, NB277_305.out, NB305_277.out, NB284_305.out, NB305_284.out, HB.out⟩)
              ·skip
               refine box_step ?hg (N := 14) ?hd (cs := #[.slice none 0 0]) (t := 37) ?hr ?_; (case hd => rfl); (case hg => rfl); (case hr => first | (go_simp; done) | (go_simp; rfl))
               intro gb305 hg w92 hbox hb
               have n0_ := Aside0.mk (Kd.R_below HO266.out hb)
               have n1_ := Aside0.mk (Kd.R_below HO271.out hb)
               have n2_ := Aside0.mk (Kd.R_below HO276.out hb)
               have n3_ := Aside0.mk (Kd.R_below HO282.out hb)
               have n4_ := Aside0.mk (Kd.R_below HO288.out hb)
               have n5_ := Aside0.mk (blk_below BK261.out hb)
               have n6_ := Aside0.mk (blk_below BK262.out hb)
               have n7_ := Aside0.mk (blk_below BK273.out hb)
               have n8_ := Aside0.mk (blk_below BK277.out hb)
               have n9_ := Aside0.mk (blk_below BK284.out hb)
               have n10_ := Aside0.mk (below_step HB.out hb)
               have n11_ := Aside0.mk (hbox)
               have n12_ := Aside0.mk ((by rw [hg]; exact (below_size HB.out) : w.heap.size ≤ gb305))
               have n13_ := Aside0.mk ((by rw [hg]; exact (below_size HB.out) : w.heap.size ≤ gb305))
               have n14_ := Aside0.mk ((by rw [hg]; exact Nat.ne_of_lt (blk_lt BK261.out) : gb261 ≠ gb305))
               have n15_ := Aside0.mk ((by rw [hg]; exact Nat.ne_of_gt (blk_lt BK261.out) : gb305 ≠ gb261))
               have n16_ := Aside0.mk ((by rw [hg]; exact Nat.ne_of_lt (blk_lt BK262.out) : gb262 ≠ gb305))
               have n17_ := Aside0.mk ((by rw [hg]; exact Nat.ne_of_gt (blk_lt BK262.out) : gb305 ≠ gb262))
               have n18_ := Aside0.mk ((by rw [hg]; exact Nat.ne_of_lt (blk_lt BK273.out) : gb273 ≠ gb305))
               have n19_ := Aside0.mk ((by rw [hg]; exact Nat.ne_of_gt (blk_lt BK273.out) : gb305 ≠ gb273))
               have n20_ := Aside0.mk ((by rw [hg]; exact Nat.ne_of_lt (blk_lt BK277.out) : gb277 ≠ gb305))
               have n21_ := Aside0.mk ((by rw [hg]; exact Nat.ne_of_gt (blk_lt BK277.out) : gb305 ≠ gb277))
               have n22_ := Aside0.mk ((by rw [hg]; exact Nat.ne_of_lt (blk_lt BK284.out) : gb284 ≠ gb305))
               have n23_ := Aside0.mk ((by rw [hg]; exact Nat.ne_of_gt (blk_lt BK284.out) : gb305 ≠ gb284))
               clear HO266 HO271 HO276 HO282 HO288 BK261 BK262 BK273 BK277 BK284 HB
               have HO266 := n0_
               have HO271 := n1_
               have HO276 := n2_
               have HO282 := n3_
               have HO288 := n4_
               have BK261 := n5_
               have BK262 := n6_
               have BK273 := n7_
               have BK277 := n8_
               have BK284 := n9_
               have HB := n10_
               have BK305 := n11_
               have GW305 := n12_
               have GE305 := n13_
               have NB261_305 := n14_
               have NB305_261 := n15_
               have NB262_305 := n16_
               have NB305_262 := n17_
               have NB273_305 := n18_
               have NB305_273 := n19_
               have NB277_305 := n20_
               have NB305_277 := n21_
               have NB284_305 := n22_
               have NB305_284 := n23_
               clear n0_ n1_ n2_ n3_ n4_ n5_ n6_ n7_ n8_ n9_ n10_ n11_ n12_ n13_ n14_ n15_ n16_ n17_ n18_ n19_ n20_ n21_ n22_ n23_
               clear hb hbox hg
               refine hK.out _ _ ⟨(blk_cell BK261.out 0).trans rfl, (blk_cell BK262.out 0).trans rfl, (blk_cell BK262.out 1).trans rfl⟩ (fun hHeld => ?_)
               clear hK K
               refine norm_ (a' := ?_) ?_ ?_
               rotate_left
               ·show Act.put _ (some 14) _ = _
                simp only [Act.put, List.setIfInBounds_toArray, List.set_cons_zero, List.set_cons_succ, i64_w, i32_w]
                rfl
               refine one_ (i := 1) (N := some 81) #[true, true, true, false, false, false, false, false, true, false, false] rfl rfl (one_of HT_.out (by kernel_rfl)) (by decide) (fun K hK => ?_)
               refine goes_ Try.func17 (by kernel_rfl) rfl #[.agg #[.slice A0_0 l0_0.length c0_0]] (by rfl) rfl rfl (by (try simp only [List.map_toArray, List.map_cons, List.map_nil]); first | done | rfl | (simp only [List.length_drop, List.length_take]; rfl)) ?_
               with_reducible refine (laws_toHeap.calls k _ _ l0_0 t296 _ ?side1 ?side2 A30.out).mono ?_
               (case side1 => repeat (first | exact (Kd.C_below HR0_0.out HB.out) | (with_reducible refine Kd.C_alloc ?_ _) | (with_reducible refine Kd.C_drewN ?_ _) | (with_reducible refine Kd.C_drew ?_)))
               (case side2 => exact HC0_0.out)
               rintro e w93 ⟨v297, rfl, ho0, hb⟩
               refine ⟨_, rfl, ?_⟩
               have n0_ := Aside0.mk (Kd.R_elder' HO266.out (Kd.R_base ho0) hb)
               have n1_ := Aside0.mk (Kd.R_elder' HO271.out (Kd.R_base ho0) hb)
               have n2_ := Aside0.mk (Kd.R_elder' HO276.out (Kd.R_base ho0) hb)
               have n3_ := Aside0.mk (Kd.R_elder' HO282.out (Kd.R_base ho0) hb)
               have n4_ := Aside0.mk (Kd.R_elder' HO288.out (Kd.R_base ho0) hb)
               have n5_ := Aside0.mk (Kd.R_lower (Kd.R_new' (Kd.R_new' (Kd.R_new' (Kd.R_new' (Kd.R_new' ho0 (Kd.R_lt HO266.out)) (Kd.R_lt HO271.out)) (Kd.R_lt HO276.out)) (Kd.R_lt HO282.out)) (Kd.R_lt HO288.out)) (below_size HB.out))
               have n6_ := Aside0.mk (blk_below BK261.out hb)
               have n7_ := Aside0.mk (blk_below BK262.out hb)
               have n8_ := Aside0.mk (blk_below BK273.out hb)
               have n9_ := Aside0.mk (blk_below BK277.out hb)
               have n10_ := Aside0.mk (blk_below BK284.out hb)
               have n11_ := Aside0.mk (blk_below BK305.out hb)
               have n12_ := Aside0.mk (below_step HB.out hb)
               clear HO266 HO271 HO276 HO282 HO288 BK261 BK262 BK273 BK277 BK284 BK305 HB
               have HO266 := n0_
               have HO271 := n1_
               have HO276 := n2_
               have HO282 := n3_
               have HO288 := n4_
               have HO298 := n5_
               have BK261 := n6_
               have BK262 := n7_
               have BK273 := n8_
               have BK277 := n9_
               have BK284 := n10_
               have BK305 := n11_
               have HB := n12_
               clear n0_ n1_ n2_ n3_ n4_ n5_ n6_ n7_ n8_ n9_ n10_ n11_ n12_
               (try clear hb)
               (try clear hb2)
               (try clear hk)
               (try clear hi)
               (try clear ho0)
               refine hK.out _ _ ⟨(blk_cell BK261.out 0).trans rfl, (blk_cell BK262.out 0).trans rfl, (blk_cell BK262.out 1).trans rfl⟩ (fun hHeld => ?_)
               clear hK K
               refine norm_ (a' := ?_) ?_ ?_
               rotate_left
               ·show Act.put _ (some 81) _ = _
                simp only [Act.put, List.setIfInBounds_toArray, List.set_cons_zero, List.set_cons_succ, i64_w, i32_w]
                rfl
               refine one_ (i := 3) (N := some 83) #[true, true, true, true, false, false, false, false, true, false, false] rfl rfl (one_of HT_.out (by kernel_rfl)) (by decide) (fun K hK => ?_)
               refine goes_ Try.func11 (by kernel_rfl) rfl #[.agg #[.int .i64 a1_0, .int .i64 a1_1]] (by rfl) rfl rfl (by (try simp only [List.map_toArray, List.map_cons, List.map_nil]); first | done | rfl | (simp only [List.length_drop, List.length_take]; rfl)) ?_
               with_reducible refine (laws_toItem.calls a1_0 a1_1 t299 t300 _ A31.out).mono ?_
               rintro e w94 ⟨rfl, hb⟩
               refine ⟨_, rfl, ?_⟩
               have n0_ := Aside0.mk (Kd.R_below HO266.out hb)
               have n1_ := Aside0.mk (Kd.R_below HO271.out hb)
               have n2_ := Aside0.mk (Kd.R_below HO276.out hb)
               have n3_ := Aside0.mk (Kd.R_below HO282.out hb)
               have n4_ := Aside0.mk (Kd.R_below HO288.out hb)
               have n5_ := Aside0.mk (Kd.R_below HO298.out hb)
               have n6_ := Aside0.mk (blk_below BK261.out hb)
               have n7_ := Aside0.mk (blk_below BK262.out hb)
               have n8_ := Aside0.mk (blk_below BK273.out hb)
               have n9_ := Aside0.mk (blk_below BK277.out hb)
               have n10_ := Aside0.mk (blk_below BK284.out hb)
               have n11_ := Aside0.mk (blk_below BK305.out hb)
               have n12_ := Aside0.mk (below_step HB.out hb)
               clear HO266 HO271 HO276 HO282 HO288 HO298 BK261 BK262 BK273 BK277 BK284 BK305 HB
               have HO266 := n0_
               have HO271 := n1_
               have HO276 := n2_
               have HO282 := n3_
               have HO288 := n4_
               have HO298 := n5_
               have BK261 := n6_
               have BK262 := n7_
               have BK273 := n8_
               have BK277 := n9_
               have BK284 := n10_
               have BK305 := n11_
               have HB := n12_
               clear n0_ n1_ n2_ n3_ n4_ n5_ n6_ n7_ n8_ n9_ n10_ n11_ n12_
               (try clear hb)
               (try clear hb2)
               (try clear hk)
               (try clear hi)
               obtain ⟨Ao95, co95, eo95⟩ := Kd.R_slice HO298.out
               (first | subst eo95 | (injection eo95 with f1_ f2_ f3_; have f4_ := f1_.symm; have f5_ := f3_.symm; clear f1_ f2_ f3_; subst f4_; subst f5_))
               refine hK.out _ _ ⟨(blk_cell BK261.out 0).trans rfl, (blk_cell BK262.out 0).trans rfl, (blk_cell BK262.out 1).trans rfl⟩ (fun hHeld => ?_)
               clear hK K
               refine norm_ (a' := ?_) ?_ ?_
               rotate_left
               ·show Act.put _ (some 83) _ = _
                simp only [Act.put, List.setIfInBounds_toArray, List.set_cons_zero, List.set_cons_succ, i64_w, i32_w]
                rfl
               refine one_ (i := 4) (N := some 84) #[true, true, true, true, true, false, false, false, true, false, false] rfl rfl (one_of HT_.out (by kernel_rfl)) (by decide) (fun K hK => ?_)
               refine goes_ Try.func27 (by kernel_rfl) rfl #[.agg #[.slice Ao95 t296.length co95], .agg #[.int .i64 t299, .int .i64 t300]] (by rfl) rfl rfl (by (try simp only [List.map_toArray, List.map_cons, List.map_nil]); first | done | rfl | (simp only [List.length_drop, List.length_take]; rfl)) ?_
               with_reducible refine (impl_HeapMove.calls k _ _ t296 t299 t300 t301 t304 _ ?side1 ?side2 A32.out).mono ?_
               (case side1 => repeat (first | exact (Kd.R_reads' HO298.out).2.2 | (with_reducible refine Kd.C_alloc ?_ _) | (with_reducible refine Kd.C_drewN ?_ _) | (with_reducible refine Kd.C_drew ?_)))
               (case side2 => exact (Kd.R_reads' HO298.out).2.1)
               rintro e w96 ⟨v302, rfl, ho0, hb⟩
               refine ⟨_, rfl, ?_⟩
               have n0_ := Aside0.mk (Kd.R_elder' HO266.out (Kd.R_base ho0) hb)
               have n1_ := Aside0.mk (Kd.R_elder' HO271.out (Kd.R_base ho0) hb)
               have n2_ := Aside0.mk (Kd.R_elder' HO276.out (Kd.R_base ho0) hb)
               have n3_ := Aside0.mk (Kd.R_elder' HO282.out (Kd.R_base ho0) hb)
               have n4_ := Aside0.mk (Kd.R_elder' HO288.out (Kd.R_base ho0) hb)
               have n5_ := Aside0.mk (Kd.R_elder' HO298.out (Kd.R_base ho0) hb)
               have n6_ := Aside0.mk (Kd.R_lower (Kd.R_new' (Kd.R_new' (Kd.R_new' (Kd.R_new' (Kd.R_new' (Kd.R_new' ho0 (Kd.R_lt HO266.out)) (Kd.R_lt HO271.out)) (Kd.R_lt HO276.out)) (Kd.R_lt HO282.out)) (Kd.R_lt HO288.out)) (Kd.R_lt HO298.out)) (below_size HB.out))
               have n7_ := Aside0.mk (blk_below BK261.out hb)
               have n8_ := Aside0.mk (blk_below BK262.out hb)
               have n9_ := Aside0.mk (blk_below BK273.out hb)
               have n10_ := Aside0.mk (blk_below BK277.out hb)
               have n11_ := Aside0.mk (blk_below BK284.out hb)
               have n12_ := Aside0.mk (blk_below BK305.out hb)
               have n13_ := Aside0.mk (below_step HB.out hb)
               clear HO266 HO271 HO276 HO282 HO288 HO298 BK261 BK262 BK273 BK277 BK284 BK305 HB
               have HO266 := n0_
               have HO271 := n1_
               have HO276 := n2_
               have HO282 := n3_
               have HO288 := n4_
               have HO298 := n5_
               have HO303 := n6_
               have BK261 := n7_
               have BK262 := n8_
               have BK273 := n9_
               have BK277 := n10_
               have BK284 := n11_
               have BK305 := n12_
               have HB := n13_
               clear n0_ n1_ n2_ n3_ n4_ n5_ n6_ n7_ n8_ n9_ n10_ n11_ n12_ n13_
               (try clear hb)
               (try clear hb2)
               (try clear hk)
               (try clear hi)
               (try clear ho0)
               refine hK.out _ _ ⟨(blk_cell BK261.out 0).trans rfl, (blk_cell BK262.out 0).trans rfl, (blk_cell BK262.out 1).trans rfl⟩ (fun hHeld => ?_)
               clear hK K
               refine norm_ (a' := ?_) ?_ ?_
               rotate_left
               ·show Act.put _ (some 84) _ = _
                simp only [Act.put, List.setIfInBounds_toArray, List.set_cons_zero, List.set_cons_succ, i64_w, i32_w]
                rfl
               refine pure_ (i := 5) (N := some 79) (v := ?_) (a' := ?_) #[true, true, true, true, true, true, false, false, true, false, false] rfl rfl (any_of HT_.out (by kernel_rfl)) (fun _ _ _ h => h) (Or.inl ⟨by rfl, ?_⟩) ?_ ?_
               rotate_left
               ·intro w'
                go_simp
                with_reducible rfl
               rotate_left
               ·simp only [Act.put, List.setIfInBounds_toArray, List.set_cons_zero, List.set_cons_succ, i64_w, i32_w]
                rfl
               refine pure_ (i := 6) (N := some 85) (v := ?_) (a' := ?_) #[true, true, true, true, true, true, true, false, true, false, false] rfl rfl (any_of HT_.out (by kernel_rfl)) (fun _ _ _ h => h) (Or.inl ⟨by rfl, ?_⟩) ?_ ?_
               rotate_left
               ·intro w'
                go_simp
                with_reducible rfl
               rotate_left
               ·simp only [Act.put, List.setIfInBounds_toArray, List.set_cons_zero, List.set_cons_succ, i64_w, i32_w]
                rfl
               refine pure_ (i := 7) (N := some 86) (v := ?_) (a' := ?_) #[true, true, true, true, true, true, true, true, true, false, false] rfl rfl (any_of HT_.out (by kernel_rfl)) (fun _ _ _ h => h) (Or.inl ⟨by rfl, ?_⟩) ?_ ?_
               rotate_left
               ·intro w'
                go_simp
                with_reducible rfl
               rotate_left
               ·simp only [Act.put, List.setIfInBounds_toArray, List.set_cons_zero, List.set_cons_succ, i64_w, i32_w]
                rfl
               exact norm_ (by simp only [putAll, Act.put, List.setIfInBounds_toArray, List.set_cons_zero, List.set_cons_succ]) (hCont (.slice Ao95 t296.length co95, v302, gb305) _ ⟨hHeld, (by (with_reducible repeat (first | apply Kd.R_alloc | apply Kd.R_drewN | apply Kd.R_drew)); exact Kd.R_mono HO266.out (fun _ hk => ⟨hk.1.1.1, ⟨hk.1.1.2.1, ⟨hk.1.1.2.2.1, ⟨hk.1.1.2.2.2, ⟨hk.1.2, hk.2⟩⟩⟩⟩⟩)), (by (with_reducible repeat (first | apply Kd.R_alloc | apply Kd.R_drewN | apply Kd.R_drew)); exact Kd.R_mono HO271.out (fun _ hk => ⟨hk.1.1.1, ⟨hk.1.1.2.1, ⟨hk.1.1.2.2.1, ⟨hk.1.1.2.2.2, ⟨hk.1.2, hk.2⟩⟩⟩⟩⟩)), (by (with_reducible repeat (first | apply Kd.R_alloc | apply Kd.R_drewN | apply Kd.R_drew)); exact Kd.R_mono HO276.out (fun _ hk => ⟨hk.1.1.1, ⟨hk.1.1.2.1, ⟨hk.1.1.2.2.1, ⟨hk.1.1.2.2.2, ⟨hk.1.2, hk.2⟩⟩⟩⟩⟩)), (by (with_reducible repeat (first | apply Kd.R_alloc | apply Kd.R_drewN | apply Kd.R_drew)); exact Kd.R_mono HO282.out (fun _ hk => ⟨hk.1.1.1, ⟨hk.1.1.2.1, ⟨hk.1.1.2.2.1, ⟨hk.1.1.2.2.2, ⟨hk.1.2, hk.2⟩⟩⟩⟩⟩)), (by (with_reducible repeat (first | apply Kd.R_alloc | apply Kd.R_drewN | apply Kd.R_drew)); exact Kd.R_mono HO288.out (fun _ hk => ⟨hk.1.1.1, ⟨hk.1.1.2.1, ⟨hk.1.1.2.2.1, ⟨hk.1.1.2.2.2, ⟨hk.1.2, hk.2⟩⟩⟩⟩⟩)), (by (with_reducible repeat (first | apply Kd.R_alloc | apply Kd.R_drewN | apply Kd.R_drew)); exact Kd.R_mono HO298.out (fun _ hk => ⟨hk.1.1.1.1.1.2, ⟨hk.1.1.1.1.2, ⟨hk.1.1.1.2, ⟨hk.1.1.2, ⟨hk.1.2, hk.2⟩⟩⟩⟩⟩)), (by (with_reducible repeat (first | apply Kd.R_alloc | apply Kd.R_drewN | apply Kd.R_drew)); exact Kd.R_mono HO303.out (fun _ hk => ⟨hk.1.1.1.1.1.2, ⟨hk.1.1.1.1.2, ⟨hk.1.1.1.2, ⟨hk.1.1.2, ⟨hk.1.2, hk.2⟩⟩⟩⟩⟩)), BK261.out, BK262.out, BK273.out, BK277.out, BK284.out, BK305.out, GW305.out, GE305.out, NB261_305.out, NB305_261.out, NB262_305.out, NB305_262.out, NB273_305.out, NB305_273.out, NB277_305.out, NB305_277.out, NB284_305.out, NB305_284.out, HB.out⟩)
             rintro ⟨v297, v302, gb305⟩ w97 ⟨hS_, h0_, h1_, h2_, h3_, h4_, h5_, h6_, h7_, h8_, h9_, h10_, h11_, h12_, h13_, h14_, h15_, h16_, h17_, h18_, h19_, h20_, h21_, h22_, h23_, h24_, h25_⟩
             have n0_ : Aside0 (Kd.R k25 25 w97 w.heap.size (fun k_ => some k_ ≠ (.slice Ao51 t269.length co51 : Value).ownBlock ∧ some k_ ≠ (.slice Ao57 t274.length co57 : Value).ownBlock ∧ some k_ ≠ (.slice Ao68 t280.length co68 : Value).ownBlock ∧ some k_ ≠ (.slice Ao80 t286.length co80 : Value).ownBlock ∧ some k_ ≠ (v297 : Value).ownBlock ∧ some k_ ≠ (v302 : Value).ownBlock) v265 t264) := ⟨h0_⟩
             have n1_ : Aside0 (Kd.R k25 25 w97 w.heap.size (fun k_ => some k_ ≠ (v265 : Value).ownBlock ∧ some k_ ≠ (.slice Ao57 t274.length co57 : Value).ownBlock ∧ some k_ ≠ (.slice Ao68 t280.length co68 : Value).ownBlock ∧ some k_ ≠ (.slice Ao80 t286.length co80 : Value).ownBlock ∧ some k_ ≠ (v297 : Value).ownBlock ∧ some k_ ≠ (v302 : Value).ownBlock) (.slice Ao51 t269.length co51) t269) := ⟨h1_⟩
             have n2_ : Aside0 (Kd.R k25 25 w97 w.heap.size (fun k_ => some k_ ≠ (v265 : Value).ownBlock ∧ some k_ ≠ (.slice Ao51 t269.length co51 : Value).ownBlock ∧ some k_ ≠ (.slice Ao68 t280.length co68 : Value).ownBlock ∧ some k_ ≠ (.slice Ao80 t286.length co80 : Value).ownBlock ∧ some k_ ≠ (v297 : Value).ownBlock ∧ some k_ ≠ (v302 : Value).ownBlock) (.slice Ao57 t274.length co57) t291) := ⟨h2_⟩
             have n3_ : Aside0 (Kd.R k25 25 w97 w.heap.size (fun k_ => some k_ ≠ (v265 : Value).ownBlock ∧ some k_ ≠ (.slice Ao51 t269.length co51 : Value).ownBlock ∧ some k_ ≠ (.slice Ao57 t274.length co57 : Value).ownBlock ∧ some k_ ≠ (.slice Ao80 t286.length co80 : Value).ownBlock ∧ some k_ ≠ (v297 : Value).ownBlock ∧ some k_ ≠ (v302 : Value).ownBlock) (.slice Ao68 t280.length co68) t294) := ⟨h3_⟩
             have n4_ : Aside0 (Kd.R k25 25 w97 w.heap.size (fun k_ => some k_ ≠ (v265 : Value).ownBlock ∧ some k_ ≠ (.slice Ao51 t269.length co51 : Value).ownBlock ∧ some k_ ≠ (.slice Ao57 t274.length co57 : Value).ownBlock ∧ some k_ ≠ (.slice Ao68 t280.length co68 : Value).ownBlock ∧ some k_ ≠ (v297 : Value).ownBlock ∧ some k_ ≠ (v302 : Value).ownBlock) (.slice Ao80 t286.length co80) t286) := ⟨h4_⟩
             have n5_ : Aside0 (Kd.R k25 25 w97 w.heap.size (fun k_ => some k_ ≠ (v265 : Value).ownBlock ∧ some k_ ≠ (.slice Ao51 t269.length co51 : Value).ownBlock ∧ some k_ ≠ (.slice Ao57 t274.length co57 : Value).ownBlock ∧ some k_ ≠ (.slice Ao68 t280.length co68 : Value).ownBlock ∧ some k_ ≠ (.slice Ao80 t286.length co80 : Value).ownBlock ∧ some k_ ≠ (v302 : Value).ownBlock) v297 t296) := ⟨h5_⟩
             have n6_ : Aside0 (Kd.R k25 25 w97 w.heap.size (fun k_ => some k_ ≠ (v265 : Value).ownBlock ∧ some k_ ≠ (.slice Ao51 t269.length co51 : Value).ownBlock ∧ some k_ ≠ (.slice Ao57 t274.length co57 : Value).ownBlock ∧ some k_ ≠ (.slice Ao68 t280.length co68 : Value).ownBlock ∧ some k_ ≠ (.slice Ao80 t286.length co80 : Value).ownBlock ∧ some k_ ≠ (v297 : Value).ownBlock) v302 t301) := ⟨h6_⟩
             have n7_ : Aside0 (w97.heap[gb261]? = some (.cells #[.slice A0_0 l0_0.length c0_0] 32 (0, 0))) := ⟨h7_⟩
             have n8_ : Aside0 (w97.heap[gb262]? = some (.cells #[.int .i64 a1_0, .int .i64 a1_1] 23 (0, 0))) := ⟨h8_⟩
             have n9_ : Aside0 (w97.heap[gb273]? = some (.cells #[.slice Ao51 t269.length co51] 37 (0, 0))) := ⟨h9_⟩
             have n10_ : Aside0 (w97.heap[gb277]? = some (.cells #[.slice Ao57 t274.length co57] 37 (0, 0))) := ⟨h10_⟩
             have n11_ : Aside0 (w97.heap[gb284]? = some (.cells #[.slice Ao68 t280.length co68] 37 (0, 0))) := ⟨h11_⟩
             have n12_ : Aside0 (w97.heap[gb305]? = some (.cells #[.slice none 0 0] 37 (0, 0))) := ⟨h12_⟩
             have n13_ : Aside0 (w.heap.size ≤ gb305) := ⟨h13_⟩
             have n14_ : Aside0 (w.heap.size ≤ gb305) := ⟨h14_⟩
             have n15_ : Aside0 (gb261 ≠ gb305) := ⟨h15_⟩
             have n16_ : Aside0 (gb305 ≠ gb261) := ⟨h16_⟩
             have n17_ : Aside0 (gb262 ≠ gb305) := ⟨h17_⟩
             have n18_ : Aside0 (gb305 ≠ gb262) := ⟨h18_⟩
             have n19_ : Aside0 (gb273 ≠ gb305) := ⟨h19_⟩
             have n20_ : Aside0 (gb305 ≠ gb273) := ⟨h20_⟩
             have n21_ : Aside0 (gb277 ≠ gb305) := ⟨h21_⟩
             have n22_ : Aside0 (gb305 ≠ gb277) := ⟨h22_⟩
             have n23_ : Aside0 (gb284 ≠ gb305) := ⟨h23_⟩
             have n24_ : Aside0 (gb305 ≠ gb284) := ⟨h24_⟩
             have n25_ : Aside0 (Below w.heap.size w w97) := ⟨h25_⟩
             clear HO266 HO271 HO276 HO282 HO288 BK261 BK262 BK273 BK277 BK284 HB
             clear h0_ h1_ h2_ h3_ h4_ h5_ h6_ h7_ h8_ h9_ h10_ h11_ h12_ h13_ h14_ h15_ h16_ h17_ h18_ h19_ h20_ h21_ h22_ h23_ h24_ h25_
             have HO266 := n0_
             have HO271 := n1_
             have HO276 := n2_
             have HO282 := n3_
             have HO288 := n4_
             have HO298 := n5_
             have HO303 := n6_
             have BK261 := n7_
             have BK262 := n8_
             have BK273 := n9_
             have BK277 := n10_
             have BK284 := n11_
             have BK305 := n12_
             have GW305 := n13_
             have GE305 := n14_
             have NB261_305 := n15_
             have NB305_261 := n16_
             have NB262_305 := n17_
             have NB305_262 := n18_
             have NB273_305 := n19_
             have NB305_273 := n20_
             have NB277_305 := n21_
             have NB305_277 := n22_
             have NB284_305 := n23_
             have NB305_284 := n24_
             have HB := n25_
             clear n0_ n1_ n2_ n3_ n4_ n5_ n6_ n7_ n8_ n9_ n10_ n11_ n12_ n13_ n14_ n15_ n16_ n17_ n18_ n19_ n20_ n21_ n22_ n23_ n24_ n25_
             have hHeld : w97.cell? ⟨gb261, 0, none⟩ = some (.slice A0_0 l0_0.length c0_0) ∧ w97.cell? ⟨gb262, 0, none⟩ = some (.int .i64 a1_0) ∧ w97.cell? ⟨gb262, 1, none⟩ = some (.int .i64 a1_1) := hS_
             obtain ⟨Ao98, co98, eo98⟩ := Kd.R_slice HO303.out
             (first | subst eo98 | (injection eo98 with f1_ f2_ f3_; have f4_ := f1_.symm; have f5_ := f3_.symm; clear f1_ f2_ f3_; subst f4_; subst f5_))
             refine norm_ (a' := ?_) ?_ ?_
             rotate_left
             ·simp only [putAll, Act.put, List.setIfInBounds_toArray, List.set_cons_zero, List.set_cons_succ]
              rfl
             refine one_ (i := 9) (N := none) #[true, true, true, true, true, true, true, true, true, true, false] rfl rfl (one_of HT_.out (by kernel_rfl)) (by decide) (fun K hK => ?_)
             have hs99 : w97.cell? ⟨gb305, 0, none⟩ = some (.slice none 0 0) := (blk_cell BK305.out 0).trans rfl
             have hfs99 := blk_frozen BK305.out 0
             have hns99_0 := NB261_305.out
             have hns99_1 := NB262_305.out
             have hns99_2 := NB273_305.out
             have hns99_3 := NB277_305.out
             have hns99_4 := NB284_305.out
             have hms99_0 := NB305_261.out
             have hms99_1 := NB305_262.out
             have hms99_2 := NB305_273.out
             have hms99_3 := NB305_277.out
             have hms99_4 := NB305_284.out
             refine skip_ (w1 := ?_) (by rfl) rfl ?_ ?_
             rotate_left
             ·go_simp
              rfl
             refine hK.out _ _ ⟨((cell_far (p := ⟨gb305, _, none⟩) NB261_305.out _).trans (hHeld.1)), ((cell_far (p := ⟨gb305, _, none⟩) NB262_305.out _).trans (hHeld.2.1)), ((cell_far (p := ⟨gb305, _, none⟩) NB262_305.out _).trans (hHeld.2.2))⟩ (fun hHeld => ?_)
             clear hK K
             refine pure_ (i := 10) (N := some 15) (v := ?_) (a' := ?_) #[true, true, true, true, true, true, true, true, true, true, true] rfl rfl (any_of HT_.out (by kernel_rfl)) (fun _ _ _ h => h) (Or.inl ⟨by rfl, ?_⟩) ?_ ?_
             rotate_left
             ·intro w'
              go_simp
              with_reducible rfl
             rotate_left
             ·simp only [Act.put, List.setIfInBounds_toArray, List.set_cons_zero, List.set_cons_succ, i64_w, i32_w]
              rfl
             refine done_ (done_of HT_.out (by kernel_rfl)) ?_
             have hnb100 := NB305_261.out
             have hnc100 := NB261_305.out
             have hnb101 := NB305_262.out
             have hnc101 := NB262_305.out
             have hnb102 := NB305_273.out
             have hnc102 := NB273_305.out
             have hnb103 := NB305_277.out
             have hnc103 := NB277_305.out
             have hnb104 := NB305_284.out
             have hnc104 := NB284_305.out
             have hcz105_0 : w97.cell? ⟨gb305, 0, none⟩ = some (.slice none 0 0) := (blk_cell BK305.out 0).trans rfl
             have hfz105_0 := blk_frozen BK305.out 0
             have hcz106_0 : w97.cell? ⟨gb273, 0, none⟩ = some (.slice Ao51 t269.length co51) := (blk_cell BK273.out 0).trans rfl
             have hfz106_0 := blk_frozen BK273.out 0
             try go_wp2_with (first | ((with_reducible refine gate_callee (f := 19) rfl ?_); refine goesL_ (some 89) rfl rfl Try.func19 (by kernel_rfl) rfl #[.agg #[.slice Ao98 t301.length co98], .agg #[.slice Ao51 t269.length co51]] rfl (by (try simp only [List.map_toArray, List.map_cons, List.map_nil]); first | done | rfl | (simp only [List.length_drop, List.length_take]; rfl)) ?_; (with_reducible refine (laws_eqHeap.calls k _ _ t301 _ _ t269 true _ ?side1 ?side2 ?side3 ?side4 A33.out).mono ?_); (case side1 => refine (Kd.R_reads' (e := 25) (base := w.heap.size) (ok := fun k_ => (some k_ ≠ (v265 : Value).ownBlock ∧ (some k_ ≠ (.slice Ao51 t269.length co51 : Value).ownBlock ∧ (some k_ ≠ (.slice Ao57 t274.length co57 : Value).ownBlock ∧ (some k_ ≠ (.slice Ao68 t280.length co68 : Value).ownBlock ∧ (some k_ ≠ (.slice Ao80 t286.length co80 : Value).ownBlock ∧ some k_ ≠ (v297 : Value).ownBlock)))))) (n := t301.length) (c := co98) ?_).2.2; exact (by (with_reducible repeat (first | apply Kd.R_alloc | apply Kd.R_drewN | apply Kd.R_drew)); exact (Kd.R_mono (Kd.R_far (p := ⟨gb305, 0, none⟩) (Kd.R_types HO303.out BK305.out (by decide)) (fun _ hk => hk.2) (.slice Ao98 t301.length co98)) (fun _ h_ => h_.1)))); (case side2 => exact (Kd.R_reads' HO303.out).2.1); (case side3 => refine (Kd.R_reads' (e := 25) (base := w.heap.size) (ok := fun k_ => (some k_ ≠ (v265 : Value).ownBlock ∧ (some k_ ≠ (.slice Ao57 t274.length co57 : Value).ownBlock ∧ (some k_ ≠ (.slice Ao68 t280.length co68 : Value).ownBlock ∧ (some k_ ≠ (.slice Ao80 t286.length co80 : Value).ownBlock ∧ (some k_ ≠ (v297 : Value).ownBlock ∧ some k_ ≠ (.slice Ao98 t301.length co98 : Value).ownBlock)))))) (n := t269.length) (c := co51) ?_).2.2; exact (by (with_reducible repeat (first | apply Kd.R_alloc | apply Kd.R_drewN | apply Kd.R_drew)); exact (Kd.R_mono (Kd.R_far (p := ⟨gb305, 0, none⟩) (Kd.R_types HO271.out BK305.out (by decide)) (fun _ hk => hk.2) (.slice Ao98 t301.length co98)) (fun _ h_ => h_.1)))); (case side4 => exact (Kd.R_reads' HO271.out).2.1); rintro e w107 ⟨rfl, hb⟩; refine ⟨_, rfl, ?_⟩; have n0_ := Aside0.mk (Kd.R_below (by (with_reducible repeat (first | apply Kd.R_alloc | apply Kd.R_drewN | apply Kd.R_drew)); exact (Kd.R_mono (Kd.R_far (p := ⟨gb305, 0, none⟩) (Kd.R_types HO266.out BK305.out (by decide)) (fun _ hk => hk.2) (.slice Ao98 t301.length co98)) (fun _ h_ => h_.1))) hb); have n1_ := Aside0.mk (Kd.R_below (by (with_reducible repeat (first | apply Kd.R_alloc | apply Kd.R_drewN | apply Kd.R_drew)); exact (Kd.R_mono (Kd.R_far (p := ⟨gb305, 0, none⟩) (Kd.R_types HO271.out BK305.out (by decide)) (fun _ hk => hk.2) (.slice Ao98 t301.length co98)) (fun _ h_ => h_.1))) hb); have n2_ := Aside0.mk (Kd.R_below (by (with_reducible repeat (first | apply Kd.R_alloc | apply Kd.R_drewN | apply Kd.R_drew)); exact (Kd.R_mono (Kd.R_far (p := ⟨gb305, 0, none⟩) (Kd.R_types HO276.out BK305.out (by decide)) (fun _ hk => hk.2) (.slice Ao98 t301.length co98)) (fun _ h_ => h_.1))) hb); have n3_ := Aside0.mk (Kd.R_below (by (with_reducible repeat (first | apply Kd.R_alloc | apply Kd.R_drewN | apply Kd.R_drew)); exact (Kd.R_mono (Kd.R_far (p := ⟨gb305, 0, none⟩) (Kd.R_types HO282.out BK305.out (by decide)) (fun _ hk => hk.2) (.slice Ao98 t301.length co98)) (fun _ h_ => h_.1))) hb); have n4_ := Aside0.mk (Kd.R_below (by (with_reducible repeat (first | apply Kd.R_alloc | apply Kd.R_drewN | apply Kd.R_drew)); exact (Kd.R_mono (Kd.R_far (p := ⟨gb305, 0, none⟩) (Kd.R_types HO288.out BK305.out (by decide)) (fun _ hk => hk.2) (.slice Ao98 t301.length co98)) (fun _ h_ => h_.1))) hb); have n5_ := Aside0.mk (Kd.R_below (by (with_reducible repeat (first | apply Kd.R_alloc | apply Kd.R_drewN | apply Kd.R_drew)); exact (Kd.R_mono (Kd.R_far (p := ⟨gb305, 0, none⟩) (Kd.R_types HO298.out BK305.out (by decide)) (fun _ hk => hk.2) (.slice Ao98 t301.length co98)) (fun _ h_ => h_.1))) hb); have n6_ := Aside0.mk (Kd.R_below (by (with_reducible repeat (first | apply Kd.R_alloc | apply Kd.R_drewN | apply Kd.R_drew)); exact (Kd.R_mono (Kd.R_far (p := ⟨gb305, 0, none⟩) (Kd.R_types HO303.out BK305.out (by decide)) (fun _ hk => hk.2) (.slice Ao98 t301.length co98)) (fun _ h_ => h_.1))) hb); have n7_ := Aside0.mk (blk_below (g := gb261) (o := .cells #[.slice A0_0 l0_0.length c0_0] 32 (0, 0)) Gv.bkf hb); have n8_ := Aside0.mk (blk_below (g := gb262) (o := .cells #[.int .i64 a1_0, .int .i64 a1_1] 23 (0, 0)) Gv.bkf hb); have n9_ := Aside0.mk (blk_below (g := gb273) (o := .cells #[.slice Ao51 t269.length co51] 37 (0, 0)) Gv.bkf hb); have n10_ := Aside0.mk (blk_below (g := gb277) (o := .cells #[.slice Ao57 t274.length co57] 37 (0, 0)) Gv.bkf hb); have n11_ := Aside0.mk (blk_below (g := gb284) (o := .cells #[.slice Ao68 t280.length co68] 37 (0, 0)) Gv.bkf hb); have n12_ := Aside0.mk (blk_below (g := gb305) (o := .cells #[.slice Ao98 t301.length co98] 37 (0, 0)) (by (with_reducible repeat (first | refine blk_drewN ?_ _ | refine blk_drew ?_ | refine blk_alloc ?_ _)); refine blk_put (cs := #[.slice none 0 0]) ?_ 0 _ rfl; (with_reducible repeat (first | refine blk_drewN ?_ _ | refine blk_drew ?_ | refine blk_alloc ?_ _)); exact BK305.out) hb); have n13_ := Aside0.mk (below_step Gv.bw hb); clear HO266; clear HO271; clear HO276; clear HO282; clear HO288; clear HO298; clear HO303; clear BK261; clear BK262; clear BK273; clear BK277; clear BK284; clear BK305; clear HB; have HO266 := n0_; have HO271 := n1_; have HO276 := n2_; have HO282 := n3_; have HO288 := n4_; have HO298 := n5_; have HO303 := n6_; have BK261 := n7_; have BK262 := n8_; have BK273 := n9_; have BK277 := n10_; have BK284 := n11_; have BK305 := n12_; have HB := n13_; clear n0_ n1_ n2_ n3_ n4_ n5_ n6_ n7_ n8_ n9_ n10_ n11_ n12_ n13_; (try clear hb); (try clear hb2); (try clear hk); (try clear hi); have hcz108_0 : w107.cell? ⟨gb284, 0, none⟩ = some (.slice Ao68 t280.length co68) := (blk_cell BK284.out 0).trans rfl; have hfz108_0 := blk_frozen BK284.out 0) | ((with_reducible refine gate_callee (f := 25) rfl ?_); refine goesL_ (some 98) rfl rfl Try.func25 (by kernel_rfl) rfl #[.agg #[.slice Ao68 t294.length co68], .int .i64 1] rfl (by (try simp only [List.map_toArray, List.map_cons, List.map_nil]); first | done | (rw [show t294.length = t280.length from (Kd.R_reads' HO282.out).1.symm] <;> rfl) | rfl | (simp only [List.length_drop, List.length_take]; rfl)) ?_; (with_reducible refine (laws_heldHeap.calls k _ _ t294 1 t307 _ ?side1 ?side2 A36.out).mono ?_); (case side1 => repeat (first | exact (Kd.R_reads' HO282.out).2.2 | (with_reducible refine Kd.C_alloc ?_ _) | (with_reducible refine Kd.C_drewN ?_ _) | (with_reducible refine Kd.C_drew ?_))); (case side2 => rw [show t294.length = t280.length from (Kd.R_reads' HO282.out).1.symm]; exact (Kd.R_reads' HO282.out).2.1); rintro e w109 ⟨rfl, hb⟩; refine ⟨_, rfl, ?_⟩; have n0_ := Aside0.mk (Kd.R_below (by (with_reducible repeat (first | apply Kd.R_alloc | apply Kd.R_drewN | apply Kd.R_drew)); exact HO266.out) hb); have n1_ := Aside0.mk (Kd.R_below (by (with_reducible repeat (first | apply Kd.R_alloc | apply Kd.R_drewN | apply Kd.R_drew)); exact HO271.out) hb); have n2_ := Aside0.mk (Kd.R_below (by (with_reducible repeat (first | apply Kd.R_alloc | apply Kd.R_drewN | apply Kd.R_drew)); exact HO276.out) hb); have n3_ := Aside0.mk (Kd.R_below (by (with_reducible repeat (first | apply Kd.R_alloc | apply Kd.R_drewN | apply Kd.R_drew)); exact HO282.out) hb); have n4_ := Aside0.mk (Kd.R_below (by (with_reducible repeat (first | apply Kd.R_alloc | apply Kd.R_drewN | apply Kd.R_drew)); exact HO288.out) hb); have n5_ := Aside0.mk (Kd.R_below (by (with_reducible repeat (first | apply Kd.R_alloc | apply Kd.R_drewN | apply Kd.R_drew)); exact HO298.out) hb); have n6_ := Aside0.mk (Kd.R_below (by (with_reducible repeat (first | apply Kd.R_alloc | apply Kd.R_drewN | apply Kd.R_drew)); exact HO303.out) hb); have n7_ := Aside0.mk (blk_below (g := gb261) (o := .cells #[.slice A0_0 l0_0.length c0_0] 32 (0, 0)) Gv.bk hb); have n8_ := Aside0.mk (blk_below (g := gb262) (o := .cells #[.int .i64 a1_0, .int .i64 a1_1] 23 (0, 0)) Gv.bk hb); have n9_ := Aside0.mk (blk_below (g := gb273) (o := .cells #[.slice Ao51 t269.length co51] 37 (0, 0)) Gv.bk hb); have n10_ := Aside0.mk (blk_below (g := gb277) (o := .cells #[.slice Ao57 t274.length co57] 37 (0, 0)) Gv.bk hb); have n11_ := Aside0.mk (blk_below (g := gb284) (o := .cells #[.slice Ao68 t280.length co68] 37 (0, 0)) Gv.bk hb); have n12_ := Aside0.mk (blk_below (g := gb305) (o := .cells #[.slice Ao98 t301.length co98] 37 (0, 0)) Gv.bk hb); have n13_ := Aside0.mk (below_step Gv.bw hb); clear HO266; clear HO271; clear HO276; clear HO282; clear HO288; clear HO298; clear HO303; clear BK261; clear BK262; clear BK273; clear BK277; clear BK284; clear BK305; clear HB; have HO266 := n0_; have HO271 := n1_; have HO276 := n2_; have HO282 := n3_; have HO288 := n4_; have HO298 := n5_; have HO303 := n6_; have BK261 := n7_; have BK262 := n8_; have BK273 := n9_; have BK277 := n10_; have BK284 := n11_; have BK305 := n12_; have HB := n13_; clear n0_ n1_ n2_ n3_ n4_ n5_ n6_ n7_ n8_ n9_ n10_ n11_ n12_ n13_; (try clear hb); (try clear hb2); (try clear hk); (try clear hi)))
             go_ret
             exact ⟨by first | rfl | (simp [errW_none, errW_some] <;> rfl) | (simp [*, errW_none, errW_some] <;> rfl), by repeat (first | (with_reducible first | exact HB.out | apply below_alloc | apply pw_below_drewN | apply below_drew1 | refine below_set ?_ GE261.out | refine below_set ?_ GE262.out | refine below_set ?_ GE273.out | refine below_set ?_ GE277.out | refine below_set ?_ GE284.out | refine below_set ?_ GE305.out) | exact HB.out)⟩
            ·rw [if_neg c38] at H
             exact absurd H (by simp)
          ·rw [if_neg c35] at H
           exact absurd H (by simp)
         ·replace c34 := Bool.eq_false_iff.mpr c34
          subst c34
          have H1 : (none) = some r := by rw [if_neg (show ¬ (false = true) by decide)] at H; exact H
          clear H
          have H := H1
          clear H1
          exact absurd H (by simp)
        ·rw [if_neg c29] at H
         exact absurd H (by simp)
      ·replace c25 := Bool.eq_false_iff.mpr c25
       subst c25
       have H1 : (none) = some r := by rw [if_neg (show ¬ (false = true) by decide)] at H; exact H
       clear H
       have H := H1
       clear H1
       exact absurd H (by simp)
    ·replace c21 := Bool.eq_false_iff.mpr c21
     subst c21
     have H1 : (none) = some r := by rw [if_neg (show ¬ (false = true) by decide)] at H; exact H
     clear H
     have H := H1
     clear H1
     exact absurd H (by simp)
   ·rw [if_neg c18] at H
    exact absurd H (by simp)
  ·replace c17 := Bool.eq_false_iff.mpr c17
   subst c17
   have H1 : (none) = some r := by rw [if_neg (show ¬ (false = true) by decide)] at H; exact H
   clear H
   have H := H1
   clear H1
   exact absurd H (by simp)

end Go.Proofs.Ytjpmhbjbgooheaa.PMv
