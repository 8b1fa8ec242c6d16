/- Plain Lean functions of a law's Go functions, their contracts, by a program of this session (wip/pr.py over the kit's print). -/
import Derived.Test.YtjpmhbjbgooheaaPPux0
import Derived.Test.YtjpmhbjbgooheaaPPux1
import Derived.Test.YtjpmhbjbgooheaaPPux3
import Derived.Test.YtjpmhbjbgooheaaPPux5
namespace Go.Proofs.Ytjpmhbjbgooheaa.PPu
open Go.RowKit Go.Proofs.YtjpmhbjbgooheaaW.PrintWords Go.Proofs.YtjpmhbjbgooheaaW.PrintLast Go.Proofs.YtjpmhbjbgooheaaW.PrintMore
attribute [local go_sem] max2_int min2_int max_two min_two max_three min_three max_four min_four   -- for this text's walks alone
set_option linter.unusedVariables false
set_option linter.unusedSimpArgs false

/-! ### laws_FnExactHeapPush: function 7 -/
def laws_FnExactHeapPush.f (k : Nat) (l0_0 : List (S23)) (a1_0 : Int) (a1_1 : Int) : Option (Bool) := (laws_szHeap.f l0_0 1048576).bind fun t239 => (if t239 < 0 then (some true) else ((laws_toHeap.f k l0_0).bind fun t240 => ((laws_toItem.f a1_0 a1_1).bind fun bt243 => ((spec_HeapPush.f k t240 bt243.1 bt243.2).bind fun bt245 => ((laws_toHeap.f k l0_0).bind fun t250 => ((laws_toItem.f a1_0 a1_1).bind fun bt254 => ((impl_HeapPush.f k t250 bt254.1 bt254.2).bind fun bt256 => ((laws_eqHeap.f k bt256.1 bt245.1).bind fun t261 => (if t261 = true then (if bt256.2 = bt245.2 then ((laws_toHeap.f k l0_0).bind fun t262 => ((laws_eqHeap.f k t250 t262).bind fun t265 => (if t265 = true then ((laws_markHeap.f k t250 1).bind fun bt266 => (if bt266.1 < 0 then (none) else ((laws_eqHeap.f k bt256.1 bt245.1).bind fun t268 => (if t268 = true then ((laws_markHeap.f k bt256.1 1).bind fun bt269 => ((laws_heldHeap.f k bt269.2 1).bind fun t271 => (if t271 < 0 then (none) else (if t271 = bt269.1 then ((laws_toHeap.f k l0_0).bind fun t272 => ((laws_toItem.f a1_0 a1_1).bind fun bt275 => ((impl_HeapPush.f k t272 bt275.1 bt275.2).bind fun bt277 => ((laws_eqHeap.f k bt277.1 bt245.1).bind fun t282 => (if t282 = true then (if bt277.2 = bt245.2 then ((laws_heldHeap.f k bt269.2 1).bind fun t283 => (if t283 < 0 then (none) else (if t283 = bt269.1 then (some true) else (none)))) else (none)) else (none)))))) else (none))))) else (none))))) else (none)))) else (none)) else (none))))))))))
theorem laws_FnExactHeapPush.mono : ∀ a0 a1 a2 k, LeO (laws_FnExactHeapPush.f k a0 a1 a2) (laws_FnExactHeapPush.f (k + 1) a0 a1 a2) := by
 intro a0 a1 a2 k
 unfold laws_FnExactHeapPush.f
 repeat' first
   | (with_reducible exact impl_HeapPush.mono _ _ _ _)
   | (with_reducible exact laws_eqHeap.mono _ _ _)
   | (with_reducible exact laws_heldHeap.mono _ _ _)
   | (with_reducible exact laws_markHeap.mono _ _ _)
   | (with_reducible exact laws_toHeap.mono _ _)
   | (with_reducible exact spec_HeapPush.mono _ _ _ _)
   | (with_reducible exact LeO.refl _)
   | (with_reducible exact LeO.none _)
   | (with_reducible refine LeO.ite ?_ ?_)
   | (with_reducible refine LeO.bind ?_ (fun _ => ?_))
   | exact impl_HeapPush.mono _ _ _ _
   | exact laws_eqHeap.mono _ _ _
   | exact laws_heldHeap.mono _ _ _
   | exact laws_markHeap.mono _ _ _
   | exact laws_toHeap.mono _ _
   | exact spec_HeapPush.mono _ _ _ _
   | exact LeO.none _
   | refine LeO.ite ?_ ?_
   | refine LeO.bind ?_ (fun _ => ?_)
def laws_FnExactHeapPush.T5 : Bool × List (List Nat × List Nat) := (true, [([], []), ([0], [0]), ([], []), ([2, 1], [2]), ([1, 3, 3], [1, 3]), ([4], [4]), ([5], [5]), ([5], [5]), ([], []), ([8, 6, 4, 0, 1, 2, 3, 4, 5, 6, 8], [6, 8]), ([7, 9, 0, 1, 2, 3, 4, 5, 6, 7, 8, 9], [7])])
def laws_FnExactHeapPush.B5 : List Nat := [0, 1, 0, 7, 15, 31, 63, 63, 0, 383, 1023]
theorem laws_FnExactHeapPush.tab5 : rtab .any (opsOf Try.f7 5) = laws_FnExactHeapPush.T5 := by kernel_rfl
theorem laws_FnExactHeapPush.bits5 : waitsOk laws_FnExactHeapPush.T5.2 laws_FnExactHeapPush.B5 = true := by kernel_rfl
def laws_FnExactHeapPush.T7 : Bool × List (List Nat × List Nat) := (true, [([], []), ([], []), ([1], [1]), ([0, 2, 2], [0, 2]), ([3], [3]), ([4], [4]), ([4], [4]), ([], []), ([7, 5, 3, 0, 1, 2, 3, 4, 5, 7], [5, 7]), ([6, 8, 0, 1, 2, 3, 4, 5, 6, 7, 8], [6])])
def laws_FnExactHeapPush.B7 : List Nat := [0, 0, 2, 7, 15, 31, 31, 0, 191, 511]
theorem laws_FnExactHeapPush.tab7 : rtab .any (opsOf Try.f7 7) = laws_FnExactHeapPush.T7 := by kernel_rfl
theorem laws_FnExactHeapPush.bits7 : waitsOk laws_FnExactHeapPush.T7.2 laws_FnExactHeapPush.B7 = true := by kernel_rfl
def laws_FnExactHeapPush.T24 : Bool × List (List Nat × List Nat) := (true, [([], []), ([0], [0]), ([], []), ([2, 1], [2]), ([1, 3, 3], [1, 3]), ([4], [4]), ([5], [5]), ([5], [5]), ([], []), ([8, 6, 4, 0, 1, 2, 3, 4, 5, 6, 8], [6, 8]), ([7, 9, 0, 1, 2, 3, 4, 5, 6, 7, 8, 9], [7])])
def laws_FnExactHeapPush.B24 : List Nat := [0, 1, 0, 7, 15, 31, 63, 63, 0, 383, 1023]
theorem laws_FnExactHeapPush.tab24 : rtab .any (opsOf Try.f7 24) = laws_FnExactHeapPush.T24 := by kernel_rfl
theorem laws_FnExactHeapPush.bits24 : waitsOk laws_FnExactHeapPush.T24.2 laws_FnExactHeapPush.B24 = true := by kernel_rfl
set_option maxHeartbeats 8000000 in
set_option maxRecDepth 100000 in
theorem laws_FnExactHeapPush.calls (k : Nat) (A0_0 : Option Addr) (c0_0 : Nat) (l0_0 : List (S23)) (a1_0 : Int) (a1_1 : Int) (r : Bool) (w : World) (hr0_0 : Kd.C k23 w A0_0 l0_0.length l0_0) (hc0_0 : l0_0.length ≤ c0_0) (h : laws_FnExactHeapPush.f k l0_0 a1_0 a1_1 = some r) :
  Calls Try.prog 7 #[.agg #[.slice A0_0 l0_0.length c0_0], .agg #[.int .i64 a1_0, .int .i64 a1_1]] w fun e w' => e = .returned (.bool r) ∧ Below w.heap.size w w' := by
 have hu32 := Try.underlying32
 have hu23 := Try.underlying23
 have hu37 := Try.underlying37
 have HR0_0 := Aside0.mk hr0_0
 have HC0_0 := Aside0.mk hc0_0
 clear hr0_0 hc0_0
 have HB := Aside0.mk (Below.refl w.heap.size w)
 have H : ((laws_szHeap.f l0_0 1048576).bind fun t239 => (if t239 < 0 then (some true) else ((laws_toHeap.f k l0_0).bind fun t240 => ((laws_toItem.f a1_0 a1_1).bind fun bt243 => ((spec_HeapPush.f k t240 bt243.1 bt243.2).bind fun bt245 => ((laws_toHeap.f k l0_0).bind fun t250 => ((laws_toItem.f a1_0 a1_1).bind fun bt254 => ((impl_HeapPush.f k t250 bt254.1 bt254.2).bind fun bt256 => ((laws_eqHeap.f k bt256.1 bt245.1).bind fun t261 => (if t261 = true then (if bt256.2 = bt245.2 then ((laws_toHeap.f k l0_0).bind fun t262 => ((laws_eqHeap.f k t250 t262).bind fun t265 => (if t265 = true then ((laws_markHeap.f k t250 1).bind fun bt266 => (if bt266.1 < 0 then (none) else ((laws_eqHeap.f k bt256.1 bt245.1).bind fun t268 => (if t268 = true then ((laws_markHeap.f k bt256.1 1).bind fun bt269 => ((laws_heldHeap.f k bt269.2 1).bind fun t271 => (if t271 < 0 then (none) else (if t271 = bt269.1 then ((laws_toHeap.f k l0_0).bind fun t272 => ((laws_toItem.f a1_0 a1_1).bind fun bt275 => ((impl_HeapPush.f k t272 bt275.1 bt275.2).bind fun bt277 => ((laws_eqHeap.f k bt277.1 bt245.1).bind fun t282 => (if t282 = true then (if bt277.2 = bt245.2 then ((laws_heldHeap.f k bt269.2 1).bind fun t283 => (if t283 < 0 then (none) else (if t283 = bt269.1 then (some true) else (none)))) else (none)) else (none)))))) else (none))))) else (none))))) else (none)))) else (none)) else (none))))))))))) = some r := h
 clear h
 replace H := Option.bind_eq_some_iff.mp H
 obtain ⟨t239, A30, H⟩ := H
 replace H : (if t239 < 0 then (some true) else ((laws_toHeap.f k l0_0).bind fun t240 => ((laws_toItem.f a1_0 a1_1).bind fun bt243 => ((spec_HeapPush.f k t240 bt243.1 bt243.2).bind fun bt245 => ((laws_toHeap.f k l0_0).bind fun t250 => ((laws_toItem.f a1_0 a1_1).bind fun bt254 => ((impl_HeapPush.f k t250 bt254.1 bt254.2).bind fun bt256 => ((laws_eqHeap.f k bt256.1 bt245.1).bind fun t261 => (if t261 = true then (if bt256.2 = bt245.2 then ((laws_toHeap.f k l0_0).bind fun t262 => ((laws_eqHeap.f k t250 t262).bind fun t265 => (if t265 = true then ((laws_markHeap.f k t250 1).bind fun bt266 => (if bt266.1 < 0 then (none) else ((laws_eqHeap.f k bt256.1 bt245.1).bind fun t268 => (if t268 = true then ((laws_markHeap.f k bt256.1 1).bind fun bt269 => ((laws_heldHeap.f k bt269.2 1).bind fun t271 => (if t271 < 0 then (none) else (if t271 = bt269.1 then ((laws_toHeap.f k l0_0).bind fun t272 => ((laws_toItem.f a1_0 a1_1).bind fun bt275 => ((impl_HeapPush.f k t272 bt275.1 bt275.2).bind fun bt277 => ((laws_eqHeap.f k bt277.1 bt245.1).bind fun t282 => (if t282 = true then (if bt277.2 = bt245.2 then ((laws_heldHeap.f k bt269.2 1).bind fun t283 => (if t283 < 0 then (none) else (if t283 = bt269.1 then (some true) else (none)))) else (none)) else (none)))))) else (none))))) else (none))))) else (none)))) else (none)) else (none)))))))))) = some r := H
 have A3 := Aside0.mk A30
 clear A30
 by_cases c4 : t239 < 0
 ·rw [if_pos c4] at H
  have c4b0 : decide (t239 < 0) = true := decide_eq_true c4
  clear c4
  obtain rfl := Option.some.inj H
  go_enter Try.func7, Try.ntmps7
  go_wp2_with (first | ((with_reducible refine gate_dst (N := 2) rfl ?_); refine box_event ?hg (N := 2) ?hd (cs := #[.slice A0_0 l0_0.length c0_0]) (t := 32) ?hr ?_; (case hd => rfl); (case hg => rfl); (case hr => first | (go_simp; done) | (go_simp; rfl)); intro gb237 hg w5 hbox hb; have n0_ := Aside0.mk (below_step Gv.bw hb); have n1_ := Aside0.mk (hbox); have n2_ := Aside0.mk ((by rw [hg]; exact (below_size Gv.bw) : w.heap.size ≤ gb237)); have n3_ := Aside0.mk ((by rw [hg]; exact (below_size Gv.bw) : w.heap.size ≤ gb237)); clear HB; have HB := n0_; have BK237 := n1_; have GW237 := n2_; have GE237 := n3_; clear n0_ n1_ n2_ n3_; clear hb hbox hg) | ((with_reducible refine gate_dst (N := 3) rfl ?_); refine box_event ?hg (N := 3) ?hd (cs := #[.int .i64 a1_0, .int .i64 a1_1]) (t := 23) ?hr ?_; (case hd => rfl); (case hg => rfl); (case hr => first | (go_simp; done) | (go_simp; rfl)); intro gb238 hg w6 hbox hb; have n0_ := Aside0.mk (blk_below (g := gb237) (o := .cells #[.slice A0_0 l0_0.length c0_0] 32 (0, 0)) Gv.bk hb); have n1_ := Aside0.mk (below_step Gv.bw hb); have n2_ := Aside0.mk (hbox); have n3_ := Aside0.mk ((by rw [hg]; exact (below_size Gv.bw) : w.heap.size ≤ gb238)); have n4_ := Aside0.mk ((by rw [hg]; exact (below_size Gv.bw) : w.heap.size ≤ gb238)); have n5_ := Aside0.mk ((by rw [hg]; exact Nat.ne_of_lt (blk_lt (g := gb237) (o := .cells #[.slice A0_0 l0_0.length c0_0] 32 (0, 0)) Gv.bk) : gb237 ≠ gb238)); have n6_ := Aside0.mk ((by rw [hg]; exact Nat.ne_of_gt (blk_lt (g := gb237) (o := .cells #[.slice A0_0 l0_0.length c0_0] 32 (0, 0)) Gv.bk) : gb238 ≠ gb237)); clear BK237; clear HB; have BK237 := n0_; have HB := n1_; have BK238 := n2_; have GW238 := n3_; have GE238 := n4_; have NB237_238 := n5_; have NB238_237 := n6_; clear n0_ n1_ n2_ n3_ n4_ n5_ n6_; clear hb hbox hg; have hnb7 := NB237_238.out; have hnc7 := NB238_237.out; have hcz8_0 : w6.cell? ⟨gb237, 0, none⟩ = some (.slice A0_0 l0_0.length c0_0) := (blk_cell BK237.out 0).trans rfl; have hfz8_0 := blk_frozen BK237.out 0) | ((with_reducible refine gate_callee (f := 15) rfl ?_); refine goesL_ (some 18) rfl rfl Try.func15 (by kernel_rfl) rfl #[.agg #[.slice A0_0 l0_0.length c0_0], .int .i64 1048576] rfl (by (try simp only [List.map_toArray, List.map_cons, List.map_nil]); first | done | rfl | (simp only [List.length_drop, List.length_take]; rfl)) ?_; (with_reducible refine (laws_szHeap.calls _ _ l0_0 1048576 t239 _ ?side1 ?side2 A3.out).mono ?_); (case side1 => repeat (first | exact (Kd.C_below HR0_0.out HB.out) | (with_reducible refine Kd.C_alloc ?_ _) | (with_reducible refine Kd.C_drewN ?_ _) | (with_reducible refine Kd.C_drew ?_))); (case side2 => exact HC0_0.out); rintro e w9 ⟨rfl, hb⟩; refine ⟨_, rfl, ?_⟩; have n0_ := Aside0.mk (blk_below (g := gb237) (o := .cells #[.slice A0_0 l0_0.length c0_0] 32 (0, 0)) Gv.bk hb); have n1_ := Aside0.mk (blk_below (g := gb238) (o := .cells #[.int .i64 a1_0, .int .i64 a1_1] 23 (0, 0)) Gv.bk hb); have n2_ := Aside0.mk (below_step Gv.bw hb); clear BK237; clear BK238; clear HB; have BK237 := n0_; have BK238 := n1_; have HB := n2_; clear n0_ n1_ n2_; (try clear hb); (try clear hb2); (try clear hk); (try clear hi)))
  go_ret
  exact ⟨by first | rfl | (simp [errW_none, errW_some] <;> rfl) | (simp [*, errW_none, errW_some] <;> rfl), by repeat (first | (with_reducible first | exact HB.out | apply below_alloc | apply pw_below_drewN | apply below_drew1 | refine below_set ?_ GE237.out | refine below_set ?_ GE238.out) | exact HB.out)⟩
 ·rw [if_neg c4] at H
  have c4b0 : decide (t239 < 0) = false := decide_eq_false c4
  clear c4
  replace H := Option.bind_eq_some_iff.mp H
  obtain ⟨t240, A100, H⟩ := H
  replace H : ((laws_toItem.f a1_0 a1_1).bind fun bt243 => ((spec_HeapPush.f k t240 bt243.1 bt243.2).bind fun bt245 => ((laws_toHeap.f k l0_0).bind fun t250 => ((laws_toItem.f a1_0 a1_1).bind fun bt254 => ((impl_HeapPush.f k t250 bt254.1 bt254.2).bind fun bt256 => ((laws_eqHeap.f k bt256.1 bt245.1).bind fun t261 => (if t261 = true then (if bt256.2 = bt245.2 then ((laws_toHeap.f k l0_0).bind fun t262 => ((laws_eqHeap.f k t250 t262).bind fun t265 => (if t265 = true then ((laws_markHeap.f k t250 1).bind fun bt266 => (if bt266.1 < 0 then (none) else ((laws_eqHeap.f k bt256.1 bt245.1).bind fun t268 => (if t268 = true then ((laws_markHeap.f k bt256.1 1).bind fun bt269 => ((laws_heldHeap.f k bt269.2 1).bind fun t271 => (if t271 < 0 then (none) else (if t271 = bt269.1 then ((laws_toHeap.f k l0_0).bind fun t272 => ((laws_toItem.f a1_0 a1_1).bind fun bt275 => ((impl_HeapPush.f k t272 bt275.1 bt275.2).bind fun bt277 => ((laws_eqHeap.f k bt277.1 bt245.1).bind fun t282 => (if t282 = true then (if bt277.2 = bt245.2 then ((laws_heldHeap.f k bt269.2 1).bind fun t283 => (if t283 < 0 then (none) else (if t283 = bt269.1 then (some true) else (none)))) else (none)) else (none)))))) else (none))))) else (none))))) else (none)))) else (none)) else (none)))))))) = some r := H
  have A10 := Aside0.mk A100
  clear A100
  replace H := Option.bind_eq_some_iff.mp H
  obtain ⟨⟨t243, t244⟩, A110, H⟩ := H
  replace H : ((spec_HeapPush.f k t240 t243 t244).bind fun bt245 => ((laws_toHeap.f k l0_0).bind fun t250 => ((laws_toItem.f a1_0 a1_1).bind fun bt254 => ((impl_HeapPush.f k t250 bt254.1 bt254.2).bind fun bt256 => ((laws_eqHeap.f k bt256.1 bt245.1).bind fun t261 => (if t261 = true then (if bt256.2 = bt245.2 then ((laws_toHeap.f k l0_0).bind fun t262 => ((laws_eqHeap.f k t250 t262).bind fun t265 => (if t265 = true then ((laws_markHeap.f k t250 1).bind fun bt266 => (if bt266.1 < 0 then (none) else ((laws_eqHeap.f k bt256.1 bt245.1).bind fun t268 => (if t268 = true then ((laws_markHeap.f k bt256.1 1).bind fun bt269 => ((laws_heldHeap.f k bt269.2 1).bind fun t271 => (if t271 < 0 then (none) else (if t271 = bt269.1 then ((laws_toHeap.f k l0_0).bind fun t272 => ((laws_toItem.f a1_0 a1_1).bind fun bt275 => ((impl_HeapPush.f k t272 bt275.1 bt275.2).bind fun bt277 => ((laws_eqHeap.f k bt277.1 bt245.1).bind fun t282 => (if t282 = true then (if bt277.2 = bt245.2 then ((laws_heldHeap.f k bt269.2 1).bind fun t283 => (if t283 < 0 then (none) else (if t283 = bt269.1 then (some true) else (none)))) else (none)) else (none)))))) else (none))))) else (none))))) else (none)))) else (none)) else (none))))))) = some r := H
  have A11 := Aside0.mk A110
  clear A110
  replace H := Option.bind_eq_some_iff.mp H
  obtain ⟨⟨t245, t248⟩, A120, H⟩ := H
  replace H : ((laws_toHeap.f k l0_0).bind fun t250 => ((laws_toItem.f a1_0 a1_1).bind fun bt254 => ((impl_HeapPush.f k t250 bt254.1 bt254.2).bind fun bt256 => ((laws_eqHeap.f k bt256.1 t245).bind fun t261 => (if t261 = true then (if bt256.2 = t248 then ((laws_toHeap.f k l0_0).bind fun t262 => ((laws_eqHeap.f k t250 t262).bind fun t265 => (if t265 = true then ((laws_markHeap.f k t250 1).bind fun bt266 => (if bt266.1 < 0 then (none) else ((laws_eqHeap.f k bt256.1 t245).bind fun t268 => (if t268 = true then ((laws_markHeap.f k bt256.1 1).bind fun bt269 => ((laws_heldHeap.f k bt269.2 1).bind fun t271 => (if t271 < 0 then (none) else (if t271 = bt269.1 then ((laws_toHeap.f k l0_0).bind fun t272 => ((laws_toItem.f a1_0 a1_1).bind fun bt275 => ((impl_HeapPush.f k t272 bt275.1 bt275.2).bind fun bt277 => ((laws_eqHeap.f k bt277.1 t245).bind fun t282 => (if t282 = true then (if bt277.2 = t248 then ((laws_heldHeap.f k bt269.2 1).bind fun t283 => (if t283 < 0 then (none) else (if t283 = bt269.1 then (some true) else (none)))) else (none)) else (none)))))) else (none))))) else (none))))) else (none)))) else (none)) else (none)))))) = some r := H
  have A12 := Aside0.mk A120
  clear A120
  replace H := Option.bind_eq_some_iff.mp H
  obtain ⟨t250, A130, H⟩ := H
  replace H : ((laws_toItem.f a1_0 a1_1).bind fun bt254 => ((impl_HeapPush.f k t250 bt254.1 bt254.2).bind fun bt256 => ((laws_eqHeap.f k bt256.1 t245).bind fun t261 => (if t261 = true then (if bt256.2 = t248 then ((laws_toHeap.f k l0_0).bind fun t262 => ((laws_eqHeap.f k t250 t262).bind fun t265 => (if t265 = true then ((laws_markHeap.f k t250 1).bind fun bt266 => (if bt266.1 < 0 then (none) else ((laws_eqHeap.f k bt256.1 t245).bind fun t268 => (if t268 = true then ((laws_markHeap.f k bt256.1 1).bind fun bt269 => ((laws_heldHeap.f k bt269.2 1).bind fun t271 => (if t271 < 0 then (none) else (if t271 = bt269.1 then ((laws_toHeap.f k l0_0).bind fun t272 => ((laws_toItem.f a1_0 a1_1).bind fun bt275 => ((impl_HeapPush.f k t272 bt275.1 bt275.2).bind fun bt277 => ((laws_eqHeap.f k bt277.1 t245).bind fun t282 => (if t282 = true then (if bt277.2 = t248 then ((laws_heldHeap.f k bt269.2 1).bind fun t283 => (if t283 < 0 then (none) else (if t283 = bt269.1 then (some true) else (none)))) else (none)) else (none)))))) else (none))))) else (none))))) else (none)))) else (none)) else (none))))) = some r := H
  have A13 := Aside0.mk A130
  clear A130
  replace H := Option.bind_eq_some_iff.mp H
  obtain ⟨⟨t254, t255⟩, A140, H⟩ := H
  replace H : ((impl_HeapPush.f k t250 t254 t255).bind fun bt256 => ((laws_eqHeap.f k bt256.1 t245).bind fun t261 => (if t261 = true then (if bt256.2 = t248 then ((laws_toHeap.f k l0_0).bind fun t262 => ((laws_eqHeap.f k t250 t262).bind fun t265 => (if t265 = true then ((laws_markHeap.f k t250 1).bind fun bt266 => (if bt266.1 < 0 then (none) else ((laws_eqHeap.f k bt256.1 t245).bind fun t268 => (if t268 = true then ((laws_markHeap.f k bt256.1 1).bind fun bt269 => ((laws_heldHeap.f k bt269.2 1).bind fun t271 => (if t271 < 0 then (none) else (if t271 = bt269.1 then ((laws_toHeap.f k l0_0).bind fun t272 => ((laws_toItem.f a1_0 a1_1).bind fun bt275 => ((impl_HeapPush.f k t272 bt275.1 bt275.2).bind fun bt277 => ((laws_eqHeap.f k bt277.1 t245).bind fun t282 => (if t282 = true then (if bt277.2 = t248 then ((laws_heldHeap.f k bt269.2 1).bind fun t283 => (if t283 < 0 then (none) else (if t283 = bt269.1 then (some true) else (none)))) else (none)) else (none)))))) else (none))))) else (none))))) else (none)))) else (none)) else (none)))) = some r := H
  have A14 := Aside0.mk A140
  clear A140
  replace H := Option.bind_eq_some_iff.mp H
  obtain ⟨⟨t256, t259⟩, A150, H⟩ := H
  replace H : ((laws_eqHeap.f k t256 t245).bind fun t261 => (if t261 = true then (if t259 = t248 then ((laws_toHeap.f k l0_0).bind fun t262 => ((laws_eqHeap.f k t250 t262).bind fun t265 => (if t265 = true then ((laws_markHeap.f k t250 1).bind fun bt266 => (if bt266.1 < 0 then (none) else ((laws_eqHeap.f k t256 t245).bind fun t268 => (if t268 = true then ((laws_markHeap.f k t256 1).bind fun bt269 => ((laws_heldHeap.f k bt269.2 1).bind fun t271 => (if t271 < 0 then (none) else (if t271 = bt269.1 then ((laws_toHeap.f k l0_0).bind fun t272 => ((laws_toItem.f a1_0 a1_1).bind fun bt275 => ((impl_HeapPush.f k t272 bt275.1 bt275.2).bind fun bt277 => ((laws_eqHeap.f k bt277.1 t245).bind fun t282 => (if t282 = true then (if bt277.2 = t248 then ((laws_heldHeap.f k bt269.2 1).bind fun t283 => (if t283 < 0 then (none) else (if t283 = bt269.1 then (some true) else (none)))) else (none)) else (none)))))) else (none))))) else (none))))) else (none)))) else (none)) else (none))) = some r := H
  have A15 := Aside0.mk A150
  clear A150
  replace H := Option.bind_eq_some_iff.mp H
  obtain ⟨t261, A160, H⟩ := H
  replace H : (if t261 = true then (if t259 = t248 then ((laws_toHeap.f k l0_0).bind fun t262 => ((laws_eqHeap.f k t250 t262).bind fun t265 => (if t265 = true then ((laws_markHeap.f k t250 1).bind fun bt266 => (if bt266.1 < 0 then (none) else ((laws_eqHeap.f k t256 t245).bind fun t268 => (if t268 = true then ((laws_markHeap.f k t256 1).bind fun bt269 => ((laws_heldHeap.f k bt269.2 1).bind fun t271 => (if t271 < 0 then (none) else (if t271 = bt269.1 then ((laws_toHeap.f k l0_0).bind fun t272 => ((laws_toItem.f a1_0 a1_1).bind fun bt275 => ((impl_HeapPush.f k t272 bt275.1 bt275.2).bind fun bt277 => ((laws_eqHeap.f k bt277.1 t245).bind fun t282 => (if t282 = true then (if bt277.2 = t248 then ((laws_heldHeap.f k bt269.2 1).bind fun t283 => (if t283 < 0 then (none) else (if t283 = bt269.1 then (some true) else (none)))) else (none)) else (none)))))) else (none))))) else (none))))) else (none)))) else (none)) else (none)) = some r := H
  have A16 := Aside0.mk A160
  clear A160
  by_cases c17 : t261 = true
  ·subst c17
   have H1 : (if t259 = t248 then ((laws_toHeap.f k l0_0).bind fun t262 => ((laws_eqHeap.f k t250 t262).bind fun t265 => (if t265 = true then ((laws_markHeap.f k t250 1).bind fun bt266 => (if bt266.1 < 0 then (none) else ((laws_eqHeap.f k t256 t245).bind fun t268 => (if t268 = true then ((laws_markHeap.f k t256 1).bind fun bt269 => ((laws_heldHeap.f k bt269.2 1).bind fun t271 => (if t271 < 0 then (none) else (if t271 = bt269.1 then ((laws_toHeap.f k l0_0).bind fun t272 => ((laws_toItem.f a1_0 a1_1).bind fun bt275 => ((impl_HeapPush.f k t272 bt275.1 bt275.2).bind fun bt277 => ((laws_eqHeap.f k bt277.1 t245).bind fun t282 => (if t282 = true then (if bt277.2 = t248 then ((laws_heldHeap.f k bt269.2 1).bind fun t283 => (if t283 < 0 then (none) else (if t283 = bt269.1 then (some true) else (none)))) else (none)) else (none)))))) else (none))))) else (none))))) else (none)))) else (none)) = some r := by rw [if_pos rfl] at H; exact H
   clear H
   have H := H1
   clear H1
   by_cases c18 : t259 = t248
   ·rw [if_pos c18] at H
    have c18b0 : (t259 == t248) = true := beq_iff_eq.mpr c18
    have c18b1 : (t259 != t248) = false := bne_eq_false_iff_eq.mpr c18
    clear c18
    replace H := Option.bind_eq_some_iff.mp H
    obtain ⟨t262, A190, H⟩ := H
    replace H : ((laws_eqHeap.f k t250 t262).bind fun t265 => (if t265 = true then ((laws_markHeap.f k t250 1).bind fun bt266 => (if bt266.1 < 0 then (none) else ((laws_eqHeap.f k t256 t245).bind fun t268 => (if t268 = true then ((laws_markHeap.f k t256 1).bind fun bt269 => ((laws_heldHeap.f k bt269.2 1).bind fun t271 => (if t271 < 0 then (none) else (if t271 = bt269.1 then ((laws_toHeap.f k l0_0).bind fun t272 => ((laws_toItem.f a1_0 a1_1).bind fun bt275 => ((impl_HeapPush.f k t272 bt275.1 bt275.2).bind fun bt277 => ((laws_eqHeap.f k bt277.1 t245).bind fun t282 => (if t282 = true then (if bt277.2 = t248 then ((laws_heldHeap.f k bt269.2 1).bind fun t283 => (if t283 < 0 then (none) else (if t283 = bt269.1 then (some true) else (none)))) else (none)) else (none)))))) else (none))))) else (none))))) else (none))) = some r := H
    have A19 := Aside0.mk A190
    clear A190
    replace H := Option.bind_eq_some_iff.mp H
    obtain ⟨t265, A200, H⟩ := H
    replace H : (if t265 = true then ((laws_markHeap.f k t250 1).bind fun bt266 => (if bt266.1 < 0 then (none) else ((laws_eqHeap.f k t256 t245).bind fun t268 => (if t268 = true then ((laws_markHeap.f k t256 1).bind fun bt269 => ((laws_heldHeap.f k bt269.2 1).bind fun t271 => (if t271 < 0 then (none) else (if t271 = bt269.1 then ((laws_toHeap.f k l0_0).bind fun t272 => ((laws_toItem.f a1_0 a1_1).bind fun bt275 => ((impl_HeapPush.f k t272 bt275.1 bt275.2).bind fun bt277 => ((laws_eqHeap.f k bt277.1 t245).bind fun t282 => (if t282 = true then (if bt277.2 = t248 then ((laws_heldHeap.f k bt269.2 1).bind fun t283 => (if t283 < 0 then (none) else (if t283 = bt269.1 then (some true) else (none)))) else (none)) else (none)))))) else (none))))) else (none))))) else (none)) = some r := H
    have A20 := Aside0.mk A200
    clear A200
    by_cases c21 : t265 = true
    ·subst c21
     have H1 : ((laws_markHeap.f k t250 1).bind fun bt266 => (if bt266.1 < 0 then (none) else ((laws_eqHeap.f k t256 t245).bind fun t268 => (if t268 = true then ((laws_markHeap.f k t256 1).bind fun bt269 => ((laws_heldHeap.f k bt269.2 1).bind fun t271 => (if t271 < 0 then (none) else (if t271 = bt269.1 then ((laws_toHeap.f k l0_0).bind fun t272 => ((laws_toItem.f a1_0 a1_1).bind fun bt275 => ((impl_HeapPush.f k t272 bt275.1 bt275.2).bind fun bt277 => ((laws_eqHeap.f k bt277.1 t245).bind fun t282 => (if t282 = true then (if bt277.2 = t248 then ((laws_heldHeap.f k bt269.2 1).bind fun t283 => (if t283 < 0 then (none) else (if t283 = bt269.1 then (some true) else (none)))) else (none)) else (none)))))) else (none))))) else (none))))) = some r := by rw [if_pos rfl] at H; exact H
     clear H
     have H := H1
     clear H1
     replace H := Option.bind_eq_some_iff.mp H
     obtain ⟨⟨t266, t267⟩, A220, H⟩ := H
     replace H : (if t266 < 0 then (none) else ((laws_eqHeap.f k t256 t245).bind fun t268 => (if t268 = true then ((laws_markHeap.f k t256 1).bind fun bt269 => ((laws_heldHeap.f k bt269.2 1).bind fun t271 => (if t271 < 0 then (none) else (if t271 = bt269.1 then ((laws_toHeap.f k l0_0).bind fun t272 => ((laws_toItem.f a1_0 a1_1).bind fun bt275 => ((impl_HeapPush.f k t272 bt275.1 bt275.2).bind fun bt277 => ((laws_eqHeap.f k bt277.1 t245).bind fun t282 => (if t282 = true then (if bt277.2 = t248 then ((laws_heldHeap.f k bt269.2 1).bind fun t283 => (if t283 < 0 then (none) else (if t283 = bt269.1 then (some true) else (none)))) else (none)) else (none)))))) else (none))))) else (none)))) = some r := H
     have A22 := Aside0.mk A220
     clear A220
     by_cases c23 : t266 < 0
     ·rw [if_pos c23] at H
      exact absurd H (by simp)
     ·rw [if_neg c23] at H
      have c23b0 : decide (t266 < 0) = false := decide_eq_false c23
      clear c23
      replace H := Option.bind_eq_some_iff.mp H
      obtain ⟨t268, A240, H⟩ := H
      replace H : (if t268 = true then ((laws_markHeap.f k t256 1).bind fun bt269 => ((laws_heldHeap.f k bt269.2 1).bind fun t271 => (if t271 < 0 then (none) else (if t271 = bt269.1 then ((laws_toHeap.f k l0_0).bind fun t272 => ((laws_toItem.f a1_0 a1_1).bind fun bt275 => ((impl_HeapPush.f k t272 bt275.1 bt275.2).bind fun bt277 => ((laws_eqHeap.f k bt277.1 t245).bind fun t282 => (if t282 = true then (if bt277.2 = t248 then ((laws_heldHeap.f k bt269.2 1).bind fun t283 => (if t283 < 0 then (none) else (if t283 = bt269.1 then (some true) else (none)))) else (none)) else (none)))))) else (none))))) else (none)) = some r := H
      have A24 := Aside0.mk A240
      clear A240
      by_cases c25 : t268 = true
      ·subst c25
       have H1 : ((laws_markHeap.f k t256 1).bind fun bt269 => ((laws_heldHeap.f k bt269.2 1).bind fun t271 => (if t271 < 0 then (none) else (if t271 = bt269.1 then ((laws_toHeap.f k l0_0).bind fun t272 => ((laws_toItem.f a1_0 a1_1).bind fun bt275 => ((impl_HeapPush.f k t272 bt275.1 bt275.2).bind fun bt277 => ((laws_eqHeap.f k bt277.1 t245).bind fun t282 => (if t282 = true then (if bt277.2 = t248 then ((laws_heldHeap.f k bt269.2 1).bind fun t283 => (if t283 < 0 then (none) else (if t283 = bt269.1 then (some true) else (none)))) else (none)) else (none)))))) else (none))))) = some r := by rw [if_pos rfl] at H; exact H
       clear H
       have H := H1
       clear H1
       replace H := Option.bind_eq_some_iff.mp H
       obtain ⟨⟨t269, t270⟩, A260, H⟩ := H
       replace H : ((laws_heldHeap.f k t270 1).bind fun t271 => (if t271 < 0 then (none) else (if t271 = t269 then ((laws_toHeap.f k l0_0).bind fun t272 => ((laws_toItem.f a1_0 a1_1).bind fun bt275 => ((impl_HeapPush.f k t272 bt275.1 bt275.2).bind fun bt277 => ((laws_eqHeap.f k bt277.1 t245).bind fun t282 => (if t282 = true then (if bt277.2 = t248 then ((laws_heldHeap.f k t270 1).bind fun t283 => (if t283 < 0 then (none) else (if t283 = t269 then (some true) else (none)))) else (none)) else (none)))))) else (none)))) = some r := H
       have A26 := Aside0.mk A260
       clear A260
       replace H := Option.bind_eq_some_iff.mp H
       obtain ⟨t271, A270, H⟩ := H
       replace H : (if t271 < 0 then (none) else (if t271 = t269 then ((laws_toHeap.f k l0_0).bind fun t272 => ((laws_toItem.f a1_0 a1_1).bind fun bt275 => ((impl_HeapPush.f k t272 bt275.1 bt275.2).bind fun bt277 => ((laws_eqHeap.f k bt277.1 t245).bind fun t282 => (if t282 = true then (if bt277.2 = t248 then ((laws_heldHeap.f k t270 1).bind fun t283 => (if t283 < 0 then (none) else (if t283 = t269 then (some true) else (none)))) else (none)) else (none)))))) else (none))) = some r := H
       have A27 := Aside0.mk A270
       clear A270
       by_cases c28 : t271 < 0
       ·rw [if_pos c28] at H
        exact absurd H (by simp)
       ·rw [if_neg c28] at H
        have c28b0 : decide (t271 < 0) = false := decide_eq_false c28
        clear c28
        by_cases c29 : t271 = t269
        ·rw [if_pos c29] at H
         have c29b0 : (t271 == t269) = true := beq_iff_eq.mpr c29
         have c29b1 : (t271 != t269) = false := bne_eq_false_iff_eq.mpr c29
         clear c29
         replace H := Option.bind_eq_some_iff.mp H
         obtain ⟨t272, A300, H⟩ := H
         replace H : ((laws_toItem.f a1_0 a1_1).bind fun bt275 => ((impl_HeapPush.f k t272 bt275.1 bt275.2).bind fun bt277 => ((laws_eqHeap.f k bt277.1 t245).bind fun t282 => (if t282 = true then (if bt277.2 = t248 then ((laws_heldHeap.f k t270 1).bind fun t283 => (if t283 < 0 then (none) else (if t283 = t269 then (some true) else (none)))) else (none)) else (none))))) = some r := H
         have A30 := Aside0.mk A300
         clear A300
         replace H := Option.bind_eq_some_iff.mp H
         obtain ⟨⟨t275, t276⟩, A310, H⟩ := H
         replace H : ((impl_HeapPush.f k t272 t275 t276).bind fun bt277 => ((laws_eqHeap.f k bt277.1 t245).bind fun t282 => (if t282 = true then (if bt277.2 = t248 then ((laws_heldHeap.f k t270 1).bind fun t283 => (if t283 < 0 then (none) else (if t283 = t269 then (some true) else (none)))) else (none)) else (none)))) = some r := H
         have A31 := Aside0.mk A310
         clear A310
         replace H := Option.bind_eq_some_iff.mp H
         obtain ⟨⟨t277, t280⟩, A320, H⟩ := H
         replace H : ((laws_eqHeap.f k t277 t245).bind fun t282 => (if t282 = true then (if t280 = t248 then ((laws_heldHeap.f k t270 1).bind fun t283 => (if t283 < 0 then (none) else (if t283 = t269 then (some true) else (none)))) else (none)) else (none))) = some r := H
         have A32 := Aside0.mk A320
         clear A320
         replace H := Option.bind_eq_some_iff.mp H
         obtain ⟨t282, A330, H⟩ := H
         replace H : (if t282 = true then (if t280 = t248 then ((laws_heldHeap.f k t270 1).bind fun t283 => (if t283 < 0 then (none) else (if t283 = t269 then (some true) else (none)))) else (none)) else (none)) = some r := H
         have A33 := Aside0.mk A330
         clear A330
         by_cases c34 : t282 = true
         ·subst c34
          have H1 : (if t280 = t248 then ((laws_heldHeap.f k t270 1).bind fun t283 => (if t283 < 0 then (none) else (if t283 = t269 then (some true) else (none)))) else (none)) = some r := by rw [if_pos rfl] at H; exact H
          clear H
          have H := H1
          clear H1
          by_cases c35 : t280 = t248
          ·rw [if_pos c35] at H
           have c35b0 : (t280 == t248) = true := beq_iff_eq.mpr c35
           have c35b1 : (t280 != t248) = false := bne_eq_false_iff_eq.mpr c35
           clear c35
           replace H := Option.bind_eq_some_iff.mp H
           obtain ⟨t283, A360, H⟩ := H
           replace H : (if t283 < 0 then (none) else (if t283 = t269 then (some true) else (none))) = some r := H
           have A36 := Aside0.mk A360
           clear A360
           by_cases c37 : t283 < 0
           ·rw [if_pos c37] at H
            exact absurd H (by simp)
           ·rw [if_neg c37] at H
            have c37b0 : decide (t283 < 0) = false := decide_eq_false c37
            clear c37
            by_cases c38 : t283 = t269
            ·rw [if_pos c38] at H
             have c38b0 : (t283 == t269) = true := beq_iff_eq.mpr c38
             have c38b1 : (t283 != t269) = false := bne_eq_false_iff_eq.mpr c38
             clear c38
             obtain rfl := Option.some.inj H
             go_enter Try.func7, Try.ntmps7
             try go_wp2_with (first | ((with_reducible refine gate_dst (N := 2) rfl ?_); refine box_event ?hg (N := 2) ?hd (cs := #[.slice A0_0 l0_0.length c0_0]) (t := 32) ?hr ?_; (case hd => rfl); (case hg => rfl); (case hr => first | (go_simp; done) | (go_simp; rfl)); intro gb237 hg w39 hbox hb; have n0_ := Aside0.mk (below_step Gv.bw hb); have n1_ := Aside0.mk (hbox); have n2_ := Aside0.mk ((by rw [hg]; exact (below_size Gv.bw) : w.heap.size ≤ gb237)); have n3_ := Aside0.mk ((by rw [hg]; exact (below_size Gv.bw) : w.heap.size ≤ gb237)); clear HB; have HB := n0_; have BK237 := n1_; have GW237 := n2_; have GE237 := n3_; clear n0_ n1_ n2_ n3_; clear hb hbox hg) | ((with_reducible refine gate_dst (N := 3) rfl ?_); refine box_event ?hg (N := 3) ?hd (cs := #[.int .i64 a1_0, .int .i64 a1_1]) (t := 23) ?hr ?_; (case hd => rfl); (case hg => rfl); (case hr => first | (go_simp; done) | (go_simp; rfl)); intro gb238 hg w40 hbox hb; have n0_ := Aside0.mk (blk_below (g := gb237) (o := .cells #[.slice A0_0 l0_0.length c0_0] 32 (0, 0)) Gv.bk hb); have n1_ := Aside0.mk (below_step Gv.bw hb); have n2_ := Aside0.mk (hbox); have n3_ := Aside0.mk ((by rw [hg]; exact (below_size Gv.bw) : w.heap.size ≤ gb238)); have n4_ := Aside0.mk ((by rw [hg]; exact (below_size Gv.bw) : w.heap.size ≤ gb238)); have n5_ := Aside0.mk ((by rw [hg]; exact Nat.ne_of_lt (blk_lt (g := gb237) (o := .cells #[.slice A0_0 l0_0.length c0_0] 32 (0, 0)) Gv.bk) : gb237 ≠ gb238)); have n6_ := Aside0.mk ((by rw [hg]; exact Nat.ne_of_gt (blk_lt (g := gb237) (o := .cells #[.slice A0_0 l0_0.length c0_0] 32 (0, 0)) Gv.bk) : gb238 ≠ gb237)); clear BK237; clear HB; have BK237 := n0_; have HB := n1_; have BK238 := n2_; have GW238 := n3_; have GE238 := n4_; have NB237_238 := n5_; have NB238_237 := n6_; clear n0_ n1_ n2_ n3_ n4_ n5_ n6_; clear hb hbox hg; have hnb41 := NB237_238.out; have hnc41 := NB238_237.out; have hcz42_0 : w40.cell? ⟨gb237, 0, none⟩ = some (.slice A0_0 l0_0.length c0_0) := (blk_cell BK237.out 0).trans rfl; have hfz42_0 := blk_frozen BK237.out 0) | ((with_reducible refine gate_callee (f := 15) rfl ?_); refine goesL_ (some 18) rfl rfl Try.func15 (by kernel_rfl) rfl #[.agg #[.slice A0_0 l0_0.length c0_0], .int .i64 1048576] rfl (by (try simp only [List.map_toArray, List.map_cons, List.map_nil]); first | done | rfl | (simp only [List.length_drop, List.length_take]; rfl)) ?_; (with_reducible refine (laws_szHeap.calls _ _ l0_0 1048576 t239 _ ?side1 ?side2 A3.out).mono ?_); (case side1 => repeat (first | exact (Kd.C_below HR0_0.out HB.out) | (with_reducible refine Kd.C_alloc ?_ _) | (with_reducible refine Kd.C_drewN ?_ _) | (with_reducible refine Kd.C_drew ?_))); (case side2 => exact HC0_0.out); rintro e w43 ⟨rfl, hb⟩; refine ⟨_, rfl, ?_⟩; have n0_ := Aside0.mk (blk_below (g := gb237) (o := .cells #[.slice A0_0 l0_0.length c0_0] 32 (0, 0)) Gv.bk hb); have n1_ := Aside0.mk (blk_below (g := gb238) (o := .cells #[.int .i64 a1_0, .int .i64 a1_1] 23 (0, 0)) Gv.bk hb); have n2_ := Aside0.mk (below_step Gv.bw hb); clear BK237; clear BK238; clear HB; have BK237 := n0_; have BK238 := n1_; have HB := n2_; clear n0_ n1_ n2_; (try clear hb); (try clear hb2); (try clear hk); (try clear hi)))
             have n0_ := Aside0.mk (blk_drew BK237.out)
             have n1_ := Aside0.mk (blk_drew BK238.out)
             have n2_ := Aside0.mk (below_drew1 HB.out)
             clear BK237 BK238 HB
             have BK237 := n0_
             have BK238 := n1_
             have HB := n2_
             clear n0_ n1_ n2_
             refine start_ (n := 11) (S := fun w' => w'.cell? ⟨gb237, 0, none⟩ = some (.slice A0_0 l0_0.length c0_0) ∧ w'.cell? ⟨gb238, 0, none⟩ = some (.int .i64 a1_0) ∧ w'.cell? ⟨gb238, 1, none⟩ = some (.int .i64 a1_1)) (ds := []) #[false, false, false, false, false, false, false, false, false, false, false] (by kernel_rfl) rfl rfl ⟨(blk_cell BK237.out 0).trans rfl, (blk_cell BK238.out 0).trans rfl, (blk_cell BK238.out 1).trans rfl⟩ (fun hHeld => ?_); refine with_tabW laws_FnExactHeapPush.tab5 laws_FnExactHeapPush.bits5 (fun HT_ HW_ => ?_)
             generalize w43.drew = w44 at BK237 BK238 HB hHeld ⊢
             refine take_ (i := 0) (N := some 22) (v := ?_) (a' := ?_) #[true, false, false, false, false, false, false, false, false, false, false] rfl rfl (take_ofW HT_.out HW_.out (by kernel_rfl)) (fun _ _ _ h => h) (Or.inl ⟨by rfl, ?_⟩) hHeld ?_ ?_
             rotate_left
             ·rintro w' ⟨s0, s1, s2⟩
              go_simp
              with_reducible rfl
             rotate_left
             ·simp only [Act.put, List.setIfInBounds_toArray, List.set_cons_zero, List.set_cons_succ, i64_w, i32_w]
              rfl
             refine take_ (i := 2) (N := some 24) (v := ?_) (a' := ?_) #[true, false, true, false, false, false, false, false, false, false, false] rfl rfl (take_ofW HT_.out HW_.out (by kernel_rfl)) (fun _ _ _ h => h) (Or.inl ⟨by rfl, ?_⟩) hHeld ?_ ?_
             rotate_left
             ·rintro w' ⟨s0, s1, s2⟩
              go_simp
              with_reducible rfl
             rotate_left
             ·simp only [Act.put, List.setIfInBounds_toArray, List.set_cons_zero, List.set_cons_succ, i64_w, i32_w]
              rfl
             refine join_ (σ := Value × Value × Nat) 2 #[true, true, true, true, true, true, true, true, true, false, false] (fun s_ => [(23, .agg #[s_.1]), (25, .agg #[.int .i64 t243, .int .i64 t244]), (26, .tuple #[.agg #[s_.2.1], .int .i64 t248]), (6, .pointer (some ⟨s_.2.2, 0, none⟩)), (21, .tuple #[.agg #[s_.2.1], .int .i64 t248]), (27, .agg #[s_.2.1]), (28, .int .i64 t248)]) (fun s_ w' => (w'.cell? ⟨gb237, 0, none⟩ = some (.slice A0_0 l0_0.length c0_0) ∧ w'.cell? ⟨gb238, 0, none⟩ = some (.int .i64 a1_0) ∧ w'.cell? ⟨gb238, 1, none⟩ = some (.int .i64 a1_1)) ∧ (Kd.R k25 25 w' w.heap.size (fun k_ => some k_ ≠ (s_.2.1 : Value).ownBlock) s_.1 t240) ∧ (Kd.R k25 25 w' w.heap.size (fun k_ => some k_ ≠ (s_.1 : Value).ownBlock) s_.2.1 t245) ∧ (w'.heap[gb237]? = some (.cells #[.slice A0_0 l0_0.length c0_0] 32 (0, 0))) ∧ (w'.heap[gb238]? = some (.cells #[.int .i64 a1_0, .int .i64 a1_1] 23 (0, 0))) ∧ (w'.heap[s_.2.2]? = some (.cells #[.slice none 0 0] 37 (0, 0))) ∧ (w.heap.size ≤ s_.2.2) ∧ (w.heap.size ≤ s_.2.2) ∧ (gb237 ≠ s_.2.2) ∧ (s_.2.2 ≠ gb237) ∧ (gb238 ≠ s_.2.2) ∧ (s_.2.2 ≠ gb238) ∧ (Below w.heap.size w w')) ?_ ?_
             rotate_left
             ·intro hCont
              refine two_ (i := 1) (j := 8) (Ni := some 23) (Nj := some 6) #[true, true, true, false, false, false, false, false, false, false, false] #[true, false, true, false, false, false, false, false, true, false, false] rfl rfl rfl rfl (two_of HT_.out (by kernel_rfl)) (by decide) (by decide) (fun K hK => ?_) (fun K hK => ?_)
              ·skip
               refine goes_ Try.func17 (by kernel_rfl) rfl #[.agg #[.slice A0_0 l0_0.length c0_0]] (by rfl) rfl rfl (by (try simp only [List.map_toArray, List.map_cons, List.map_nil]); first | done | rfl | (simp only [List.length_drop, List.length_take]; rfl)) ?_
               with_reducible refine (laws_toHeap.calls k _ _ l0_0 t240 _ ?side1 ?side2 A10.out).mono ?_
               (case side1 => repeat (first | exact (Kd.C_below HR0_0.out HB.out) | (with_reducible refine Kd.C_alloc ?_ _) | (with_reducible refine Kd.C_drewN ?_ _) | (with_reducible refine Kd.C_drew ?_)))
               (case side2 => exact HC0_0.out)
               rintro e w45 ⟨v241, rfl, ho0, hb⟩
               refine ⟨_, rfl, ?_⟩
               have n0_ := Aside0.mk (Kd.R_lower ho0 (below_size HB.out))
               have n1_ := Aside0.mk (blk_below BK237.out hb)
               have n2_ := Aside0.mk (blk_below BK238.out hb)
               have n3_ := Aside0.mk (below_step HB.out hb)
               clear BK237 BK238 HB
               have HO242 := n0_
               have BK237 := n1_
               have BK238 := n2_
               have HB := n3_
               clear n0_ n1_ n2_ n3_
               (try clear hb)
               (try clear hb2)
               (try clear hk)
               (try clear hi)
               (try clear ho0)
               refine hK.out _ _ ⟨(blk_cell BK237.out 0).trans rfl, (blk_cell BK238.out 0).trans rfl, (blk_cell BK238.out 1).trans rfl⟩ (fun hHeld => ?_)
               clear hK K
               refine norm_ (a' := ?_) ?_ ?_
               rotate_left
               ·show Act.put _ (some 23) _ = _
                simp only [Act.put, List.setIfInBounds_toArray, List.set_cons_zero, List.set_cons_succ, i64_w, i32_w]
                rfl
               refine two_ (i := 3) (j := 8) (Ni := some 25) (Nj := some 6) #[true, true, true, true, false, false, false, false, false, false, false] #[true, true, true, false, false, false, false, false, true, false, false] rfl rfl rfl rfl (two_of HT_.out (by kernel_rfl)) (by decide) (by decide) (fun K hK => ?_) (fun K hK => ?_)
               ·skip
                refine goes_ Try.func11 (by kernel_rfl) rfl #[.agg #[.int .i64 a1_0, .int .i64 a1_1]] (by rfl) rfl rfl (by (try simp only [List.map_toArray, List.map_cons, List.map_nil]); first | done | rfl | (simp only [List.length_drop, List.length_take]; rfl)) ?_
                with_reducible refine (laws_toItem.calls a1_0 a1_1 t243 t244 _ A11.out).mono ?_
                rintro e w46 ⟨rfl, hb⟩
                refine ⟨_, rfl, ?_⟩
                have n0_ := Aside0.mk (Kd.R_below HO242.out hb)
                have n1_ := Aside0.mk (blk_below BK237.out hb)
                have n2_ := Aside0.mk (blk_below BK238.out hb)
                have n3_ := Aside0.mk (below_step HB.out hb)
                clear HO242 BK237 BK238 HB
                have HO242 := n0_
                have BK237 := n1_
                have BK238 := n2_
                have HB := n3_
                clear n0_ n1_ n2_ n3_
                (try clear hb)
                (try clear hb2)
                (try clear hk)
                (try clear hi)
                obtain ⟨Ao47, co47, eo47⟩ := Kd.R_slice HO242.out
                (first | subst eo47 | (injection eo47 with f1_ f2_ f3_; have f4_ := f1_.symm; have f5_ := f3_.symm; clear f1_ f2_ f3_; subst f4_; subst f5_))
                refine hK.out _ _ ⟨(blk_cell BK237.out 0).trans rfl, (blk_cell BK238.out 0).trans rfl, (blk_cell BK238.out 1).trans rfl⟩ (fun hHeld => ?_)
                clear hK K
                refine norm_ (a' := ?_) ?_ ?_
                rotate_left
                ·show Act.put _ (some 25) _ = _
                 simp only [Act.put, List.setIfInBounds_toArray, List.set_cons_zero, List.set_cons_succ, i64_w, i32_w]
                 rfl
                refine two_ (i := 4) (j := 8) (Ni := some 26) (Nj := some 6) #[true, true, true, true, true, false, false, false, false, false, false] #[true, true, true, true, false, false, false, false, true, false, false] rfl rfl rfl rfl (two_of HT_.out (by kernel_rfl)) (by decide) (by decide) (fun K hK => ?_) (fun K hK => ?_)
                ·skip
                 refine goes_ Try.func22 (by kernel_rfl) rfl #[.agg #[.slice Ao47 t240.length co47], .agg #[.int .i64 t243, .int .i64 t244]] (by rfl) rfl rfl (by (try simp only [List.map_toArray, List.map_cons, List.map_nil]); first | done | rfl | (simp only [List.length_drop, List.length_take]; rfl)) ?_
                 with_reducible refine (spec_HeapPush.calls k _ _ t240 t243 t244 t245 t248 _ ?side1 ?side2 A12.out).mono ?_
                 (case side1 => repeat (first | exact (Kd.R_reads' HO242.out).2.2 | (with_reducible refine Kd.C_alloc ?_ _) | (with_reducible refine Kd.C_drewN ?_ _) | (with_reducible refine Kd.C_drew ?_)))
                 (case side2 => exact (Kd.R_reads' HO242.out).2.1)
                 rintro e w48 ⟨v246, rfl, ho0, hb⟩
                 refine ⟨_, rfl, ?_⟩
                 have n0_ := Aside0.mk (Kd.R_elder' HO242.out (Kd.R_base ho0) hb)
                 have n1_ := Aside0.mk (Kd.R_lower (Kd.R_new' ho0 (Kd.R_lt HO242.out)) (below_size HB.out))
                 have n2_ := Aside0.mk (blk_below BK237.out hb)
                 have n3_ := Aside0.mk (blk_below BK238.out hb)
                 have n4_ := Aside0.mk (below_step HB.out hb)
                 clear HO242 BK237 BK238 HB
                 have HO242 := n0_
                 have HO247 := n1_
                 have BK237 := n2_
                 have BK238 := n3_
                 have HB := n4_
                 clear n0_ n1_ n2_ n3_ n4_
                 (try clear hb)
                 (try clear hb2)
                 (try clear hk)
                 (try clear hi)
                 (try clear ho0)
                 refine hK.out _ _ ⟨(blk_cell BK237.out 0).trans rfl, (blk_cell BK238.out 0).trans rfl, (blk_cell BK238.out 1).trans rfl⟩ (fun hHeld => ?_)
                 clear hK K
                 refine norm_ (a' := ?_) ?_ ?_
                 rotate_left
                 ·show Act.put _ (some 26) _ = _
                  simp only [Act.put, List.setIfInBounds_toArray, List.set_cons_zero, List.set_cons_succ, i64_w, i32_w]
                  rfl
                 refine pure_ (i := 5) (N := some 21) (v := ?_) (a' := ?_) #[true, true, true, true, true, true, false, false, false, false, false] rfl rfl (any_of HT_.out (by kernel_rfl)) (fun _ _ _ h => h) (Or.inl ⟨by rfl, ?_⟩) ?_ ?_
                 rotate_left
                 ·intro w'
                  go_simp
                  with_reducible rfl
                 rotate_left
                 ·simp only [Act.put, List.setIfInBounds_toArray, List.set_cons_zero, List.set_cons_succ, i64_w, i32_w]
                  rfl
                 refine pure_ (i := 6) (N := some 27) (v := ?_) (a' := ?_) #[true, true, true, true, true, true, true, false, false, false, false] rfl rfl (any_of HT_.out (by kernel_rfl)) (fun _ _ _ h => h) (Or.inl ⟨by rfl, ?_⟩) ?_ ?_
                 rotate_left
                 ·intro w'
                  go_simp
                  with_reducible rfl
                 rotate_left
                 ·simp only [Act.put, List.setIfInBounds_toArray, List.set_cons_zero, List.set_cons_succ, i64_w, i32_w]
                  rfl
                 refine pure_ (i := 7) (N := some 28) (v := ?_) (a' := ?_) #[true, true, true, true, true, true, true, true, false, false, false] rfl rfl (any_of HT_.out (by kernel_rfl)) (fun _ _ _ h => h) (Or.inl ⟨by rfl, ?_⟩) ?_ ?_
                 rotate_left
                 ·intro w'
                  go_simp
                  with_reducible rfl
                 rotate_left
                 ·simp only [Act.put, List.setIfInBounds_toArray, List.set_cons_zero, List.set_cons_succ, i64_w, i32_w]
                  rfl
                 refine one_ (i := 8) (N := some 6) #[true, true, true, true, true, true, true, true, true, false, false] rfl rfl (one_of HT_.out (by kernel_rfl)) (by decide) (fun K hK => ?_)
                 refine box_step ?hg (N := 6) ?hd (cs := #[.slice none 0 0]) (t := 37) ?hr ?_; (case hd => rfl); (case hg => rfl); (case hr => first | (go_simp; done) | (go_simp; rfl))
                 intro gb249 hg w49 hbox hb
                 have n0_ := Aside0.mk (Kd.R_below HO242.out hb)
                 have n1_ := Aside0.mk (Kd.R_below HO247.out hb)
                 have n2_ := Aside0.mk (blk_below BK237.out hb)
                 have n3_ := Aside0.mk (blk_below BK238.out hb)
                 have n4_ := Aside0.mk (below_step HB.out hb)
                 have n5_ := Aside0.mk (hbox)
                 have n6_ := Aside0.mk ((by rw [hg]; exact (below_size HB.out) : w.heap.size ≤ gb249))
                 have n7_ := Aside0.mk ((by rw [hg]; exact (below_size HB.out) : w.heap.size ≤ gb249))
                 have n8_ := Aside0.mk ((by rw [hg]; exact Nat.ne_of_lt (blk_lt BK237.out) : gb237 ≠ gb249))
                 have n9_ := Aside0.mk ((by rw [hg]; exact Nat.ne_of_gt (blk_lt BK237.out) : gb249 ≠ gb237))
                 have n10_ := Aside0.mk ((by rw [hg]; exact Nat.ne_of_lt (blk_lt BK238.out) : gb238 ≠ gb249))
                 have n11_ := Aside0.mk ((by rw [hg]; exact Nat.ne_of_gt (blk_lt BK238.out) : gb249 ≠ gb238))
                 clear HO242 HO247 BK237 BK238 HB
                 have HO242 := n0_
                 have HO247 := n1_
                 have BK237 := n2_
                 have BK238 := n3_
                 have HB := n4_
                 have BK249 := n5_
                 have GW249 := n6_
                 have GE249 := n7_
                 have NB237_249 := n8_
                 have NB249_237 := n9_
                 have NB238_249 := n10_
                 have NB249_238 := n11_
                 clear n0_ n1_ n2_ n3_ n4_ n5_ n6_ n7_ n8_ n9_ n10_ n11_
                 clear hb hbox hg
                 refine hK.out _ _ ⟨(blk_cell BK237.out 0).trans rfl, (blk_cell BK238.out 0).trans rfl, (blk_cell BK238.out 1).trans rfl⟩ (fun hHeld => ?_)
                 clear hK K
                 refine norm_ (a' := ?_) ?_ ?_
                 rotate_left
                 ·show Act.put _ (some 6) _ = _
                  simp only [Act.put, List.setIfInBounds_toArray, List.set_cons_zero, List.set_cons_succ, i64_w, i32_w]
                  rfl
                 exact norm_ (by simp only [putAll, Act.put, List.setIfInBounds_toArray, List.set_cons_zero, List.set_cons_succ]) (hCont (.slice Ao47 t240.length co47, v246, gb249) _ ⟨hHeld, (by (with_reducible repeat (first | apply Kd.R_alloc | apply Kd.R_drewN | apply Kd.R_drew)); exact Kd.R_mono HO242.out (fun _ hk => hk.2)), (by (with_reducible repeat (first | apply Kd.R_alloc | apply Kd.R_drewN | apply Kd.R_drew)); exact Kd.R_mono HO247.out (fun _ hk => hk.2)), BK237.out, BK238.out, BK249.out, GW249.out, GE249.out, NB237_249.out, NB249_237.out, NB238_249.out, NB249_238.out, HB.out⟩)
                ·skip
                 refine box_step ?hg (N := 6) ?hd (cs := #[.slice none 0 0]) (t := 37) ?hr ?_; (case hd => rfl); (case hg => rfl); (case hr => first | (go_simp; done) | (go_simp; rfl))
                 intro gb249 hg w47 hbox hb
                 have n0_ := Aside0.mk (Kd.R_below HO242.out hb)
                 have n1_ := Aside0.mk (blk_below BK237.out hb)
                 have n2_ := Aside0.mk (blk_below BK238.out hb)
                 have n3_ := Aside0.mk (below_step HB.out hb)
                 have n4_ := Aside0.mk (hbox)
                 have n5_ := Aside0.mk ((by rw [hg]; exact (below_size HB.out) : w.heap.size ≤ gb249))
                 have n6_ := Aside0.mk ((by rw [hg]; exact (below_size HB.out) : w.heap.size ≤ gb249))
                 have n7_ := Aside0.mk ((by rw [hg]; exact Nat.ne_of_lt (blk_lt BK237.out) : gb237 ≠ gb249))
                 have n8_ := Aside0.mk ((by rw [hg]; exact Nat.ne_of_gt (blk_lt BK237.out) : gb249 ≠ gb237))
                 have n9_ := Aside0.mk ((by rw [hg]; exact Nat.ne_of_lt (blk_lt BK238.out) : gb238 ≠ gb249))
                 have n10_ := Aside0.mk ((by rw [hg]; exact Nat.ne_of_gt (blk_lt BK238.out) : gb249 ≠ gb238))
                 clear HO242 BK237 BK238 HB
                 have HO242 := n0_
                 have BK237 := n1_
                 have BK238 := n2_
                 have HB := n3_
                 have BK249 := n4_
                 have GW249 := n5_
                 have GE249 := n6_
                 have NB237_249 := n7_
                 have NB249_237 := n8_
                 have NB238_249 := n9_
                 have NB249_238 := n10_
                 clear n0_ n1_ n2_ n3_ n4_ n5_ n6_ n7_ n8_ n9_ n10_
                 clear hb hbox hg
                 obtain ⟨Ao48, co48, eo48⟩ := Kd.R_slice HO242.out
                 (first | subst eo48 | (injection eo48 with f1_ f2_ f3_; have f4_ := f1_.symm; have f5_ := f3_.symm; clear f1_ f2_ f3_; subst f4_; subst f5_))
                 refine hK.out _ _ ⟨(blk_cell BK237.out 0).trans rfl, (blk_cell BK238.out 0).trans rfl, (blk_cell BK238.out 1).trans rfl⟩ (fun hHeld => ?_)
                 clear hK K
                 refine norm_ (a' := ?_) ?_ ?_
                 rotate_left
                 ·show Act.put _ (some 6) _ = _
                  simp only [Act.put, List.setIfInBounds_toArray, List.set_cons_zero, List.set_cons_succ, i64_w, i32_w]
                  rfl
                 refine one_ (i := 4) (N := some 26) #[true, true, true, true, true, false, false, false, true, false, false] rfl rfl (one_of HT_.out (by kernel_rfl)) (by decide) (fun K hK => ?_)
                 refine goes_ Try.func22 (by kernel_rfl) rfl #[.agg #[.slice Ao48 t240.length co48], .agg #[.int .i64 t243, .int .i64 t244]] (by rfl) rfl rfl (by (try simp only [List.map_toArray, List.map_cons, List.map_nil]); first | done | rfl | (simp only [List.length_drop, List.length_take]; rfl)) ?_
                 with_reducible refine (spec_HeapPush.calls k _ _ t240 t243 t244 t245 t248 _ ?side1 ?side2 A12.out).mono ?_
                 (case side1 => repeat (first | exact (Kd.R_reads' HO242.out).2.2 | (with_reducible refine Kd.C_alloc ?_ _) | (with_reducible refine Kd.C_drewN ?_ _) | (with_reducible refine Kd.C_drew ?_)))
                 (case side2 => exact (Kd.R_reads' HO242.out).2.1)
                 rintro e w49 ⟨v246, rfl, ho0, hb⟩
                 refine ⟨_, rfl, ?_⟩
                 have n0_ := Aside0.mk (Kd.R_elder' HO242.out (Kd.R_base ho0) hb)
                 have n1_ := Aside0.mk (Kd.R_lower (Kd.R_new' ho0 (Kd.R_lt HO242.out)) (below_size HB.out))
                 have n2_ := Aside0.mk (blk_below BK237.out hb)
                 have n3_ := Aside0.mk (blk_below BK238.out hb)
                 have n4_ := Aside0.mk (blk_below BK249.out hb)
                 have n5_ := Aside0.mk (below_step HB.out hb)
                 clear HO242 BK237 BK238 BK249 HB
                 have HO242 := n0_
                 have HO247 := n1_
                 have BK237 := n2_
                 have BK238 := n3_
                 have BK249 := n4_
                 have HB := n5_
                 clear n0_ n1_ n2_ n3_ n4_ n5_
                 (try clear hb)
                 (try clear hb2)
                 (try clear hk)
                 (try clear hi)
                 (try clear ho0)
                 refine hK.out _ _ ⟨(blk_cell BK237.out 0).trans rfl, (blk_cell BK238.out 0).trans rfl, (blk_cell BK238.out 1).trans rfl⟩ (fun hHeld => ?_)
                 clear hK K
                 refine norm_ (a' := ?_) ?_ ?_
                 rotate_left
                 ·show Act.put _ (some 26) _ = _
                  simp only [Act.put, List.setIfInBounds_toArray, List.set_cons_zero, List.set_cons_succ, i64_w, i32_w]
                  rfl
                 refine pure_ (i := 5) (N := some 21) (v := ?_) (a' := ?_) #[true, true, true, true, true, true, false, false, true, false, false] rfl rfl (any_of HT_.out (by kernel_rfl)) (fun _ _ _ h => h) (Or.inl ⟨by rfl, ?_⟩) ?_ ?_
                 rotate_left
                 ·intro w'
                  go_simp
                  with_reducible rfl
                 rotate_left
                 ·simp only [Act.put, List.setIfInBounds_toArray, List.set_cons_zero, List.set_cons_succ, i64_w, i32_w]
                  rfl
                 refine pure_ (i := 6) (N := some 27) (v := ?_) (a' := ?_) #[true, true, true, true, true, true, true, false, true, false, false] rfl rfl (any_of HT_.out (by kernel_rfl)) (fun _ _ _ h => h) (Or.inl ⟨by rfl, ?_⟩) ?_ ?_
                 rotate_left
                 ·intro w'
                  go_simp
                  with_reducible rfl
                 rotate_left
                 ·simp only [Act.put, List.setIfInBounds_toArray, List.set_cons_zero, List.set_cons_succ, i64_w, i32_w]
                  rfl
                 refine pure_ (i := 7) (N := some 28) (v := ?_) (a' := ?_) #[true, true, true, true, true, true, true, true, true, false, false] rfl rfl (any_of HT_.out (by kernel_rfl)) (fun _ _ _ h => h) (Or.inl ⟨by rfl, ?_⟩) ?_ ?_
                 rotate_left
                 ·intro w'
                  go_simp
                  with_reducible rfl
                 rotate_left
                 ·simp only [Act.put, List.setIfInBounds_toArray, List.set_cons_zero, List.set_cons_succ, i64_w, i32_w]
                  rfl
                 exact norm_ (by simp only [putAll, Act.put, List.setIfInBounds_toArray, List.set_cons_zero, List.set_cons_succ]) (hCont (.slice Ao48 t240.length co48, v246, gb249) _ ⟨hHeld, (by (with_reducible repeat (first | apply Kd.R_alloc | apply Kd.R_drewN | apply Kd.R_drew)); exact Kd.R_mono HO242.out (fun _ hk => hk.2)), (by (with_reducible repeat (first | apply Kd.R_alloc | apply Kd.R_drewN | apply Kd.R_drew)); exact Kd.R_mono HO247.out (fun _ hk => hk.2)), BK237.out, BK238.out, BK249.out, GW249.out, GE249.out, NB237_249.out, NB249_237.out, NB238_249.out, NB249_238.out, HB.out⟩)
               ·skip
                refine box_step ?hg (N := 6) ?hd (cs := #[.slice none 0 0]) (t := 37) ?hr ?_; (case hd => rfl); (case hg => rfl); (case hr => first | (go_simp; done) | (go_simp; rfl))
                intro gb249 hg w46 hbox hb
                have n0_ := Aside0.mk (Kd.R_below HO242.out hb)
                have n1_ := Aside0.mk (blk_below BK237.out hb)
                have n2_ := Aside0.mk (blk_below BK238.out hb)
                have n3_ := Aside0.mk (below_step HB.out hb)
                have n4_ := Aside0.mk (hbox)
                have n5_ := Aside0.mk ((by rw [hg]; exact (below_size HB.out) : w.heap.size ≤ gb249))
                have n6_ := Aside0.mk ((by rw [hg]; exact (below_size HB.out) : w.heap.size ≤ gb249))
                have n7_ := Aside0.mk ((by rw [hg]; exact Nat.ne_of_lt (blk_lt BK237.out) : gb237 ≠ gb249))
                have n8_ := Aside0.mk ((by rw [hg]; exact Nat.ne_of_gt (blk_lt BK237.out) : gb249 ≠ gb237))
                have n9_ := Aside0.mk ((by rw [hg]; exact Nat.ne_of_lt (blk_lt BK238.out) : gb238 ≠ gb249))
                have n10_ := Aside0.mk ((by rw [hg]; exact Nat.ne_of_gt (blk_lt BK238.out) : gb249 ≠ gb238))
                clear HO242 BK237 BK238 HB
                have HO242 := n0_
                have BK237 := n1_
                have BK238 := n2_
                have HB := n3_
                have BK249 := n4_
                have GW249 := n5_
                have GE249 := n6_
                have NB237_249 := n7_
                have NB249_237 := n8_
                have NB238_249 := n9_
                have NB249_238 := n10_
                clear n0_ n1_ n2_ n3_ n4_ n5_ n6_ n7_ n8_ n9_ n10_
                clear hb hbox hg
                refine hK.out _ _ ⟨(blk_cell BK237.out 0).trans rfl, (blk_cell BK238.out 0).trans rfl, (blk_cell BK238.out 1).trans rfl⟩ (fun hHeld => ?_)
                clear hK K
                refine norm_ (a' := ?_) ?_ ?_
                rotate_left
                ·show Act.put _ (some 6) _ = _
                 simp only [Act.put, List.setIfInBounds_toArray, List.set_cons_zero, List.set_cons_succ, i64_w, i32_w]
                 rfl
                refine one_ (i := 3) (N := some 25) #[true, true, true, true, false, false, false, false, true, false, false] rfl rfl (one_of HT_.out (by kernel_rfl)) (by decide) (fun K hK => ?_)
                refine goes_ Try.func11 (by kernel_rfl) rfl #[.agg #[.int .i64 a1_0, .int .i64 a1_1]] (by rfl) rfl rfl (by (try simp only [List.map_toArray, List.map_cons, List.map_nil]); first | done | rfl | (simp only [List.length_drop, List.length_take]; rfl)) ?_
                with_reducible refine (laws_toItem.calls a1_0 a1_1 t243 t244 _ A11.out).mono ?_
                rintro e w47 ⟨rfl, hb⟩
                refine ⟨_, rfl, ?_⟩
                have n0_ := Aside0.mk (Kd.R_below HO242.out hb)
                have n1_ := Aside0.mk (blk_below BK237.out hb)
                have n2_ := Aside0.mk (blk_below BK238.out hb)
                have n3_ := Aside0.mk (blk_below BK249.out hb)
                have n4_ := Aside0.mk (below_step HB.out hb)
                clear HO242 BK237 BK238 BK249 HB
                have HO242 := n0_
                have BK237 := n1_
                have BK238 := n2_
                have BK249 := n3_
                have HB := n4_
                clear n0_ n1_ n2_ n3_ n4_
                (try clear hb)
                (try clear hb2)
                (try clear hk)
                (try clear hi)
                obtain ⟨Ao48, co48, eo48⟩ := Kd.R_slice HO242.out
                (first | subst eo48 | (injection eo48 with f1_ f2_ f3_; have f4_ := f1_.symm; have f5_ := f3_.symm; clear f1_ f2_ f3_; subst f4_; subst f5_))
                refine hK.out _ _ ⟨(blk_cell BK237.out 0).trans rfl, (blk_cell BK238.out 0).trans rfl, (blk_cell BK238.out 1).trans rfl⟩ (fun hHeld => ?_)
                clear hK K
                refine norm_ (a' := ?_) ?_ ?_
                rotate_left
                ·show Act.put _ (some 25) _ = _
                 simp only [Act.put, List.setIfInBounds_toArray, List.set_cons_zero, List.set_cons_succ, i64_w, i32_w]
                 rfl
                refine one_ (i := 4) (N := some 26) #[true, true, true, true, true, false, false, false, true, false, false] rfl rfl (one_of HT_.out (by kernel_rfl)) (by decide) (fun K hK => ?_)
                refine goes_ Try.func22 (by kernel_rfl) rfl #[.agg #[.slice Ao48 t240.length co48], .agg #[.int .i64 t243, .int .i64 t244]] (by rfl) rfl rfl (by (try simp only [List.map_toArray, List.map_cons, List.map_nil]); first | done | rfl | (simp only [List.length_drop, List.length_take]; rfl)) ?_
                with_reducible refine (spec_HeapPush.calls k _ _ t240 t243 t244 t245 t248 _ ?side1 ?side2 A12.out).mono ?_
                (case side1 => repeat (first | exact (Kd.R_reads' HO242.out).2.2 | (with_reducible refine Kd.C_alloc ?_ _) | (with_reducible refine Kd.C_drewN ?_ _) | (with_reducible refine Kd.C_drew ?_)))
                (case side2 => exact (Kd.R_reads' HO242.out).2.1)
                rintro e w49 ⟨v246, rfl, ho0, hb⟩
                refine ⟨_, rfl, ?_⟩
                have n0_ := Aside0.mk (Kd.R_elder' HO242.out (Kd.R_base ho0) hb)
                have n1_ := Aside0.mk (Kd.R_lower (Kd.R_new' ho0 (Kd.R_lt HO242.out)) (below_size HB.out))
                have n2_ := Aside0.mk (blk_below BK237.out hb)
                have n3_ := Aside0.mk (blk_below BK238.out hb)
                have n4_ := Aside0.mk (blk_below BK249.out hb)
                have n5_ := Aside0.mk (below_step HB.out hb)
                clear HO242 BK237 BK238 BK249 HB
                have HO242 := n0_
                have HO247 := n1_
                have BK237 := n2_
                have BK238 := n3_
                have BK249 := n4_
                have HB := n5_
                clear n0_ n1_ n2_ n3_ n4_ n5_
                (try clear hb)
                (try clear hb2)
                (try clear hk)
                (try clear hi)
                (try clear ho0)
                refine hK.out _ _ ⟨(blk_cell BK237.out 0).trans rfl, (blk_cell BK238.out 0).trans rfl, (blk_cell BK238.out 1).trans rfl⟩ (fun hHeld => ?_)
                clear hK K
                refine norm_ (a' := ?_) ?_ ?_
                rotate_left
                ·show Act.put _ (some 26) _ = _
                 simp only [Act.put, List.setIfInBounds_toArray, List.set_cons_zero, List.set_cons_succ, i64_w, i32_w]
                 rfl
                refine pure_ (i := 5) (N := some 21) (v := ?_) (a' := ?_) #[true, true, true, true, true, true, false, false, true, false, false] rfl rfl (any_of HT_.out (by kernel_rfl)) (fun _ _ _ h => h) (Or.inl ⟨by rfl, ?_⟩) ?_ ?_
                rotate_left
                ·intro w'
                 go_simp
                 with_reducible rfl
                rotate_left
                ·simp only [Act.put, List.setIfInBounds_toArray, List.set_cons_zero, List.set_cons_succ, i64_w, i32_w]
                 rfl
                refine pure_ (i := 6) (N := some 27) (v := ?_) (a' := ?_) #[true, true, true, true, true, true, true, false, true, false, false] rfl rfl (any_of HT_.out (by kernel_rfl)) (fun _ _ _ h => h) (Or.inl ⟨by rfl, ?_⟩) ?_ ?_
                rotate_left
                ·intro w'
                 go_simp
                 with_reducible rfl
                rotate_left
                ·simp only [Act.put, List.setIfInBounds_toArray, List.set_cons_zero, List.set_cons_succ, i64_w, i32_w]
                 rfl
                refine pure_ (i := 7) (N := some 28) (v := ?_) (a' := ?_) #[true, true, true, true, true, true, true, true, true, false, false] rfl rfl (any_of HT_.out (by kernel_rfl)) (fun _ _ _ h => h) (Or.inl ⟨by rfl, ?_⟩) ?_ ?_
                rotate_left
                ·intro w'
                 go_simp
                 with_reducible rfl
                rotate_left
                ·simp only [Act.put, List.setIfInBounds_toArray, List.set_cons_zero, List.set_cons_succ, i64_w, i32_w]
                 rfl
                exact norm_ (by simp only [putAll, Act.put, List.setIfInBounds_toArray, List.set_cons_zero, List.set_cons_succ]) (hCont (.slice Ao48 t240.length co48, v246, gb249) _ ⟨hHeld, (by (with_reducible repeat (first | apply Kd.R_alloc | apply Kd.R_drewN | apply Kd.R_drew)); exact Kd.R_mono HO242.out (fun _ hk => hk.2)), (by (with_reducible repeat (first | apply Kd.R_alloc | apply Kd.R_drewN | apply Kd.R_drew)); exact Kd.R_mono HO247.out (fun _ hk => hk.2)), BK237.out, BK238.out, BK249.out, GW249.out, GE249.out, NB237_249.out, NB249_237.out, NB238_249.out, NB249_238.out, HB.out⟩)
              ·skip
               refine box_step ?hg (N := 6) ?hd (cs := #[.slice none 0 0]) (t := 37) ?hr ?_; (case hd => rfl); (case hg => rfl); (case hr => first | (go_simp; done) | (go_simp; rfl))
               intro gb249 hg w45 hbox hb
               have n0_ := Aside0.mk (blk_below BK237.out hb)
               have n1_ := Aside0.mk (blk_below BK238.out hb)
               have n2_ := Aside0.mk (below_step HB.out hb)
               have n3_ := Aside0.mk (hbox)
               have n4_ := Aside0.mk ((by rw [hg]; exact (below_size HB.out) : w.heap.size ≤ gb249))
               have n5_ := Aside0.mk ((by rw [hg]; exact (below_size HB.out) : w.heap.size ≤ gb249))
               have n6_ := Aside0.mk ((by rw [hg]; exact Nat.ne_of_lt (blk_lt BK237.out) : gb237 ≠ gb249))
               have n7_ := Aside0.mk ((by rw [hg]; exact Nat.ne_of_gt (blk_lt BK237.out) : gb249 ≠ gb237))
               have n8_ := Aside0.mk ((by rw [hg]; exact Nat.ne_of_lt (blk_lt BK238.out) : gb238 ≠ gb249))
               have n9_ := Aside0.mk ((by rw [hg]; exact Nat.ne_of_gt (blk_lt BK238.out) : gb249 ≠ gb238))
               clear BK237 BK238 HB
               have BK237 := n0_
               have BK238 := n1_
               have HB := n2_
               have BK249 := n3_
               have GW249 := n4_
               have GE249 := n5_
               have NB237_249 := n6_
               have NB249_237 := n7_
               have NB238_249 := n8_
               have NB249_238 := n9_
               clear n0_ n1_ n2_ n3_ n4_ n5_ n6_ n7_ n8_ n9_
               clear hb hbox hg
               refine hK.out _ _ ⟨(blk_cell BK237.out 0).trans rfl, (blk_cell BK238.out 0).trans rfl, (blk_cell BK238.out 1).trans rfl⟩ (fun hHeld => ?_)
               clear hK K
               refine norm_ (a' := ?_) ?_ ?_
               rotate_left
               ·show Act.put _ (some 6) _ = _
                simp only [Act.put, List.setIfInBounds_toArray, List.set_cons_zero, List.set_cons_succ, i64_w, i32_w]
                rfl
               refine one_ (i := 1) (N := some 23) #[true, true, true, false, false, false, false, false, true, false, false] rfl rfl (one_of HT_.out (by kernel_rfl)) (by decide) (fun K hK => ?_)
               refine goes_ Try.func17 (by kernel_rfl) rfl #[.agg #[.slice A0_0 l0_0.length c0_0]] (by rfl) rfl rfl (by (try simp only [List.map_toArray, List.map_cons, List.map_nil]); first | done | rfl | (simp only [List.length_drop, List.length_take]; rfl)) ?_
               with_reducible refine (laws_toHeap.calls k _ _ l0_0 t240 _ ?side1 ?side2 A10.out).mono ?_
               (case side1 => repeat (first | exact (Kd.C_below HR0_0.out HB.out) | (with_reducible refine Kd.C_alloc ?_ _) | (with_reducible refine Kd.C_drewN ?_ _) | (with_reducible refine Kd.C_drew ?_)))
               (case side2 => exact HC0_0.out)
               rintro e w46 ⟨v241, rfl, ho0, hb⟩
               refine ⟨_, rfl, ?_⟩
               have n0_ := Aside0.mk (Kd.R_lower ho0 (below_size HB.out))
               have n1_ := Aside0.mk (blk_below BK237.out hb)
               have n2_ := Aside0.mk (blk_below BK238.out hb)
               have n3_ := Aside0.mk (blk_below BK249.out hb)
               have n4_ := Aside0.mk (below_step HB.out hb)
               clear BK237 BK238 BK249 HB
               have HO242 := n0_
               have BK237 := n1_
               have BK238 := n2_
               have BK249 := n3_
               have HB := n4_
               clear n0_ n1_ n2_ n3_ n4_
               (try clear hb)
               (try clear hb2)
               (try clear hk)
               (try clear hi)
               (try clear ho0)
               refine hK.out _ _ ⟨(blk_cell BK237.out 0).trans rfl, (blk_cell BK238.out 0).trans rfl, (blk_cell BK238.out 1).trans rfl⟩ (fun hHeld => ?_)
               clear hK K
               refine norm_ (a' := ?_) ?_ ?_
               rotate_left
               ·show Act.put _ (some 23) _ = _
                simp only [Act.put, List.setIfInBounds_toArray, List.set_cons_zero, List.set_cons_succ, i64_w, i32_w]
                rfl
               refine one_ (i := 3) (N := some 25) #[true, true, true, true, false, false, false, false, true, false, false] rfl rfl (one_of HT_.out (by kernel_rfl)) (by decide) (fun K hK => ?_)
               refine goes_ Try.func11 (by kernel_rfl) rfl #[.agg #[.int .i64 a1_0, .int .i64 a1_1]] (by rfl) rfl rfl (by (try simp only [List.map_toArray, List.map_cons, List.map_nil]); first | done | rfl | (simp only [List.length_drop, List.length_take]; rfl)) ?_
               with_reducible refine (laws_toItem.calls a1_0 a1_1 t243 t244 _ A11.out).mono ?_
               rintro e w47 ⟨rfl, hb⟩
               refine ⟨_, rfl, ?_⟩
               have n0_ := Aside0.mk (Kd.R_below HO242.out hb)
               have n1_ := Aside0.mk (blk_below BK237.out hb)
               have n2_ := Aside0.mk (blk_below BK238.out hb)
               have n3_ := Aside0.mk (blk_below BK249.out hb)
               have n4_ := Aside0.mk (below_step HB.out hb)
               clear HO242 BK237 BK238 BK249 HB
               have HO242 := n0_
               have BK237 := n1_
               have BK238 := n2_
               have BK249 := n3_
               have HB := n4_
               clear n0_ n1_ n2_ n3_ n4_
               (try clear hb)
               (try clear hb2)
               (try clear hk)
               (try clear hi)
               obtain ⟨Ao48, co48, eo48⟩ := Kd.R_slice HO242.out
               (first | subst eo48 | (injection eo48 with f1_ f2_ f3_; have f4_ := f1_.symm; have f5_ := f3_.symm; clear f1_ f2_ f3_; subst f4_; subst f5_))
               refine hK.out _ _ ⟨(blk_cell BK237.out 0).trans rfl, (blk_cell BK238.out 0).trans rfl, (blk_cell BK238.out 1).trans rfl⟩ (fun hHeld => ?_)
               clear hK K
               refine norm_ (a' := ?_) ?_ ?_
               rotate_left
               ·show Act.put _ (some 25) _ = _
                simp only [Act.put, List.setIfInBounds_toArray, List.set_cons_zero, List.set_cons_succ, i64_w, i32_w]
                rfl
               refine one_ (i := 4) (N := some 26) #[true, true, true, true, true, false, false, false, true, false, false] rfl rfl (one_of HT_.out (by kernel_rfl)) (by decide) (fun K hK => ?_)
               refine goes_ Try.func22 (by kernel_rfl) rfl #[.agg #[.slice Ao48 t240.length co48], .agg #[.int .i64 t243, .int .i64 t244]] (by rfl) rfl rfl (by (try simp only [List.map_toArray, List.map_cons, List.map_nil]); first | done | rfl | (simp only [List.length_drop, List.length_take]; rfl)) ?_
               with_reducible refine (spec_HeapPush.calls k _ _ t240 t243 t244 t245 t248 _ ?side1 ?side2 A12.out).mono ?_
               (case side1 => repeat (first | exact (Kd.R_reads' HO242.out).2.2 | (with_reducible refine Kd.C_alloc ?_ _) | (with_reducible refine Kd.C_drewN ?_ _) | (with_reducible refine Kd.C_drew ?_)))
               (case side2 => exact (Kd.R_reads' HO242.out).2.1)
               rintro e w49 ⟨v246, rfl, ho0, hb⟩
               refine ⟨_, rfl, ?_⟩
               have n0_ := Aside0.mk (Kd.R_elder' HO242.out (Kd.R_base ho0) hb)
               have n1_ := Aside0.mk (Kd.R_lower (Kd.R_new' ho0 (Kd.R_lt HO242.out)) (below_size HB.out))
               have n2_ := Aside0.mk (blk_below BK237.out hb)
               have n3_ := Aside0.mk (blk_below BK238.out hb)
               have n4_ := Aside0.mk (blk_below BK249.out hb)
               have n5_ := Aside0.mk (below_step HB.out hb)
               clear HO242 BK237 BK238 BK249 HB
               have HO242 := n0_
               have HO247 := n1_
               have BK237 := n2_
               have BK238 := n3_
               have BK249 := n4_
               have HB := n5_
               clear n0_ n1_ n2_ n3_ n4_ n5_
               (try clear hb)
               (try clear hb2)
               (try clear hk)
               (try clear hi)
               (try clear ho0)
               refine hK.out _ _ ⟨(blk_cell BK237.out 0).trans rfl, (blk_cell BK238.out 0).trans rfl, (blk_cell BK238.out 1).trans rfl⟩ (fun hHeld => ?_)
               clear hK K
               refine norm_ (a' := ?_) ?_ ?_
               rotate_left
               ·show Act.put _ (some 26) _ = _
                simp only [Act.put, List.setIfInBounds_toArray, List.set_cons_zero, List.set_cons_succ, i64_w, i32_w]
                rfl
               refine pure_ (i := 5) (N := some 21) (v := ?_) (a' := ?_) #[true, true, true, true, true, true, false, false, true, false, false] rfl rfl (any_of HT_.out (by kernel_rfl)) (fun _ _ _ h => h) (Or.inl ⟨by rfl, ?_⟩) ?_ ?_
               rotate_left
               ·intro w'
                go_simp
                with_reducible rfl
               rotate_left
               ·simp only [Act.put, List.setIfInBounds_toArray, List.set_cons_zero, List.set_cons_succ, i64_w, i32_w]
                rfl
               refine pure_ (i := 6) (N := some 27) (v := ?_) (a' := ?_) #[true, true, true, true, true, true, true, false, true, false, false] rfl rfl (any_of HT_.out (by kernel_rfl)) (fun _ _ _ h => h) (Or.inl ⟨by rfl, ?_⟩) ?_ ?_
               rotate_left
               ·intro w'
                go_simp
                with_reducible rfl
               rotate_left
               ·simp only [Act.put, List.setIfInBounds_toArray, List.set_cons_zero, List.set_cons_succ, i64_w, i32_w]
                rfl
               refine pure_ (i := 7) (N := some 28) (v := ?_) (a' := ?_) #[true, true, true, true, true, true, true, true, true, false, false] rfl rfl (any_of HT_.out (by kernel_rfl)) (fun _ _ _ h => h) (Or.inl ⟨by rfl, ?_⟩) ?_ ?_
               rotate_left
               ·intro w'
                go_simp
                with_reducible rfl
               rotate_left
               ·simp only [Act.put, List.setIfInBounds_toArray, List.set_cons_zero, List.set_cons_succ, i64_w, i32_w]
                rfl
               exact norm_ (by simp only [putAll, Act.put, List.setIfInBounds_toArray, List.set_cons_zero, List.set_cons_succ]) (hCont (.slice Ao48 t240.length co48, v246, gb249) _ ⟨hHeld, (by (with_reducible repeat (first | apply Kd.R_alloc | apply Kd.R_drewN | apply Kd.R_drew)); exact Kd.R_mono HO242.out (fun _ hk => hk.2)), (by (with_reducible repeat (first | apply Kd.R_alloc | apply Kd.R_drewN | apply Kd.R_drew)); exact Kd.R_mono HO247.out (fun _ hk => hk.2)), BK237.out, BK238.out, BK249.out, GW249.out, GE249.out, NB237_249.out, NB249_237.out, NB238_249.out, NB249_238.out, HB.out⟩)
             rintro ⟨v241, v246, gb249⟩ w50 ⟨hS_, h0_, h1_, h2_, h3_, h4_, h5_, h6_, h7_, h8_, h9_, h10_, h11_⟩
             have n0_ : Aside0 (Kd.R k25 25 w50 w.heap.size (fun k_ => some k_ ≠ (v246 : Value).ownBlock) v241 t240) := ⟨h0_⟩
             have n1_ : Aside0 (Kd.R k25 25 w50 w.heap.size (fun k_ => some k_ ≠ (v241 : Value).ownBlock) v246 t245) := ⟨h1_⟩
             have n2_ : Aside0 (w50.heap[gb237]? = some (.cells #[.slice A0_0 l0_0.length c0_0] 32 (0, 0))) := ⟨h2_⟩
             have n3_ : Aside0 (w50.heap[gb238]? = some (.cells #[.int .i64 a1_0, .int .i64 a1_1] 23 (0, 0))) := ⟨h3_⟩
             have n4_ : Aside0 (w50.heap[gb249]? = some (.cells #[.slice none 0 0] 37 (0, 0))) := ⟨h4_⟩
             have n5_ : Aside0 (w.heap.size ≤ gb249) := ⟨h5_⟩
             have n6_ : Aside0 (w.heap.size ≤ gb249) := ⟨h6_⟩
             have n7_ : Aside0 (gb237 ≠ gb249) := ⟨h7_⟩
             have n8_ : Aside0 (gb249 ≠ gb237) := ⟨h8_⟩
             have n9_ : Aside0 (gb238 ≠ gb249) := ⟨h9_⟩
             have n10_ : Aside0 (gb249 ≠ gb238) := ⟨h10_⟩
             have n11_ : Aside0 (Below w.heap.size w w50) := ⟨h11_⟩
             clear BK237 BK238 HB
             clear h0_ h1_ h2_ h3_ h4_ h5_ h6_ h7_ h8_ h9_ h10_ h11_
             have HO242 := n0_
             have HO247 := n1_
             have BK237 := n2_
             have BK238 := n3_
             have BK249 := n4_
             have GW249 := n5_
             have GE249 := n6_
             have NB237_249 := n7_
             have NB249_237 := n8_
             have NB238_249 := n9_
             have NB249_238 := n10_
             have HB := n11_
             clear n0_ n1_ n2_ n3_ n4_ n5_ n6_ n7_ n8_ n9_ n10_ n11_
             have hHeld : w50.cell? ⟨gb237, 0, none⟩ = some (.slice A0_0 l0_0.length c0_0) ∧ w50.cell? ⟨gb238, 0, none⟩ = some (.int .i64 a1_0) ∧ w50.cell? ⟨gb238, 1, none⟩ = some (.int .i64 a1_1) := hS_
             obtain ⟨Ao51, co51, eo51⟩ := Kd.R_slice HO247.out
             (first | subst eo51 | (injection eo51 with f1_ f2_ f3_; have f4_ := f1_.symm; have f5_ := f3_.symm; clear f1_ f2_ f3_; subst f4_; subst f5_))
             refine norm_ (a' := ?_) ?_ ?_
             rotate_left
             ·simp only [putAll, Act.put, List.setIfInBounds_toArray, List.set_cons_zero, List.set_cons_succ]
              rfl
             refine one_ (i := 9) (N := none) #[true, true, true, true, true, true, true, true, true, true, false] rfl rfl (one_of HT_.out (by kernel_rfl)) (by decide) (fun K hK => ?_)
             have hs52 : w50.cell? ⟨gb249, 0, none⟩ = some (.slice none 0 0) := (blk_cell BK249.out 0).trans rfl
             have hfs52 := blk_frozen BK249.out 0
             have hns52_0 := NB237_249.out
             have hns52_1 := NB238_249.out
             have hms52_0 := NB249_237.out
             have hms52_1 := NB249_238.out
             refine skip_ (w1 := ?_) (by rfl) rfl ?_ ?_
             rotate_left
             ·go_simp
              rfl
             refine hK.out _ _ ⟨((cell_far (p := ⟨gb249, _, none⟩) NB237_249.out _).trans (hHeld.1)), ((cell_far (p := ⟨gb249, _, none⟩) NB238_249.out _).trans (hHeld.2.1)), ((cell_far (p := ⟨gb249, _, none⟩) NB238_249.out _).trans (hHeld.2.2))⟩ (fun hHeld => ?_)
             clear hK K
             refine pure_ (i := 10) (N := some 7) (v := ?_) (a' := ?_) #[true, true, true, true, true, true, true, true, true, true, true] rfl rfl (any_of HT_.out (by kernel_rfl)) (fun _ _ _ h => h) (Or.inl ⟨by rfl, ?_⟩) ?_ ?_
             rotate_left
             ·intro w'
              go_simp
              with_reducible rfl
             rotate_left
             ·simp only [Act.put, List.setIfInBounds_toArray, List.set_cons_zero, List.set_cons_succ, i64_w, i32_w]
              rfl
             refine done_ (done_of HT_.out (by kernel_rfl)) ?_
             have hnb53 := NB237_249.out
             have hnc53 := NB249_237.out
             have hcz54_0 : w50.cell? ⟨gb237, 0, none⟩ = some (.slice A0_0 l0_0.length c0_0) := (blk_cell BK237.out 0).trans rfl
             have hfz54_0 := blk_frozen BK237.out 0
             try go_wp2_with (first | ((with_reducible refine gate_callee (f := 17) rfl ?_); refine goesL_ (some 30) rfl rfl Try.func17 (by kernel_rfl) rfl #[.agg #[.slice A0_0 l0_0.length c0_0]] rfl (by (try simp only [List.map_toArray, List.map_cons, List.map_nil]); first | done | rfl | (simp only [List.length_drop, List.length_take]; rfl)) ?_; (with_reducible refine (laws_toHeap.calls k _ _ l0_0 t250 _ ?side1 ?side2 A13.out).mono ?_); (case side1 => exact Kd.C_below HR0_0.out Gv.bw); (case side2 => exact HC0_0.out); rintro e w55 ⟨v251, rfl, ho0, hb⟩; refine ⟨_, rfl, ?_⟩; have n0_ := Aside0.mk (Kd.R_elder' (by (with_reducible repeat (first | apply Kd.R_alloc | apply Kd.R_drewN | apply Kd.R_drew)); exact (Kd.R_mono (Kd.R_far (p := ⟨gb249, 0, none⟩) (Kd.R_types HO242.out BK249.out (by decide)) (fun _ hk => hk.2) (.slice Ao51 t245.length co51)) (fun _ h_ => h_.1))) (Kd.R_base ho0) hb); have n1_ := Aside0.mk (Kd.R_elder' (by (with_reducible repeat (first | apply Kd.R_alloc | apply Kd.R_drewN | apply Kd.R_drew)); exact (Kd.R_mono (Kd.R_far (p := ⟨gb249, 0, none⟩) (Kd.R_types HO247.out BK249.out (by decide)) (fun _ hk => hk.2) (.slice Ao51 t245.length co51)) (fun _ h_ => h_.1))) (Kd.R_base ho0) hb); have n2_ := Aside0.mk (Kd.R_lower (Kd.R_new' (Kd.R_new' ho0 (Kd.R_lt (by (with_reducible repeat (first | apply Kd.R_alloc | apply Kd.R_drewN | apply Kd.R_drew)); exact (Kd.R_mono (Kd.R_far (p := ⟨gb249, 0, none⟩) (Kd.R_types HO242.out BK249.out (by decide)) (fun _ hk => hk.2) (.slice Ao51 t245.length co51)) (fun _ h_ => h_.1))))) (Kd.R_lt (by (with_reducible repeat (first | apply Kd.R_alloc | apply Kd.R_drewN | apply Kd.R_drew)); exact (Kd.R_mono (Kd.R_far (p := ⟨gb249, 0, none⟩) (Kd.R_types HO247.out BK249.out (by decide)) (fun _ hk => hk.2) (.slice Ao51 t245.length co51)) (fun _ h_ => h_.1))))) (below_size Gv.bw)); have n3_ := Aside0.mk (blk_below (g := gb237) (o := .cells #[.slice A0_0 l0_0.length c0_0] 32 (0, 0)) Gv.bkf hb); have n4_ := Aside0.mk (blk_below (g := gb238) (o := .cells #[.int .i64 a1_0, .int .i64 a1_1] 23 (0, 0)) Gv.bkf hb); have n5_ := Aside0.mk (blk_below (g := gb249) (o := .cells #[.slice Ao51 t245.length co51] 37 (0, 0)) (by (with_reducible repeat (first | refine blk_drewN ?_ _ | refine blk_drew ?_ | refine blk_alloc ?_ _)); refine blk_put (cs := #[.slice none 0 0]) ?_ 0 _ rfl; (with_reducible repeat (first | refine blk_drewN ?_ _ | refine blk_drew ?_ | refine blk_alloc ?_ _)); exact BK249.out) hb); have n6_ := Aside0.mk (below_step Gv.bw hb); clear HO242; clear HO247; clear BK237; clear BK238; clear BK249; clear HB; have HO242 := n0_; have HO247 := n1_; have HO252 := n2_; have BK237 := n3_; have BK238 := n4_; have BK249 := n5_; have HB := n6_; clear n0_ n1_ n2_ n3_ n4_ n5_ n6_; (try clear hb); (try clear hb2); (try clear hk); (try clear hi); (try clear ho0)) | ((with_reducible refine gate_dst (N := 8) rfl ?_); refine box_event ?hg (N := 8) ?hd (cs := #[.slice none 0 0]) (t := 37) ?hr ?_; (case hd => rfl); (case hg => rfl); (case hr => first | (go_simp; done) | (go_simp; rfl)); intro gb253 hg w56 hbox hb; have n0_ := Aside0.mk (Kd.R_below (by (with_reducible repeat (first | apply Kd.R_alloc | apply Kd.R_drewN | apply Kd.R_drew)); exact HO242.out) hb); have n1_ := Aside0.mk (Kd.R_below (by (with_reducible repeat (first | apply Kd.R_alloc | apply Kd.R_drewN | apply Kd.R_drew)); exact HO247.out) hb); have n2_ := Aside0.mk (Kd.R_below (by (with_reducible repeat (first | apply Kd.R_alloc | apply Kd.R_drewN | apply Kd.R_drew)); exact HO252.out) hb); have n3_ := Aside0.mk (blk_below (g := gb237) (o := .cells #[.slice A0_0 l0_0.length c0_0] 32 (0, 0)) Gv.bk hb); have n4_ := Aside0.mk (blk_below (g := gb238) (o := .cells #[.int .i64 a1_0, .int .i64 a1_1] 23 (0, 0)) Gv.bk hb); have n5_ := Aside0.mk (blk_below (g := gb249) (o := .cells #[.slice Ao51 t245.length co51] 37 (0, 0)) Gv.bk hb); have n6_ := Aside0.mk (below_step Gv.bw hb); have n7_ := Aside0.mk (hbox); have n8_ := Aside0.mk ((by rw [hg]; exact (below_size Gv.bw) : w.heap.size ≤ gb253)); have n9_ := Aside0.mk ((by rw [hg]; exact (below_size Gv.bw) : w.heap.size ≤ gb253)); have n10_ := Aside0.mk ((by rw [hg]; exact Nat.ne_of_lt (blk_lt (g := gb237) (o := .cells #[.slice A0_0 l0_0.length c0_0] 32 (0, 0)) Gv.bk) : gb237 ≠ gb253)); have n11_ := Aside0.mk ((by rw [hg]; exact Nat.ne_of_gt (blk_lt (g := gb237) (o := .cells #[.slice A0_0 l0_0.length c0_0] 32 (0, 0)) Gv.bk) : gb253 ≠ gb237)); have n12_ := Aside0.mk ((by rw [hg]; exact Nat.ne_of_lt (blk_lt (g := gb238) (o := .cells #[.int .i64 a1_0, .int .i64 a1_1] 23 (0, 0)) Gv.bk) : gb238 ≠ gb253)); have n13_ := Aside0.mk ((by rw [hg]; exact Nat.ne_of_gt (blk_lt (g := gb238) (o := .cells #[.int .i64 a1_0, .int .i64 a1_1] 23 (0, 0)) Gv.bk) : gb253 ≠ gb238)); have n14_ := Aside0.mk ((by rw [hg]; exact Nat.ne_of_lt (blk_lt (g := gb249) (o := .cells #[.slice Ao51 t245.length co51] 37 (0, 0)) Gv.bk) : gb249 ≠ gb253)); have n15_ := Aside0.mk ((by rw [hg]; exact Nat.ne_of_gt (blk_lt (g := gb249) (o := .cells #[.slice Ao51 t245.length co51] 37 (0, 0)) Gv.bk) : gb253 ≠ gb249)); clear HO242; clear HO247; clear HO252; clear BK237; clear BK238; clear BK249; clear HB; have HO242 := n0_; have HO247 := n1_; have HO252 := n2_; have BK237 := n3_; have BK238 := n4_; have BK249 := n5_; have HB := n6_; have BK253 := n7_; have GW253 := n8_; have GE253 := n9_; have NB237_253 := n10_; have NB253_237 := n11_; have NB238_253 := n12_; have NB253_238 := n13_; have NB249_253 := n14_; have NB253_249 := n15_; clear n0_ n1_ n2_ n3_ n4_ n5_ n6_ n7_ n8_ n9_ n10_ n11_ n12_ n13_ n14_ n15_; clear hb hbox hg; obtain ⟨Ao57, co57, eo57⟩ := Kd.R_slice HO252.out; subst eo57; have hnb58 := NB253_237.out; have hnc58 := NB237_253.out; have hnb59 := NB253_238.out; have hnc59 := NB238_253.out; have hnb60 := NB253_249.out; have hnc60 := NB249_253.out; have hcz61_0 : w56.cell? ⟨gb253, 0, none⟩ = some (.slice none 0 0) := (blk_cell BK253.out 0).trans rfl; have hfz61_0 := blk_frozen BK253.out 0))
             have n0_ : Aside0 (Kd.R k25 25 (w56.setCell ⟨gb253, 0, none⟩ (.slice Ao57 t250.length co57)) w.heap.size (fun k_ => some k_ ≠ (.slice Ao51 t245.length co51 : Value).ownBlock ∧ some k_ ≠ (.slice Ao57 t250.length co57 : Value).ownBlock) v241 t240) := ⟨by (with_reducible repeat (first | apply Kd.R_alloc | apply Kd.R_drewN | apply Kd.R_drew)); exact Kd.R_mono (Kd.R_far (p := ⟨gb253, 0, none⟩) (Kd.R_types HO242.out BK253.out (by decide)) (fun _ hk => hk.2) (.slice Ao57 t250.length co57)) (fun _ hk => ⟨hk.1.1, hk.1.2⟩)⟩
             have n1_ : Aside0 (Kd.R k25 25 (w56.setCell ⟨gb253, 0, none⟩ (.slice Ao57 t250.length co57)) w.heap.size (fun k_ => some k_ ≠ (v241 : Value).ownBlock ∧ some k_ ≠ (.slice Ao57 t250.length co57 : Value).ownBlock) (.slice Ao51 t245.length co51) t245) := ⟨by (with_reducible repeat (first | apply Kd.R_alloc | apply Kd.R_drewN | apply Kd.R_drew)); exact Kd.R_mono (Kd.R_far (p := ⟨gb253, 0, none⟩) (Kd.R_types HO247.out BK253.out (by decide)) (fun _ hk => hk.2) (.slice Ao57 t250.length co57)) (fun _ hk => ⟨hk.1.1, hk.1.2⟩)⟩
             have n2_ : Aside0 (Kd.R k25 25 (w56.setCell ⟨gb253, 0, none⟩ (.slice Ao57 t250.length co57)) w.heap.size (fun k_ => some k_ ≠ (v241 : Value).ownBlock ∧ some k_ ≠ (.slice Ao51 t245.length co51 : Value).ownBlock) (.slice Ao57 t250.length co57) t250) := ⟨by (with_reducible repeat (first | apply Kd.R_alloc | apply Kd.R_drewN | apply Kd.R_drew)); exact Kd.R_mono (Kd.R_far (p := ⟨gb253, 0, none⟩) (Kd.R_types HO252.out BK253.out (by decide)) (fun _ hk => hk.2) (.slice Ao57 t250.length co57)) (fun _ hk => ⟨hk.1.1.2, hk.1.2⟩)⟩
             have n3_ : Aside0 ((w56.setCell ⟨gb253, 0, none⟩ (.slice Ao57 t250.length co57)).heap[gb237]? = some (.cells #[.slice A0_0 l0_0.length c0_0] 32 (0, 0))) := ⟨by (with_reducible repeat (first | refine blk_drewN ?_ _ | refine blk_drew ?_ | refine blk_alloc ?_ _)); refine blk_far ?_ NB237_253.out _; (with_reducible repeat (first | refine blk_drewN ?_ _ | refine blk_drew ?_ | refine blk_alloc ?_ _)); exact BK237.out⟩
             have n4_ : Aside0 ((w56.setCell ⟨gb253, 0, none⟩ (.slice Ao57 t250.length co57)).heap[gb238]? = some (.cells #[.int .i64 a1_0, .int .i64 a1_1] 23 (0, 0))) := ⟨by (with_reducible repeat (first | refine blk_drewN ?_ _ | refine blk_drew ?_ | refine blk_alloc ?_ _)); refine blk_far ?_ NB238_253.out _; (with_reducible repeat (first | refine blk_drewN ?_ _ | refine blk_drew ?_ | refine blk_alloc ?_ _)); exact BK238.out⟩
             have n5_ : Aside0 ((w56.setCell ⟨gb253, 0, none⟩ (.slice Ao57 t250.length co57)).heap[gb249]? = some (.cells #[.slice Ao51 t245.length co51] 37 (0, 0))) := ⟨by (with_reducible repeat (first | refine blk_drewN ?_ _ | refine blk_drew ?_ | refine blk_alloc ?_ _)); refine blk_far ?_ NB249_253.out _; (with_reducible repeat (first | refine blk_drewN ?_ _ | refine blk_drew ?_ | refine blk_alloc ?_ _)); exact BK249.out⟩
             have n6_ : Aside0 ((w56.setCell ⟨gb253, 0, none⟩ (.slice Ao57 t250.length co57)).heap[gb253]? = some (.cells #[.slice Ao57 t250.length co57] 37 (0, 0))) := ⟨by (with_reducible repeat (first | refine blk_drewN ?_ _ | refine blk_drew ?_ | refine blk_alloc ?_ _)); refine blk_put (cs := #[.slice none 0 0]) ?_ 0 _ rfl; (with_reducible repeat (first | refine blk_drewN ?_ _ | refine blk_drew ?_ | refine blk_alloc ?_ _)); exact BK253.out⟩
             have n7_ : Aside0 (Below w.heap.size w (w56.setCell ⟨gb253, 0, none⟩ (.slice Ao57 t250.length co57))) := ⟨by repeat (first | (with_reducible first | exact HB.out | apply below_alloc | apply pw_below_drewN | apply below_drew1 | refine below_set ?_ GE237.out | refine below_set ?_ GE238.out | refine below_set ?_ GE249.out | refine below_set ?_ GE253.out) | exact HB.out)⟩
             (try clear HO242)
             (try clear HO247)
             (try clear HO252)
             (try clear BK237)
             (try clear BK238)
             (try clear BK249)
             (try clear BK253)
             (try clear HB)
             generalize (w56.setCell ⟨gb253, 0, none⟩ (.slice Ao57 t250.length co57)) = w62 at n0_ n1_ n2_ n3_ n4_ n5_ n6_ n7_ ⊢
             have HO242 := n0_
             have HO247 := n1_
             have HO252 := n2_
             have BK237 := n3_
             have BK238 := n4_
             have BK249 := n5_
             have BK253 := n6_
             have HB := n7_
             clear n0_ n1_ n2_ n3_ n4_ n5_ n6_ n7_
             have n0_ := Aside0.mk (Kd.R_drew HO242.out)
             have n1_ := Aside0.mk (Kd.R_drew HO247.out)
             have n2_ := Aside0.mk (Kd.R_drew HO252.out)
             have n3_ := Aside0.mk (blk_drew BK237.out)
             have n4_ := Aside0.mk (blk_drew BK238.out)
             have n5_ := Aside0.mk (blk_drew BK249.out)
             have n6_ := Aside0.mk (blk_drew BK253.out)
             have n7_ := Aside0.mk (below_drew1 HB.out)
             clear HO242 HO247 HO252 BK237 BK238 BK249 BK253 HB
             have HO242 := n0_
             have HO247 := n1_
             have HO252 := n2_
             have BK237 := n3_
             have BK238 := n4_
             have BK249 := n5_
             have BK253 := n6_
             have HB := n7_
             clear n0_ n1_ n2_ n3_ n4_ n5_ n6_ n7_
             refine start_ (n := 10) (S := fun w' => w'.cell? ⟨gb253, 0, none⟩ = some (.slice Ao57 t250.length co57) ∧ w'.cell? ⟨gb238, 0, none⟩ = some (.int .i64 a1_0) ∧ w'.cell? ⟨gb238, 1, none⟩ = some (.int .i64 a1_1)) (ds := []) #[false, false, false, false, false, false, false, false, false, false] (by kernel_rfl) rfl rfl ⟨(blk_cell BK253.out 0).trans rfl, (blk_cell BK238.out 0).trans rfl, (blk_cell BK238.out 1).trans rfl⟩ (fun hHeld => ?_); refine with_tabW laws_FnExactHeapPush.tab7 laws_FnExactHeapPush.bits7 (fun HT_ HW_ => ?_)
             generalize w62.drew = w63 at HO242 HO247 HO252 BK237 BK238 BK249 BK253 HB hHeld ⊢
             refine take_ (i := 0) (N := some 32) (v := ?_) (a' := ?_) #[true, false, false, false, false, false, false, false, false, false] rfl rfl (take_ofW HT_.out HW_.out (by kernel_rfl)) (fun _ _ _ h => h) (Or.inl ⟨by rfl, ?_⟩) hHeld ?_ ?_
             rotate_left
             ·rintro w' ⟨s0, s1, s2⟩
              go_simp
              with_reducible rfl
             rotate_left
             ·simp only [Act.put, List.setIfInBounds_toArray, List.set_cons_zero, List.set_cons_succ, i64_w, i32_w]
              rfl
             refine take_ (i := 1) (N := some 33) (v := ?_) (a' := ?_) #[true, true, false, false, false, false, false, false, false, false] rfl rfl (take_ofW HT_.out HW_.out (by kernel_rfl)) (fun _ _ _ h => h) (Or.inl ⟨by rfl, ?_⟩) hHeld ?_ ?_
             rotate_left
             ·rintro w' ⟨s0, s1, s2⟩
              go_simp
              with_reducible rfl
             rotate_left
             ·simp only [Act.put, List.setIfInBounds_toArray, List.set_cons_zero, List.set_cons_succ, i64_w, i32_w]
              rfl
             refine join_ (σ := Value × Nat) 2 #[true, true, true, true, true, true, true, true, false, false] (fun s_ => [(34, .agg #[.int .i64 t254, .int .i64 t255]), (35, .tuple #[.agg #[s_.1], .int .i64 t259]), (9, .pointer (some ⟨s_.2, 0, none⟩)), (31, .tuple #[.agg #[s_.1], .int .i64 t259]), (36, .agg #[s_.1]), (37, .int .i64 t259)]) (fun s_ w' => (w'.cell? ⟨gb253, 0, none⟩ = some (.slice Ao57 t250.length co57) ∧ w'.cell? ⟨gb238, 0, none⟩ = some (.int .i64 a1_0) ∧ w'.cell? ⟨gb238, 1, none⟩ = some (.int .i64 a1_1)) ∧ (Kd.R k25 25 w' w.heap.size (fun k_ => some k_ ≠ (.slice Ao51 t245.length co51 : Value).ownBlock ∧ some k_ ≠ (.slice Ao57 t250.length co57 : Value).ownBlock ∧ some k_ ≠ (s_.1 : Value).ownBlock) v241 t240) ∧ (Kd.R k25 25 w' w.heap.size (fun k_ => some k_ ≠ (v241 : Value).ownBlock ∧ some k_ ≠ (.slice Ao57 t250.length co57 : Value).ownBlock ∧ some k_ ≠ (s_.1 : Value).ownBlock) (.slice Ao51 t245.length co51) t245) ∧ (Kd.R k25 25 w' w.heap.size (fun k_ => some k_ ≠ (v241 : Value).ownBlock ∧ some k_ ≠ (.slice Ao51 t245.length co51 : Value).ownBlock ∧ some k_ ≠ (s_.1 : Value).ownBlock) (.slice Ao57 t250.length co57) t250) ∧ (Kd.R k25 25 w' w.heap.size (fun k_ => some k_ ≠ (v241 : Value).ownBlock ∧ some k_ ≠ (.slice Ao51 t245.length co51 : Value).ownBlock ∧ some k_ ≠ (.slice Ao57 t250.length co57 : Value).ownBlock) s_.1 t256) ∧ (w'.heap[gb237]? = some (.cells #[.slice A0_0 l0_0.length c0_0] 32 (0, 0))) ∧ (w'.heap[gb238]? = some (.cells #[.int .i64 a1_0, .int .i64 a1_1] 23 (0, 0))) ∧ (w'.heap[gb249]? = some (.cells #[.slice Ao51 t245.length co51] 37 (0, 0))) ∧ (w'.heap[gb253]? = some (.cells #[.slice Ao57 t250.length co57] 37 (0, 0))) ∧ (w'.heap[s_.2]? = some (.cells #[.slice none 0 0] 37 (0, 0))) ∧ (w.heap.size ≤ s_.2) ∧ (w.heap.size ≤ s_.2) ∧ (gb237 ≠ s_.2) ∧ (s_.2 ≠ gb237) ∧ (gb238 ≠ s_.2) ∧ (s_.2 ≠ gb238) ∧ (gb249 ≠ s_.2) ∧ (s_.2 ≠ gb249) ∧ (gb253 ≠ s_.2) ∧ (s_.2 ≠ gb253) ∧ (Below w.heap.size w w')) ?_ ?_
             rotate_left
             ·intro hCont
              refine two_ (i := 2) (j := 7) (Ni := some 34) (Nj := some 9) #[true, true, true, false, false, false, false, false, false, false] #[true, true, false, false, false, false, false, true, false, false] rfl rfl rfl rfl (two_of HT_.out (by kernel_rfl)) (by decide) (by decide) (fun K hK => ?_) (fun K hK => ?_)
              ·skip
               refine goes_ Try.func11 (by kernel_rfl) rfl #[.agg #[.int .i64 a1_0, .int .i64 a1_1]] (by rfl) rfl rfl (by (try simp only [List.map_toArray, List.map_cons, List.map_nil]); first | done | rfl | (simp only [List.length_drop, List.length_take]; rfl)) ?_
               with_reducible refine (laws_toItem.calls a1_0 a1_1 t254 t255 _ A14.out).mono ?_
               rintro e w64 ⟨rfl, hb⟩
               refine ⟨_, rfl, ?_⟩
               have n0_ := Aside0.mk (Kd.R_below HO242.out hb)
               have n1_ := Aside0.mk (Kd.R_below HO247.out hb)
               have n2_ := Aside0.mk (Kd.R_below HO252.out hb)
               have n3_ := Aside0.mk (blk_below BK237.out hb)
               have n4_ := Aside0.mk (blk_below BK238.out hb)
               have n5_ := Aside0.mk (blk_below BK249.out hb)
               have n6_ := Aside0.mk (blk_below BK253.out hb)
               have n7_ := Aside0.mk (below_step HB.out hb)
               clear HO242 HO247 HO252 BK237 BK238 BK249 BK253 HB
               have HO242 := n0_
               have HO247 := n1_
               have HO252 := n2_
               have BK237 := n3_
               have BK238 := n4_
               have BK249 := n5_
               have BK253 := n6_
               have HB := n7_
               clear n0_ n1_ n2_ n3_ n4_ n5_ n6_ n7_
               (try clear hb)
               (try clear hb2)
               (try clear hk)
               (try clear hi)
               refine hK.out _ _ ⟨(blk_cell BK253.out 0).trans rfl, (blk_cell BK238.out 0).trans rfl, (blk_cell BK238.out 1).trans rfl⟩ (fun hHeld => ?_)
               clear hK K
               refine norm_ (a' := ?_) ?_ ?_
               rotate_left
               ·show Act.put _ (some 34) _ = _
                simp only [Act.put, List.setIfInBounds_toArray, List.set_cons_zero, List.set_cons_succ, i64_w, i32_w]
                rfl
               refine two_ (i := 3) (j := 7) (Ni := some 35) (Nj := some 9) #[true, true, true, true, false, false, false, false, false, false] #[true, true, true, false, false, false, false, true, false, false] rfl rfl rfl rfl (two_of HT_.out (by kernel_rfl)) (by decide) (by decide) (fun K hK => ?_) (fun K hK => ?_)
               ·skip
                refine goes_ Try.func23 (by kernel_rfl) rfl #[.agg #[.slice Ao57 t250.length co57], .agg #[.int .i64 t254, .int .i64 t255]] (by rfl) rfl rfl (by (try simp only [List.map_toArray, List.map_cons, List.map_nil]); first | done | rfl | (simp only [List.length_drop, List.length_take]; rfl)) ?_
                with_reducible refine (impl_HeapPush.calls k _ _ t250 t254 t255 t256 t259 _ ?side1 ?side2 A15.out).mono ?_
                (case side1 => repeat (first | exact (Kd.R_reads' HO252.out).2.2 | (with_reducible refine Kd.C_alloc ?_ _) | (with_reducible refine Kd.C_drewN ?_ _) | (with_reducible refine Kd.C_drew ?_)))
                (case side2 => exact (Kd.R_reads' HO252.out).2.1)
                rintro e w65 ⟨v257, rfl, ho0, hb⟩
                refine ⟨_, rfl, ?_⟩
                have n0_ := Aside0.mk (Kd.R_elder' HO242.out (Kd.R_base ho0) hb)
                have n1_ := Aside0.mk (Kd.R_elder' HO247.out (Kd.R_base ho0) hb)
                have n2_ := Aside0.mk (Kd.R_elder' HO252.out (Kd.R_base ho0) hb)
                have n3_ := Aside0.mk (Kd.R_lower (Kd.R_new' (Kd.R_new' (Kd.R_new' ho0 (Kd.R_lt HO242.out)) (Kd.R_lt HO247.out)) (Kd.R_lt HO252.out)) (below_size HB.out))
                have n4_ := Aside0.mk (blk_below BK237.out hb)
                have n5_ := Aside0.mk (blk_below BK238.out hb)
                have n6_ := Aside0.mk (blk_below BK249.out hb)
                have n7_ := Aside0.mk (blk_below BK253.out hb)
                have n8_ := Aside0.mk (below_step HB.out hb)
                clear HO242 HO247 HO252 BK237 BK238 BK249 BK253 HB
                have HO242 := n0_
                have HO247 := n1_
                have HO252 := n2_
                have HO258 := n3_
                have BK237 := n4_
                have BK238 := n5_
                have BK249 := n6_
                have BK253 := n7_
                have HB := n8_
                clear n0_ n1_ n2_ n3_ n4_ n5_ n6_ n7_ n8_
                (try clear hb)
                (try clear hb2)
                (try clear hk)
                (try clear hi)
                (try clear ho0)
                refine hK.out _ _ ⟨(blk_cell BK253.out 0).trans rfl, (blk_cell BK238.out 0).trans rfl, (blk_cell BK238.out 1).trans rfl⟩ (fun hHeld => ?_)
                clear hK K
                refine norm_ (a' := ?_) ?_ ?_
                rotate_left
                ·show Act.put _ (some 35) _ = _
                 simp only [Act.put, List.setIfInBounds_toArray, List.set_cons_zero, List.set_cons_succ, i64_w, i32_w]
                 rfl
                refine pure_ (i := 4) (N := some 31) (v := ?_) (a' := ?_) #[true, true, true, true, true, false, false, false, false, false] rfl rfl (any_of HT_.out (by kernel_rfl)) (fun _ _ _ h => h) (Or.inl ⟨by rfl, ?_⟩) ?_ ?_
                rotate_left
                ·intro w'
                 go_simp
                 with_reducible rfl
                rotate_left
                ·simp only [Act.put, List.setIfInBounds_toArray, List.set_cons_zero, List.set_cons_succ, i64_w, i32_w]
                 rfl
                refine pure_ (i := 5) (N := some 36) (v := ?_) (a' := ?_) #[true, true, true, true, true, true, false, false, false, false] rfl rfl (any_of HT_.out (by kernel_rfl)) (fun _ _ _ h => h) (Or.inl ⟨by rfl, ?_⟩) ?_ ?_
                rotate_left
                ·intro w'
                 go_simp
                 with_reducible rfl
                rotate_left
                ·simp only [Act.put, List.setIfInBounds_toArray, List.set_cons_zero, List.set_cons_succ, i64_w, i32_w]
                 rfl
                refine pure_ (i := 6) (N := some 37) (v := ?_) (a' := ?_) #[true, true, true, true, true, true, true, false, false, false] rfl rfl (any_of HT_.out (by kernel_rfl)) (fun _ _ _ h => h) (Or.inl ⟨by rfl, ?_⟩) ?_ ?_
                rotate_left
                ·intro w'
                 go_simp
                 with_reducible rfl
                rotate_left
                ·simp only [Act.put, List.setIfInBounds_toArray, List.set_cons_zero, List.set_cons_succ, i64_w, i32_w]
                 rfl
                refine one_ (i := 7) (N := some 9) #[true, true, true, true, true, true, true, true, false, false] rfl rfl (one_of HT_.out (by kernel_rfl)) (by decide) (fun K hK => ?_)
                refine box_step ?hg (N := 9) ?hd (cs := #[.slice none 0 0]) (t := 37) ?hr ?_; (case hd => rfl); (case hg => rfl); (case hr => first | (go_simp; done) | (go_simp; rfl))
                intro gb260 hg w66 hbox hb
                have n0_ := Aside0.mk (Kd.R_below HO242.out hb)
                have n1_ := Aside0.mk (Kd.R_below HO247.out hb)
                have n2_ := Aside0.mk (Kd.R_below HO252.out hb)
                have n3_ := Aside0.mk (Kd.R_below HO258.out hb)
                have n4_ := Aside0.mk (blk_below BK237.out hb)
                have n5_ := Aside0.mk (blk_below BK238.out hb)
                have n6_ := Aside0.mk (blk_below BK249.out hb)
                have n7_ := Aside0.mk (blk_below BK253.out hb)
                have n8_ := Aside0.mk (below_step HB.out hb)
                have n9_ := Aside0.mk (hbox)
                have n10_ := Aside0.mk ((by rw [hg]; exact (below_size HB.out) : w.heap.size ≤ gb260))
                have n11_ := Aside0.mk ((by rw [hg]; exact (below_size HB.out) : w.heap.size ≤ gb260))
                have n12_ := Aside0.mk ((by rw [hg]; exact Nat.ne_of_lt (blk_lt BK237.out) : gb237 ≠ gb260))
                have n13_ := Aside0.mk ((by rw [hg]; exact Nat.ne_of_gt (blk_lt BK237.out) : gb260 ≠ gb237))
                have n14_ := Aside0.mk ((by rw [hg]; exact Nat.ne_of_lt (blk_lt BK238.out) : gb238 ≠ gb260))
                have n15_ := Aside0.mk ((by rw [hg]; exact Nat.ne_of_gt (blk_lt BK238.out) : gb260 ≠ gb238))
                have n16_ := Aside0.mk ((by rw [hg]; exact Nat.ne_of_lt (blk_lt BK249.out) : gb249 ≠ gb260))
                have n17_ := Aside0.mk ((by rw [hg]; exact Nat.ne_of_gt (blk_lt BK249.out) : gb260 ≠ gb249))
                have n18_ := Aside0.mk ((by rw [hg]; exact Nat.ne_of_lt (blk_lt BK253.out) : gb253 ≠ gb260))
                have n19_ := Aside0.mk ((by rw [hg]; exact Nat.ne_of_gt (blk_lt BK253.out) : gb260 ≠ gb253))
                clear HO242 HO247 HO252 HO258 BK237 BK238 BK249 BK253 HB
                have HO242 := n0_
                have HO247 := n1_
                have HO252 := n2_
                have HO258 := n3_
                have BK237 := n4_
                have BK238 := n5_
                have BK249 := n6_
                have BK253 := n7_
                have HB := n8_
                have BK260 := n9_
                have GW260 := n10_
                have GE260 := n11_
                have NB237_260 := n12_
                have NB260_237 := n13_
                have NB238_260 := n14_
                have NB260_238 := n15_
                have NB249_260 := n16_
                have NB260_249 := n17_
                have NB253_260 := n18_
                have NB260_253 := n19_
                clear n0_ n1_ n2_ n3_ n4_ n5_ n6_ n7_ n8_ n9_ n10_ n11_ n12_ n13_ n14_ n15_ n16_ n17_ n18_ n19_
                clear hb hbox hg
                refine hK.out _ _ ⟨(blk_cell BK253.out 0).trans rfl, (blk_cell BK238.out 0).trans rfl, (blk_cell BK238.out 1).trans rfl⟩ (fun hHeld => ?_)
                clear hK K
                refine norm_ (a' := ?_) ?_ ?_
                rotate_left
                ·show Act.put _ (some 9) _ = _
                 simp only [Act.put, List.setIfInBounds_toArray, List.set_cons_zero, List.set_cons_succ, i64_w, i32_w]
                 rfl
                exact norm_ (by simp only [putAll, Act.put, List.setIfInBounds_toArray, List.set_cons_zero, List.set_cons_succ]) (hCont (v257, gb260) _ ⟨hHeld, (by (with_reducible repeat (first | apply Kd.R_alloc | apply Kd.R_drewN | apply Kd.R_drew)); exact Kd.R_mono HO242.out (fun _ hk => ⟨hk.1.1, ⟨hk.1.2, hk.2⟩⟩)), (by (with_reducible repeat (first | apply Kd.R_alloc | apply Kd.R_drewN | apply Kd.R_drew)); exact Kd.R_mono HO247.out (fun _ hk => ⟨hk.1.1, ⟨hk.1.2, hk.2⟩⟩)), (by (with_reducible repeat (first | apply Kd.R_alloc | apply Kd.R_drewN | apply Kd.R_drew)); exact Kd.R_mono HO252.out (fun _ hk => ⟨hk.1.1, ⟨hk.1.2, hk.2⟩⟩)), (by (with_reducible repeat (first | apply Kd.R_alloc | apply Kd.R_drewN | apply Kd.R_drew)); exact Kd.R_mono HO258.out (fun _ hk => ⟨hk.1.1.2, ⟨hk.1.2, hk.2⟩⟩)), BK237.out, BK238.out, BK249.out, BK253.out, BK260.out, GW260.out, GE260.out, NB237_260.out, NB260_237.out, NB238_260.out, NB260_238.out, NB249_260.out, NB260_249.out, NB253_260.out, NB260_253.out, HB.out⟩)
               ·skip
                refine box_step ?hg (N := 9) ?hd (cs := #[.slice none 0 0]) (t := 37) ?hr ?_; (case hd => rfl); (case hg => rfl); (case hr => first | (go_simp; done) | (go_simp; rfl))
                intro gb260 hg w65 hbox hb
                have n0_ := Aside0.mk (Kd.R_below HO242.out hb)
                have n1_ := Aside0.mk (Kd.R_below HO247.out hb)
                have n2_ := Aside0.mk (Kd.R_below HO252.out hb)
                have n3_ := Aside0.mk (blk_below BK237.out hb)
                have n4_ := Aside0.mk (blk_below BK238.out hb)
                have n5_ := Aside0.mk (blk_below BK249.out hb)
                have n6_ := Aside0.mk (blk_below BK253.out hb)
                have n7_ := Aside0.mk (below_step HB.out hb)
                have n8_ := Aside0.mk (hbox)
                have n9_ := Aside0.mk ((by rw [hg]; exact (below_size HB.out) : w.heap.size ≤ gb260))
                have n10_ := Aside0.mk ((by rw [hg]; exact (below_size HB.out) : w.heap.size ≤ gb260))
                have n11_ := Aside0.mk ((by rw [hg]; exact Nat.ne_of_lt (blk_lt BK237.out) : gb237 ≠ gb260))
                have n12_ := Aside0.mk ((by rw [hg]; exact Nat.ne_of_gt (blk_lt BK237.out) : gb260 ≠ gb237))
                have n13_ := Aside0.mk ((by rw [hg]; exact Nat.ne_of_lt (blk_lt BK238.out) : gb238 ≠ gb260))
                have n14_ := Aside0.mk ((by rw [hg]; exact Nat.ne_of_gt (blk_lt BK238.out) : gb260 ≠ gb238))
                have n15_ := Aside0.mk ((by rw [hg]; exact Nat.ne_of_lt (blk_lt BK249.out) : gb249 ≠ gb260))
                have n16_ := Aside0.mk ((by rw [hg]; exact Nat.ne_of_gt (blk_lt BK249.out) : gb260 ≠ gb249))
                have n17_ := Aside0.mk ((by rw [hg]; exact Nat.ne_of_lt (blk_lt BK253.out) : gb253 ≠ gb260))
                have n18_ := Aside0.mk ((by rw [hg]; exact Nat.ne_of_gt (blk_lt BK253.out) : gb260 ≠ gb253))
                clear HO242 HO247 HO252 BK237 BK238 BK249 BK253 HB
                have HO242 := n0_
                have HO247 := n1_
                have HO252 := n2_
                have BK237 := n3_
                have BK238 := n4_
                have BK249 := n5_
                have BK253 := n6_
                have HB := n7_
                have BK260 := n8_
                have GW260 := n9_
                have GE260 := n10_
                have NB237_260 := n11_
                have NB260_237 := n12_
                have NB238_260 := n13_
                have NB260_238 := n14_
                have NB249_260 := n15_
                have NB260_249 := n16_
                have NB253_260 := n17_
                have NB260_253 := n18_
                clear n0_ n1_ n2_ n3_ n4_ n5_ n6_ n7_ n8_ n9_ n10_ n11_ n12_ n13_ n14_ n15_ n16_ n17_ n18_
                clear hb hbox hg
                refine hK.out _ _ ⟨(blk_cell BK253.out 0).trans rfl, (blk_cell BK238.out 0).trans rfl, (blk_cell BK238.out 1).trans rfl⟩ (fun hHeld => ?_)
                clear hK K
                refine norm_ (a' := ?_) ?_ ?_
                rotate_left
                ·show Act.put _ (some 9) _ = _
                 simp only [Act.put, List.setIfInBounds_toArray, List.set_cons_zero, List.set_cons_succ, i64_w, i32_w]
                 rfl
                refine one_ (i := 3) (N := some 35) #[true, true, true, true, false, false, false, true, false, false] rfl rfl (one_of HT_.out (by kernel_rfl)) (by decide) (fun K hK => ?_)
                refine goes_ Try.func23 (by kernel_rfl) rfl #[.agg #[.slice Ao57 t250.length co57], .agg #[.int .i64 t254, .int .i64 t255]] (by rfl) rfl rfl (by (try simp only [List.map_toArray, List.map_cons, List.map_nil]); first | done | rfl | (simp only [List.length_drop, List.length_take]; rfl)) ?_
                with_reducible refine (impl_HeapPush.calls k _ _ t250 t254 t255 t256 t259 _ ?side1 ?side2 A15.out).mono ?_
                (case side1 => repeat (first | exact (Kd.R_reads' HO252.out).2.2 | (with_reducible refine Kd.C_alloc ?_ _) | (with_reducible refine Kd.C_drewN ?_ _) | (with_reducible refine Kd.C_drew ?_)))
                (case side2 => exact (Kd.R_reads' HO252.out).2.1)
                rintro e w66 ⟨v257, rfl, ho0, hb⟩
                refine ⟨_, rfl, ?_⟩
                have n0_ := Aside0.mk (Kd.R_elder' HO242.out (Kd.R_base ho0) hb)
                have n1_ := Aside0.mk (Kd.R_elder' HO247.out (Kd.R_base ho0) hb)
                have n2_ := Aside0.mk (Kd.R_elder' HO252.out (Kd.R_base ho0) hb)
                have n3_ := Aside0.mk (Kd.R_lower (Kd.R_new' (Kd.R_new' (Kd.R_new' ho0 (Kd.R_lt HO242.out)) (Kd.R_lt HO247.out)) (Kd.R_lt HO252.out)) (below_size HB.out))
                have n4_ := Aside0.mk (blk_below BK237.out hb)
                have n5_ := Aside0.mk (blk_below BK238.out hb)
                have n6_ := Aside0.mk (blk_below BK249.out hb)
                have n7_ := Aside0.mk (blk_below BK253.out hb)
                have n8_ := Aside0.mk (blk_below BK260.out hb)
                have n9_ := Aside0.mk (below_step HB.out hb)
                clear HO242 HO247 HO252 BK237 BK238 BK249 BK253 BK260 HB
                have HO242 := n0_
                have HO247 := n1_
                have HO252 := n2_
                have HO258 := n3_
                have BK237 := n4_
                have BK238 := n5_
                have BK249 := n6_
                have BK253 := n7_
                have BK260 := n8_
                have HB := n9_
                clear n0_ n1_ n2_ n3_ n4_ n5_ n6_ n7_ n8_ n9_
                (try clear hb)
                (try clear hb2)
                (try clear hk)
                (try clear hi)
                (try clear ho0)
                refine hK.out _ _ ⟨(blk_cell BK253.out 0).trans rfl, (blk_cell BK238.out 0).trans rfl, (blk_cell BK238.out 1).trans rfl⟩ (fun hHeld => ?_)
                clear hK K
                refine norm_ (a' := ?_) ?_ ?_
                rotate_left
                ·show Act.put _ (some 35) _ = _
                 simp only [Act.put, List.setIfInBounds_toArray, List.set_cons_zero, List.set_cons_succ, i64_w, i32_w]
                 rfl
                refine pure_ (i := 4) (N := some 31) (v := ?_) (a' := ?_) #[true, true, true, true, true, false, false, true, false, false] rfl rfl (any_of HT_.out (by kernel_rfl)) (fun _ _ _ h => h) (Or.inl ⟨by rfl, ?_⟩) ?_ ?_
                rotate_left
                ·intro w'
                 go_simp
                 with_reducible rfl
                rotate_left
                ·simp only [Act.put, List.setIfInBounds_toArray, List.set_cons_zero, List.set_cons_succ, i64_w, i32_w]
                 rfl
                refine pure_ (i := 5) (N := some 36) (v := ?_) (a' := ?_) #[true, true, true, true, true, true, false, true, false, false] rfl rfl (any_of HT_.out (by kernel_rfl)) (fun _ _ _ h => h) (Or.inl ⟨by rfl, ?_⟩) ?_ ?_
                rotate_left
                ·intro w'
                 go_simp
                 with_reducible rfl
                rotate_left
                ·simp only [Act.put, List.setIfInBounds_toArray, List.set_cons_zero, List.set_cons_succ, i64_w, i32_w]
                 rfl
                refine pure_ (i := 6) (N := some 37) (v := ?_) (a' := ?_) #[true, true, true, true, true, true, true, true, false, false] rfl rfl (any_of HT_.out (by kernel_rfl)) (fun _ _ _ h => h) (Or.inl ⟨by rfl, ?_⟩) ?_ ?_
                rotate_left
                ·intro w'
                 go_simp
                 with_reducible rfl
                rotate_left
                ·simp only [Act.put, List.setIfInBounds_toArray, List.set_cons_zero, List.set_cons_succ, i64_w, i32_w]
                 rfl
                exact norm_ (by simp only [putAll, Act.put, List.setIfInBounds_toArray, List.set_cons_zero, List.set_cons_succ]) (hCont (v257, gb260) _ ⟨hHeld, (by (with_reducible repeat (first | apply Kd.R_alloc | apply Kd.R_drewN | apply Kd.R_drew)); exact Kd.R_mono HO242.out (fun _ hk => ⟨hk.1.1, ⟨hk.1.2, hk.2⟩⟩)), (by (with_reducible repeat (first | apply Kd.R_alloc | apply Kd.R_drewN | apply Kd.R_drew)); exact Kd.R_mono HO247.out (fun _ hk => ⟨hk.1.1, ⟨hk.1.2, hk.2⟩⟩)), (by (with_reducible repeat (first | apply Kd.R_alloc | apply Kd.R_drewN | apply Kd.R_drew)); exact Kd.R_mono HO252.out (fun _ hk => ⟨hk.1.1, ⟨hk.1.2, hk.2⟩⟩)), (by (with_reducible repeat (first | apply Kd.R_alloc | apply Kd.R_drewN | apply Kd.R_drew)); exact Kd.R_mono HO258.out (fun _ hk => ⟨hk.1.1.2, ⟨hk.1.2, hk.2⟩⟩)), BK237.out, BK238.out, BK249.out, BK253.out, BK260.out, GW260.out, GE260.out, NB237_260.out, NB260_237.out, NB238_260.out, NB260_238.out, NB249_260.out, NB260_249.out, NB253_260.out, NB260_253.out, HB.out⟩)
              ·skip
               refine box_step ?hg (N := 9) ?hd (cs := #[.slice none 0 0]) (t := 37) ?hr ?_; (case hd => rfl); (case hg => rfl); (case hr => first | (go_simp; done) | (go_simp; rfl))
               intro gb260 hg w64 hbox hb
               have n0_ := Aside0.mk (Kd.R_below HO242.out hb)
               have n1_ := Aside0.mk (Kd.R_below HO247.out hb)
               have n2_ := Aside0.mk (Kd.R_below HO252.out hb)
               have n3_ := Aside0.mk (blk_below BK237.out hb)
               have n4_ := Aside0.mk (blk_below BK238.out hb)
               have n5_ := Aside0.mk (blk_below BK249.out hb)
               have n6_ := Aside0.mk (blk_below BK253.out hb)
               have n7_ := Aside0.mk (below_step HB.out hb)
               have n8_ := Aside0.mk (hbox)
               have n9_ := Aside0.mk ((by rw [hg]; exact (below_size HB.out) : w.heap.size ≤ gb260))
               have n10_ := Aside0.mk ((by rw [hg]; exact (below_size HB.out) : w.heap.size ≤ gb260))
               have n11_ := Aside0.mk ((by rw [hg]; exact Nat.ne_of_lt (blk_lt BK237.out) : gb237 ≠ gb260))
               have n12_ := Aside0.mk ((by rw [hg]; exact Nat.ne_of_gt (blk_lt BK237.out) : gb260 ≠ gb237))
               have n13_ := Aside0.mk ((by rw [hg]; exact Nat.ne_of_lt (blk_lt BK238.out) : gb238 ≠ gb260))
               have n14_ := Aside0.mk ((by rw [hg]; exact Nat.ne_of_gt (blk_lt BK238.out) : gb260 ≠ gb238))
               have n15_ := Aside0.mk ((by rw [hg]; exact Nat.ne_of_lt (blk_lt BK249.out) : gb249 ≠ gb260))
               have n16_ := Aside0.mk ((by rw [hg]; exact Nat.ne_of_gt (blk_lt BK249.out) : gb260 ≠ gb249))
               have n17_ := Aside0.mk ((by rw [hg]; exact Nat.ne_of_lt (blk_lt BK253.out) : gb253 ≠ gb260))
               have n18_ := Aside0.mk ((by rw [hg]; exact Nat.ne_of_gt (blk_lt BK253.out) : gb260 ≠ gb253))
               clear HO242 HO247 HO252 BK237 BK238 BK249 BK253 HB
               have HO242 := n0_
               have HO247 := n1_
               have HO252 := n2_
               have BK237 := n3_
               have BK238 := n4_
               have BK249 := n5_
               have BK253 := n6_
               have HB := n7_
               have BK260 := n8_
               have GW260 := n9_
               have GE260 := n10_
               have NB237_260 := n11_
               have NB260_237 := n12_
               have NB238_260 := n13_
               have NB260_238 := n14_
               have NB249_260 := n15_
               have NB260_249 := n16_
               have NB253_260 := n17_
               have NB260_253 := n18_
               clear n0_ n1_ n2_ n3_ n4_ n5_ n6_ n7_ n8_ n9_ n10_ n11_ n12_ n13_ n14_ n15_ n16_ n17_ n18_
               clear hb hbox hg
               refine hK.out _ _ ⟨(blk_cell BK253.out 0).trans rfl, (blk_cell BK238.out 0).trans rfl, (blk_cell BK238.out 1).trans rfl⟩ (fun hHeld => ?_)
               clear hK K
               refine norm_ (a' := ?_) ?_ ?_
               rotate_left
               ·show Act.put _ (some 9) _ = _
                simp only [Act.put, List.setIfInBounds_toArray, List.set_cons_zero, List.set_cons_succ, i64_w, i32_w]
                rfl
               refine one_ (i := 2) (N := some 34) #[true, true, true, false, false, false, false, true, false, false] rfl rfl (one_of HT_.out (by kernel_rfl)) (by decide) (fun K hK => ?_)
               refine goes_ Try.func11 (by kernel_rfl) rfl #[.agg #[.int .i64 a1_0, .int .i64 a1_1]] (by rfl) rfl rfl (by (try simp only [List.map_toArray, List.map_cons, List.map_nil]); first | done | rfl | (simp only [List.length_drop, List.length_take]; rfl)) ?_
               with_reducible refine (laws_toItem.calls a1_0 a1_1 t254 t255 _ A14.out).mono ?_
               rintro e w65 ⟨rfl, hb⟩
               refine ⟨_, rfl, ?_⟩
               have n0_ := Aside0.mk (Kd.R_below HO242.out hb)
               have n1_ := Aside0.mk (Kd.R_below HO247.out hb)
               have n2_ := Aside0.mk (Kd.R_below HO252.out hb)
               have n3_ := Aside0.mk (blk_below BK237.out hb)
               have n4_ := Aside0.mk (blk_below BK238.out hb)
               have n5_ := Aside0.mk (blk_below BK249.out hb)
               have n6_ := Aside0.mk (blk_below BK253.out hb)
               have n7_ := Aside0.mk (blk_below BK260.out hb)
               have n8_ := Aside0.mk (below_step HB.out hb)
               clear HO242 HO247 HO252 BK237 BK238 BK249 BK253 BK260 HB
               have HO242 := n0_
               have HO247 := n1_
               have HO252 := n2_
               have BK237 := n3_
               have BK238 := n4_
               have BK249 := n5_
               have BK253 := n6_
               have BK260 := n7_
               have HB := n8_
               clear n0_ n1_ n2_ n3_ n4_ n5_ n6_ n7_ n8_
               (try clear hb)
               (try clear hb2)
               (try clear hk)
               (try clear hi)
               refine hK.out _ _ ⟨(blk_cell BK253.out 0).trans rfl, (blk_cell BK238.out 0).trans rfl, (blk_cell BK238.out 1).trans rfl⟩ (fun hHeld => ?_)
               clear hK K
               refine norm_ (a' := ?_) ?_ ?_
               rotate_left
               ·show Act.put _ (some 34) _ = _
                simp only [Act.put, List.setIfInBounds_toArray, List.set_cons_zero, List.set_cons_succ, i64_w, i32_w]
                rfl
               refine one_ (i := 3) (N := some 35) #[true, true, true, true, false, false, false, true, false, false] rfl rfl (one_of HT_.out (by kernel_rfl)) (by decide) (fun K hK => ?_)
               refine goes_ Try.func23 (by kernel_rfl) rfl #[.agg #[.slice Ao57 t250.length co57], .agg #[.int .i64 t254, .int .i64 t255]] (by rfl) rfl rfl (by (try simp only [List.map_toArray, List.map_cons, List.map_nil]); first | done | rfl | (simp only [List.length_drop, List.length_take]; rfl)) ?_
               with_reducible refine (impl_HeapPush.calls k _ _ t250 t254 t255 t256 t259 _ ?side1 ?side2 A15.out).mono ?_
               (case side1 => repeat (first | exact (Kd.R_reads' HO252.out).2.2 | (with_reducible refine Kd.C_alloc ?_ _) | (with_reducible refine Kd.C_drewN ?_ _) | (with_reducible refine Kd.C_drew ?_)))
               (case side2 => exact (Kd.R_reads' HO252.out).2.1)
               rintro e w66 ⟨v257, rfl, ho0, hb⟩
               refine ⟨_, rfl, ?_⟩
               have n0_ := Aside0.mk (Kd.R_elder' HO242.out (Kd.R_base ho0) hb)
               have n1_ := Aside0.mk (Kd.R_elder' HO247.out (Kd.R_base ho0) hb)
               have n2_ := Aside0.mk (Kd.R_elder' HO252.out (Kd.R_base ho0) hb)
               have n3_ := Aside0.mk (Kd.R_lower (Kd.R_new' (Kd.R_new' (Kd.R_new' ho0 (Kd.R_lt HO242.out)) (Kd.R_lt HO247.out)) (Kd.R_lt HO252.out)) (below_size HB.out))
               have n4_ := Aside0.mk (blk_below BK237.out hb)
               have n5_ := Aside0.mk (blk_below BK238.out hb)
               have n6_ := Aside0.mk (blk_below BK249.out hb)
               have n7_ := Aside0.mk (blk_below BK253.out hb)
               have n8_ := Aside0.mk (blk_below BK260.out hb)
               have n9_ := Aside0.mk (below_step HB.out hb)
               clear HO242 HO247 HO252 BK237 BK238 BK249 BK253 BK260 HB
               have HO242 := n0_
               have HO247 := n1_
               have HO252 := n2_
               have HO258 := n3_
               have BK237 := n4_
               have BK238 := n5_
               have BK249 := n6_
               have BK253 := n7_
               have BK260 := n8_
               have HB := n9_
               clear n0_ n1_ n2_ n3_ n4_ n5_ n6_ n7_ n8_ n9_
               (try clear hb)
               (try clear hb2)
               (try clear hk)
               (try clear hi)
               (try clear ho0)
               refine hK.out _ _ ⟨(blk_cell BK253.out 0).trans rfl, (blk_cell BK238.out 0).trans rfl, (blk_cell BK238.out 1).trans rfl⟩ (fun hHeld => ?_)
               clear hK K
               refine norm_ (a' := ?_) ?_ ?_
               rotate_left
               ·show Act.put _ (some 35) _ = _
                simp only [Act.put, List.setIfInBounds_toArray, List.set_cons_zero, List.set_cons_succ, i64_w, i32_w]
                rfl
               refine pure_ (i := 4) (N := some 31) (v := ?_) (a' := ?_) #[true, true, true, true, true, false, false, true, false, false] rfl rfl (any_of HT_.out (by kernel_rfl)) (fun _ _ _ h => h) (Or.inl ⟨by rfl, ?_⟩) ?_ ?_
               rotate_left
               ·intro w'
                go_simp
                with_reducible rfl
               rotate_left
               ·simp only [Act.put, List.setIfInBounds_toArray, List.set_cons_zero, List.set_cons_succ, i64_w, i32_w]
                rfl
               refine pure_ (i := 5) (N := some 36) (v := ?_) (a' := ?_) #[true, true, true, true, true, true, false, true, false, false] rfl rfl (any_of HT_.out (by kernel_rfl)) (fun _ _ _ h => h) (Or.inl ⟨by rfl, ?_⟩) ?_ ?_
               rotate_left
               ·intro w'
                go_simp
                with_reducible rfl
               rotate_left
               ·simp only [Act.put, List.setIfInBounds_toArray, List.set_cons_zero, List.set_cons_succ, i64_w, i32_w]
                rfl
               refine pure_ (i := 6) (N := some 37) (v := ?_) (a' := ?_) #[true, true, true, true, true, true, true, true, false, false] rfl rfl (any_of HT_.out (by kernel_rfl)) (fun _ _ _ h => h) (Or.inl ⟨by rfl, ?_⟩) ?_ ?_
               rotate_left
               ·intro w'
                go_simp
                with_reducible rfl
               rotate_left
               ·simp only [Act.put, List.setIfInBounds_toArray, List.set_cons_zero, List.set_cons_succ, i64_w, i32_w]
                rfl
               exact norm_ (by simp only [putAll, Act.put, List.setIfInBounds_toArray, List.set_cons_zero, List.set_cons_succ]) (hCont (v257, gb260) _ ⟨hHeld, (by (with_reducible repeat (first | apply Kd.R_alloc | apply Kd.R_drewN | apply Kd.R_drew)); exact Kd.R_mono HO242.out (fun _ hk => ⟨hk.1.1, ⟨hk.1.2, hk.2⟩⟩)), (by (with_reducible repeat (first | apply Kd.R_alloc | apply Kd.R_drewN | apply Kd.R_drew)); exact Kd.R_mono HO247.out (fun _ hk => ⟨hk.1.1, ⟨hk.1.2, hk.2⟩⟩)), (by (with_reducible repeat (first | apply Kd.R_alloc | apply Kd.R_drewN | apply Kd.R_drew)); exact Kd.R_mono HO252.out (fun _ hk => ⟨hk.1.1, ⟨hk.1.2, hk.2⟩⟩)), (by (with_reducible repeat (first | apply Kd.R_alloc | apply Kd.R_drewN | apply Kd.R_drew)); exact Kd.R_mono HO258.out (fun _ hk => ⟨hk.1.1.2, ⟨hk.1.2, hk.2⟩⟩)), BK237.out, BK238.out, BK249.out, BK253.out, BK260.out, GW260.out, GE260.out, NB237_260.out, NB260_237.out, NB238_260.out, NB260_238.out, NB249_260.out, NB260_249.out, NB253_260.out, NB260_253.out, HB.out⟩)
             rintro ⟨v257, gb260⟩ w67 ⟨hS_, h0_, h1_, h2_, h3_, h4_, h5_, h6_, h7_, h8_, h9_, h10_, h11_, h12_, h13_, h14_, h15_, h16_, h17_, h18_, h19_⟩
             have n0_ : Aside0 (Kd.R k25 25 w67 w.heap.size (fun k_ => some k_ ≠ (.slice Ao51 t245.length co51 : Value).ownBlock ∧ some k_ ≠ (.slice Ao57 t250.length co57 : Value).ownBlock ∧ some k_ ≠ (v257 : Value).ownBlock) v241 t240) := ⟨h0_⟩
             have n1_ : Aside0 (Kd.R k25 25 w67 w.heap.size (fun k_ => some k_ ≠ (v241 : Value).ownBlock ∧ some k_ ≠ (.slice Ao57 t250.length co57 : Value).ownBlock ∧ some k_ ≠ (v257 : Value).ownBlock) (.slice Ao51 t245.length co51) t245) := ⟨h1_⟩
             have n2_ : Aside0 (Kd.R k25 25 w67 w.heap.size (fun k_ => some k_ ≠ (v241 : Value).ownBlock ∧ some k_ ≠ (.slice Ao51 t245.length co51 : Value).ownBlock ∧ some k_ ≠ (v257 : Value).ownBlock) (.slice Ao57 t250.length co57) t250) := ⟨h2_⟩
             have n3_ : Aside0 (Kd.R k25 25 w67 w.heap.size (fun k_ => some k_ ≠ (v241 : Value).ownBlock ∧ some k_ ≠ (.slice Ao51 t245.length co51 : Value).ownBlock ∧ some k_ ≠ (.slice Ao57 t250.length co57 : Value).ownBlock) v257 t256) := ⟨h3_⟩
             have n4_ : Aside0 (w67.heap[gb237]? = some (.cells #[.slice A0_0 l0_0.length c0_0] 32 (0, 0))) := ⟨h4_⟩
             have n5_ : Aside0 (w67.heap[gb238]? = some (.cells #[.int .i64 a1_0, .int .i64 a1_1] 23 (0, 0))) := ⟨h5_⟩
             have n6_ : Aside0 (w67.heap[gb249]? = some (.cells #[.slice Ao51 t245.length co51] 37 (0, 0))) := ⟨h6_⟩
             have n7_ : Aside0 (w67.heap[gb253]? = some (.cells #[.slice Ao57 t250.length co57] 37 (0, 0))) := ⟨h7_⟩
             have n8_ : Aside0 (w67.heap[gb260]? = some (.cells #[.slice none 0 0] 37 (0, 0))) := ⟨h8_⟩
             have n9_ : Aside0 (w.heap.size ≤ gb260) := ⟨h9_⟩
             have n10_ : Aside0 (w.heap.size ≤ gb260) := ⟨h10_⟩
             have n11_ : Aside0 (gb237 ≠ gb260) := ⟨h11_⟩
             have n12_ : Aside0 (gb260 ≠ gb237) := ⟨h12_⟩
             have n13_ : Aside0 (gb238 ≠ gb260) := ⟨h13_⟩
             have n14_ : Aside0 (gb260 ≠ gb238) := ⟨h14_⟩
             have n15_ : Aside0 (gb249 ≠ gb260) := ⟨h15_⟩
             have n16_ : Aside0 (gb260 ≠ gb249) := ⟨h16_⟩
             have n17_ : Aside0 (gb253 ≠ gb260) := ⟨h17_⟩
             have n18_ : Aside0 (gb260 ≠ gb253) := ⟨h18_⟩
             have n19_ : Aside0 (Below w.heap.size w w67) := ⟨h19_⟩
             clear HO242 HO247 HO252 BK237 BK238 BK249 BK253 HB
             clear h0_ h1_ h2_ h3_ h4_ h5_ h6_ h7_ h8_ h9_ h10_ h11_ h12_ h13_ h14_ h15_ h16_ h17_ h18_ h19_
             have HO242 := n0_
             have HO247 := n1_
             have HO252 := n2_
             have HO258 := n3_
             have BK237 := n4_
             have BK238 := n5_
             have BK249 := n6_
             have BK253 := n7_
             have BK260 := n8_
             have GW260 := n9_
             have GE260 := n10_
             have NB237_260 := n11_
             have NB260_237 := n12_
             have NB238_260 := n13_
             have NB260_238 := n14_
             have NB249_260 := n15_
             have NB260_249 := n16_
             have NB253_260 := n17_
             have NB260_253 := n18_
             have HB := n19_
             clear n0_ n1_ n2_ n3_ n4_ n5_ n6_ n7_ n8_ n9_ n10_ n11_ n12_ n13_ n14_ n15_ n16_ n17_ n18_ n19_
             have hHeld : w67.cell? ⟨gb253, 0, none⟩ = some (.slice Ao57 t250.length co57) ∧ w67.cell? ⟨gb238, 0, none⟩ = some (.int .i64 a1_0) ∧ w67.cell? ⟨gb238, 1, none⟩ = some (.int .i64 a1_1) := hS_
             obtain ⟨Ao68, co68, eo68⟩ := Kd.R_slice HO258.out
             (first | subst eo68 | (injection eo68 with f1_ f2_ f3_; have f4_ := f1_.symm; have f5_ := f3_.symm; clear f1_ f2_ f3_; subst f4_; subst f5_))
             refine norm_ (a' := ?_) ?_ ?_
             rotate_left
             ·simp only [putAll, Act.put, List.setIfInBounds_toArray, List.set_cons_zero, List.set_cons_succ]
              rfl
             refine one_ (i := 8) (N := none) #[true, true, true, true, true, true, true, true, true, false] rfl rfl (one_of HT_.out (by kernel_rfl)) (by decide) (fun K hK => ?_)
             have hs69 : w67.cell? ⟨gb260, 0, none⟩ = some (.slice none 0 0) := (blk_cell BK260.out 0).trans rfl
             have hfs69 := blk_frozen BK260.out 0
             have hns69_0 := NB237_260.out
             have hns69_1 := NB238_260.out
             have hns69_2 := NB249_260.out
             have hns69_3 := NB253_260.out
             have hms69_0 := NB260_237.out
             have hms69_1 := NB260_238.out
             have hms69_2 := NB260_249.out
             have hms69_3 := NB260_253.out
             refine skip_ (w1 := ?_) (by rfl) rfl ?_ ?_
             rotate_left
             ·go_simp
              rfl
             refine hK.out _ _ ⟨((cell_far (p := ⟨gb260, _, none⟩) NB253_260.out _).trans (hHeld.1)), ((cell_far (p := ⟨gb260, _, none⟩) NB238_260.out _).trans (hHeld.2.1)), ((cell_far (p := ⟨gb260, _, none⟩) NB238_260.out _).trans (hHeld.2.2))⟩ (fun hHeld => ?_)
             clear hK K
             refine pure_ (i := 9) (N := some 10) (v := ?_) (a' := ?_) #[true, true, true, true, true, true, true, true, true, true] rfl rfl (any_of HT_.out (by kernel_rfl)) (fun _ _ _ h => h) (Or.inl ⟨by rfl, ?_⟩) ?_ ?_
             rotate_left
             ·intro w'
              go_simp
              with_reducible rfl
             rotate_left
             ·simp only [Act.put, List.setIfInBounds_toArray, List.set_cons_zero, List.set_cons_succ, i64_w, i32_w]
              rfl
             refine done_ (done_of HT_.out (by kernel_rfl)) ?_
             have hnb70 := NB260_237.out
             have hnc70 := NB237_260.out
             have hnb71 := NB260_238.out
             have hnc71 := NB238_260.out
             have hnb72 := NB260_249.out
             have hnc72 := NB249_260.out
             have hnb73 := NB260_253.out
             have hnc73 := NB253_260.out
             have hcz74_0 : w67.cell? ⟨gb260, 0, none⟩ = some (.slice none 0 0) := (blk_cell BK260.out 0).trans rfl
             have hfz74_0 := blk_frozen BK260.out 0
             have hnb75 := NB249_238.out
             have hnc75 := NB238_249.out
             have hcz76_0 : w67.cell? ⟨gb249, 0, none⟩ = some (.slice Ao51 t245.length co51) := (blk_cell BK249.out 0).trans rfl
             have hfz76_0 := blk_frozen BK249.out 0
             try go_wp2_with (first | ((with_reducible refine gate_callee (f := 19) rfl ?_); refine goesL_ (some 40) rfl rfl Try.func19 (by kernel_rfl) rfl #[.agg #[.slice Ao68 t256.length co68], .agg #[.slice Ao51 t245.length co51]] rfl (by (try simp only [List.map_toArray, List.map_cons, List.map_nil]); first | done | rfl | (simp only [List.length_drop, List.length_take]; rfl)) ?_; (with_reducible refine (laws_eqHeap.calls k _ _ t256 _ _ t245 true _ ?side1 ?side2 ?side3 ?side4 A16.out).mono ?_); (case side1 => refine (Kd.R_reads' (e := 25) (base := w.heap.size) (ok := fun k_ => (some k_ ≠ (v241 : Value).ownBlock ∧ (some k_ ≠ (.slice Ao51 t245.length co51 : Value).ownBlock ∧ some k_ ≠ (.slice Ao57 t250.length co57 : Value).ownBlock))) (n := t256.length) (c := co68) ?_).2.2; exact (by (with_reducible repeat (first | apply Kd.R_alloc | apply Kd.R_drewN | apply Kd.R_drew)); exact (Kd.R_mono (Kd.R_far (p := ⟨gb260, 0, none⟩) (Kd.R_types HO258.out BK260.out (by decide)) (fun _ hk => hk.2) (.slice Ao68 t256.length co68)) (fun _ h_ => h_.1)))); (case side2 => exact (Kd.R_reads' HO258.out).2.1); (case side3 => refine (Kd.R_reads' (e := 25) (base := w.heap.size) (ok := fun k_ => (some k_ ≠ (v241 : Value).ownBlock ∧ (some k_ ≠ (.slice Ao57 t250.length co57 : Value).ownBlock ∧ some k_ ≠ (.slice Ao68 t256.length co68 : Value).ownBlock))) (n := t245.length) (c := co51) ?_).2.2; exact (by (with_reducible repeat (first | apply Kd.R_alloc | apply Kd.R_drewN | apply Kd.R_drew)); exact (Kd.R_mono (Kd.R_far (p := ⟨gb260, 0, none⟩) (Kd.R_types HO247.out BK260.out (by decide)) (fun _ hk => hk.2) (.slice Ao68 t256.length co68)) (fun _ h_ => h_.1)))); (case side4 => exact (Kd.R_reads' HO247.out).2.1); rintro e w77 ⟨rfl, hb⟩; refine ⟨_, rfl, ?_⟩; have n0_ := Aside0.mk (Kd.R_below (by (with_reducible repeat (first | apply Kd.R_alloc | apply Kd.R_drewN | apply Kd.R_drew)); exact (Kd.R_mono (Kd.R_far (p := ⟨gb260, 0, none⟩) (Kd.R_types HO242.out BK260.out (by decide)) (fun _ hk => hk.2) (.slice Ao68 t256.length co68)) (fun _ h_ => h_.1))) hb); have n1_ := Aside0.mk (Kd.R_below (by (with_reducible repeat (first | apply Kd.R_alloc | apply Kd.R_drewN | apply Kd.R_drew)); exact (Kd.R_mono (Kd.R_far (p := ⟨gb260, 0, none⟩) (Kd.R_types HO247.out BK260.out (by decide)) (fun _ hk => hk.2) (.slice Ao68 t256.length co68)) (fun _ h_ => h_.1))) hb); have n2_ := Aside0.mk (Kd.R_below (by (with_reducible repeat (first | apply Kd.R_alloc | apply Kd.R_drewN | apply Kd.R_drew)); exact (Kd.R_mono (Kd.R_far (p := ⟨gb260, 0, none⟩) (Kd.R_types HO252.out BK260.out (by decide)) (fun _ hk => hk.2) (.slice Ao68 t256.length co68)) (fun _ h_ => h_.1))) hb); have n3_ := Aside0.mk (Kd.R_below (by (with_reducible repeat (first | apply Kd.R_alloc | apply Kd.R_drewN | apply Kd.R_drew)); exact (Kd.R_mono (Kd.R_far (p := ⟨gb260, 0, none⟩) (Kd.R_types HO258.out BK260.out (by decide)) (fun _ hk => hk.2) (.slice Ao68 t256.length co68)) (fun _ h_ => h_.1))) hb); have n4_ := Aside0.mk (blk_below (g := gb237) (o := .cells #[.slice A0_0 l0_0.length c0_0] 32 (0, 0)) Gv.bkf hb); have n5_ := Aside0.mk (blk_below (g := gb238) (o := .cells #[.int .i64 a1_0, .int .i64 a1_1] 23 (0, 0)) Gv.bkf hb); have n6_ := Aside0.mk (blk_below (g := gb249) (o := .cells #[.slice Ao51 t245.length co51] 37 (0, 0)) Gv.bkf hb); have n7_ := Aside0.mk (blk_below (g := gb253) (o := .cells #[.slice Ao57 t250.length co57] 37 (0, 0)) Gv.bkf hb); have n8_ := Aside0.mk (blk_below (g := gb260) (o := .cells #[.slice Ao68 t256.length co68] 37 (0, 0)) (by (with_reducible repeat (first | refine blk_drewN ?_ _ | refine blk_drew ?_ | refine blk_alloc ?_ _)); refine blk_put (cs := #[.slice none 0 0]) ?_ 0 _ rfl; (with_reducible repeat (first | refine blk_drewN ?_ _ | refine blk_drew ?_ | refine blk_alloc ?_ _)); exact BK260.out) hb); have n9_ := Aside0.mk (below_step Gv.bw hb); clear HO242; clear HO247; clear HO252; clear HO258; clear BK237; clear BK238; clear BK249; clear BK253; clear BK260; clear HB; have HO242 := n0_; have HO247 := n1_; have HO252 := n2_; have HO258 := n3_; have BK237 := n4_; have BK238 := n5_; have BK249 := n6_; have BK253 := n7_; have BK260 := n8_; have HB := n9_; clear n0_ n1_ n2_ n3_ n4_ n5_ n6_ n7_ n8_ n9_; (try clear hb); (try clear hb2); (try clear hk); (try clear hi)))
             have n0_ := Aside0.mk (Kd.R_drew HO242.out)
             have n1_ := Aside0.mk (Kd.R_drew HO247.out)
             have n2_ := Aside0.mk (Kd.R_drew HO252.out)
             have n3_ := Aside0.mk (Kd.R_drew HO258.out)
             have n4_ := Aside0.mk (blk_drew BK237.out)
             have n5_ := Aside0.mk (blk_drew BK238.out)
             have n6_ := Aside0.mk (blk_drew BK249.out)
             have n7_ := Aside0.mk (blk_drew BK253.out)
             have n8_ := Aside0.mk (blk_drew BK260.out)
             have n9_ := Aside0.mk (below_drew1 HB.out)
             clear HO242 HO247 HO252 HO258 BK237 BK238 BK249 BK253 BK260 HB
             have HO242 := n0_
             have HO247 := n1_
             have HO252 := n2_
             have HO258 := n3_
             have BK237 := n4_
             have BK238 := n5_
             have BK249 := n6_
             have BK253 := n7_
             have BK260 := n8_
             have HB := n9_
             clear n0_ n1_ n2_ n3_ n4_ n5_ n6_ n7_ n8_ n9_
             refine start_ (n := 5) (S := fun w' => w'.cell? ⟨gb253, 0, none⟩ = some (.slice Ao57 t250.length co57) ∧ w'.cell? ⟨gb237, 0, none⟩ = some (.slice A0_0 l0_0.length c0_0)) (ds := []) #[false, false, false, false, false] (by kernel_rfl) rfl rfl ⟨(blk_cell BK253.out 0).trans rfl, (blk_cell BK237.out 0).trans rfl⟩ (fun hHeld => ?_)
             generalize w77.drew = w78 at HO242 HO247 HO252 HO258 BK237 BK238 BK249 BK253 BK260 HB hHeld ⊢
             refine take_ (i := 0) (N := some 47) (v := ?_) (a' := ?_) #[true, false, false, false, false] rfl rfl (by kernel_rfl) (fun _ _ _ h => h) (Or.inl ⟨by rfl, ?_⟩) hHeld ?_ ?_
             rotate_left
             ·rintro w' ⟨s0, s1⟩
              go_simp
              with_reducible rfl
             rotate_left
             ·simp only [Act.put, List.setIfInBounds_toArray, List.set_cons_zero, List.set_cons_succ, i64_w, i32_w]
              rfl
             refine take_ (i := 1) (N := some 48) (v := ?_) (a' := ?_) #[true, true, false, false, false] rfl rfl (by kernel_rfl) (fun _ _ _ h => h) (Or.inl ⟨by rfl, ?_⟩) hHeld ?_ ?_
             rotate_left
             ·rintro w' ⟨s0, s1⟩
              go_simp
              with_reducible rfl
             rotate_left
             ·simp only [Act.put, List.setIfInBounds_toArray, List.set_cons_zero, List.set_cons_succ, i64_w, i32_w]
              rfl
             refine one_ (i := 2) (N := some 49) #[true, true, true, false, false] rfl rfl (by kernel_rfl) (by decide) (fun K hK => ?_)
             refine goes_ Try.func17 (by kernel_rfl) rfl #[.agg #[.slice A0_0 l0_0.length c0_0]] (by rfl) rfl rfl (by (try simp only [List.map_toArray, List.map_cons, List.map_nil]); first | done | rfl | (simp only [List.length_drop, List.length_take]; rfl)) ?_
             with_reducible refine (laws_toHeap.calls k _ _ l0_0 t262 _ ?side1 ?side2 A19.out).mono ?_
             (case side1 => repeat (first | exact (Kd.C_below HR0_0.out HB.out) | (with_reducible refine Kd.C_alloc ?_ _) | (with_reducible refine Kd.C_drewN ?_ _) | (with_reducible refine Kd.C_drew ?_)))
             (case side2 => exact HC0_0.out)
             rintro e w79 ⟨v263, rfl, ho0, hb⟩
             refine ⟨_, rfl, ?_⟩
             have n0_ := Aside0.mk (Kd.R_elder' HO242.out (Kd.R_base ho0) hb)
             have n1_ := Aside0.mk (Kd.R_elder' HO247.out (Kd.R_base ho0) hb)
             have n2_ := Aside0.mk (Kd.R_elder' HO252.out (Kd.R_base ho0) hb)
             have n3_ := Aside0.mk (Kd.R_elder' HO258.out (Kd.R_base ho0) hb)
             have n4_ := Aside0.mk (Kd.R_lower (Kd.R_new' (Kd.R_new' (Kd.R_new' (Kd.R_new' ho0 (Kd.R_lt HO242.out)) (Kd.R_lt HO247.out)) (Kd.R_lt HO252.out)) (Kd.R_lt HO258.out)) (below_size HB.out))
             have n5_ := Aside0.mk (blk_below BK237.out hb)
             have n6_ := Aside0.mk (blk_below BK238.out hb)
             have n7_ := Aside0.mk (blk_below BK249.out hb)
             have n8_ := Aside0.mk (blk_below BK253.out hb)
             have n9_ := Aside0.mk (blk_below BK260.out hb)
             have n10_ := Aside0.mk (below_step HB.out hb)
             clear HO242 HO247 HO252 HO258 BK237 BK238 BK249 BK253 BK260 HB
             have HO242 := n0_
             have HO247 := n1_
             have HO252 := n2_
             have HO258 := n3_
             have HO264 := n4_
             have BK237 := n5_
             have BK238 := n6_
             have BK249 := n7_
             have BK253 := n8_
             have BK260 := n9_
             have HB := n10_
             clear n0_ n1_ n2_ n3_ n4_ n5_ n6_ n7_ n8_ n9_ n10_
             (try clear hb)
             (try clear hb2)
             (try clear hk)
             (try clear hi)
             (try clear ho0)
             obtain ⟨Ao80, co80, eo80⟩ := Kd.R_slice HO264.out
             (first | subst eo80 | (injection eo80 with f1_ f2_ f3_; have f4_ := f1_.symm; have f5_ := f3_.symm; clear f1_ f2_ f3_; subst f4_; subst f5_))
             refine hK.out _ _ ⟨(blk_cell BK253.out 0).trans rfl, (blk_cell BK237.out 0).trans rfl⟩ (fun hHeld => ?_)
             clear hK K
             refine norm_ (a' := ?_) ?_ ?_
             rotate_left
             ·show Act.put _ (some 49) _ = _
              simp only [Act.put, List.setIfInBounds_toArray, List.set_cons_zero, List.set_cons_succ, i64_w, i32_w]
              rfl
             refine one_ (i := 3) (N := some 50) #[true, true, true, true, false] rfl rfl (by kernel_rfl) (by decide) (fun K hK => ?_)
             refine goes_ Try.func19 (by kernel_rfl) rfl #[.agg #[.slice Ao57 t250.length co57], .agg #[.slice Ao80 t262.length co80]] (by rfl) rfl rfl (by (try simp only [List.map_toArray, List.map_cons, List.map_nil]); first | done | rfl | (simp only [List.length_drop, List.length_take]; rfl)) ?_
             with_reducible refine (laws_eqHeap.calls k _ _ t250 _ _ t262 true _ ?side1 ?side2 ?side3 ?side4 A20.out).mono ?_
             (case side1 => repeat (first | exact (Kd.R_reads' HO252.out).2.2 | (with_reducible refine Kd.C_alloc ?_ _) | (with_reducible refine Kd.C_drewN ?_ _) | (with_reducible refine Kd.C_drew ?_)))
             (case side2 => exact (Kd.R_reads' HO252.out).2.1)
             (case side3 => repeat (first | exact (Kd.R_reads' HO264.out).2.2 | (with_reducible refine Kd.C_alloc ?_ _) | (with_reducible refine Kd.C_drewN ?_ _) | (with_reducible refine Kd.C_drew ?_)))
             (case side4 => exact (Kd.R_reads' HO264.out).2.1)
             rintro e w81 ⟨rfl, hb⟩
             refine ⟨_, rfl, ?_⟩
             have n0_ := Aside0.mk (Kd.R_below HO242.out hb)
             have n1_ := Aside0.mk (Kd.R_below HO247.out hb)
             have n2_ := Aside0.mk (Kd.R_below HO252.out hb)
             have n3_ := Aside0.mk (Kd.R_below HO258.out hb)
             have n4_ := Aside0.mk (Kd.R_below HO264.out hb)
             have n5_ := Aside0.mk (blk_below BK237.out hb)
             have n6_ := Aside0.mk (blk_below BK238.out hb)
             have n7_ := Aside0.mk (blk_below BK249.out hb)
             have n8_ := Aside0.mk (blk_below BK253.out hb)
             have n9_ := Aside0.mk (blk_below BK260.out hb)
             have n10_ := Aside0.mk (below_step HB.out hb)
             clear HO242 HO247 HO252 HO258 HO264 BK237 BK238 BK249 BK253 BK260 HB
             have HO242 := n0_
             have HO247 := n1_
             have HO252 := n2_
             have HO258 := n3_
             have HO264 := n4_
             have BK237 := n5_
             have BK238 := n6_
             have BK249 := n7_
             have BK253 := n8_
             have BK260 := n9_
             have HB := n10_
             clear n0_ n1_ n2_ n3_ n4_ n5_ n6_ n7_ n8_ n9_ n10_
             (try clear hb)
             (try clear hb2)
             (try clear hk)
             (try clear hi)
             refine hK.out _ _ ⟨(blk_cell BK253.out 0).trans rfl, (blk_cell BK237.out 0).trans rfl⟩ (fun hHeld => ?_)
             clear hK K
             refine norm_ (a' := ?_) ?_ ?_
             rotate_left
             ·show Act.put _ (some 50) _ = _
              simp only [Act.put, List.setIfInBounds_toArray, List.set_cons_zero, List.set_cons_succ, i64_w, i32_w]
              rfl
             refine pure_ (i := 4) (N := some 51) (v := ?_) (a' := ?_) #[true, true, true, true, true] rfl rfl (by kernel_rfl) (fun _ _ _ h => h) (Or.inl ⟨by rfl, ?_⟩) ?_ ?_
             rotate_left
             ·intro w'
              go_simp
              with_reducible rfl
             rotate_left
             ·simp only [Act.put, List.setIfInBounds_toArray, List.set_cons_zero, List.set_cons_succ, i64_w, i32_w]
              rfl
             refine done_ (by kernel_rfl) ?_
             have hcz82_0 : w81.cell? ⟨gb253, 0, none⟩ = some (.slice Ao57 t250.length co57) := (blk_cell BK253.out 0).trans rfl
             have hfz82_0 := blk_frozen BK253.out 0
             try go_wp2_with (first | ((with_reducible refine gate_callee (f := 24) rfl ?_); refine goesL_ (some 54) rfl rfl Try.func24 (by kernel_rfl) rfl #[.agg #[.slice Ao57 t250.length co57], .int .i64 1] rfl (by (try simp only [List.map_toArray, List.map_cons, List.map_nil]); first | done | rfl | (simp only [List.length_drop, List.length_take]; rfl)) ?_; (with_reducible refine (laws_markHeap.calls k (fun k_ => some k_ = (.slice Ao57 t250.length co57 : Value).ownBlock) (.slice Ao57 t250.length co57) t250 1 t266 t267 w _ ?side1 ?side2 A22.out).mono ?_); (case side1 => repeat (first | (with_reducible first | exact HB.out | apply below_alloc | apply pw_below_drewN | apply below_drew1 | refine below_set ?_ GE237.out | refine below_set ?_ GE238.out | refine below_set ?_ GE249.out | refine below_set ?_ GE253.out | refine below_set ?_ GE260.out) | exact HB.out)); (case side2 => exact Kd.R_tight rfl HO252.out); rintro e w83 ⟨rfl, hy0, hb, hkp⟩; refine ⟨_, rfl, ?_⟩; have n0_ := Aside0.mk (blk_kept Gv.bk hkp (fun hs_ => (fun e_ => (Kd.R_ne HO252.out BK237.out (by decide)) e_) hs_)); have n1_ := Aside0.mk (blk_kept Gv.bk hkp (fun hs_ => (fun e_ => (Kd.R_ne HO252.out BK238.out (by decide)) e_) hs_)); have n2_ := Aside0.mk (Kd.R_mono (ok' := fun k_ => some k_ ≠ (.slice Ao51 t245.length co51 : Value).ownBlock ∧ some k_ ≠ (.slice Ao57 t250.length co57 : Value).ownBlock ∧ some k_ ≠ (.slice Ao68 t256.length co68 : Value).ownBlock ∧ some k_ ≠ (.slice Ao80 t262.length co80 : Value).ownBlock) (Kd.R_keptB (HO242.out) hkp (fun k_ hk_ hs_ => (hk_.1.2.1) hs_)) (fun k_ hk_ => ⟨hk_.1.1.1, hk_.1.1.2.1, hk_.1.1.2.2, hk_.1.2⟩)); have n3_ := Aside0.mk (Kd.R_mono (ok' := fun k_ => some k_ ≠ (v241 : Value).ownBlock ∧ some k_ ≠ (.slice Ao57 t250.length co57 : Value).ownBlock ∧ some k_ ≠ (.slice Ao68 t256.length co68 : Value).ownBlock ∧ some k_ ≠ (.slice Ao80 t262.length co80 : Value).ownBlock) (Kd.R_keptB (HO247.out) hkp (fun k_ hk_ hs_ => (hk_.1.2.1) hs_)) (fun k_ hk_ => ⟨hk_.1.1.1, hk_.1.1.2.1, hk_.1.1.2.2, hk_.1.2⟩)); have n4_ := Aside0.mk (blk_kept Gv.bk hkp (fun hs_ => (fun e_ => (Kd.R_ne HO252.out BK249.out (by decide)) e_) hs_)); have n5_ := Aside0.mk (Kd.R_reok rfl hy0 (fun k_ e_ => HO252.out.1 k_ e_)); have n6_ := Aside0.mk (blk_kept Gv.bk hkp (fun hs_ => (fun e_ => (Kd.R_ne HO252.out BK253.out (by decide)) e_) hs_)); have n7_ := Aside0.mk (Kd.R_mono (ok' := fun k_ => some k_ ≠ (v241 : Value).ownBlock ∧ some k_ ≠ (.slice Ao51 t245.length co51 : Value).ownBlock ∧ some k_ ≠ (.slice Ao57 t250.length co57 : Value).ownBlock ∧ some k_ ≠ (.slice Ao80 t262.length co80 : Value).ownBlock) (Kd.R_keptB (HO258.out) hkp (fun k_ hk_ hs_ => (hk_.1.2.2) hs_)) (fun k_ hk_ => ⟨hk_.1.1.1, hk_.1.1.2.1, hk_.1.1.2.2, hk_.1.2⟩)); have n8_ := Aside0.mk (blk_kept Gv.bk hkp (fun hs_ => (fun e_ => (Kd.R_ne HO252.out BK260.out (by decide)) e_) hs_)); have n9_ := Aside0.mk (Kd.R_mono (ok' := fun k_ => some k_ ≠ (v241 : Value).ownBlock ∧ some k_ ≠ (.slice Ao51 t245.length co51 : Value).ownBlock ∧ some k_ ≠ (.slice Ao57 t250.length co57 : Value).ownBlock ∧ some k_ ≠ (.slice Ao68 t256.length co68 : Value).ownBlock) (Kd.R_keptB (HO264.out) hkp (fun k_ hk_ hs_ => (hk_.1.2) hs_)) (fun k_ hk_ => ⟨hk_.1.1.1.1.2, hk_.1.1.1.2, hk_.1.1.2, hk_.1.2⟩)); have n10_ := Aside0.mk (hb); clear BK237; clear BK238; clear HO242; clear HO247; clear BK249; clear HO252; clear BK253; clear HO258; clear BK260; clear HO264; clear HB; have BK237 := n0_; have BK238 := n1_; have HO242 := n2_; have HO247 := n3_; have BK249 := n4_; have HO252 := n5_; have BK253 := n6_; have HO258 := n7_; have BK260 := n8_; have HO264 := n9_; have HB := n10_; clear n0_ n1_ n2_ n3_ n4_ n5_ n6_ n7_ n8_ n9_ n10_; (try clear hb); (try clear hkp); (try clear hy0); have hcz84_0 : w83.cell? ⟨gb260, 0, none⟩ = some (.slice Ao68 t256.length co68) := (blk_cell BK260.out 0).trans rfl; have hfz84_0 := blk_frozen BK260.out 0; have hcz85_0 : w83.cell? ⟨gb249, 0, none⟩ = some (.slice Ao51 t245.length co51) := (blk_cell BK249.out 0).trans rfl; have hfz85_0 := blk_frozen BK249.out 0) | (go_at_call 19; (with_reducible refine (laws_eqHeap.calls k _ _ t256 _ _ t245 true _ ?side1 ?side2 ?side3 ?side4 A24.out).mono ?_); (case side1 => repeat (first | exact (Kd.R_reads' HO258.out).2.2 | (with_reducible refine Kd.C_alloc ?_ _) | (with_reducible refine Kd.C_drewN ?_ _) | (with_reducible refine Kd.C_drew ?_))); (case side2 => exact (Kd.R_reads' HO258.out).2.1); (case side3 => repeat (first | exact (Kd.R_reads' HO247.out).2.2 | (with_reducible refine Kd.C_alloc ?_ _) | (with_reducible refine Kd.C_drewN ?_ _) | (with_reducible refine Kd.C_drew ?_))); (case side4 => exact (Kd.R_reads' HO247.out).2.1); rintro e w86 ⟨rfl, hb⟩; have n0_ := Aside0.mk (Kd.R_below (by (with_reducible repeat (first | apply Kd.R_alloc | apply Kd.R_drewN | apply Kd.R_drew)); exact HO242.out) hb); have n1_ := Aside0.mk (Kd.R_below (by (with_reducible repeat (first | apply Kd.R_alloc | apply Kd.R_drewN | apply Kd.R_drew)); exact HO247.out) hb); have n2_ := Aside0.mk (Kd.R_below (by (with_reducible repeat (first | apply Kd.R_alloc | apply Kd.R_drewN | apply Kd.R_drew)); exact HO252.out) hb); have n3_ := Aside0.mk (Kd.R_below (by (with_reducible repeat (first | apply Kd.R_alloc | apply Kd.R_drewN | apply Kd.R_drew)); exact HO258.out) hb); have n4_ := Aside0.mk (Kd.R_below (by (with_reducible repeat (first | apply Kd.R_alloc | apply Kd.R_drewN | apply Kd.R_drew)); exact HO264.out) hb); have n5_ := Aside0.mk (blk_below (g := gb237) (o := .cells #[.slice A0_0 l0_0.length c0_0] 32 (0, 0)) Gv.bk hb); have n6_ := Aside0.mk (blk_below (g := gb238) (o := .cells #[.int .i64 a1_0, .int .i64 a1_1] 23 (0, 0)) Gv.bk hb); have n7_ := Aside0.mk (blk_below (g := gb249) (o := .cells #[.slice Ao51 t245.length co51] 37 (0, 0)) Gv.bk hb); have n8_ := Aside0.mk (blk_below (g := gb253) (o := .cells #[.slice Ao57 t250.length co57] 37 (0, 0)) Gv.bk hb); have n9_ := Aside0.mk (blk_below (g := gb260) (o := .cells #[.slice Ao68 t256.length co68] 37 (0, 0)) Gv.bk hb); have n10_ := Aside0.mk (below_step Gv.bw hb); clear HO242; clear HO247; clear HO252; clear HO258; clear HO264; clear BK237; clear BK238; clear BK249; clear BK253; clear BK260; clear HB; have HO242 := n0_; have HO247 := n1_; have HO252 := n2_; have HO258 := n3_; have HO264 := n4_; have BK237 := n5_; have BK238 := n6_; have BK249 := n7_; have BK253 := n8_; have BK260 := n9_; have HB := n10_; clear n0_ n1_ n2_ n3_ n4_ n5_ n6_ n7_ n8_ n9_ n10_; (try clear hb); (try clear hb2); (try clear hk); (try clear hi); have hcz87_0 : w86.cell? ⟨gb260, 0, none⟩ = some (.slice Ao68 t256.length co68) := (blk_cell BK260.out 0).trans rfl; have hfz87_0 := blk_frozen BK260.out 0) | ((with_reducible refine gate_callee (f := 24) rfl ?_); refine goesL_ (some 70) rfl rfl Try.func24 (by kernel_rfl) rfl #[.agg #[.slice Ao68 t256.length co68], .int .i64 1] rfl (by (try simp only [List.map_toArray, List.map_cons, List.map_nil]); first | done | rfl | (simp only [List.length_drop, List.length_take]; rfl)) ?_; (with_reducible refine (laws_markHeap.calls k (fun k_ => some k_ = (.slice Ao68 t256.length co68 : Value).ownBlock) (.slice Ao68 t256.length co68) t256 1 t269 t270 w _ ?side1 ?side2 A26.out).mono ?_); (case side1 => repeat (first | (with_reducible first | exact HB.out | apply below_alloc | apply pw_below_drewN | apply below_drew1 | refine below_set ?_ GE237.out | refine below_set ?_ GE238.out | refine below_set ?_ GE249.out | refine below_set ?_ GE253.out | refine below_set ?_ GE260.out) | exact HB.out)); (case side2 => exact Kd.R_tight rfl HO258.out); rintro e w88 ⟨rfl, hy0, hb, hkp⟩; refine ⟨_, rfl, ?_⟩; have n0_ := Aside0.mk (blk_kept Gv.bk hkp (fun hs_ => (fun e_ => (Kd.R_ne HO258.out BK237.out (by decide)) e_) hs_)); have n1_ := Aside0.mk (blk_kept Gv.bk hkp (fun hs_ => (fun e_ => (Kd.R_ne HO258.out BK238.out (by decide)) e_) hs_)); have n2_ := Aside0.mk (Kd.R_mono (ok' := fun k_ => some k_ ≠ (.slice Ao51 t245.length co51 : Value).ownBlock ∧ some k_ ≠ (.slice Ao57 t250.length co57 : Value).ownBlock ∧ some k_ ≠ (.slice Ao68 t256.length co68 : Value).ownBlock ∧ some k_ ≠ (.slice Ao80 t262.length co80 : Value).ownBlock) (Kd.R_keptB (HO242.out) hkp (fun k_ hk_ hs_ => (hk_.2.2.1) hs_)) (fun k_ hk_ => ⟨hk_.1.1, hk_.1.2.1, hk_.1.2.2.1, hk_.1.2.2.2⟩)); have n3_ := Aside0.mk (Kd.R_mono (ok' := fun k_ => some k_ ≠ (v241 : Value).ownBlock ∧ some k_ ≠ (.slice Ao57 t250.length co57 : Value).ownBlock ∧ some k_ ≠ (.slice Ao68 t256.length co68 : Value).ownBlock ∧ some k_ ≠ (.slice Ao80 t262.length co80 : Value).ownBlock) (Kd.R_keptB (HO247.out) hkp (fun k_ hk_ hs_ => (hk_.2.2.1) hs_)) (fun k_ hk_ => ⟨hk_.1.1, hk_.1.2.1, hk_.1.2.2.1, hk_.1.2.2.2⟩)); have n4_ := Aside0.mk (blk_kept Gv.bk hkp (fun hs_ => (fun e_ => (Kd.R_ne HO258.out BK249.out (by decide)) e_) hs_)); have n5_ := Aside0.mk (Kd.R_mono (ok' := fun k_ => some k_ ≠ (v241 : Value).ownBlock ∧ some k_ ≠ (.slice Ao51 t245.length co51 : Value).ownBlock ∧ some k_ ≠ (.slice Ao68 t256.length co68 : Value).ownBlock ∧ some k_ ≠ (.slice Ao80 t262.length co80 : Value).ownBlock) (Kd.R_keptB (HO252.out) hkp (fun k_ hk_ hs_ => (hk_.1.2.2) hs_)) (fun k_ hk_ => ⟨hk_.1.1.1, hk_.1.1.2.1, hk_.1.1.2.2, hk_.1.2⟩)); have n6_ := Aside0.mk (blk_kept Gv.bk hkp (fun hs_ => (fun e_ => (Kd.R_ne HO258.out BK253.out (by decide)) e_) hs_)); have n7_ := Aside0.mk (Kd.R_reok rfl hy0 (fun k_ e_ => HO258.out.1 k_ e_)); have n8_ := Aside0.mk (blk_kept Gv.bk hkp (fun hs_ => (fun e_ => (Kd.R_ne HO258.out BK260.out (by decide)) e_) hs_)); have n9_ := Aside0.mk (Kd.R_mono (ok' := fun k_ => some k_ ≠ (v241 : Value).ownBlock ∧ some k_ ≠ (.slice Ao51 t245.length co51 : Value).ownBlock ∧ some k_ ≠ (.slice Ao57 t250.length co57 : Value).ownBlock ∧ some k_ ≠ (.slice Ao68 t256.length co68 : Value).ownBlock) (Kd.R_keptB (HO264.out) hkp (fun k_ hk_ hs_ => (hk_.2.2.2) hs_)) (fun k_ hk_ => ⟨hk_.1.1, hk_.1.2.1, hk_.1.2.2.1, hk_.1.2.2.2⟩)); have n10_ := Aside0.mk (hb); clear BK237; clear BK238; clear HO242; clear HO247; clear BK249; clear HO252; clear BK253; clear HO258; clear BK260; clear HO264; clear HB; have BK237 := n0_; have BK238 := n1_; have HO242 := n2_; have HO247 := n3_; have BK249 := n4_; have HO252 := n5_; have BK253 := n6_; have HO258 := n7_; have BK260 := n8_; have HO264 := n9_; have HB := n10_; clear n0_ n1_ n2_ n3_ n4_ n5_ n6_ n7_ n8_ n9_ n10_; (try clear hb); (try clear hkp); (try clear hy0); have hcz89_0 : w88.cell? ⟨gb260, 0, none⟩ = some (.slice Ao68 t256.length co68) := (blk_cell BK260.out 0).trans rfl; have hfz89_0 := blk_frozen BK260.out 0) | ((with_reducible refine gate_callee (f := 25) rfl ?_); refine goesL_ (some 73) rfl rfl Try.func25 (by kernel_rfl) rfl #[.agg #[.slice Ao68 t270.length co68], .int .i64 1] rfl (by (try simp only [List.map_toArray, List.map_cons, List.map_nil]); first | done | (rw [show t270.length = t256.length from (Kd.R_reads' HO258.out).1.symm] <;> rfl) | rfl | (simp only [List.length_drop, List.length_take]; rfl)) ?_; (with_reducible refine (laws_heldHeap.calls k _ _ t270 1 t271 _ ?side1 ?side2 A27.out).mono ?_); (case side1 => repeat (first | exact (Kd.R_reads' HO258.out).2.2 | (with_reducible refine Kd.C_alloc ?_ _) | (with_reducible refine Kd.C_drewN ?_ _) | (with_reducible refine Kd.C_drew ?_))); (case side2 => rw [show t270.length = t256.length from (Kd.R_reads' HO258.out).1.symm]; exact (Kd.R_reads' HO258.out).2.1); rintro e w90 ⟨rfl, hb⟩; refine ⟨_, rfl, ?_⟩; have n0_ := Aside0.mk (Kd.R_below (by (with_reducible repeat (first | apply Kd.R_alloc | apply Kd.R_drewN | apply Kd.R_drew)); exact HO242.out) hb); have n1_ := Aside0.mk (Kd.R_below (by (with_reducible repeat (first | apply Kd.R_alloc | apply Kd.R_drewN | apply Kd.R_drew)); exact HO247.out) hb); have n2_ := Aside0.mk (Kd.R_below (by (with_reducible repeat (first | apply Kd.R_alloc | apply Kd.R_drewN | apply Kd.R_drew)); exact HO252.out) hb); have n3_ := Aside0.mk (Kd.R_below (by (with_reducible repeat (first | apply Kd.R_alloc | apply Kd.R_drewN | apply Kd.R_drew)); exact HO258.out) hb); have n4_ := Aside0.mk (Kd.R_below (by (with_reducible repeat (first | apply Kd.R_alloc | apply Kd.R_drewN | apply Kd.R_drew)); exact HO264.out) hb); have n5_ := Aside0.mk (blk_below (g := gb237) (o := .cells #[.slice A0_0 l0_0.length c0_0] 32 (0, 0)) Gv.bk hb); have n6_ := Aside0.mk (blk_below (g := gb238) (o := .cells #[.int .i64 a1_0, .int .i64 a1_1] 23 (0, 0)) Gv.bk hb); have n7_ := Aside0.mk (blk_below (g := gb249) (o := .cells #[.slice Ao51 t245.length co51] 37 (0, 0)) Gv.bk hb); have n8_ := Aside0.mk (blk_below (g := gb253) (o := .cells #[.slice Ao57 t250.length co57] 37 (0, 0)) Gv.bk hb); have n9_ := Aside0.mk (blk_below (g := gb260) (o := .cells #[.slice Ao68 t256.length co68] 37 (0, 0)) Gv.bk hb); have n10_ := Aside0.mk (below_step Gv.bw hb); clear HO242; clear HO247; clear HO252; clear HO258; clear HO264; clear BK237; clear BK238; clear BK249; clear BK253; clear BK260; clear HB; have HO242 := n0_; have HO247 := n1_; have HO252 := n2_; have HO258 := n3_; have HO264 := n4_; have BK237 := n5_; have BK238 := n6_; have BK249 := n7_; have BK253 := n8_; have BK260 := n9_; have HB := n10_; clear n0_ n1_ n2_ n3_ n4_ n5_ n6_ n7_ n8_ n9_ n10_; (try clear hb); (try clear hb2); (try clear hk); (try clear hi)))
             have n0_ := Aside0.mk (Kd.R_drew HO242.out)
             have n1_ := Aside0.mk (Kd.R_drew HO247.out)
             have n2_ := Aside0.mk (Kd.R_drew HO252.out)
             have n3_ := Aside0.mk (Kd.R_drew HO258.out)
             have n4_ := Aside0.mk (Kd.R_drew HO264.out)
             have n5_ := Aside0.mk (blk_drew BK237.out)
             have n6_ := Aside0.mk (blk_drew BK238.out)
             have n7_ := Aside0.mk (blk_drew BK249.out)
             have n8_ := Aside0.mk (blk_drew BK253.out)
             have n9_ := Aside0.mk (blk_drew BK260.out)
             have n10_ := Aside0.mk (below_drew1 HB.out)
             clear HO242 HO247 HO252 HO258 HO264 BK237 BK238 BK249 BK253 BK260 HB
             have HO242 := n0_
             have HO247 := n1_
             have HO252 := n2_
             have HO258 := n3_
             have HO264 := n4_
             have BK237 := n5_
             have BK238 := n6_
             have BK249 := n7_
             have BK253 := n8_
             have BK260 := n9_
             have HB := n10_
             clear n0_ n1_ n2_ n3_ n4_ n5_ n6_ n7_ n8_ n9_ n10_
             refine start_ (n := 11) (S := fun w' => w'.cell? ⟨gb237, 0, none⟩ = some (.slice A0_0 l0_0.length c0_0) ∧ w'.cell? ⟨gb238, 0, none⟩ = some (.int .i64 a1_0) ∧ w'.cell? ⟨gb238, 1, none⟩ = some (.int .i64 a1_1)) (ds := []) #[false, false, false, false, false, false, false, false, false, false, false] (by kernel_rfl) rfl rfl ⟨(blk_cell BK237.out 0).trans rfl, (blk_cell BK238.out 0).trans rfl, (blk_cell BK238.out 1).trans rfl⟩ (fun hHeld => ?_); refine with_tabW laws_FnExactHeapPush.tab24 laws_FnExactHeapPush.bits24 (fun HT_ HW_ => ?_)
             generalize w90.drew = w91 at HO242 HO247 HO252 HO258 HO264 BK237 BK238 BK249 BK253 BK260 HB hHeld ⊢
             refine take_ (i := 0) (N := some 80) (v := ?_) (a' := ?_) #[true, false, false, false, false, false, false, false, false, false, false] rfl rfl (take_ofW HT_.out HW_.out (by kernel_rfl)) (fun _ _ _ h => h) (Or.inl ⟨by rfl, ?_⟩) hHeld ?_ ?_
             rotate_left
             ·rintro w' ⟨s0, s1, s2⟩
              go_simp
              with_reducible rfl
             rotate_left
             ·simp only [Act.put, List.setIfInBounds_toArray, List.set_cons_zero, List.set_cons_succ, i64_w, i32_w]
              rfl
             refine take_ (i := 2) (N := some 82) (v := ?_) (a' := ?_) #[true, false, true, false, false, false, false, false, false, false, false] rfl rfl (take_ofW HT_.out HW_.out (by kernel_rfl)) (fun _ _ _ h => h) (Or.inl ⟨by rfl, ?_⟩) hHeld ?_ ?_
             rotate_left
             ·rintro w' ⟨s0, s1, s2⟩
              go_simp
              with_reducible rfl
             rotate_left
             ·simp only [Act.put, List.setIfInBounds_toArray, List.set_cons_zero, List.set_cons_succ, i64_w, i32_w]
              rfl
             refine join_ (σ := Value × Value × Nat) 2 #[true, true, true, true, true, true, true, true, true, false, false] (fun s_ => [(81, .agg #[s_.1]), (83, .agg #[.int .i64 t275, .int .i64 t276]), (84, .tuple #[.agg #[s_.2.1], .int .i64 t280]), (14, .pointer (some ⟨s_.2.2, 0, none⟩)), (79, .tuple #[.agg #[s_.2.1], .int .i64 t280]), (85, .agg #[s_.2.1]), (86, .int .i64 t280)]) (fun s_ w' => (w'.cell? ⟨gb237, 0, none⟩ = some (.slice A0_0 l0_0.length c0_0) ∧ w'.cell? ⟨gb238, 0, none⟩ = some (.int .i64 a1_0) ∧ w'.cell? ⟨gb238, 1, none⟩ = some (.int .i64 a1_1)) ∧ (Kd.R k25 25 w' w.heap.size (fun k_ => some k_ ≠ (.slice Ao51 t245.length co51 : Value).ownBlock ∧ some k_ ≠ (.slice Ao57 t250.length co57 : Value).ownBlock ∧ some k_ ≠ (.slice Ao68 t256.length co68 : Value).ownBlock ∧ some k_ ≠ (.slice Ao80 t262.length co80 : Value).ownBlock ∧ some k_ ≠ (s_.1 : Value).ownBlock ∧ some k_ ≠ (s_.2.1 : Value).ownBlock) v241 t240) ∧ (Kd.R k25 25 w' w.heap.size (fun k_ => some k_ ≠ (v241 : Value).ownBlock ∧ some k_ ≠ (.slice Ao57 t250.length co57 : Value).ownBlock ∧ some k_ ≠ (.slice Ao68 t256.length co68 : Value).ownBlock ∧ some k_ ≠ (.slice Ao80 t262.length co80 : Value).ownBlock ∧ some k_ ≠ (s_.1 : Value).ownBlock ∧ some k_ ≠ (s_.2.1 : Value).ownBlock) (.slice Ao51 t245.length co51) t245) ∧ (Kd.R k25 25 w' w.heap.size (fun k_ => some k_ ≠ (v241 : Value).ownBlock ∧ some k_ ≠ (.slice Ao51 t245.length co51 : Value).ownBlock ∧ some k_ ≠ (.slice Ao68 t256.length co68 : Value).ownBlock ∧ some k_ ≠ (.slice Ao80 t262.length co80 : Value).ownBlock ∧ some k_ ≠ (s_.1 : Value).ownBlock ∧ some k_ ≠ (s_.2.1 : Value).ownBlock) (.slice Ao57 t250.length co57) t267) ∧ (Kd.R k25 25 w' w.heap.size (fun k_ => some k_ ≠ (v241 : Value).ownBlock ∧ some k_ ≠ (.slice Ao51 t245.length co51 : Value).ownBlock ∧ some k_ ≠ (.slice Ao57 t250.length co57 : Value).ownBlock ∧ some k_ ≠ (.slice Ao80 t262.length co80 : Value).ownBlock ∧ some k_ ≠ (s_.1 : Value).ownBlock ∧ some k_ ≠ (s_.2.1 : Value).ownBlock) (.slice Ao68 t256.length co68) t270) ∧ (Kd.R k25 25 w' w.heap.size (fun k_ => some k_ ≠ (v241 : Value).ownBlock ∧ some k_ ≠ (.slice Ao51 t245.length co51 : Value).ownBlock ∧ some k_ ≠ (.slice Ao57 t250.length co57 : Value).ownBlock ∧ some k_ ≠ (.slice Ao68 t256.length co68 : Value).ownBlock ∧ some k_ ≠ (s_.1 : Value).ownBlock ∧ some k_ ≠ (s_.2.1 : Value).ownBlock) (.slice Ao80 t262.length co80) t262) ∧ (Kd.R k25 25 w' w.heap.size (fun k_ => some k_ ≠ (v241 : Value).ownBlock ∧ some k_ ≠ (.slice Ao51 t245.length co51 : Value).ownBlock ∧ some k_ ≠ (.slice Ao57 t250.length co57 : Value).ownBlock ∧ some k_ ≠ (.slice Ao68 t256.length co68 : Value).ownBlock ∧ some k_ ≠ (.slice Ao80 t262.length co80 : Value).ownBlock ∧ some k_ ≠ (s_.2.1 : Value).ownBlock) s_.1 t272) ∧ (Kd.R k25 25 w' w.heap.size (fun k_ => some k_ ≠ (v241 : Value).ownBlock ∧ some k_ ≠ (.slice Ao51 t245.length co51 : Value).ownBlock ∧ some k_ ≠ (.slice Ao57 t250.length co57 : Value).ownBlock ∧ some k_ ≠ (.slice Ao68 t256.length co68 : Value).ownBlock ∧ some k_ ≠ (.slice Ao80 t262.length co80 : Value).ownBlock ∧ some k_ ≠ (s_.1 : Value).ownBlock) s_.2.1 t277) ∧ (w'.heap[gb237]? = some (.cells #[.slice A0_0 l0_0.length c0_0] 32 (0, 0))) ∧ (w'.heap[gb238]? = some (.cells #[.int .i64 a1_0, .int .i64 a1_1] 23 (0, 0))) ∧ (w'.heap[gb249]? = some (.cells #[.slice Ao51 t245.length co51] 37 (0, 0))) ∧ (w'.heap[gb253]? = some (.cells #[.slice Ao57 t250.length co57] 37 (0, 0))) ∧ (w'.heap[gb260]? = some (.cells #[.slice Ao68 t256.length co68] 37 (0, 0))) ∧ (w'.heap[s_.2.2]? = some (.cells #[.slice none 0 0] 37 (0, 0))) ∧ (w.heap.size ≤ s_.2.2) ∧ (w.heap.size ≤ s_.2.2) ∧ (gb237 ≠ s_.2.2) ∧ (s_.2.2 ≠ gb237) ∧ (gb238 ≠ s_.2.2) ∧ (s_.2.2 ≠ gb238) ∧ (gb249 ≠ s_.2.2) ∧ (s_.2.2 ≠ gb249) ∧ (gb253 ≠ s_.2.2) ∧ (s_.2.2 ≠ gb253) ∧ (gb260 ≠ s_.2.2) ∧ (s_.2.2 ≠ gb260) ∧ (Below w.heap.size w w')) ?_ ?_
             rotate_left
             ·intro hCont
              refine two_ (i := 1) (j := 8) (Ni := some 81) (Nj := some 14) #[true, true, true, false, false, false, false, false, false, false, false] #[true, false, true, false, false, false, false, false, true, false, false] rfl rfl rfl rfl (two_of HT_.out (by kernel_rfl)) (by decide) (by decide) (fun K hK => ?_) (fun K hK => ?_)
              ·skip
               refine goes_ Try.func17 (by kernel_rfl) rfl #[.agg #[.slice A0_0 l0_0.length c0_0]] (by rfl) rfl rfl (by (try simp only [List.map_toArray, List.map_cons, List.map_nil]); first | done | rfl | (simp only [List.length_drop, List.length_take]; rfl)) ?_
               with_reducible refine (laws_toHeap.calls k _ _ l0_0 t272 _ ?side1 ?side2 A30.out).mono ?_
               (case side1 => repeat (first | exact (Kd.C_below HR0_0.out HB.out) | (with_reducible refine Kd.C_alloc ?_ _) | (with_reducible refine Kd.C_drewN ?_ _) | (with_reducible refine Kd.C_drew ?_)))
               (case side2 => exact HC0_0.out)
               rintro e w92 ⟨v273, rfl, ho0, hb⟩
               refine ⟨_, rfl, ?_⟩
               have n0_ := Aside0.mk (Kd.R_elder' HO242.out (Kd.R_base ho0) hb)
               have n1_ := Aside0.mk (Kd.R_elder' HO247.out (Kd.R_base ho0) hb)
               have n2_ := Aside0.mk (Kd.R_elder' HO252.out (Kd.R_base ho0) hb)
               have n3_ := Aside0.mk (Kd.R_elder' HO258.out (Kd.R_base ho0) hb)
               have n4_ := Aside0.mk (Kd.R_elder' HO264.out (Kd.R_base ho0) hb)
               have n5_ := Aside0.mk (Kd.R_lower (Kd.R_new' (Kd.R_new' (Kd.R_new' (Kd.R_new' (Kd.R_new' ho0 (Kd.R_lt HO242.out)) (Kd.R_lt HO247.out)) (Kd.R_lt HO252.out)) (Kd.R_lt HO258.out)) (Kd.R_lt HO264.out)) (below_size HB.out))
               have n6_ := Aside0.mk (blk_below BK237.out hb)
               have n7_ := Aside0.mk (blk_below BK238.out hb)
               have n8_ := Aside0.mk (blk_below BK249.out hb)
               have n9_ := Aside0.mk (blk_below BK253.out hb)
               have n10_ := Aside0.mk (blk_below BK260.out hb)
               have n11_ := Aside0.mk (below_step HB.out hb)
               clear HO242 HO247 HO252 HO258 HO264 BK237 BK238 BK249 BK253 BK260 HB
               have HO242 := n0_
               have HO247 := n1_
               have HO252 := n2_
               have HO258 := n3_
               have HO264 := n4_
               have HO274 := n5_
               have BK237 := n6_
               have BK238 := n7_
               have BK249 := n8_
               have BK253 := n9_
               have BK260 := n10_
               have HB := n11_
               clear n0_ n1_ n2_ n3_ n4_ n5_ n6_ n7_ n8_ n9_ n10_ n11_
               (try clear hb)
               (try clear hb2)
               (try clear hk)
               (try clear hi)
               (try clear ho0)
               refine hK.out _ _ ⟨(blk_cell BK237.out 0).trans rfl, (blk_cell BK238.out 0).trans rfl, (blk_cell BK238.out 1).trans rfl⟩ (fun hHeld => ?_)
               clear hK K
               refine norm_ (a' := ?_) ?_ ?_
               rotate_left
               ·show Act.put _ (some 81) _ = _
                simp only [Act.put, List.setIfInBounds_toArray, List.set_cons_zero, List.set_cons_succ, i64_w, i32_w]
                rfl
               refine two_ (i := 3) (j := 8) (Ni := some 83) (Nj := some 14) #[true, true, true, true, false, false, false, false, false, false, false] #[true, true, true, false, false, false, false, false, true, false, false] rfl rfl rfl rfl (two_of HT_.out (by kernel_rfl)) (by decide) (by decide) (fun K hK => ?_) (fun K hK => ?_)
               ·skip
                refine goes_ Try.func11 (by kernel_rfl) rfl #[.agg #[.int .i64 a1_0, .int .i64 a1_1]] (by rfl) rfl rfl (by (try simp only [List.map_toArray, List.map_cons, List.map_nil]); first | done | rfl | (simp only [List.length_drop, List.length_take]; rfl)) ?_
                with_reducible refine (laws_toItem.calls a1_0 a1_1 t275 t276 _ A31.out).mono ?_
                rintro e w93 ⟨rfl, hb⟩
                refine ⟨_, rfl, ?_⟩
                have n0_ := Aside0.mk (Kd.R_below HO242.out hb)
                have n1_ := Aside0.mk (Kd.R_below HO247.out hb)
                have n2_ := Aside0.mk (Kd.R_below HO252.out hb)
                have n3_ := Aside0.mk (Kd.R_below HO258.out hb)
                have n4_ := Aside0.mk (Kd.R_below HO264.out hb)
                have n5_ := Aside0.mk (Kd.R_below HO274.out hb)
                have n6_ := Aside0.mk (blk_below BK237.out hb)
                have n7_ := Aside0.mk (blk_below BK238.out hb)
                have n8_ := Aside0.mk (blk_below BK249.out hb)
                have n9_ := Aside0.mk (blk_below BK253.out hb)
                have n10_ := Aside0.mk (blk_below BK260.out hb)
                have n11_ := Aside0.mk (below_step HB.out hb)
                clear HO242 HO247 HO252 HO258 HO264 HO274 BK237 BK238 BK249 BK253 BK260 HB
                have HO242 := n0_
                have HO247 := n1_
                have HO252 := n2_
                have HO258 := n3_
                have HO264 := n4_
                have HO274 := n5_
                have BK237 := n6_
                have BK238 := n7_
                have BK249 := n8_
                have BK253 := n9_
                have BK260 := n10_
                have HB := n11_
                clear n0_ n1_ n2_ n3_ n4_ n5_ n6_ n7_ n8_ n9_ n10_ n11_
                (try clear hb)
                (try clear hb2)
                (try clear hk)
                (try clear hi)
                obtain ⟨Ao94, co94, eo94⟩ := Kd.R_slice HO274.out
                (first | subst eo94 | (injection eo94 with f1_ f2_ f3_; have f4_ := f1_.symm; have f5_ := f3_.symm; clear f1_ f2_ f3_; subst f4_; subst f5_))
                refine hK.out _ _ ⟨(blk_cell BK237.out 0).trans rfl, (blk_cell BK238.out 0).trans rfl, (blk_cell BK238.out 1).trans rfl⟩ (fun hHeld => ?_)
                clear hK K
                refine norm_ (a' := ?_) ?_ ?_
                rotate_left
                ·show Act.put _ (some 83) _ = _
                 simp only [Act.put, List.setIfInBounds_toArray, List.set_cons_zero, List.set_cons_succ, i64_w, i32_w]
                 rfl
                refine two_ (i := 4) (j := 8) (Ni := some 84) (Nj := some 14) #[true, true, true, true, true, false, false, false, false, false, false] #[true, true, true, true, false, false, false, false, true, false, false] rfl rfl rfl rfl (two_of HT_.out (by kernel_rfl)) (by decide) (by decide) (fun K hK => ?_) (fun K hK => ?_)
                ·skip
                 refine goes_ Try.func23 (by kernel_rfl) rfl #[.agg #[.slice Ao94 t272.length co94], .agg #[.int .i64 t275, .int .i64 t276]] (by rfl) rfl rfl (by (try simp only [List.map_toArray, List.map_cons, List.map_nil]); first | done | rfl | (simp only [List.length_drop, List.length_take]; rfl)) ?_
                 with_reducible refine (impl_HeapPush.calls k _ _ t272 t275 t276 t277 t280 _ ?side1 ?side2 A32.out).mono ?_
                 (case side1 => repeat (first | exact (Kd.R_reads' HO274.out).2.2 | (with_reducible refine Kd.C_alloc ?_ _) | (with_reducible refine Kd.C_drewN ?_ _) | (with_reducible refine Kd.C_drew ?_)))
                 (case side2 => exact (Kd.R_reads' HO274.out).2.1)
                 rintro e w95 ⟨v278, rfl, ho0, hb⟩
                 refine ⟨_, rfl, ?_⟩
                 have n0_ := Aside0.mk (Kd.R_elder' HO242.out (Kd.R_base ho0) hb)
                 have n1_ := Aside0.mk (Kd.R_elder' HO247.out (Kd.R_base ho0) hb)
                 have n2_ := Aside0.mk (Kd.R_elder' HO252.out (Kd.R_base ho0) hb)
                 have n3_ := Aside0.mk (Kd.R_elder' HO258.out (Kd.R_base ho0) hb)
                 have n4_ := Aside0.mk (Kd.R_elder' HO264.out (Kd.R_base ho0) hb)
                 have n5_ := Aside0.mk (Kd.R_elder' HO274.out (Kd.R_base ho0) hb)
                 have n6_ := Aside0.mk (Kd.R_lower (Kd.R_new' (Kd.R_new' (Kd.R_new' (Kd.R_new' (Kd.R_new' (Kd.R_new' ho0 (Kd.R_lt HO242.out)) (Kd.R_lt HO247.out)) (Kd.R_lt HO252.out)) (Kd.R_lt HO258.out)) (Kd.R_lt HO264.out)) (Kd.R_lt HO274.out)) (below_size HB.out))
                 have n7_ := Aside0.mk (blk_below BK237.out hb)
                 have n8_ := Aside0.mk (blk_below BK238.out hb)
                 have n9_ := Aside0.mk (blk_below BK249.out hb)
                 have n10_ := Aside0.mk (blk_below BK253.out hb)
                 have n11_ := Aside0.mk (blk_below BK260.out hb)
                 have n12_ := Aside0.mk (below_step HB.out hb)
                 clear HO242 HO247 HO252 HO258 HO264 HO274 BK237 BK238 BK249 BK253 BK260 HB
                 have HO242 := n0_
                 have HO247 := n1_
                 have HO252 := n2_
                 have HO258 := n3_
                 have HO264 := n4_
                 have HO274 := n5_
                 have HO279 := n6_
                 have BK237 := n7_
                 have BK238 := n8_
                 have BK249 := n9_
                 have BK253 := n10_
                 have BK260 := n11_
                 have HB := n12_
                 clear n0_ n1_ n2_ n3_ n4_ n5_ n6_ n7_ n8_ n9_ n10_ n11_ n12_
                 (try clear hb)
                 (try clear hb2)
                 (try clear hk)
                 (try clear hi)
                 (try clear ho0)
                 refine hK.out _ _ ⟨(blk_cell BK237.out 0).trans rfl, (blk_cell BK238.out 0).trans rfl, (blk_cell BK238.out 1).trans rfl⟩ (fun hHeld => ?_)
                 clear hK K
                 refine norm_ (a' := ?_) ?_ ?_
                 rotate_left
                 ·show Act.put _ (some 84) _ = _
                  simp only [Act.put, List.setIfInBounds_toArray, List.set_cons_zero, List.set_cons_succ, i64_w, i32_w]
                  rfl
                 refine pure_ (i := 5) (N := some 79) (v := ?_) (a' := ?_) #[true, true, true, true, true, true, false, false, false, false, false] rfl rfl (any_of HT_.out (by kernel_rfl)) (fun _ _ _ h => h) (Or.inl ⟨by rfl, ?_⟩) ?_ ?_
                 rotate_left
                 ·intro w'
                  go_simp
                  with_reducible rfl
                 rotate_left
                 ·simp only [Act.put, List.setIfInBounds_toArray, List.set_cons_zero, List.set_cons_succ, i64_w, i32_w]
                  rfl
                 refine pure_ (i := 6) (N := some 85) (v := ?_) (a' := ?_) #[true, true, true, true, true, true, true, false, false, false, false] rfl rfl (any_of HT_.out (by kernel_rfl)) (fun _ _ _ h => h) (Or.inl ⟨by rfl, ?_⟩) ?_ ?_
                 rotate_left
                 ·intro w'
                  go_simp
                  with_reducible rfl
                 rotate_left
                 ·simp only [Act.put, List.setIfInBounds_toArray, List.set_cons_zero, List.set_cons_succ, i64_w, i32_w]
                  rfl
                 refine pure_ (i := 7) (N := some 86) (v := ?_) (a' := ?_) #[true, true, true, true, true, true, true, true, false, false, false] rfl rfl (any_of HT_.out (by kernel_rfl)) (fun _ _ _ h => h) (Or.inl ⟨by rfl, ?_⟩) ?_ ?_
                 rotate_left
                 ·intro w'
                  go_simp
                  with_reducible rfl
                 rotate_left
                 ·simp only [Act.put, List.setIfInBounds_toArray, List.set_cons_zero, List.set_cons_succ, i64_w, i32_w]
                  rfl
                 refine one_ (i := 8) (N := some 14) #[true, true, true, true, true, true, true, true, true, false, false] rfl rfl (one_of HT_.out (by kernel_rfl)) (by decide) (fun K hK => ?_)
                 refine box_step ?hg (N := 14) ?hd (cs := #[.slice none 0 0]) (t := 37) ?hr ?_; (case hd => rfl); (case hg => rfl); (case hr => first | (go_simp; done) | (go_simp; rfl))
                 intro gb281 hg w96 hbox hb
                 have n0_ := Aside0.mk (Kd.R_below HO242.out hb)
                 have n1_ := Aside0.mk (Kd.R_below HO247.out hb)
                 have n2_ := Aside0.mk (Kd.R_below HO252.out hb)
                 have n3_ := Aside0.mk (Kd.R_below HO258.out hb)
                 have n4_ := Aside0.mk (Kd.R_below HO264.out hb)
                 have n5_ := Aside0.mk (Kd.R_below HO274.out hb)
                 have n6_ := Aside0.mk (Kd.R_below HO279.out hb)
                 have n7_ := Aside0.mk (blk_below BK237.out hb)
                 have n8_ := Aside0.mk (blk_below BK238.out hb)
                 have n9_ := Aside0.mk (blk_below BK249.out hb)
                 have n10_ := Aside0.mk (blk_below BK253.out hb)
                 have n11_ := Aside0.mk (blk_below BK260.out hb)
                 have n12_ := Aside0.mk (below_step HB.out hb)
                 have n13_ := Aside0.mk (hbox)
                 have n14_ := Aside0.mk ((by rw [hg]; exact (below_size HB.out) : w.heap.size ≤ gb281))
                 have n15_ := Aside0.mk ((by rw [hg]; exact (below_size HB.out) : w.heap.size ≤ gb281))
                 have n16_ := Aside0.mk ((by rw [hg]; exact Nat.ne_of_lt (blk_lt BK237.out) : gb237 ≠ gb281))
                 have n17_ := Aside0.mk ((by rw [hg]; exact Nat.ne_of_gt (blk_lt BK237.out) : gb281 ≠ gb237))
                 have n18_ := Aside0.mk ((by rw [hg]; exact Nat.ne_of_lt (blk_lt BK238.out) : gb238 ≠ gb281))
                 have n19_ := Aside0.mk ((by rw [hg]; exact Nat.ne_of_gt (blk_lt BK238.out) : gb281 ≠ gb238))
                 have n20_ := Aside0.mk ((by rw [hg]; exact Nat.ne_of_lt (blk_lt BK249.out) : gb249 ≠ gb281))
                 have n21_ := Aside0.mk ((by rw [hg]; exact Nat.ne_of_gt (blk_lt BK249.out) : gb281 ≠ gb249))
                 have n22_ := Aside0.mk ((by rw [hg]; exact Nat.ne_of_lt (blk_lt BK253.out) : gb253 ≠ gb281))
                 have n23_ := Aside0.mk ((by rw [hg]; exact Nat.ne_of_gt (blk_lt BK253.out) : gb281 ≠ gb253))
                 have n24_ := Aside0.mk ((by rw [hg]; exact Nat.ne_of_lt (blk_lt BK260.out) : gb260 ≠ gb281))
                 have n25_ := Aside0.mk ((by rw [hg]; exact Nat.ne_of_gt (blk_lt BK260.out) : gb281 ≠ gb260))
                 clear HO242 HO247 HO252 HO258 HO264 HO274 HO279 BK237 BK238 BK249 BK253 BK260 HB
                 have HO242 := n0_
                 have HO247 := n1_
                 have HO252 := n2_
                 have HO258 := n3_
                 have HO264 := n4_
                 have HO274 := n5_
                 have HO279 := n6_
                 have BK237 := n7_
                 have BK238 := n8_
                 have BK249 := n9_
                 have BK253 := n10_
                 have BK260 := n11_
                 have HB := n12_
                 have BK281 := n13_
                 have GW281 := n14_
                 have GE281 := n15_
                 have NB237_281 := n16_
                 have NB281_237 := n17_
                 have NB238_281 := n18_
                 have NB281_238 := n19_
                 have NB249_281 := n20_
                 have NB281_249 := n21_
                 have NB253_281 := n22_
                 have NB281_253 := n23_
                 have NB260_281 := n24_
                 have NB281_260 := n25_
                 clear n0_ n1_ n2_ n3_ n4_ n5_ n6_ n7_ n8_ n9_ n10_ n11_ n12_ n13_ n14_ n15_ n16_ n17_ n18_ n19_ n20_ n21_ n22_ n23_ n24_ n25_
                 clear hb hbox hg
                 refine hK.out _ _ ⟨(blk_cell BK237.out 0).trans rfl, (blk_cell BK238.out 0).trans rfl, (blk_cell BK238.out 1).trans rfl⟩ (fun hHeld => ?_)
                 clear hK K
                 refine norm_ (a' := ?_) ?_ ?_
                 rotate_left
                 ·show Act.put _ (some 14) _ = _
                  simp only [Act.put, List.setIfInBounds_toArray, List.set_cons_zero, List.set_cons_succ, i64_w, i32_w]
                  rfl
                 exact norm_ (by simp only [putAll, Act.put, List.setIfInBounds_toArray, List.set_cons_zero, List.set_cons_succ]) (hCont (.slice Ao94 t272.length co94, v278, gb281) _ ⟨hHeld, (by (with_reducible repeat (first | apply Kd.R_alloc | apply Kd.R_drewN | apply Kd.R_drew)); exact Kd.R_mono HO242.out (fun _ hk => ⟨hk.1.1.1, ⟨hk.1.1.2.1, ⟨hk.1.1.2.2.1, ⟨hk.1.1.2.2.2, ⟨hk.1.2, hk.2⟩⟩⟩⟩⟩)), (by (with_reducible repeat (first | apply Kd.R_alloc | apply Kd.R_drewN | apply Kd.R_drew)); exact Kd.R_mono HO247.out (fun _ hk => ⟨hk.1.1.1, ⟨hk.1.1.2.1, ⟨hk.1.1.2.2.1, ⟨hk.1.1.2.2.2, ⟨hk.1.2, hk.2⟩⟩⟩⟩⟩)), (by (with_reducible repeat (first | apply Kd.R_alloc | apply Kd.R_drewN | apply Kd.R_drew)); exact Kd.R_mono HO252.out (fun _ hk => ⟨hk.1.1.1, ⟨hk.1.1.2.1, ⟨hk.1.1.2.2.1, ⟨hk.1.1.2.2.2, ⟨hk.1.2, hk.2⟩⟩⟩⟩⟩)), (by (with_reducible repeat (first | apply Kd.R_alloc | apply Kd.R_drewN | apply Kd.R_drew)); exact Kd.R_mono HO258.out (fun _ hk => ⟨hk.1.1.1, ⟨hk.1.1.2.1, ⟨hk.1.1.2.2.1, ⟨hk.1.1.2.2.2, ⟨hk.1.2, hk.2⟩⟩⟩⟩⟩)), (by (with_reducible repeat (first | apply Kd.R_alloc | apply Kd.R_drewN | apply Kd.R_drew)); exact Kd.R_mono HO264.out (fun _ hk => ⟨hk.1.1.1, ⟨hk.1.1.2.1, ⟨hk.1.1.2.2.1, ⟨hk.1.1.2.2.2, ⟨hk.1.2, hk.2⟩⟩⟩⟩⟩)), (by (with_reducible repeat (first | apply Kd.R_alloc | apply Kd.R_drewN | apply Kd.R_drew)); exact Kd.R_mono HO274.out (fun _ hk => ⟨hk.1.1.1.1.1.2, ⟨hk.1.1.1.1.2, ⟨hk.1.1.1.2, ⟨hk.1.1.2, ⟨hk.1.2, hk.2⟩⟩⟩⟩⟩)), (by (with_reducible repeat (first | apply Kd.R_alloc | apply Kd.R_drewN | apply Kd.R_drew)); exact Kd.R_mono HO279.out (fun _ hk => ⟨hk.1.1.1.1.1.2, ⟨hk.1.1.1.1.2, ⟨hk.1.1.1.2, ⟨hk.1.1.2, ⟨hk.1.2, hk.2⟩⟩⟩⟩⟩)), BK237.out, BK238.out, BK249.out, BK253.out, BK260.out, BK281.out, GW281.out, GE281.out, NB237_281.out, NB281_237.out, NB238_281.out, NB281_238.out, NB249_281.out, NB281_249.out, NB253_281.out, NB281_253.out, NB260_281.out, NB281_260.out, HB.out⟩)
                ·skip
                 refine box_step ?hg (N := 14) ?hd (cs := #[.slice none 0 0]) (t := 37) ?hr ?_; (case hd => rfl); (case hg => rfl); (case hr => first | (go_simp; done) | (go_simp; rfl))
                 intro gb281 hg w94 hbox hb
                 have n0_ := Aside0.mk (Kd.R_below HO242.out hb)
                 have n1_ := Aside0.mk (Kd.R_below HO247.out hb)
                 have n2_ := Aside0.mk (Kd.R_below HO252.out hb)
                 have n3_ := Aside0.mk (Kd.R_below HO258.out hb)
                 have n4_ := Aside0.mk (Kd.R_below HO264.out hb)
                 have n5_ := Aside0.mk (Kd.R_below HO274.out hb)
                 have n6_ := Aside0.mk (blk_below BK237.out hb)
                 have n7_ := Aside0.mk (blk_below BK238.out hb)
                 have n8_ := Aside0.mk (blk_below BK249.out hb)
                 have n9_ := Aside0.mk (blk_below BK253.out hb)
                 have n10_ := Aside0.mk (blk_below BK260.out hb)
                 have n11_ := Aside0.mk (below_step HB.out hb)
                 have n12_ := Aside0.mk (hbox)
                 have n13_ := Aside0.mk ((by rw [hg]; exact (below_size HB.out) : w.heap.size ≤ gb281))
                 have n14_ := Aside0.mk ((by rw [hg]; exact (below_size HB.out) : w.heap.size ≤ gb281))
                 have n15_ := Aside0.mk ((by rw [hg]; exact Nat.ne_of_lt (blk_lt BK237.out) : gb237 ≠ gb281))
                 have n16_ := Aside0.mk ((by rw [hg]; exact Nat.ne_of_gt (blk_lt BK237.out) : gb281 ≠ gb237))
                 have n17_ := Aside0.mk ((by rw [hg]; exact Nat.ne_of_lt (blk_lt BK238.out) : gb238 ≠ gb281))
                 have n18_ := Aside0.mk ((by rw [hg]; exact Nat.ne_of_gt (blk_lt BK238.out) : gb281 ≠ gb238))
                 have n19_ := Aside0.mk ((by rw [hg]; exact Nat.ne_of_lt (blk_lt BK249.out) : gb249 ≠ gb281))
                 have n20_ := Aside0.mk ((by rw [hg]; exact Nat.ne_of_gt (blk_lt BK249.out) : gb281 ≠ gb249))
                 have n21_ := Aside0.mk ((by rw [hg]; exact Nat.ne_of_lt (blk_lt BK253.out) : gb253 ≠ gb281))
                 have n22_ := Aside0.mk ((by rw [hg]; exact Nat.ne_of_gt (blk_lt BK253.out) : gb281 ≠ gb253))
                 have n23_ := Aside0.mk ((by rw [hg]; exact Nat.ne_of_lt (blk_lt BK260.out) : gb260 ≠ gb281))
                 have n24_ := Aside0.mk ((by rw [hg]; exact Nat.ne_of_gt (blk_lt BK260.out) : gb281 ≠ gb260))
                 clear HO242 HO247 HO252 HO258 HO264 HO274 BK237 BK238 BK249 BK253 BK260 HB
                 have HO242 := n0_
                 have HO247 := n1_
                 have HO252 := n2_
                 have HO258 := n3_
                 have HO264 := n4_
                 have HO274 := n5_
                 have BK237 := n6_
                 have BK238 := n7_
                 have BK249 := n8_
                 have BK253 := n9_
                 have BK260 := n10_
                 have HB := n11_
                 have BK281 := n12_
                 have GW281 := n13_
                 have GE281 := n14_
                 have NB237_281 := n15_
                 have NB281_237 := n16_
                 have NB238_281 := n17_
                 have NB281_238 := n18_
                 have NB249_281 := n19_
                 have NB281_249 := n20_
                 have NB253_281 := n21_
                 have NB281_253 := n22_
                 have NB260_281 := n23_
                 have NB281_260 := n24_
                 clear n0_ n1_ n2_ n3_ n4_ n5_ n6_ n7_ n8_ n9_ n10_ n11_ n12_ n13_ n14_ n15_ n16_ n17_ n18_ n19_ n20_ n21_ n22_ n23_ n24_
                 clear hb hbox hg
                 obtain ⟨Ao95, co95, eo95⟩ := Kd.R_slice HO274.out
                 (first | subst eo95 | (injection eo95 with f1_ f2_ f3_; have f4_ := f1_.symm; have f5_ := f3_.symm; clear f1_ f2_ f3_; subst f4_; subst f5_))
                 refine hK.out _ _ ⟨(blk_cell BK237.out 0).trans rfl, (blk_cell BK238.out 0).trans rfl, (blk_cell BK238.out 1).trans rfl⟩ (fun hHeld => ?_)
                 clear hK K
                 refine norm_ (a' := ?_) ?_ ?_
                 rotate_left
                 ·show Act.put _ (some 14) _ = _
                  simp only [Act.put, List.setIfInBounds_toArray, List.set_cons_zero, List.set_cons_succ, i64_w, i32_w]
                  rfl
                 refine one_ (i := 4) (N := some 84) #[true, true, true, true, true, false, false, false, true, false, false] rfl rfl (one_of HT_.out (by kernel_rfl)) (by decide) (fun K hK => ?_)
                 refine goes_ Try.func23 (by kernel_rfl) rfl #[.agg #[.slice Ao95 t272.length co95], .agg #[.int .i64 t275, .int .i64 t276]] (by rfl) rfl rfl (by (try simp only [List.map_toArray, List.map_cons, List.map_nil]); first | done | rfl | (simp only [List.length_drop, List.length_take]; rfl)) ?_
                 with_reducible refine (impl_HeapPush.calls k _ _ t272 t275 t276 t277 t280 _ ?side1 ?side2 A32.out).mono ?_
                 (case side1 => repeat (first | exact (Kd.R_reads' HO274.out).2.2 | (with_reducible refine Kd.C_alloc ?_ _) | (with_reducible refine Kd.C_drewN ?_ _) | (with_reducible refine Kd.C_drew ?_)))
                 (case side2 => exact (Kd.R_reads' HO274.out).2.1)
                 rintro e w96 ⟨v278, rfl, ho0, hb⟩
                 refine ⟨_, rfl, ?_⟩
                 have n0_ := Aside0.mk (Kd.R_elder' HO242.out (Kd.R_base ho0) hb)
                 have n1_ := Aside0.mk (Kd.R_elder' HO247.out (Kd.R_base ho0) hb)
                 have n2_ := Aside0.mk (Kd.R_elder' HO252.out (Kd.R_base ho0) hb)
                 have n3_ := Aside0.mk (Kd.R_elder' HO258.out (Kd.R_base ho0) hb)
                 have n4_ := Aside0.mk (Kd.R_elder' HO264.out (Kd.R_base ho0) hb)
                 have n5_ := Aside0.mk (Kd.R_elder' HO274.out (Kd.R_base ho0) hb)
                 have n6_ := Aside0.mk (Kd.R_lower (Kd.R_new' (Kd.R_new' (Kd.R_new' (Kd.R_new' (Kd.R_new' (Kd.R_new' ho0 (Kd.R_lt HO242.out)) (Kd.R_lt HO247.out)) (Kd.R_lt HO252.out)) (Kd.R_lt HO258.out)) (Kd.R_lt HO264.out)) (Kd.R_lt HO274.out)) (below_size HB.out))
                 have n7_ := Aside0.mk (blk_below BK237.out hb)
                 have n8_ := Aside0.mk (blk_below BK238.out hb)
                 have n9_ := Aside0.mk (blk_below BK249.out hb)
                 have n10_ := Aside0.mk (blk_below BK253.out hb)
                 have n11_ := Aside0.mk (blk_below BK260.out hb)
                 have n12_ := Aside0.mk (blk_below BK281.out hb)
                 have n13_ := Aside0.mk (below_step HB.out hb)
                 clear HO242 HO247 HO252 HO258 HO264 HO274 BK237 BK238 BK249 BK253 BK260 BK281 HB
                 have HO242 := n0_
                 have HO247 := n1_
                 have HO252 := n2_
                 have HO258 := n3_
                 have HO264 := n4_
                 have HO274 := n5_
                 have HO279 := n6_
                 have BK237 := n7_
                 have BK238 := n8_
                 have BK249 := n9_
                 have BK253 := n10_
                 have BK260 := n11_
                 have BK281 := n12_
                 have HB := n13_
                 clear n0_ n1_ n2_ n3_ n4_ n5_ n6_ n7_ n8_ n9_ n10_ n11_ n12_ n13_
                 (try clear hb)
                 (try clear hb2)
                 (try clear hk)
                 (try clear hi)
                 (try clear ho0)
                 refine hK.out _ _ ⟨(blk_cell BK237.out 0).trans rfl, (blk_cell BK238.out 0).trans rfl, (blk_cell BK238.out 1).trans rfl⟩ (fun hHeld => ?_)
                 clear hK K
                 refine norm_ (a' := ?_) ?_ ?_
                 rotate_left
                 ·show Act.put _ (some 84) _ = _
                  simp only [Act.put, List.setIfInBounds_toArray, List.set_cons_zero, List.set_cons_succ, i64_w, i32_w]
                  rfl
                 refine pure_ (i := 5) (N := some 79) (v := ?_) (a' := ?_) #[true, true, true, true, true, true, false, false, true, false, false] rfl rfl (any_of HT_.out (by kernel_rfl)) (fun _ _ _ h => h) (Or.inl ⟨by rfl, ?_⟩) ?_ ?_
                 rotate_left
                 ·intro w'
                  go_simp
                  with_reducible rfl
                 rotate_left
                 ·simp only [Act.put, List.setIfInBounds_toArray, List.set_cons_zero, List.set_cons_succ, i64_w, i32_w]
                  rfl
                 refine pure_ (i := 6) (N := some 85) (v := ?_) (a' := ?_) #[true, true, true, true, true, true, true, false, true, false, false] rfl rfl (any_of HT_.out (by kernel_rfl)) (fun _ _ _ h => h) (Or.inl ⟨by rfl, ?_⟩) ?_ ?_
                 rotate_left
                 ·intro w'
                  go_simp
                  with_reducible rfl
                 rotate_left
                 ·simp only [Act.put, List.setIfInBounds_toArray, List.set_cons_zero, List.set_cons_succ, i64_w, i32_w]
                  rfl
                 refine pure_ (i := 7) (N := some 86) (v := ?_) (a' := ?_) #[true, true, true, true, true, true, true, true, true, false, false] rfl rfl (any_of HT_.out (by kernel_rfl)) (fun _ _ _ h => h) (Or.inl ⟨by rfl, ?_⟩) ?_ ?_
                 rotate_left
                 ·intro w'
                  go_simp
                  with_reducible rfl
                 rotate_left
                 ·simp only [Act.put, List.setIfInBounds_toArray, List.set_cons_zero, List.set_cons_succ, i64_w, i32_w]
                  rfl
                 exact norm_ (by simp only [putAll, Act.put, List.setIfInBounds_toArray, List.set_cons_zero, List.set_cons_succ]) (hCont (.slice Ao95 t272.length co95, v278, gb281) _ ⟨hHeld, (by (with_reducible repeat (first | apply Kd.R_alloc | apply Kd.R_drewN | apply Kd.R_drew)); exact Kd.R_mono HO242.out (fun _ hk => ⟨hk.1.1.1, ⟨hk.1.1.2.1, ⟨hk.1.1.2.2.1, ⟨hk.1.1.2.2.2, ⟨hk.1.2, hk.2⟩⟩⟩⟩⟩)), (by (with_reducible repeat (first | apply Kd.R_alloc | apply Kd.R_drewN | apply Kd.R_drew)); exact Kd.R_mono HO247.out (fun _ hk => ⟨hk.1.1.1, ⟨hk.1.1.2.1, ⟨hk.1.1.2.2.1, ⟨hk.1.1.2.2.2, ⟨hk.1.2, hk.2⟩⟩⟩⟩⟩)), (by (with_reducible repeat (first | apply Kd.R_alloc | apply Kd.R_drewN | apply Kd.R_drew)); exact Kd.R_mono HO252.out (fun _ hk => ⟨hk.1.1.1, ⟨hk.1.1.2.1, ⟨hk.1.1.2.2.1, ⟨hk.1.1.2.2.2, ⟨hk.1.2, hk.2⟩⟩⟩⟩⟩)), (by (with_reducible repeat (first | apply Kd.R_alloc | apply Kd.R_drewN | apply Kd.R_drew)); exact Kd.R_mono HO258.out (fun _ hk => ⟨hk.1.1.1, ⟨hk.1.1.2.1, ⟨hk.1.1.2.2.1, ⟨hk.1.1.2.2.2, ⟨hk.1.2, hk.2⟩⟩⟩⟩⟩)), (by (with_reducible repeat (first | apply Kd.R_alloc | apply Kd.R_drewN | apply Kd.R_drew)); exact Kd.R_mono HO264.out (fun _ hk => ⟨hk.1.1.1, ⟨hk.1.1.2.1, ⟨hk.1.1.2.2.1, ⟨hk.1.1.2.2.2, ⟨hk.1.2, hk.2⟩⟩⟩⟩⟩)), (by (with_reducible repeat (first | apply Kd.R_alloc | apply Kd.R_drewN | apply Kd.R_drew)); exact Kd.R_mono HO274.out (fun _ hk => ⟨hk.1.1.1.1.1.2, ⟨hk.1.1.1.1.2, ⟨hk.1.1.1.2, ⟨hk.1.1.2, ⟨hk.1.2, hk.2⟩⟩⟩⟩⟩)), (by (with_reducible repeat (first | apply Kd.R_alloc | apply Kd.R_drewN | apply Kd.R_drew)); exact Kd.R_mono HO279.out (fun _ hk => ⟨hk.1.1.1.1.1.2, ⟨hk.1.1.1.1.2, ⟨hk.1.1.1.2, ⟨hk.1.1.2, ⟨hk.1.2, hk.2⟩⟩⟩⟩⟩)), BK237.out, BK238.out, BK249.out, BK253.out, BK260.out, BK281.out, GW281.out, GE281.out, NB237_281.out, NB281_237.out, NB238_281.out, NB281_238.out, NB249_281.out, NB281_249.out, NB253_281.out, NB281_253.out, NB260_281.out, NB281_260.out, HB.out⟩)
               ·skip
                refine box_step ?hg (N := 14) ?hd (cs := #[.slice none 0 0]) (t := 37) ?hr ?_; (case hd => rfl); (case hg => rfl); (case hr => first | (go_simp; done) | (go_simp; rfl))
                intro gb281 hg w93 hbox hb
                have n0_ := Aside0.mk (Kd.R_below HO242.out hb)
                have n1_ := Aside0.mk (Kd.R_below HO247.out hb)
                have n2_ := Aside0.mk (Kd.R_below HO252.out hb)
                have n3_ := Aside0.mk (Kd.R_below HO258.out hb)
                have n4_ := Aside0.mk (Kd.R_below HO264.out hb)
                have n5_ := Aside0.mk (Kd.R_below HO274.out hb)
                have n6_ := Aside0.mk (blk_below BK237.out hb)
                have n7_ := Aside0.mk (blk_below BK238.out hb)
                have n8_ := Aside0.mk (blk_below BK249.out hb)
                have n9_ := Aside0.mk (blk_below BK253.out hb)
                have n10_ := Aside0.mk (blk_below BK260.out hb)
                have n11_ := Aside0.mk (below_step HB.out hb)
                have n12_ := Aside0.mk (hbox)
                have n13_ := Aside0.mk ((by rw [hg]; exact (below_size HB.out) : w.heap.size ≤ gb281))
                have n14_ := Aside0.mk ((by rw [hg]; exact (below_size HB.out) : w.heap.size ≤ gb281))
                have n15_ := Aside0.mk ((by rw [hg]; exact Nat.ne_of_lt (blk_lt BK237.out) : gb237 ≠ gb281))
                have n16_ := Aside0.mk ((by rw [hg]; exact Nat.ne_of_gt (blk_lt BK237.out) : gb281 ≠ gb237))
                have n17_ := Aside0.mk ((by rw [hg]; exact Nat.ne_of_lt (blk_lt BK238.out) : gb238 ≠ gb281))
                have n18_ := Aside0.mk ((by rw [hg]; exact Nat.ne_of_gt (blk_lt BK238.out) : gb281 ≠ gb238))
                have n19_ := Aside0.mk ((by rw [hg]; exact Nat.ne_of_lt (blk_lt BK249.out) : gb249 ≠ gb281))
                have n20_ := Aside0.mk ((by rw [hg]; exact Nat.ne_of_gt (blk_lt BK249.out) : gb281 ≠ gb249))
                have n21_ := Aside0.mk ((by rw [hg]; exact Nat.ne_of_lt (blk_lt BK253.out) : gb253 ≠ gb281))
                have n22_ := Aside0.mk ((by rw [hg]; exact Nat.ne_of_gt (blk_lt BK253.out) : gb281 ≠ gb253))
                have n23_ := Aside0.mk ((by rw [hg]; exact Nat.ne_of_lt (blk_lt BK260.out) : gb260 ≠ gb281))
                have n24_ := Aside0.mk ((by rw [hg]; exact Nat.ne_of_gt (blk_lt BK260.out) : gb281 ≠ gb260))
                clear HO242 HO247 HO252 HO258 HO264 HO274 BK237 BK238 BK249 BK253 BK260 HB
                have HO242 := n0_
                have HO247 := n1_
                have HO252 := n2_
                have HO258 := n3_
                have HO264 := n4_
                have HO274 := n5_
                have BK237 := n6_
                have BK238 := n7_
                have BK249 := n8_
                have BK253 := n9_
                have BK260 := n10_
                have HB := n11_
                have BK281 := n12_
                have GW281 := n13_
                have GE281 := n14_
                have NB237_281 := n15_
                have NB281_237 := n16_
                have NB238_281 := n17_
                have NB281_238 := n18_
                have NB249_281 := n19_
                have NB281_249 := n20_
                have NB253_281 := n21_
                have NB281_253 := n22_
                have NB260_281 := n23_
                have NB281_260 := n24_
                clear n0_ n1_ n2_ n3_ n4_ n5_ n6_ n7_ n8_ n9_ n10_ n11_ n12_ n13_ n14_ n15_ n16_ n17_ n18_ n19_ n20_ n21_ n22_ n23_ n24_
                clear hb hbox hg
                refine hK.out _ _ ⟨(blk_cell BK237.out 0).trans rfl, (blk_cell BK238.out 0).trans rfl, (blk_cell BK238.out 1).trans rfl⟩ (fun hHeld => ?_)
                clear hK K
                refine norm_ (a' := ?_) ?_ ?_
                rotate_left
                ·show Act.put _ (some 14) _ = _
                 simp only [Act.put, List.setIfInBounds_toArray, List.set_cons_zero, List.set_cons_succ, i64_w, i32_w]
                 rfl
                refine one_ (i := 3) (N := some 83) #[true, true, true, true, false, false, false, false, true, false, false] rfl rfl (one_of HT_.out (by kernel_rfl)) (by decide) (fun K hK => ?_)
                refine goes_ Try.func11 (by kernel_rfl) rfl #[.agg #[.int .i64 a1_0, .int .i64 a1_1]] (by rfl) rfl rfl (by (try simp only [List.map_toArray, List.map_cons, List.map_nil]); first | done | rfl | (simp only [List.length_drop, List.length_take]; rfl)) ?_
                with_reducible refine (laws_toItem.calls a1_0 a1_1 t275 t276 _ A31.out).mono ?_
                rintro e w94 ⟨rfl, hb⟩
                refine ⟨_, rfl, ?_⟩
                have n0_ := Aside0.mk (Kd.R_below HO242.out hb)
                have n1_ := Aside0.mk (Kd.R_below HO247.out hb)
                have n2_ := Aside0.mk (Kd.R_below HO252.out hb)
                have n3_ := Aside0.mk (Kd.R_below HO258.out hb)
                have n4_ := Aside0.mk (Kd.R_below HO264.out hb)
                have n5_ := Aside0.mk (Kd.R_below HO274.out hb)
                have n6_ := Aside0.mk (blk_below BK237.out hb)
                have n7_ := Aside0.mk (blk_below BK238.out hb)
                have n8_ := Aside0.mk (blk_below BK249.out hb)
                have n9_ := Aside0.mk (blk_below BK253.out hb)
                have n10_ := Aside0.mk (blk_below BK260.out hb)
                have n11_ := Aside0.mk (blk_below BK281.out hb)
                have n12_ := Aside0.mk (below_step HB.out hb)
                clear HO242 HO247 HO252 HO258 HO264 HO274 BK237 BK238 BK249 BK253 BK260 BK281 HB
                have HO242 := n0_
                have HO247 := n1_
                have HO252 := n2_
                have HO258 := n3_
                have HO264 := n4_
                have HO274 := n5_
                have BK237 := n6_
                have BK238 := n7_
                have BK249 := n8_
                have BK253 := n9_
                have BK260 := n10_
                have BK281 := n11_
                have HB := n12_
                clear n0_ n1_ n2_ n3_ n4_ n5_ n6_ n7_ n8_ n9_ n10_ n11_ n12_
                (try clear hb)
                (try clear hb2)
                (try clear hk)
                (try clear hi)
                obtain ⟨Ao95, co95, eo95⟩ := Kd.R_slice HO274.out
                (first | subst eo95 | (injection eo95 with f1_ f2_ f3_; have f4_ := f1_.symm; have f5_ := f3_.symm; clear f1_ f2_ f3_; subst f4_; subst f5_))
                refine hK.out _ _ ⟨(blk_cell BK237.out 0).trans rfl, (blk_cell BK238.out 0).trans rfl, (blk_cell BK238.out 1).trans rfl⟩ (fun hHeld => ?_)
                clear hK K
                refine norm_ (a' := ?_) ?_ ?_
                rotate_left
                ·show Act.put _ (some 83) _ = _
                 simp only [Act.put, List.setIfInBounds_toArray, List.set_cons_zero, List.set_cons_succ, i64_w, i32_w]
                 rfl
                refine one_ (i := 4) (N := some 84) #[true, true, true, true, true, false, false, false, true, false, false] rfl rfl (one_of HT_.out (by kernel_rfl)) (by decide) (fun K hK => ?_)
                refine goes_ Try.func23 (by kernel_rfl) rfl #[.agg #[.slice Ao95 t272.length co95], .agg #[.int .i64 t275, .int .i64 t276]] (by rfl) rfl rfl (by (try simp only [List.map_toArray, List.map_cons, List.map_nil]); first | done | rfl | (simp only [List.length_drop, List.length_take]; rfl)) ?_
                with_reducible refine (impl_HeapPush.calls k _ _ t272 t275 t276 t277 t280 _ ?side1 ?side2 A32.out).mono ?_
                (case side1 => repeat (first | exact (Kd.R_reads' HO274.out).2.2 | (with_reducible refine Kd.C_alloc ?_ _) | (with_reducible refine Kd.C_drewN ?_ _) | (with_reducible refine Kd.C_drew ?_)))
                (case side2 => exact (Kd.R_reads' HO274.out).2.1)
                rintro e w96 ⟨v278, rfl, ho0, hb⟩
                refine ⟨_, rfl, ?_⟩
                have n0_ := Aside0.mk (Kd.R_elder' HO242.out (Kd.R_base ho0) hb)
                have n1_ := Aside0.mk (Kd.R_elder' HO247.out (Kd.R_base ho0) hb)
                have n2_ := Aside0.mk (Kd.R_elder' HO252.out (Kd.R_base ho0) hb)
                have n3_ := Aside0.mk (Kd.R_elder' HO258.out (Kd.R_base ho0) hb)
                have n4_ := Aside0.mk (Kd.R_elder' HO264.out (Kd.R_base ho0) hb)
                have n5_ := Aside0.mk (Kd.R_elder' HO274.out (Kd.R_base ho0) hb)
                have n6_ := Aside0.mk (Kd.R_lower (Kd.R_new' (Kd.R_new' (Kd.R_new' (Kd.R_new' (Kd.R_new' (Kd.R_new' ho0 (Kd.R_lt HO242.out)) (Kd.R_lt HO247.out)) (Kd.R_lt HO252.out)) (Kd.R_lt HO258.out)) (Kd.R_lt HO264.out)) (Kd.R_lt HO274.out)) (below_size HB.out))
                have n7_ := Aside0.mk (blk_below BK237.out hb)
                have n8_ := Aside0.mk (blk_below BK238.out hb)
                have n9_ := Aside0.mk (blk_below BK249.out hb)
                have n10_ := Aside0.mk (blk_below BK253.out hb)
                have n11_ := Aside0.mk (blk_below BK260.out hb)
                have n12_ := Aside0.mk (blk_below BK281.out hb)
                have n13_ := Aside0.mk (below_step HB.out hb)
                clear HO242 HO247 HO252 HO258 HO264 HO274 BK237 BK238 BK249 BK253 BK260 BK281 HB
                have HO242 := n0_
                have HO247 := n1_
                have HO252 := n2_
                have HO258 := n3_
                have HO264 := n4_
                have HO274 := n5_
                have HO279 := n6_
                have BK237 := n7_
                have BK238 := n8_
                have BK249 := n9_
                have BK253 := n10_
                have BK260 := n11_
                have BK281 := n12_
                have HB := n13_
                clear n0_ n1_ n2_ n3_ n4_ n5_ n6_ n7_ n8_ n9_ n10_ n11_ n12_ n13_
                (try clear hb)
                (try clear hb2)
                (try clear hk)
                (try clear hi)
                (try clear ho0)
                refine hK.out _ _ ⟨(blk_cell BK237.out 0).trans rfl, (blk_cell BK238.out 0).trans rfl, (blk_cell BK238.out 1).trans rfl⟩ (fun hHeld => ?_)
                clear hK K
                refine norm_ (a' := ?_) ?_ ?_
                rotate_left
                ·show Act.put _ (some 84) _ = _
                 simp only [Act.put, List.setIfInBounds_toArray, List.set_cons_zero, List.set_cons_succ, i64_w, i32_w]
                 rfl
                refine pure_ (i := 5) (N := some 79) (v := ?_) (a' := ?_) #[true, true, true, true, true, true, false, false, true, false, false] rfl rfl (any_of HT_.out (by kernel_rfl)) (fun _ _ _ h => h) (Or.inl ⟨by rfl, ?_⟩) ?_ ?_
                rotate_left
                ·intro w'
                 go_simp
                 with_reducible rfl
                rotate_left
                ·simp only [Act.put, List.setIfInBounds_toArray, List.set_cons_zero, List.set_cons_succ, i64_w, i32_w]
                 rfl
                refine pure_ (i := 6) (N := some 85) (v := ?_) (a' := ?_) #[true, true, true, true, true, true, true, false, true, false, false] rfl rfl (any_of HT_.out (by kernel_rfl)) (fun _ _ _ h => h) (Or.inl ⟨by rfl, ?_⟩) ?_ ?_
                rotate_left
                ·intro w'
                 go_simp
                 with_reducible rfl
                rotate_left
                ·simp only [Act.put, List.setIfInBounds_toArray, List.set_cons_zero, List.set_cons_succ, i64_w, i32_w]
                 rfl
                refine pure_ (i := 7) (N := some 86) (v := ?_) (a' := ?_) #[true, true, true, true, true, true, true, true, true, false, false] rfl rfl (any_of HT_.out (by kernel_rfl)) (fun _ _ _ h => h) (Or.inl ⟨by rfl, ?_⟩) ?_ ?_
                rotate_left
                ·intro w'
                 go_simp
                 with_reducible rfl
                rotate_left
                ·simp only [Act.put, List.setIfInBounds_toArray, List.set_cons_zero, List.set_cons_succ, i64_w, i32_w]
                 rfl
                exact norm_ (by simp only [putAll, Act.put, List.setIfInBounds_toArray, List.set_cons_zero, List.set_cons_succ]) (hCont (.slice Ao95 t272.length co95, v278, gb281) _ ⟨hHeld, (by (with_reducible repeat (first | apply Kd.R_alloc | apply Kd.R_drewN | apply Kd.R_drew)); exact Kd.R_mono HO242.out (fun _ hk => ⟨hk.1.1.1, ⟨hk.1.1.2.1, ⟨hk.1.1.2.2.1, ⟨hk.1.1.2.2.2, ⟨hk.1.2, hk.2⟩⟩⟩⟩⟩)), (by (with_reducible repeat (first | apply Kd.R_alloc | apply Kd.R_drewN | apply Kd.R_drew)); exact Kd.R_mono HO247.out (fun _ hk => ⟨hk.1.1.1, ⟨hk.1.1.2.1, ⟨hk.1.1.2.2.1, ⟨hk.1.1.2.2.2, ⟨hk.1.2, hk.2⟩⟩⟩⟩⟩)), (by (with_reducible repeat (first | apply Kd.R_alloc | apply Kd.R_drewN | apply Kd.R_drew)); exact Kd.R_mono HO252.out (fun _ hk => ⟨hk.1.1.1, ⟨hk.1.1.2.1, ⟨hk.1.1.2.2.1, ⟨hk.1.1.2.2.2, ⟨hk.1.2, hk.2⟩⟩⟩⟩⟩)), (by (with_reducible repeat (first | apply Kd.R_alloc | apply Kd.R_drewN | apply Kd.R_drew)); exact Kd.R_mono HO258.out (fun _ hk => ⟨hk.1.1.1, ⟨hk.1.1.2.1, ⟨hk.1.1.2.2.1, ⟨hk.1.1.2.2.2, ⟨hk.1.2, hk.2⟩⟩⟩⟩⟩)), (by (with_reducible repeat (first | apply Kd.R_alloc | apply Kd.R_drewN | apply Kd.R_drew)); exact Kd.R_mono HO264.out (fun _ hk => ⟨hk.1.1.1, ⟨hk.1.1.2.1, ⟨hk.1.1.2.2.1, ⟨hk.1.1.2.2.2, ⟨hk.1.2, hk.2⟩⟩⟩⟩⟩)), (by (with_reducible repeat (first | apply Kd.R_alloc | apply Kd.R_drewN | apply Kd.R_drew)); exact Kd.R_mono HO274.out (fun _ hk => ⟨hk.1.1.1.1.1.2, ⟨hk.1.1.1.1.2, ⟨hk.1.1.1.2, ⟨hk.1.1.2, ⟨hk.1.2, hk.2⟩⟩⟩⟩⟩)), (by (with_reducible repeat (first | apply Kd.R_alloc | apply Kd.R_drewN | apply Kd.R_drew)); exact Kd.R_mono HO279.out (fun _ hk => ⟨hk.1.1.1.1.1.2, ⟨hk.1.1.1.1.2, ⟨hk.1.1.1.2, ⟨hk.1.1.2, ⟨hk.1.2, hk.2⟩⟩⟩⟩⟩)), BK237.out, BK238.out, BK249.out, BK253.out, BK260.out, BK281.out, GW281.out, GE281.out, NB237_281.out, NB281_237.out, NB238_281.out, NB281_238.out, NB249_281.out, NB281_249.out, NB253_281.out, NB281_253.out, NB260_281.out, NB281_260.out, HB.out⟩)
              ·skip
               refine box_step ?hg (N := 14) ?hd (cs := #[.slice none 0 0]) (t := 37) ?hr ?_; (case hd => rfl); (case hg => rfl); (case hr => first | (go_simp; done) | (go_simp; rfl))
               intro gb281 hg w92 hbox hb
               have n0_ := Aside0.mk (Kd.R_below HO242.out hb)
               have n1_ := Aside0.mk (Kd.R_below HO247.out hb)
               have n2_ := Aside0.mk (Kd.R_below HO252.out hb)
               have n3_ := Aside0.mk (Kd.R_below HO258.out hb)
               have n4_ := Aside0.mk (Kd.R_below HO264.out hb)
               have n5_ := Aside0.mk (blk_below BK237.out hb)
               have n6_ := Aside0.mk (blk_below BK238.out hb)
               have n7_ := Aside0.mk (blk_below BK249.out hb)
               have n8_ := Aside0.mk (blk_below BK253.out hb)
               have n9_ := Aside0.mk (blk_below BK260.out hb)
               have n10_ := Aside0.mk (below_step HB.out hb)
               have n11_ := Aside0.mk (hbox)
               have n12_ := Aside0.mk ((by rw [hg]; exact (below_size HB.out) : w.heap.size ≤ gb281))
               have n13_ := Aside0.mk ((by rw [hg]; exact (below_size HB.out) : w.heap.size ≤ gb281))
               have n14_ := Aside0.mk ((by rw [hg]; exact Nat.ne_of_lt (blk_lt BK237.out) : gb237 ≠ gb281))
               have n15_ := Aside0.mk ((by rw [hg]; exact Nat.ne_of_gt (blk_lt BK237.out) : gb281 ≠ gb237))
               have n16_ := Aside0.mk ((by rw [hg]; exact Nat.ne_of_lt (blk_lt BK238.out) : gb238 ≠ gb281))
               have n17_ := Aside0.mk ((by rw [hg]; exact Nat.ne_of_gt (blk_lt BK238.out) : gb281 ≠ gb238))
               have n18_ := Aside0.mk ((by rw [hg]; exact Nat.ne_of_lt (blk_lt BK249.out) : gb249 ≠ gb281))
               have n19_ := Aside0.mk ((by rw [hg]; exact Nat.ne_of_gt (blk_lt BK249.out) : gb281 ≠ gb249))
               have n20_ := Aside0.mk ((by rw [hg]; exact Nat.ne_of_lt (blk_lt BK253.out) : gb253 ≠ gb281))
               have n21_ := Aside0.mk ((by rw [hg]; exact Nat.ne_of_gt (blk_lt BK253.out) : gb281 ≠ gb253))
               have n22_ := Aside0.mk ((by rw [hg]; exact Nat.ne_of_lt (blk_lt BK260.out) : gb260 ≠ gb281))
               have n23_ := Aside0.mk ((by rw [hg]; exact Nat.ne_of_gt (blk_lt BK260.out) : gb281 ≠ gb260))
               clear HO242 HO247 HO252 HO258 HO264 BK237 BK238 BK249 BK253 BK260 HB
               have HO242 := n0_
               have HO247 := n1_
               have HO252 := n2_
               have HO258 := n3_
               have HO264 := n4_
               have BK237 := n5_
               have BK238 := n6_
               have BK249 := n7_
               have BK253 := n8_
               have BK260 := n9_
               have HB := n10_
               have BK281 := n11_
               have GW281 := n12_
               have GE281 := n13_
               have NB237_281 := n14_
               have NB281_237 := n15_
               have NB238_281 := n16_
               have NB281_238 := n17_
               have NB249_281 := n18_
               have NB281_249 := n19_
               have NB253_281 := n20_
               have NB281_253 := n21_
               have NB260_281 := n22_
               have NB281_260 := n23_
               clear n0_ n1_ n2_ n3_ n4_ n5_ n6_ n7_ n8_ n9_ n10_ n11_ n12_ n13_ n14_ n15_ n16_ n17_ n18_ n19_ n20_ n21_ n22_ n23_
               clear hb hbox hg
               refine hK.out _ _ ⟨(blk_cell BK237.out 0).trans rfl, (blk_cell BK238.out 0).trans rfl, (blk_cell BK238.out 1).trans rfl⟩ (fun hHeld => ?_)
               clear hK K
               refine norm_ (a' := ?_) ?_ ?_
               rotate_left
               ·show Act.put _ (some 14) _ = _
                simp only [Act.put, List.setIfInBounds_toArray, List.set_cons_zero, List.set_cons_succ, i64_w, i32_w]
                rfl
               refine one_ (i := 1) (N := some 81) #[true, true, true, false, false, false, false, false, true, false, false] rfl rfl (one_of HT_.out (by kernel_rfl)) (by decide) (fun K hK => ?_)
               refine goes_ Try.func17 (by kernel_rfl) rfl #[.agg #[.slice A0_0 l0_0.length c0_0]] (by rfl) rfl rfl (by (try simp only [List.map_toArray, List.map_cons, List.map_nil]); first | done | rfl | (simp only [List.length_drop, List.length_take]; rfl)) ?_
               with_reducible refine (laws_toHeap.calls k _ _ l0_0 t272 _ ?side1 ?side2 A30.out).mono ?_
               (case side1 => repeat (first | exact (Kd.C_below HR0_0.out HB.out) | (with_reducible refine Kd.C_alloc ?_ _) | (with_reducible refine Kd.C_drewN ?_ _) | (with_reducible refine Kd.C_drew ?_)))
               (case side2 => exact HC0_0.out)
               rintro e w93 ⟨v273, rfl, ho0, hb⟩
               refine ⟨_, rfl, ?_⟩
               have n0_ := Aside0.mk (Kd.R_elder' HO242.out (Kd.R_base ho0) hb)
               have n1_ := Aside0.mk (Kd.R_elder' HO247.out (Kd.R_base ho0) hb)
               have n2_ := Aside0.mk (Kd.R_elder' HO252.out (Kd.R_base ho0) hb)
               have n3_ := Aside0.mk (Kd.R_elder' HO258.out (Kd.R_base ho0) hb)
               have n4_ := Aside0.mk (Kd.R_elder' HO264.out (Kd.R_base ho0) hb)
               have n5_ := Aside0.mk (Kd.R_lower (Kd.R_new' (Kd.R_new' (Kd.R_new' (Kd.R_new' (Kd.R_new' ho0 (Kd.R_lt HO242.out)) (Kd.R_lt HO247.out)) (Kd.R_lt HO252.out)) (Kd.R_lt HO258.out)) (Kd.R_lt HO264.out)) (below_size HB.out))
               have n6_ := Aside0.mk (blk_below BK237.out hb)
               have n7_ := Aside0.mk (blk_below BK238.out hb)
               have n8_ := Aside0.mk (blk_below BK249.out hb)
               have n9_ := Aside0.mk (blk_below BK253.out hb)
               have n10_ := Aside0.mk (blk_below BK260.out hb)
               have n11_ := Aside0.mk (blk_below BK281.out hb)
               have n12_ := Aside0.mk (below_step HB.out hb)
               clear HO242 HO247 HO252 HO258 HO264 BK237 BK238 BK249 BK253 BK260 BK281 HB
               have HO242 := n0_
               have HO247 := n1_
               have HO252 := n2_
               have HO258 := n3_
               have HO264 := n4_
               have HO274 := n5_
               have BK237 := n6_
               have BK238 := n7_
               have BK249 := n8_
               have BK253 := n9_
               have BK260 := n10_
               have BK281 := n11_
               have HB := n12_
               clear n0_ n1_ n2_ n3_ n4_ n5_ n6_ n7_ n8_ n9_ n10_ n11_ n12_
               (try clear hb)
               (try clear hb2)
               (try clear hk)
               (try clear hi)
               (try clear ho0)
               refine hK.out _ _ ⟨(blk_cell BK237.out 0).trans rfl, (blk_cell BK238.out 0).trans rfl, (blk_cell BK238.out 1).trans rfl⟩ (fun hHeld => ?_)
               clear hK K
               refine norm_ (a' := ?_) ?_ ?_
               rotate_left
               ·show Act.put _ (some 81) _ = _
                simp only [Act.put, List.setIfInBounds_toArray, List.set_cons_zero, List.set_cons_succ, i64_w, i32_w]
                rfl
               refine one_ (i := 3) (N := some 83) #[true, true, true, true, false, false, false, false, true, false, false] rfl rfl (one_of HT_.out (by kernel_rfl)) (by decide) (fun K hK => ?_)
               refine goes_ Try.func11 (by kernel_rfl) rfl #[.agg #[.int .i64 a1_0, .int .i64 a1_1]] (by rfl) rfl rfl (by (try simp only [List.map_toArray, List.map_cons, List.map_nil]); first | done | rfl | (simp only [List.length_drop, List.length_take]; rfl)) ?_
               with_reducible refine (laws_toItem.calls a1_0 a1_1 t275 t276 _ A31.out).mono ?_
               rintro e w94 ⟨rfl, hb⟩
               refine ⟨_, rfl, ?_⟩
               have n0_ := Aside0.mk (Kd.R_below HO242.out hb)
               have n1_ := Aside0.mk (Kd.R_below HO247.out hb)
               have n2_ := Aside0.mk (Kd.R_below HO252.out hb)
               have n3_ := Aside0.mk (Kd.R_below HO258.out hb)
               have n4_ := Aside0.mk (Kd.R_below HO264.out hb)
               have n5_ := Aside0.mk (Kd.R_below HO274.out hb)
               have n6_ := Aside0.mk (blk_below BK237.out hb)
               have n7_ := Aside0.mk (blk_below BK238.out hb)
               have n8_ := Aside0.mk (blk_below BK249.out hb)
               have n9_ := Aside0.mk (blk_below BK253.out hb)
               have n10_ := Aside0.mk (blk_below BK260.out hb)
               have n11_ := Aside0.mk (blk_below BK281.out hb)
               have n12_ := Aside0.mk (below_step HB.out hb)
               clear HO242 HO247 HO252 HO258 HO264 HO274 BK237 BK238 BK249 BK253 BK260 BK281 HB
               have HO242 := n0_
               have HO247 := n1_
               have HO252 := n2_
               have HO258 := n3_
               have HO264 := n4_
               have HO274 := n5_
               have BK237 := n6_
               have BK238 := n7_
               have BK249 := n8_
               have BK253 := n9_
               have BK260 := n10_
               have BK281 := n11_
               have HB := n12_
               clear n0_ n1_ n2_ n3_ n4_ n5_ n6_ n7_ n8_ n9_ n10_ n11_ n12_
               (try clear hb)
               (try clear hb2)
               (try clear hk)
               (try clear hi)
               obtain ⟨Ao95, co95, eo95⟩ := Kd.R_slice HO274.out
               (first | subst eo95 | (injection eo95 with f1_ f2_ f3_; have f4_ := f1_.symm; have f5_ := f3_.symm; clear f1_ f2_ f3_; subst f4_; subst f5_))
               refine hK.out _ _ ⟨(blk_cell BK237.out 0).trans rfl, (blk_cell BK238.out 0).trans rfl, (blk_cell BK238.out 1).trans rfl⟩ (fun hHeld => ?_)
               clear hK K
               refine norm_ (a' := ?_) ?_ ?_
               rotate_left
               ·show Act.put _ (some 83) _ = _
                simp only [Act.put, List.setIfInBounds_toArray, List.set_cons_zero, List.set_cons_succ, i64_w, i32_w]
                rfl
               refine one_ (i := 4) (N := some 84) #[true, true, true, true, true, false, false, false, true, false, false] rfl rfl (one_of HT_.out (by kernel_rfl)) (by decide) (fun K hK => ?_)
               refine goes_ Try.func23 (by kernel_rfl) rfl #[.agg #[.slice Ao95 t272.length co95], .agg #[.int .i64 t275, .int .i64 t276]] (by rfl) rfl rfl (by (try simp only [List.map_toArray, List.map_cons, List.map_nil]); first | done | rfl | (simp only [List.length_drop, List.length_take]; rfl)) ?_
               with_reducible refine (impl_HeapPush.calls k _ _ t272 t275 t276 t277 t280 _ ?side1 ?side2 A32.out).mono ?_
               (case side1 => repeat (first | exact (Kd.R_reads' HO274.out).2.2 | (with_reducible refine Kd.C_alloc ?_ _) | (with_reducible refine Kd.C_drewN ?_ _) | (with_reducible refine Kd.C_drew ?_)))
               (case side2 => exact (Kd.R_reads' HO274.out).2.1)
               rintro e w96 ⟨v278, rfl, ho0, hb⟩
               refine ⟨_, rfl, ?_⟩
               have n0_ := Aside0.mk (Kd.R_elder' HO242.out (Kd.R_base ho0) hb)
               have n1_ := Aside0.mk (Kd.R_elder' HO247.out (Kd.R_base ho0) hb)
               have n2_ := Aside0.mk (Kd.R_elder' HO252.out (Kd.R_base ho0) hb)
               have n3_ := Aside0.mk (Kd.R_elder' HO258.out (Kd.R_base ho0) hb)
               have n4_ := Aside0.mk (Kd.R_elder' HO264.out (Kd.R_base ho0) hb)
               have n5_ := Aside0.mk (Kd.R_elder' HO274.out (Kd.R_base ho0) hb)
               have n6_ := Aside0.mk (Kd.R_lower (Kd.R_new' (Kd.R_new' (Kd.R_new' (Kd.R_new' (Kd.R_new' (Kd.R_new' ho0 (Kd.R_lt HO242.out)) (Kd.R_lt HO247.out)) (Kd.R_lt HO252.out)) (Kd.R_lt HO258.out)) (Kd.R_lt HO264.out)) (Kd.R_lt HO274.out)) (below_size HB.out))
               have n7_ := Aside0.mk (blk_below BK237.out hb)
               have n8_ := Aside0.mk (blk_below BK238.out hb)
               have n9_ := Aside0.mk (blk_below BK249.out hb)
               have n10_ := Aside0.mk (blk_below BK253.out hb)
               have n11_ := Aside0.mk (blk_below BK260.out hb)
               have n12_ := Aside0.mk (blk_below BK281.out hb)
               have n13_ := Aside0.mk (below_step HB.out hb)
               clear HO242 HO247 HO252 HO258 HO264 HO274 BK237 BK238 BK249 BK253 BK260 BK281 HB
               have HO242 := n0_
               have HO247 := n1_
               have HO252 := n2_
               have HO258 := n3_
               have HO264 := n4_
               have HO274 := n5_
               have HO279 := n6_
               have BK237 := n7_
               have BK238 := n8_
               have BK249 := n9_
               have BK253 := n10_
               have BK260 := n11_
               have BK281 := n12_
               have HB := n13_
               clear n0_ n1_ n2_ n3_ n4_ n5_ n6_ n7_ n8_ n9_ n10_ n11_ n12_ n13_
               (try clear hb)
               (try clear hb2)
               (try clear hk)
               (try clear hi)
               (try clear ho0)
               refine hK.out _ _ ⟨(blk_cell BK237.out 0).trans rfl, (blk_cell BK238.out 0).trans rfl, (blk_cell BK238.out 1).trans rfl⟩ (fun hHeld => ?_)
               clear hK K
               refine norm_ (a' := ?_) ?_ ?_
               rotate_left
               ·show Act.put _ (some 84) _ = _
                simp only [Act.put, List.setIfInBounds_toArray, List.set_cons_zero, List.set_cons_succ, i64_w, i32_w]
                rfl
               refine pure_ (i := 5) (N := some 79) (v := ?_) (a' := ?_) #[true, true, true, true, true, true, false, false, true, false, false] rfl rfl (any_of HT_.out (by kernel_rfl)) (fun _ _ _ h => h) (Or.inl ⟨by rfl, ?_⟩) ?_ ?_
               rotate_left
               ·intro w'
                go_simp
                with_reducible rfl
               rotate_left
               ·simp only [Act.put, List.setIfInBounds_toArray, List.set_cons_zero, List.set_cons_succ, i64_w, i32_w]
                rfl
               refine pure_ (i := 6) (N := some 85) (v := ?_) (a' := ?_) #[true, true, true, true, true, true, true, false, true, false, false] rfl rfl (any_of HT_.out (by kernel_rfl)) (fun _ _ _ h => h) (Or.inl ⟨by rfl, ?_⟩) ?_ ?_
               rotate_left
               ·intro w'
                go_simp
                with_reducible rfl
               rotate_left
               ·simp only [Act.put, List.setIfInBounds_toArray, List.set_cons_zero, List.set_cons_succ, i64_w, i32_w]
                rfl
               refine pure_ (i := 7) (N := some 86) (v := ?_) (a' := ?_) #[true, true, true, true, true, true, true, true, true, false, false] rfl rfl (any_of HT_.out (by kernel_rfl)) (fun _ _ _ h => h) (Or.inl ⟨by rfl, ?_⟩) ?_ ?_
               rotate_left
               ·intro w'
                go_simp
                with_reducible rfl
               rotate_left
               ·simp only [Act.put, List.setIfInBounds_toArray, List.set_cons_zero, List.set_cons_succ, i64_w, i32_w]
                rfl
               exact norm_ (by simp only [putAll, Act.put, List.setIfInBounds_toArray, List.set_cons_zero, List.set_cons_succ]) (hCont (.slice Ao95 t272.length co95, v278, gb281) _ ⟨hHeld, (by (with_reducible repeat (first | apply Kd.R_alloc | apply Kd.R_drewN | apply Kd.R_drew)); exact Kd.R_mono HO242.out (fun _ hk => ⟨hk.1.1.1, ⟨hk.1.1.2.1, ⟨hk.1.1.2.2.1, ⟨hk.1.1.2.2.2, ⟨hk.1.2, hk.2⟩⟩⟩⟩⟩)), (by (with_reducible repeat (first | apply Kd.R_alloc | apply Kd.R_drewN | apply Kd.R_drew)); exact Kd.R_mono HO247.out (fun _ hk => ⟨hk.1.1.1, ⟨hk.1.1.2.1, ⟨hk.1.1.2.2.1, ⟨hk.1.1.2.2.2, ⟨hk.1.2, hk.2⟩⟩⟩⟩⟩)), (by (with_reducible repeat (first | apply Kd.R_alloc | apply Kd.R_drewN | apply Kd.R_drew)); exact Kd.R_mono HO252.out (fun _ hk => ⟨hk.1.1.1, ⟨hk.1.1.2.1, ⟨hk.1.1.2.2.1, ⟨hk.1.1.2.2.2, ⟨hk.1.2, hk.2⟩⟩⟩⟩⟩)), (by (with_reducible repeat (first | apply Kd.R_alloc | apply Kd.R_drewN | apply Kd.R_drew)); exact Kd.R_mono HO258.out (fun _ hk => ⟨hk.1.1.1, ⟨hk.1.1.2.1, ⟨hk.1.1.2.2.1, ⟨hk.1.1.2.2.2, ⟨hk.1.2, hk.2⟩⟩⟩⟩⟩)), (by (with_reducible repeat (first | apply Kd.R_alloc | apply Kd.R_drewN | apply Kd.R_drew)); exact Kd.R_mono HO264.out (fun _ hk => ⟨hk.1.1.1, ⟨hk.1.1.2.1, ⟨hk.1.1.2.2.1, ⟨hk.1.1.2.2.2, ⟨hk.1.2, hk.2⟩⟩⟩⟩⟩)), (by (with_reducible repeat (first | apply Kd.R_alloc | apply Kd.R_drewN | apply Kd.R_drew)); exact Kd.R_mono HO274.out (fun _ hk => ⟨hk.1.1.1.1.1.2, ⟨hk.1.1.1.1.2, ⟨hk.1.1.1.2, ⟨hk.1.1.2, ⟨hk.1.2, hk.2⟩⟩⟩⟩⟩)), (by (with_reducible repeat (first | apply Kd.R_alloc | apply Kd.R_drewN | apply Kd.R_drew)); exact Kd.R_mono HO279.out (fun _ hk => ⟨hk.1.1.1.1.1.2, ⟨hk.1.1.1.1.2, ⟨hk.1.1.1.2, ⟨hk.1.1.2, ⟨hk.1.2, hk.2⟩⟩⟩⟩⟩)), BK237.out, BK238.out, BK249.out, BK253.out, BK260.out, BK281.out, GW281.out, GE281.out, NB237_281.out, NB281_237.out, NB238_281.out, NB281_238.out, NB249_281.out, NB281_249.out, NB253_281.out, NB281_253.out, NB260_281.out, NB281_260.out, HB.out⟩)
             rintro ⟨v273, v278, gb281⟩ w97 ⟨hS_, h0_, h1_, h2_, h3_, h4_, h5_, h6_, h7_, h8_, h9_, h10_, h11_, h12_, h13_, h14_, h15_, h16_, h17_, h18_, h19_, h20_, h21_, h22_, h23_, h24_, h25_⟩
             have n0_ : Aside0 (Kd.R k25 25 w97 w.heap.size (fun k_ => some k_ ≠ (.slice Ao51 t245.length co51 : Value).ownBlock ∧ some k_ ≠ (.slice Ao57 t250.length co57 : Value).ownBlock ∧ some k_ ≠ (.slice Ao68 t256.length co68 : Value).ownBlock ∧ some k_ ≠ (.slice Ao80 t262.length co80 : Value).ownBlock ∧ some k_ ≠ (v273 : Value).ownBlock ∧ some k_ ≠ (v278 : Value).ownBlock) v241 t240) := ⟨h0_⟩
             have n1_ : Aside0 (Kd.R k25 25 w97 w.heap.size (fun k_ => some k_ ≠ (v241 : Value).ownBlock ∧ some k_ ≠ (.slice Ao57 t250.length co57 : Value).ownBlock ∧ some k_ ≠ (.slice Ao68 t256.length co68 : Value).ownBlock ∧ some k_ ≠ (.slice Ao80 t262.length co80 : Value).ownBlock ∧ some k_ ≠ (v273 : Value).ownBlock ∧ some k_ ≠ (v278 : Value).ownBlock) (.slice Ao51 t245.length co51) t245) := ⟨h1_⟩
             have n2_ : Aside0 (Kd.R k25 25 w97 w.heap.size (fun k_ => some k_ ≠ (v241 : Value).ownBlock ∧ some k_ ≠ (.slice Ao51 t245.length co51 : Value).ownBlock ∧ some k_ ≠ (.slice Ao68 t256.length co68 : Value).ownBlock ∧ some k_ ≠ (.slice Ao80 t262.length co80 : Value).ownBlock ∧ some k_ ≠ (v273 : Value).ownBlock ∧ some k_ ≠ (v278 : Value).ownBlock) (.slice Ao57 t250.length co57) t267) := ⟨h2_⟩
             have n3_ : Aside0 (Kd.R k25 25 w97 w.heap.size (fun k_ => some k_ ≠ (v241 : Value).ownBlock ∧ some k_ ≠ (.slice Ao51 t245.length co51 : Value).ownBlock ∧ some k_ ≠ (.slice Ao57 t250.length co57 : Value).ownBlock ∧ some k_ ≠ (.slice Ao80 t262.length co80 : Value).ownBlock ∧ some k_ ≠ (v273 : Value).ownBlock ∧ some k_ ≠ (v278 : Value).ownBlock) (.slice Ao68 t256.length co68) t270) := ⟨h3_⟩
             have n4_ : Aside0 (Kd.R k25 25 w97 w.heap.size (fun k_ => some k_ ≠ (v241 : Value).ownBlock ∧ some k_ ≠ (.slice Ao51 t245.length co51 : Value).ownBlock ∧ some k_ ≠ (.slice Ao57 t250.length co57 : Value).ownBlock ∧ some k_ ≠ (.slice Ao68 t256.length co68 : Value).ownBlock ∧ some k_ ≠ (v273 : Value).ownBlock ∧ some k_ ≠ (v278 : Value).ownBlock) (.slice Ao80 t262.length co80) t262) := ⟨h4_⟩
             have n5_ : Aside0 (Kd.R k25 25 w97 w.heap.size (fun k_ => some k_ ≠ (v241 : Value).ownBlock ∧ some k_ ≠ (.slice Ao51 t245.length co51 : Value).ownBlock ∧ some k_ ≠ (.slice Ao57 t250.length co57 : Value).ownBlock ∧ some k_ ≠ (.slice Ao68 t256.length co68 : Value).ownBlock ∧ some k_ ≠ (.slice Ao80 t262.length co80 : Value).ownBlock ∧ some k_ ≠ (v278 : Value).ownBlock) v273 t272) := ⟨h5_⟩
             have n6_ : Aside0 (Kd.R k25 25 w97 w.heap.size (fun k_ => some k_ ≠ (v241 : Value).ownBlock ∧ some k_ ≠ (.slice Ao51 t245.length co51 : Value).ownBlock ∧ some k_ ≠ (.slice Ao57 t250.length co57 : Value).ownBlock ∧ some k_ ≠ (.slice Ao68 t256.length co68 : Value).ownBlock ∧ some k_ ≠ (.slice Ao80 t262.length co80 : Value).ownBlock ∧ some k_ ≠ (v273 : Value).ownBlock) v278 t277) := ⟨h6_⟩
             have n7_ : Aside0 (w97.heap[gb237]? = some (.cells #[.slice A0_0 l0_0.length c0_0] 32 (0, 0))) := ⟨h7_⟩
             have n8_ : Aside0 (w97.heap[gb238]? = some (.cells #[.int .i64 a1_0, .int .i64 a1_1] 23 (0, 0))) := ⟨h8_⟩
             have n9_ : Aside0 (w97.heap[gb249]? = some (.cells #[.slice Ao51 t245.length co51] 37 (0, 0))) := ⟨h9_⟩
             have n10_ : Aside0 (w97.heap[gb253]? = some (.cells #[.slice Ao57 t250.length co57] 37 (0, 0))) := ⟨h10_⟩
             have n11_ : Aside0 (w97.heap[gb260]? = some (.cells #[.slice Ao68 t256.length co68] 37 (0, 0))) := ⟨h11_⟩
             have n12_ : Aside0 (w97.heap[gb281]? = some (.cells #[.slice none 0 0] 37 (0, 0))) := ⟨h12_⟩
             have n13_ : Aside0 (w.heap.size ≤ gb281) := ⟨h13_⟩
             have n14_ : Aside0 (w.heap.size ≤ gb281) := ⟨h14_⟩
             have n15_ : Aside0 (gb237 ≠ gb281) := ⟨h15_⟩
             have n16_ : Aside0 (gb281 ≠ gb237) := ⟨h16_⟩
             have n17_ : Aside0 (gb238 ≠ gb281) := ⟨h17_⟩
             have n18_ : Aside0 (gb281 ≠ gb238) := ⟨h18_⟩
             have n19_ : Aside0 (gb249 ≠ gb281) := ⟨h19_⟩
             have n20_ : Aside0 (gb281 ≠ gb249) := ⟨h20_⟩
             have n21_ : Aside0 (gb253 ≠ gb281) := ⟨h21_⟩
             have n22_ : Aside0 (gb281 ≠ gb253) := ⟨h22_⟩
             have n23_ : Aside0 (gb260 ≠ gb281) := ⟨h23_⟩
             have n24_ : Aside0 (gb281 ≠ gb260) := ⟨h24_⟩
             have n25_ : Aside0 (Below w.heap.size w w97) := ⟨h25_⟩
             clear HO242 HO247 HO252 HO258 HO264 BK237 BK238 BK249 BK253 BK260 HB
             clear h0_ h1_ h2_ h3_ h4_ h5_ h6_ h7_ h8_ h9_ h10_ h11_ h12_ h13_ h14_ h15_ h16_ h17_ h18_ h19_ h20_ h21_ h22_ h23_ h24_ h25_
             have HO242 := n0_
             have HO247 := n1_
             have HO252 := n2_
             have HO258 := n3_
             have HO264 := n4_
             have HO274 := n5_
             have HO279 := n6_
             have BK237 := n7_
             have BK238 := n8_
             have BK249 := n9_
             have BK253 := n10_
             have BK260 := n11_
             have BK281 := n12_
             have GW281 := n13_
             have GE281 := n14_
             have NB237_281 := n15_
             have NB281_237 := n16_
             have NB238_281 := n17_
             have NB281_238 := n18_
             have NB249_281 := n19_
             have NB281_249 := n20_
             have NB253_281 := n21_
             have NB281_253 := n22_
             have NB260_281 := n23_
             have NB281_260 := n24_
             have HB := n25_
             clear n0_ n1_ n2_ n3_ n4_ n5_ n6_ n7_ n8_ n9_ n10_ n11_ n12_ n13_ n14_ n15_ n16_ n17_ n18_ n19_ n20_ n21_ n22_ n23_ n24_ n25_
             have hHeld : w97.cell? ⟨gb237, 0, none⟩ = some (.slice A0_0 l0_0.length c0_0) ∧ w97.cell? ⟨gb238, 0, none⟩ = some (.int .i64 a1_0) ∧ w97.cell? ⟨gb238, 1, none⟩ = some (.int .i64 a1_1) := hS_
             obtain ⟨Ao98, co98, eo98⟩ := Kd.R_slice HO279.out
             (first | subst eo98 | (injection eo98 with f1_ f2_ f3_; have f4_ := f1_.symm; have f5_ := f3_.symm; clear f1_ f2_ f3_; subst f4_; subst f5_))
             refine norm_ (a' := ?_) ?_ ?_
             rotate_left
             ·simp only [putAll, Act.put, List.setIfInBounds_toArray, List.set_cons_zero, List.set_cons_succ]
              rfl
             refine one_ (i := 9) (N := none) #[true, true, true, true, true, true, true, true, true, true, false] rfl rfl (one_of HT_.out (by kernel_rfl)) (by decide) (fun K hK => ?_)
             have hs99 : w97.cell? ⟨gb281, 0, none⟩ = some (.slice none 0 0) := (blk_cell BK281.out 0).trans rfl
             have hfs99 := blk_frozen BK281.out 0
             have hns99_0 := NB237_281.out
             have hns99_1 := NB238_281.out
             have hns99_2 := NB249_281.out
             have hns99_3 := NB253_281.out
             have hns99_4 := NB260_281.out
             have hms99_0 := NB281_237.out
             have hms99_1 := NB281_238.out
             have hms99_2 := NB281_249.out
             have hms99_3 := NB281_253.out
             have hms99_4 := NB281_260.out
             refine skip_ (w1 := ?_) (by rfl) rfl ?_ ?_
             rotate_left
             ·go_simp
              rfl
             refine hK.out _ _ ⟨((cell_far (p := ⟨gb281, _, none⟩) NB237_281.out _).trans (hHeld.1)), ((cell_far (p := ⟨gb281, _, none⟩) NB238_281.out _).trans (hHeld.2.1)), ((cell_far (p := ⟨gb281, _, none⟩) NB238_281.out _).trans (hHeld.2.2))⟩ (fun hHeld => ?_)
             clear hK K
             refine pure_ (i := 10) (N := some 15) (v := ?_) (a' := ?_) #[true, true, true, true, true, true, true, true, true, true, true] rfl rfl (any_of HT_.out (by kernel_rfl)) (fun _ _ _ h => h) (Or.inl ⟨by rfl, ?_⟩) ?_ ?_
             rotate_left
             ·intro w'
              go_simp
              with_reducible rfl
             rotate_left
             ·simp only [Act.put, List.setIfInBounds_toArray, List.set_cons_zero, List.set_cons_succ, i64_w, i32_w]
              rfl
             refine done_ (done_of HT_.out (by kernel_rfl)) ?_
             have hnb100 := NB281_237.out
             have hnc100 := NB237_281.out
             have hnb101 := NB281_238.out
             have hnc101 := NB238_281.out
             have hnb102 := NB281_249.out
             have hnc102 := NB249_281.out
             have hnb103 := NB281_253.out
             have hnc103 := NB253_281.out
             have hnb104 := NB281_260.out
             have hnc104 := NB260_281.out
             have hcz105_0 : w97.cell? ⟨gb281, 0, none⟩ = some (.slice none 0 0) := (blk_cell BK281.out 0).trans rfl
             have hfz105_0 := blk_frozen BK281.out 0
             have hcz106_0 : w97.cell? ⟨gb249, 0, none⟩ = some (.slice Ao51 t245.length co51) := (blk_cell BK249.out 0).trans rfl
             have hfz106_0 := blk_frozen BK249.out 0
             try go_wp2_with (first | ((with_reducible refine gate_callee (f := 19) rfl ?_); refine goesL_ (some 89) rfl rfl Try.func19 (by kernel_rfl) rfl #[.agg #[.slice Ao98 t277.length co98], .agg #[.slice Ao51 t245.length co51]] rfl (by (try simp only [List.map_toArray, List.map_cons, List.map_nil]); first | done | rfl | (simp only [List.length_drop, List.length_take]; rfl)) ?_; (with_reducible refine (laws_eqHeap.calls k _ _ t277 _ _ t245 true _ ?side1 ?side2 ?side3 ?side4 A33.out).mono ?_); (case side1 => refine (Kd.R_reads' (e := 25) (base := w.heap.size) (ok := fun k_ => (some k_ ≠ (v241 : Value).ownBlock ∧ (some k_ ≠ (.slice Ao51 t245.length co51 : Value).ownBlock ∧ (some k_ ≠ (.slice Ao57 t250.length co57 : Value).ownBlock ∧ (some k_ ≠ (.slice Ao68 t256.length co68 : Value).ownBlock ∧ (some k_ ≠ (.slice Ao80 t262.length co80 : Value).ownBlock ∧ some k_ ≠ (v273 : Value).ownBlock)))))) (n := t277.length) (c := co98) ?_).2.2; exact (by (with_reducible repeat (first | apply Kd.R_alloc | apply Kd.R_drewN | apply Kd.R_drew)); exact (Kd.R_mono (Kd.R_far (p := ⟨gb281, 0, none⟩) (Kd.R_types HO279.out BK281.out (by decide)) (fun _ hk => hk.2) (.slice Ao98 t277.length co98)) (fun _ h_ => h_.1)))); (case side2 => exact (Kd.R_reads' HO279.out).2.1); (case side3 => refine (Kd.R_reads' (e := 25) (base := w.heap.size) (ok := fun k_ => (some k_ ≠ (v241 : Value).ownBlock ∧ (some k_ ≠ (.slice Ao57 t250.length co57 : Value).ownBlock ∧ (some k_ ≠ (.slice Ao68 t256.length co68 : Value).ownBlock ∧ (some k_ ≠ (.slice Ao80 t262.length co80 : Value).ownBlock ∧ (some k_ ≠ (v273 : Value).ownBlock ∧ some k_ ≠ (.slice Ao98 t277.length co98 : Value).ownBlock)))))) (n := t245.length) (c := co51) ?_).2.2; exact (by (with_reducible repeat (first | apply Kd.R_alloc | apply Kd.R_drewN | apply Kd.R_drew)); exact (Kd.R_mono (Kd.R_far (p := ⟨gb281, 0, none⟩) (Kd.R_types HO247.out BK281.out (by decide)) (fun _ hk => hk.2) (.slice Ao98 t277.length co98)) (fun _ h_ => h_.1)))); (case side4 => exact (Kd.R_reads' HO247.out).2.1); rintro e w107 ⟨rfl, hb⟩; refine ⟨_, rfl, ?_⟩; have n0_ := Aside0.mk (Kd.R_below (by (with_reducible repeat (first | apply Kd.R_alloc | apply Kd.R_drewN | apply Kd.R_drew)); exact (Kd.R_mono (Kd.R_far (p := ⟨gb281, 0, none⟩) (Kd.R_types HO242.out BK281.out (by decide)) (fun _ hk => hk.2) (.slice Ao98 t277.length co98)) (fun _ h_ => h_.1))) hb); have n1_ := Aside0.mk (Kd.R_below (by (with_reducible repeat (first | apply Kd.R_alloc | apply Kd.R_drewN | apply Kd.R_drew)); exact (Kd.R_mono (Kd.R_far (p := ⟨gb281, 0, none⟩) (Kd.R_types HO247.out BK281.out (by decide)) (fun _ hk => hk.2) (.slice Ao98 t277.length co98)) (fun _ h_ => h_.1))) hb); have n2_ := Aside0.mk (Kd.R_below (by (with_reducible repeat (first | apply Kd.R_alloc | apply Kd.R_drewN | apply Kd.R_drew)); exact (Kd.R_mono (Kd.R_far (p := ⟨gb281, 0, none⟩) (Kd.R_types HO252.out BK281.out (by decide)) (fun _ hk => hk.2) (.slice Ao98 t277.length co98)) (fun _ h_ => h_.1))) hb); have n3_ := Aside0.mk (Kd.R_below (by (with_reducible repeat (first | apply Kd.R_alloc | apply Kd.R_drewN | apply Kd.R_drew)); exact (Kd.R_mono (Kd.R_far (p := ⟨gb281, 0, none⟩) (Kd.R_types HO258.out BK281.out (by decide)) (fun _ hk => hk.2) (.slice Ao98 t277.length co98)) (fun _ h_ => h_.1))) hb); have n4_ := Aside0.mk (Kd.R_below (by (with_reducible repeat (first | apply Kd.R_alloc | apply Kd.R_drewN | apply Kd.R_drew)); exact (Kd.R_mono (Kd.R_far (p := ⟨gb281, 0, none⟩) (Kd.R_types HO264.out BK281.out (by decide)) (fun _ hk => hk.2) (.slice Ao98 t277.length co98)) (fun _ h_ => h_.1))) hb); have n5_ := Aside0.mk (Kd.R_below (by (with_reducible repeat (first | apply Kd.R_alloc | apply Kd.R_drewN | apply Kd.R_drew)); exact (Kd.R_mono (Kd.R_far (p := ⟨gb281, 0, none⟩) (Kd.R_types HO274.out BK281.out (by decide)) (fun _ hk => hk.2) (.slice Ao98 t277.length co98)) (fun _ h_ => h_.1))) hb); have n6_ := Aside0.mk (Kd.R_below (by (with_reducible repeat (first | apply Kd.R_alloc | apply Kd.R_drewN | apply Kd.R_drew)); exact (Kd.R_mono (Kd.R_far (p := ⟨gb281, 0, none⟩) (Kd.R_types HO279.out BK281.out (by decide)) (fun _ hk => hk.2) (.slice Ao98 t277.length co98)) (fun _ h_ => h_.1))) hb); have n7_ := Aside0.mk (blk_below (g := gb237) (o := .cells #[.slice A0_0 l0_0.length c0_0] 32 (0, 0)) Gv.bkf hb); have n8_ := Aside0.mk (blk_below (g := gb238) (o := .cells #[.int .i64 a1_0, .int .i64 a1_1] 23 (0, 0)) Gv.bkf hb); have n9_ := Aside0.mk (blk_below (g := gb249) (o := .cells #[.slice Ao51 t245.length co51] 37 (0, 0)) Gv.bkf hb); have n10_ := Aside0.mk (blk_below (g := gb253) (o := .cells #[.slice Ao57 t250.length co57] 37 (0, 0)) Gv.bkf hb); have n11_ := Aside0.mk (blk_below (g := gb260) (o := .cells #[.slice Ao68 t256.length co68] 37 (0, 0)) Gv.bkf hb); have n12_ := Aside0.mk (blk_below (g := gb281) (o := .cells #[.slice Ao98 t277.length co98] 37 (0, 0)) (by (with_reducible repeat (first | refine blk_drewN ?_ _ | refine blk_drew ?_ | refine blk_alloc ?_ _)); refine blk_put (cs := #[.slice none 0 0]) ?_ 0 _ rfl; (with_reducible repeat (first | refine blk_drewN ?_ _ | refine blk_drew ?_ | refine blk_alloc ?_ _)); exact BK281.out) hb); have n13_ := Aside0.mk (below_step Gv.bw hb); clear HO242; clear HO247; clear HO252; clear HO258; clear HO264; clear HO274; clear HO279; clear BK237; clear BK238; clear BK249; clear BK253; clear BK260; clear BK281; clear HB; have HO242 := n0_; have HO247 := n1_; have HO252 := n2_; have HO258 := n3_; have HO264 := n4_; have HO274 := n5_; have HO279 := n6_; have BK237 := n7_; have BK238 := n8_; have BK249 := n9_; have BK253 := n10_; have BK260 := n11_; have BK281 := n12_; have HB := n13_; clear n0_ n1_ n2_ n3_ n4_ n5_ n6_ n7_ n8_ n9_ n10_ n11_ n12_ n13_; (try clear hb); (try clear hb2); (try clear hk); (try clear hi); have hcz108_0 : w107.cell? ⟨gb260, 0, none⟩ = some (.slice Ao68 t256.length co68) := (blk_cell BK260.out 0).trans rfl; have hfz108_0 := blk_frozen BK260.out 0) | ((with_reducible refine gate_callee (f := 25) rfl ?_); refine goesL_ (some 98) rfl rfl Try.func25 (by kernel_rfl) rfl #[.agg #[.slice Ao68 t270.length co68], .int .i64 1] rfl (by (try simp only [List.map_toArray, List.map_cons, List.map_nil]); first | done | (rw [show t270.length = t256.length from (Kd.R_reads' HO258.out).1.symm] <;> rfl) | rfl | (simp only [List.length_drop, List.length_take]; rfl)) ?_; (with_reducible refine (laws_heldHeap.calls k _ _ t270 1 t283 _ ?side1 ?side2 A36.out).mono ?_); (case side1 => repeat (first | exact (Kd.R_reads' HO258.out).2.2 | (with_reducible refine Kd.C_alloc ?_ _) | (with_reducible refine Kd.C_drewN ?_ _) | (with_reducible refine Kd.C_drew ?_))); (case side2 => rw [show t270.length = t256.length from (Kd.R_reads' HO258.out).1.symm]; exact (Kd.R_reads' HO258.out).2.1); rintro e w109 ⟨rfl, hb⟩; refine ⟨_, rfl, ?_⟩; have n0_ := Aside0.mk (Kd.R_below (by (with_reducible repeat (first | apply Kd.R_alloc | apply Kd.R_drewN | apply Kd.R_drew)); exact HO242.out) hb); have n1_ := Aside0.mk (Kd.R_below (by (with_reducible repeat (first | apply Kd.R_alloc | apply Kd.R_drewN | apply Kd.R_drew)); exact HO247.out) hb); have n2_ := Aside0.mk (Kd.R_below (by (with_reducible repeat (first | apply Kd.R_alloc | apply Kd.R_drewN | apply Kd.R_drew)); exact HO252.out) hb); have n3_ := Aside0.mk (Kd.R_below (by (with_reducible repeat (first | apply Kd.R_alloc | apply Kd.R_drewN | apply Kd.R_drew)); exact HO258.out) hb); have n4_ := Aside0.mk (Kd.R_below (by (with_reducible repeat (first | apply Kd.R_alloc | apply Kd.R_drewN | apply Kd.R_drew)); exact HO264.out) hb); have n5_ := Aside0.mk (Kd.R_below (by (with_reducible repeat (first | apply Kd.R_alloc | apply Kd.R_drewN | apply Kd.R_drew)); exact HO274.out) hb); have n6_ := Aside0.mk (Kd.R_below (by (with_reducible repeat (first | apply Kd.R_alloc | apply Kd.R_drewN | apply Kd.R_drew)); exact HO279.out) hb); have n7_ := Aside0.mk (blk_below (g := gb237) (o := .cells #[.slice A0_0 l0_0.length c0_0] 32 (0, 0)) Gv.bk hb); have n8_ := Aside0.mk (blk_below (g := gb238) (o := .cells #[.int .i64 a1_0, .int .i64 a1_1] 23 (0, 0)) Gv.bk hb); have n9_ := Aside0.mk (blk_below (g := gb249) (o := .cells #[.slice Ao51 t245.length co51] 37 (0, 0)) Gv.bk hb); have n10_ := Aside0.mk (blk_below (g := gb253) (o := .cells #[.slice Ao57 t250.length co57] 37 (0, 0)) Gv.bk hb); have n11_ := Aside0.mk (blk_below (g := gb260) (o := .cells #[.slice Ao68 t256.length co68] 37 (0, 0)) Gv.bk hb); have n12_ := Aside0.mk (blk_below (g := gb281) (o := .cells #[.slice Ao98 t277.length co98] 37 (0, 0)) Gv.bk hb); have n13_ := Aside0.mk (below_step Gv.bw hb); clear HO242; clear HO247; clear HO252; clear HO258; clear HO264; clear HO274; clear HO279; clear BK237; clear BK238; clear BK249; clear BK253; clear BK260; clear BK281; clear HB; have HO242 := n0_; have HO247 := n1_; have HO252 := n2_; have HO258 := n3_; have HO264 := n4_; have HO274 := n5_; have HO279 := n6_; have BK237 := n7_; have BK238 := n8_; have BK249 := n9_; have BK253 := n10_; have BK260 := n11_; have BK281 := n12_; have HB := n13_; clear n0_ n1_ n2_ n3_ n4_ n5_ n6_ n7_ n8_ n9_ n10_ n11_ n12_ n13_; (try clear hb); (try clear hb2); (try clear hk); (try clear hi)))
             go_ret
             exact ⟨by first | rfl | (simp [errW_none, errW_some] <;> rfl) | (simp [*, errW_none, errW_some] <;> rfl), by repeat (first | (with_reducible first | exact HB.out | apply below_alloc | apply pw_below_drewN | apply below_drew1 | refine below_set ?_ GE237.out | refine below_set ?_ GE238.out | refine below_set ?_ GE249.out | refine below_set ?_ GE253.out | refine below_set ?_ GE260.out | refine below_set ?_ GE281.out) | exact HB.out)⟩
            ·rw [if_neg c38] at H
             exact absurd H (by simp)
          ·rw [if_neg c35] at H
           exact absurd H (by simp)
         ·replace c34 := Bool.eq_false_iff.mpr c34
          subst c34
          have H1 : (none) = some r := by rw [if_neg (show ¬ (false = true) by decide)] at H; exact H
          clear H
          have H := H1
          clear H1
          exact absurd H (by simp)
        ·rw [if_neg c29] at H
         exact absurd H (by simp)
      ·replace c25 := Bool.eq_false_iff.mpr c25
       subst c25
       have H1 : (none) = some r := by rw [if_neg (show ¬ (false = true) by decide)] at H; exact H
       clear H
       have H := H1
       clear H1
       exact absurd H (by simp)
    ·replace c21 := Bool.eq_false_iff.mpr c21
     subst c21
     have H1 : (none) = some r := by rw [if_neg (show ¬ (false = true) by decide)] at H; exact H
     clear H
     have H := H1
     clear H1
     exact absurd H (by simp)
   ·rw [if_neg c18] at H
    exact absurd H (by simp)
  ·replace c17 := Bool.eq_false_iff.mpr c17
   subst c17
   have H1 : (none) = some r := by rw [if_neg (show ¬ (false = true) by decide)] at H; exact H
   clear H
   have H := H1
   clear H1
   exact absurd H (by simp)

end Go.Proofs.Ytjpmhbjbgooheaa.PPu
