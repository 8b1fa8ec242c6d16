/- Plain Lean functions of a law's Go functions, their contracts, by a program of this session (wip/pr.py over the kit's print). -/
import Derived.Test.YtbpkmdghloapjaaPNax0
import Derived.Test.YtbpkmdghloapjaaPNax5
import Derived.Test.YtbpkmdghloapjaaPNax7
namespace Go.Proofs.Ytbpkmdghloapjaa.PNa
open Go.RowKit Go.Proofs.YtbpkmdghloapjaaW.PrintWords Go.Proofs.YtbpkmdghloapjaaW.PrintLast Go.Proofs.YtbpkmdghloapjaaW.PrintMore
attribute [local go_sem] max2_int min2_int max_two min_two max_three min_three max_four min_four   -- for this text's walks alone
set_option linter.unusedVariables false
set_option linter.unusedSimpArgs false

/-! ### laws_FnExactNatAddr: function 3 -/
def laws_FnExactNatAddr.f (k : Nat) (a0_0 : Int) (a0_1 : Int) (a0_2 : Int) (a0_3 : Int) (a0_4 : Int) (a0_5 : Int) (a1_0 : Int) (a1_1 : Int) (a1_2 : Int) (a1_3 : Int) (a1_4 : Int) (a1_5 : Int) (a2_0 : Int) (a2_1 : Int) (a2_2 : Int) (a2_3 : Int) (a2_4 : Int) : Option (Bool) := (laws_toPrefix.f a0_0 a0_1 a0_2 a0_3 a0_4 a0_5).bind fun bt379 => ((laws_toPrefix.f a1_0 a1_1 a1_2 a1_3 a1_4 a1_5).bind fun bt385 => ((laws_toAddr.f a2_0 a2_1 a2_2 a2_3 a2_4).bind fun bt391 => ((spec_NatAddr.f k bt379.1 bt379.2.1 bt379.2.2.1 bt379.2.2.2.1 bt379.2.2.2.2.1 bt379.2.2.2.2.2 bt385.1 bt385.2.1 bt385.2.2.1 bt385.2.2.2.1 bt385.2.2.2.2.1 bt385.2.2.2.2.2 bt391.1 bt391.2.1 bt391.2.2.1 bt391.2.2.2.1 bt391.2.2.2.2).bind fun bt396 => ((laws_toPrefix.f a0_0 a0_1 a0_2 a0_3 a0_4 a0_5).bind fun bt402 => ((laws_toPrefix.f a1_0 a1_1 a1_2 a1_3 a1_4 a1_5).bind fun bt408 => ((laws_toAddr.f a2_0 a2_1 a2_2 a2_3 a2_4).bind fun bt414 => ((impl_NatAddr.f k bt402.1 bt402.2.1 bt402.2.2.1 bt402.2.2.2.1 bt402.2.2.2.2.1 bt402.2.2.2.2.2 bt408.1 bt408.2.1 bt408.2.2.1 bt408.2.2.2.1 bt408.2.2.2.2.1 bt408.2.2.2.2.2 bt414.1 bt414.2.1 bt414.2.2.1 bt414.2.2.2.1 bt414.2.2.2.2).bind fun bt419 => ((laws_eqAddr.f bt419.1 bt419.2.1 bt419.2.2.1 bt419.2.2.2.1 bt419.2.2.2.2 bt396.1 bt396.2.1 bt396.2.2.1 bt396.2.2.2.1 bt396.2.2.2.2).bind fun t425 => (if t425 = true then (some true) else (none))))))))))
theorem laws_FnExactNatAddr.mono : ∀ a0 a1 a2 a3 a4 a5 a6 a7 a8 a9 a10 a11 a12 a13 a14 a15 a16 k, LeO (laws_FnExactNatAddr.f k a0 a1 a2 a3 a4 a5 a6 a7 a8 a9 a10 a11 a12 a13 a14 a15 a16) (laws_FnExactNatAddr.f (k + 1) a0 a1 a2 a3 a4 a5 a6 a7 a8 a9 a10 a11 a12 a13 a14 a15 a16) := by
 intro a0 a1 a2 a3 a4 a5 a6 a7 a8 a9 a10 a11 a12 a13 a14 a15 a16 k
 unfold laws_FnExactNatAddr.f
 repeat' first
   | (with_reducible exact impl_NatAddr.mono _ _ _ _ _ _ _ _ _ _ _ _ _ _ _ _ _ _)
   | (with_reducible exact spec_NatAddr.mono _ _ _ _ _ _ _ _ _ _ _ _ _ _ _ _ _ _)
   | (with_reducible exact LeO.refl _)
   | (with_reducible exact LeO.none _)
   | (with_reducible refine LeO.ite ?_ ?_)
   | (with_reducible refine LeO.bind ?_ (fun _ => ?_))
   | exact impl_NatAddr.mono _ _ _ _ _ _ _ _ _ _ _ _ _ _ _ _ _ _
   | exact spec_NatAddr.mono _ _ _ _ _ _ _ _ _ _ _ _ _ _ _ _ _ _
   | exact LeO.none _
   | refine LeO.ite ?_ ?_
   | refine LeO.bind ?_ (fun _ => ?_)
def laws_FnExactNatAddr.T1 : Bool × List (List Nat × List Nat) := (true, [([], []), ([0], [0]), ([], []), ([2, 1], [2]), ([], []), ([4, 3], [4]), ([1, 3, 5, 5], [1, 3, 5]), ([], []), ([7, 6, 6, 0, 1, 2, 3, 4, 5, 6, 7], [6, 7])])
def laws_FnExactNatAddr.B1 : List Nat := [0, 1, 0, 7, 0, 31, 63, 0, 255]
theorem laws_FnExactNatAddr.tab1 : rtab .any (opsOf Try.f3 1) = laws_FnExactNatAddr.T1 := by kernel_rfl
theorem laws_FnExactNatAddr.bits1 : waitsOk laws_FnExactNatAddr.T1.2 laws_FnExactNatAddr.B1 = true := by kernel_rfl
def laws_FnExactNatAddr.T2 : Bool × List (List Nat × List Nat) := (true, [([], []), ([0], [0]), ([], []), ([2, 1], [2]), ([], []), ([4, 3], [4]), ([1, 3, 5, 5], [1, 3, 5]), ([], []), ([7, 6, 6, 0, 1, 2, 3, 4, 5, 6, 7], [6, 7])])
def laws_FnExactNatAddr.B2 : List Nat := [0, 1, 0, 7, 0, 31, 63, 0, 255]
theorem laws_FnExactNatAddr.tab2 : rtab .any (opsOf Try.f3 2) = laws_FnExactNatAddr.T2 := by kernel_rfl
theorem laws_FnExactNatAddr.bits2 : waitsOk laws_FnExactNatAddr.T2.2 laws_FnExactNatAddr.B2 = true := by kernel_rfl
set_option maxHeartbeats 8000000 in
set_option maxRecDepth 100000 in
theorem laws_FnExactNatAddr.calls (k : Nat) (a0_0 : Int) (a0_1 : Int) (a0_2 : Int) (a0_3 : Int) (a0_4 : Int) (a0_5 : Int) (a1_0 : Int) (a1_1 : Int) (a1_2 : Int) (a1_3 : Int) (a1_4 : Int) (a1_5 : Int) (a2_0 : Int) (a2_1 : Int) (a2_2 : Int) (a2_3 : Int) (a2_4 : Int) (r : Bool) (w : World) (h : laws_FnExactNatAddr.f k a0_0 a0_1 a0_2 a0_3 a0_4 a0_5 a1_0 a1_1 a1_2 a1_3 a1_4 a1_5 a2_0 a2_1 a2_2 a2_3 a2_4 = some r) :
  Calls Try.prog 3 #[.agg #[.int .i64 a0_0, .int .i64 a0_1, .int .i64 a0_2, .int .i64 a0_3, .int .i64 a0_4, .int .i64 a0_5], .agg #[.int .i64 a1_0, .int .i64 a1_1, .int .i64 a1_2, .int .i64 a1_3, .int .i64 a1_4, .int .i64 a1_5], .agg #[.int .i64 a2_0, .int .i64 a2_1, .int .i64 a2_2, .int .i64 a2_3, .int .i64 a2_4]] w fun e w' => e = .returned (.bool r) ∧ Below w.heap.size w w' := by
 have hu25 := Try.underlying25
 have hu23 := Try.underlying23
 have hu26 := Try.underlying26
 have HB := Gv.a0 (Below.refl w.heap.size w)
 have H : ((laws_toPrefix.f a0_0 a0_1 a0_2 a0_3 a0_4 a0_5).bind fun bt379 => ((laws_toPrefix.f a1_0 a1_1 a1_2 a1_3 a1_4 a1_5).bind fun bt385 => ((laws_toAddr.f a2_0 a2_1 a2_2 a2_3 a2_4).bind fun bt391 => ((spec_NatAddr.f k bt379.1 bt379.2.1 bt379.2.2.1 bt379.2.2.2.1 bt379.2.2.2.2.1 bt379.2.2.2.2.2 bt385.1 bt385.2.1 bt385.2.2.1 bt385.2.2.2.1 bt385.2.2.2.2.1 bt385.2.2.2.2.2 bt391.1 bt391.2.1 bt391.2.2.1 bt391.2.2.2.1 bt391.2.2.2.2).bind fun bt396 => ((laws_toPrefix.f a0_0 a0_1 a0_2 a0_3 a0_4 a0_5).bind fun bt402 => ((laws_toPrefix.f a1_0 a1_1 a1_2 a1_3 a1_4 a1_5).bind fun bt408 => ((laws_toAddr.f a2_0 a2_1 a2_2 a2_3 a2_4).bind fun bt414 => ((impl_NatAddr.f k bt402.1 bt402.2.1 bt402.2.2.1 bt402.2.2.2.1 bt402.2.2.2.2.1 bt402.2.2.2.2.2 bt408.1 bt408.2.1 bt408.2.2.1 bt408.2.2.2.1 bt408.2.2.2.2.1 bt408.2.2.2.2.2 bt414.1 bt414.2.1 bt414.2.2.1 bt414.2.2.2.1 bt414.2.2.2.2).bind fun bt419 => ((laws_eqAddr.f bt419.1 bt419.2.1 bt419.2.2.1 bt419.2.2.2.1 bt419.2.2.2.2 bt396.1 bt396.2.1 bt396.2.2.1 bt396.2.2.2.1 bt396.2.2.2.2).bind fun t425 => (if t425 = true then (some true) else (none))))))))))) = some r := h
 clear h
 replace H := Option.bind_eq_some_iff.mp H
 obtain ⟨⟨t379, t380, t381, t382, t383, t384⟩, A40, H⟩ := H
 replace H : ((laws_toPrefix.f a1_0 a1_1 a1_2 a1_3 a1_4 a1_5).bind fun bt385 => ((laws_toAddr.f a2_0 a2_1 a2_2 a2_3 a2_4).bind fun bt391 => ((spec_NatAddr.f k t379 t380 t381 t382 t383 t384 bt385.1 bt385.2.1 bt385.2.2.1 bt385.2.2.2.1 bt385.2.2.2.2.1 bt385.2.2.2.2.2 bt391.1 bt391.2.1 bt391.2.2.1 bt391.2.2.2.1 bt391.2.2.2.2).bind fun bt396 => ((laws_toPrefix.f a0_0 a0_1 a0_2 a0_3 a0_4 a0_5).bind fun bt402 => ((laws_toPrefix.f a1_0 a1_1 a1_2 a1_3 a1_4 a1_5).bind fun bt408 => ((laws_toAddr.f a2_0 a2_1 a2_2 a2_3 a2_4).bind fun bt414 => ((impl_NatAddr.f k bt402.1 bt402.2.1 bt402.2.2.1 bt402.2.2.2.1 bt402.2.2.2.2.1 bt402.2.2.2.2.2 bt408.1 bt408.2.1 bt408.2.2.1 bt408.2.2.2.1 bt408.2.2.2.2.1 bt408.2.2.2.2.2 bt414.1 bt414.2.1 bt414.2.2.1 bt414.2.2.2.1 bt414.2.2.2.2).bind fun bt419 => ((laws_eqAddr.f bt419.1 bt419.2.1 bt419.2.2.1 bt419.2.2.2.1 bt419.2.2.2.2 bt396.1 bt396.2.1 bt396.2.2.1 bt396.2.2.2.1 bt396.2.2.2.2).bind fun t425 => (if t425 = true then (some true) else (none)))))))))) = some r := H
 have A4 := Gv.a0 A40
 clear A40
 replace H := Option.bind_eq_some_iff.mp H
 obtain ⟨⟨t385, t386, t387, t388, t389, t390⟩, A50, H⟩ := H
 replace H : ((laws_toAddr.f a2_0 a2_1 a2_2 a2_3 a2_4).bind fun bt391 => ((spec_NatAddr.f k t379 t380 t381 t382 t383 t384 t385 t386 t387 t388 t389 t390 bt391.1 bt391.2.1 bt391.2.2.1 bt391.2.2.2.1 bt391.2.2.2.2).bind fun bt396 => ((laws_toPrefix.f a0_0 a0_1 a0_2 a0_3 a0_4 a0_5).bind fun bt402 => ((laws_toPrefix.f a1_0 a1_1 a1_2 a1_3 a1_4 a1_5).bind fun bt408 => ((laws_toAddr.f a2_0 a2_1 a2_2 a2_3 a2_4).bind fun bt414 => ((impl_NatAddr.f k bt402.1 bt402.2.1 bt402.2.2.1 bt402.2.2.2.1 bt402.2.2.2.2.1 bt402.2.2.2.2.2 bt408.1 bt408.2.1 bt408.2.2.1 bt408.2.2.2.1 bt408.2.2.2.2.1 bt408.2.2.2.2.2 bt414.1 bt414.2.1 bt414.2.2.1 bt414.2.2.2.1 bt414.2.2.2.2).bind fun bt419 => ((laws_eqAddr.f bt419.1 bt419.2.1 bt419.2.2.1 bt419.2.2.2.1 bt419.2.2.2.2 bt396.1 bt396.2.1 bt396.2.2.1 bt396.2.2.2.1 bt396.2.2.2.2).bind fun t425 => (if t425 = true then (some true) else (none))))))))) = some r := H
 have A5 := Gv.a0 A50
 clear A50
 replace H := Option.bind_eq_some_iff.mp H
 obtain ⟨⟨t391, t392, t393, t394, t395⟩, A60, H⟩ := H
 replace H : ((spec_NatAddr.f k t379 t380 t381 t382 t383 t384 t385 t386 t387 t388 t389 t390 t391 t392 t393 t394 t395).bind fun bt396 => ((laws_toPrefix.f a0_0 a0_1 a0_2 a0_3 a0_4 a0_5).bind fun bt402 => ((laws_toPrefix.f a1_0 a1_1 a1_2 a1_3 a1_4 a1_5).bind fun bt408 => ((laws_toAddr.f a2_0 a2_1 a2_2 a2_3 a2_4).bind fun bt414 => ((impl_NatAddr.f k bt402.1 bt402.2.1 bt402.2.2.1 bt402.2.2.2.1 bt402.2.2.2.2.1 bt402.2.2.2.2.2 bt408.1 bt408.2.1 bt408.2.2.1 bt408.2.2.2.1 bt408.2.2.2.2.1 bt408.2.2.2.2.2 bt414.1 bt414.2.1 bt414.2.2.1 bt414.2.2.2.1 bt414.2.2.2.2).bind fun bt419 => ((laws_eqAddr.f bt419.1 bt419.2.1 bt419.2.2.1 bt419.2.2.2.1 bt419.2.2.2.2 bt396.1 bt396.2.1 bt396.2.2.1 bt396.2.2.2.1 bt396.2.2.2.2).bind fun t425 => (if t425 = true then (some true) else (none)))))))) = some r := H
 have A6 := Gv.a0 A60
 clear A60
 replace H := Option.bind_eq_some_iff.mp H
 obtain ⟨⟨t396, t397, t398, t399, t400⟩, A70, H⟩ := H
 replace H : ((laws_toPrefix.f a0_0 a0_1 a0_2 a0_3 a0_4 a0_5).bind fun bt402 => ((laws_toPrefix.f a1_0 a1_1 a1_2 a1_3 a1_4 a1_5).bind fun bt408 => ((laws_toAddr.f a2_0 a2_1 a2_2 a2_3 a2_4).bind fun bt414 => ((impl_NatAddr.f k bt402.1 bt402.2.1 bt402.2.2.1 bt402.2.2.2.1 bt402.2.2.2.2.1 bt402.2.2.2.2.2 bt408.1 bt408.2.1 bt408.2.2.1 bt408.2.2.2.1 bt408.2.2.2.2.1 bt408.2.2.2.2.2 bt414.1 bt414.2.1 bt414.2.2.1 bt414.2.2.2.1 bt414.2.2.2.2).bind fun bt419 => ((laws_eqAddr.f bt419.1 bt419.2.1 bt419.2.2.1 bt419.2.2.2.1 bt419.2.2.2.2 t396 t397 t398 t399 t400).bind fun t425 => (if t425 = true then (some true) else (none))))))) = some r := H
 have A7 := Gv.a0 A70
 clear A70
 replace H := Option.bind_eq_some_iff.mp H
 obtain ⟨⟨t402, t403, t404, t405, t406, t407⟩, A80, H⟩ := H
 replace H : ((laws_toPrefix.f a1_0 a1_1 a1_2 a1_3 a1_4 a1_5).bind fun bt408 => ((laws_toAddr.f a2_0 a2_1 a2_2 a2_3 a2_4).bind fun bt414 => ((impl_NatAddr.f k t402 t403 t404 t405 t406 t407 bt408.1 bt408.2.1 bt408.2.2.1 bt408.2.2.2.1 bt408.2.2.2.2.1 bt408.2.2.2.2.2 bt414.1 bt414.2.1 bt414.2.2.1 bt414.2.2.2.1 bt414.2.2.2.2).bind fun bt419 => ((laws_eqAddr.f bt419.1 bt419.2.1 bt419.2.2.1 bt419.2.2.2.1 bt419.2.2.2.2 t396 t397 t398 t399 t400).bind fun t425 => (if t425 = true then (some true) else (none)))))) = some r := H
 have A8 := Gv.a0 A80
 clear A80
 replace H := Option.bind_eq_some_iff.mp H
 obtain ⟨⟨t408, t409, t410, t411, t412, t413⟩, A90, H⟩ := H
 replace H : ((laws_toAddr.f a2_0 a2_1 a2_2 a2_3 a2_4).bind fun bt414 => ((impl_NatAddr.f k t402 t403 t404 t405 t406 t407 t408 t409 t410 t411 t412 t413 bt414.1 bt414.2.1 bt414.2.2.1 bt414.2.2.2.1 bt414.2.2.2.2).bind fun bt419 => ((laws_eqAddr.f bt419.1 bt419.2.1 bt419.2.2.1 bt419.2.2.2.1 bt419.2.2.2.2 t396 t397 t398 t399 t400).bind fun t425 => (if t425 = true then (some true) else (none))))) = some r := H
 have A9 := Gv.a0 A90
 clear A90
 replace H := Option.bind_eq_some_iff.mp H
 obtain ⟨⟨t414, t415, t416, t417, t418⟩, A100, H⟩ := H
 replace H : ((impl_NatAddr.f k t402 t403 t404 t405 t406 t407 t408 t409 t410 t411 t412 t413 t414 t415 t416 t417 t418).bind fun bt419 => ((laws_eqAddr.f bt419.1 bt419.2.1 bt419.2.2.1 bt419.2.2.2.1 bt419.2.2.2.2 t396 t397 t398 t399 t400).bind fun t425 => (if t425 = true then (some true) else (none)))) = some r := H
 have A10 := Gv.a0 A100
 clear A100
 replace H := Option.bind_eq_some_iff.mp H
 obtain ⟨⟨t419, t420, t421, t422, t423⟩, A110, H⟩ := H
 replace H : ((laws_eqAddr.f t419 t420 t421 t422 t423 t396 t397 t398 t399 t400).bind fun t425 => (if t425 = true then (some true) else (none))) = some r := H
 have A11 := Gv.a0 A110
 clear A110
 replace H := Option.bind_eq_some_iff.mp H
 obtain ⟨t425, A120, H⟩ := H
 replace H : (if t425 = true then (some true) else (none)) = some r := H
 have A12 := Gv.a0 A120
 clear A120
 by_cases c13 : t425 = true
 ·subst c13
  have H1 : (some true) = some r := by rw [if_pos rfl] at H; exact H
  clear H
  have H := H1
  clear H1
  obtain rfl := Option.some.inj H
  go_enter Try.func3, Try.ntmps3
  try go_wp2_with (first | ((with_reducible refine gate_dst (N := 3) rfl ?_); refine box_event ?hg (N := 3) ?hd (cs := #[.int .i64 a0_0, .int .i64 a0_1, .int .i64 a0_2, .int .i64 a0_3, .int .i64 a0_4, .int .i64 a0_5]) (t := 25) ?hr ?_; (case hd => rfl); (case hg => rfl); (case hr => first | (go_simp; done) | (go_simp; rfl)); intro gb376 hg w14 hbox hb; have n0_ := Gv.a0 (below_step Gv.bw hb); have n1_ := Gv.a0 (hbox); have n2_ := Gv.a0 ((by rw [hg]; exact (below_size Gv.bw) : w.heap.size ≤ gb376)); have n3_ := Gv.a0 ((by rw [hg]; exact (below_size Gv.bw) : w.heap.size ≤ gb376)); clear HB; have HB := n0_; have BK376 := n1_; have GW376 := n2_; have GE376 := n3_; clear n0_ n1_ n2_ n3_; clear hb hbox hg) | ((with_reducible refine gate_dst (N := 4) rfl ?_); refine box_event ?hg (N := 4) ?hd (cs := #[.int .i64 a1_0, .int .i64 a1_1, .int .i64 a1_2, .int .i64 a1_3, .int .i64 a1_4, .int .i64 a1_5]) (t := 25) ?hr ?_; (case hd => rfl); (case hg => rfl); (case hr => first | (go_simp; done) | (go_simp; rfl)); intro gb377 hg w15 hbox hb; have n0_ := Gv.a0 (Gv.bb BK376.out hb); have n1_ := Gv.a0 (below_step Gv.bw hb); have n2_ := Gv.a0 (hbox); have n3_ := Gv.a0 ((by rw [hg]; exact (below_size Gv.bw) : w.heap.size ≤ gb377)); have n4_ := Gv.a0 ((by rw [hg]; exact (below_size Gv.bw) : w.heap.size ≤ gb377)); have n5_ := Gv.a0 ((by rw [hg]; exact Nat.ne_of_lt (blk_lt (g := gb376) (o := .cells #[.int .i64 a0_0, .int .i64 a0_1, .int .i64 a0_2, .int .i64 a0_3, .int .i64 a0_4, .int .i64 a0_5] 25 (0, 0)) Gv.bk) : gb376 ≠ gb377)); have n6_ := Gv.a0 ((by rw [hg]; exact Nat.ne_of_gt (blk_lt (g := gb376) (o := .cells #[.int .i64 a0_0, .int .i64 a0_1, .int .i64 a0_2, .int .i64 a0_3, .int .i64 a0_4, .int .i64 a0_5] 25 (0, 0)) Gv.bk) : gb377 ≠ gb376)); clear BK376; clear HB; have BK376 := n0_; have HB := n1_; have BK377 := n2_; have GW377 := n3_; have GE377 := n4_; have NB376_377 := n5_; have NB377_376 := n6_; clear n0_ n1_ n2_ n3_ n4_ n5_ n6_; clear hb hbox hg) | ((with_reducible refine gate_dst (N := 5) rfl ?_); refine box_event ?hg (N := 5) ?hd (cs := #[.int .i64 a2_0, .int .i64 a2_1, .int .i64 a2_2, .int .i64 a2_3, .int .i64 a2_4]) (t := 23) ?hr ?_; (case hd => rfl); (case hg => rfl); (case hr => first | (go_simp; done) | (go_simp; rfl)); intro gb378 hg w16 hbox hb; have n0_ := Gv.a0 (Gv.bb BK376.out hb); have n1_ := Gv.a0 (Gv.bb BK377.out hb); have n2_ := Gv.a0 (below_step Gv.bw hb); have n3_ := Gv.a0 (hbox); have n4_ := Gv.a0 ((by rw [hg]; exact (below_size Gv.bw) : w.heap.size ≤ gb378)); have n5_ := Gv.a0 ((by rw [hg]; exact (below_size Gv.bw) : w.heap.size ≤ gb378)); have n6_ := Gv.a0 ((by rw [hg]; exact Nat.ne_of_lt (blk_lt (g := gb376) (o := .cells #[.int .i64 a0_0, .int .i64 a0_1, .int .i64 a0_2, .int .i64 a0_3, .int .i64 a0_4, .int .i64 a0_5] 25 (0, 0)) Gv.bk) : gb376 ≠ gb378)); have n7_ := Gv.a0 ((by rw [hg]; exact Nat.ne_of_gt (blk_lt (g := gb376) (o := .cells #[.int .i64 a0_0, .int .i64 a0_1, .int .i64 a0_2, .int .i64 a0_3, .int .i64 a0_4, .int .i64 a0_5] 25 (0, 0)) Gv.bk) : gb378 ≠ gb376)); have n8_ := Gv.a0 ((by rw [hg]; exact Nat.ne_of_lt (blk_lt (g := gb377) (o := .cells #[.int .i64 a1_0, .int .i64 a1_1, .int .i64 a1_2, .int .i64 a1_3, .int .i64 a1_4, .int .i64 a1_5] 25 (0, 0)) Gv.bk) : gb377 ≠ gb378)); have n9_ := Gv.a0 ((by rw [hg]; exact Nat.ne_of_gt (blk_lt (g := gb377) (o := .cells #[.int .i64 a1_0, .int .i64 a1_1, .int .i64 a1_2, .int .i64 a1_3, .int .i64 a1_4, .int .i64 a1_5] 25 (0, 0)) Gv.bk) : gb378 ≠ gb377)); clear BK376; clear BK377; clear HB; have BK376 := n0_; have BK377 := n1_; have HB := n2_; have BK378 := n3_; have GW378 := n4_; have GE378 := n5_; have NB376_378 := n6_; have NB378_376 := n7_; have NB377_378 := n8_; have NB378_377 := n9_; clear n0_ n1_ n2_ n3_ n4_ n5_ n6_ n7_ n8_ n9_; clear hb hbox hg))
  have n0_ := Gv.a0 (blk_drew BK376.out)
  have n1_ := Gv.a0 (blk_drew BK377.out)
  have n2_ := Gv.a0 (blk_drew BK378.out)
  have n3_ := Gv.a0 (below_drew1 HB.out)
  clear BK376
  clear BK377
  clear BK378
  clear HB
  have BK376 := n0_
  have BK377 := n1_
  have BK378 := n2_
  have HB := n3_
  clear n0_ n1_ n2_ n3_
  refine start_ (n := 9) (S := fun w' => w'.cell? ⟨gb376, 0, none⟩ = some (.int .i64 a0_0) ∧ w'.cell? ⟨gb376, 1, none⟩ = some (.int .i64 a0_1) ∧ w'.cell? ⟨gb376, 2, none⟩ = some (.int .i64 a0_2) ∧ w'.cell? ⟨gb376, 3, none⟩ = some (.int .i64 a0_3) ∧ w'.cell? ⟨gb376, 4, none⟩ = some (.int .i64 a0_4) ∧ w'.cell? ⟨gb376, 5, none⟩ = some (.int .i64 a0_5) ∧ w'.cell? ⟨gb377, 0, none⟩ = some (.int .i64 a1_0) ∧ w'.cell? ⟨gb377, 1, none⟩ = some (.int .i64 a1_1) ∧ w'.cell? ⟨gb377, 2, none⟩ = some (.int .i64 a1_2) ∧ w'.cell? ⟨gb377, 3, none⟩ = some (.int .i64 a1_3) ∧ w'.cell? ⟨gb377, 4, none⟩ = some (.int .i64 a1_4) ∧ w'.cell? ⟨gb377, 5, none⟩ = some (.int .i64 a1_5) ∧ w'.cell? ⟨gb378, 0, none⟩ = some (.int .i64 a2_0) ∧ w'.cell? ⟨gb378, 1, none⟩ = some (.int .i64 a2_1) ∧ w'.cell? ⟨gb378, 2, none⟩ = some (.int .i64 a2_2) ∧ w'.cell? ⟨gb378, 3, none⟩ = some (.int .i64 a2_3) ∧ w'.cell? ⟨gb378, 4, none⟩ = some (.int .i64 a2_4)) (ds := []) #[false, false, false, false, false, false, false, false, false] (by kernel_rfl) rfl rfl ⟨(blk_cell BK376.out 0).trans rfl, (blk_cell BK376.out 1).trans rfl, (blk_cell BK376.out 2).trans rfl, (blk_cell BK376.out 3).trans rfl, (blk_cell BK376.out 4).trans rfl, (blk_cell BK376.out 5).trans rfl, (blk_cell BK377.out 0).trans rfl, (blk_cell BK377.out 1).trans rfl, (blk_cell BK377.out 2).trans rfl, (blk_cell BK377.out 3).trans rfl, (blk_cell BK377.out 4).trans rfl, (blk_cell BK377.out 5).trans rfl, (blk_cell BK378.out 0).trans rfl, (blk_cell BK378.out 1).trans rfl, (blk_cell BK378.out 2).trans rfl, (blk_cell BK378.out 3).trans rfl, (blk_cell BK378.out 4).trans rfl⟩ (fun hHeld => ?_); refine with_tabW laws_FnExactNatAddr.tab1 laws_FnExactNatAddr.bits1 (fun HT_ HW_ => ?_)
  generalize w16.drew = w17 at BK376 BK377 BK378 HB hHeld ⊢
  refine take_ (i := 0) (N := some 9) (v := ?_) (a' := ?_) #[true, false, false, false, false, false, false, false, false] rfl rfl (take_ofW HT_.out HW_.out (by kernel_rfl)) (fun _ _ _ h => h) (Or.inl ⟨by rfl, ?_⟩) hHeld ?_ ?_
  rotate_left
  ·rintro w' ⟨s0, s1, s2, s3, s4, s5, s6, s7, s8, s9, s10, s11, s12, s13, s14, s15, s16⟩
   go_simp
   with_reducible rfl
  rotate_left
  ·simp only [Act.put, List.setIfInBounds_toArray, List.set_cons_zero, List.set_cons_succ, i64_w, i32_w]
   rfl
  refine take_ (i := 2) (N := some 11) (v := ?_) (a' := ?_) #[true, false, true, false, false, false, false, false, false] rfl rfl (take_ofW HT_.out HW_.out (by kernel_rfl)) (fun _ _ _ h => h) (Or.inl ⟨by rfl, ?_⟩) hHeld ?_ ?_
  rotate_left
  ·rintro w' ⟨s0, s1, s2, s3, s4, s5, s6, s7, s8, s9, s10, s11, s12, s13, s14, s15, s16⟩
   go_simp
   with_reducible rfl
  rotate_left
  ·simp only [Act.put, List.setIfInBounds_toArray, List.set_cons_zero, List.set_cons_succ, i64_w, i32_w]
   rfl
  refine take_ (i := 4) (N := some 13) (v := ?_) (a' := ?_) #[true, false, true, false, true, false, false, false, false] rfl rfl (take_ofW HT_.out HW_.out (by kernel_rfl)) (fun _ _ _ h => h) (Or.inl ⟨by rfl, ?_⟩) hHeld ?_ ?_
  rotate_left
  ·rintro w' ⟨s0, s1, s2, s3, s4, s5, s6, s7, s8, s9, s10, s11, s12, s13, s14, s15, s16⟩
   go_simp
   with_reducible rfl
  rotate_left
  ·simp only [Act.put, List.setIfInBounds_toArray, List.set_cons_zero, List.set_cons_succ, i64_w, i32_w]
   rfl
  refine join_ (σ := Nat) 1 #[true, true, true, true, true, true, true, true, false] (fun s_ => [(10, .agg #[.int .i64 t379, .int .i64 t380, .int .i64 t381, .int .i64 t382, .int .i64 t383, .int .i64 t384]), (12, .agg #[.int .i64 t385, .int .i64 t386, .int .i64 t387, .int .i64 t388, .int .i64 t389, .int .i64 t390]), (14, .agg #[.int .i64 t391, .int .i64 t392, .int .i64 t393, .int .i64 t394, .int .i64 t395]), (15, .agg #[.int .i64 t396, .int .i64 t397, .int .i64 t398, .int .i64 t399, .int .i64 t400]), (7, .pointer (some ⟨s_, 0, none⟩))]) (fun s_ w' => (w'.cell? ⟨gb376, 0, none⟩ = some (.int .i64 a0_0) ∧ w'.cell? ⟨gb376, 1, none⟩ = some (.int .i64 a0_1) ∧ w'.cell? ⟨gb376, 2, none⟩ = some (.int .i64 a0_2) ∧ w'.cell? ⟨gb376, 3, none⟩ = some (.int .i64 a0_3) ∧ w'.cell? ⟨gb376, 4, none⟩ = some (.int .i64 a0_4) ∧ w'.cell? ⟨gb376, 5, none⟩ = some (.int .i64 a0_5) ∧ w'.cell? ⟨gb377, 0, none⟩ = some (.int .i64 a1_0) ∧ w'.cell? ⟨gb377, 1, none⟩ = some (.int .i64 a1_1) ∧ w'.cell? ⟨gb377, 2, none⟩ = some (.int .i64 a1_2) ∧ w'.cell? ⟨gb377, 3, none⟩ = some (.int .i64 a1_3) ∧ w'.cell? ⟨gb377, 4, none⟩ = some (.int .i64 a1_4) ∧ w'.cell? ⟨gb377, 5, none⟩ = some (.int .i64 a1_5) ∧ w'.cell? ⟨gb378, 0, none⟩ = some (.int .i64 a2_0) ∧ w'.cell? ⟨gb378, 1, none⟩ = some (.int .i64 a2_1) ∧ w'.cell? ⟨gb378, 2, none⟩ = some (.int .i64 a2_2) ∧ w'.cell? ⟨gb378, 3, none⟩ = some (.int .i64 a2_3) ∧ w'.cell? ⟨gb378, 4, none⟩ = some (.int .i64 a2_4)) ∧ (w'.heap[gb376]? = some (.cells #[.int .i64 a0_0, .int .i64 a0_1, .int .i64 a0_2, .int .i64 a0_3, .int .i64 a0_4, .int .i64 a0_5] 25 (0, 0))) ∧ (w'.heap[gb377]? = some (.cells #[.int .i64 a1_0, .int .i64 a1_1, .int .i64 a1_2, .int .i64 a1_3, .int .i64 a1_4, .int .i64 a1_5] 25 (0, 0))) ∧ (w'.heap[gb378]? = some (.cells #[.int .i64 a2_0, .int .i64 a2_1, .int .i64 a2_2, .int .i64 a2_3, .int .i64 a2_4] 23 (0, 0))) ∧ (w'.heap[s_]? = some (.cells #[.int .i64 0, .int .i64 0, .int .i64 0, .int .i64 0, .int .i64 0] 26 (0, 0))) ∧ (w.heap.size ≤ s_) ∧ (w.heap.size ≤ s_) ∧ (gb376 ≠ s_) ∧ (s_ ≠ gb376) ∧ (gb377 ≠ s_) ∧ (s_ ≠ gb377) ∧ (gb378 ≠ s_) ∧ (s_ ≠ gb378) ∧ (Below w.heap.size w w')) ?_ ?_
  rotate_left
  ·intro hJ1_3_5_6_7
   refine join_ (σ := Unit) 2 #[true, true, true, true, true, true, true, false, false] (fun s_ => [(10, .agg #[.int .i64 t379, .int .i64 t380, .int .i64 t381, .int .i64 t382, .int .i64 t383, .int .i64 t384]), (12, .agg #[.int .i64 t385, .int .i64 t386, .int .i64 t387, .int .i64 t388, .int .i64 t389, .int .i64 t390]), (14, .agg #[.int .i64 t391, .int .i64 t392, .int .i64 t393, .int .i64 t394, .int .i64 t395]), (15, .agg #[.int .i64 t396, .int .i64 t397, .int .i64 t398, .int .i64 t399, .int .i64 t400])]) (fun s_ w' => (w'.cell? ⟨gb376, 0, none⟩ = some (.int .i64 a0_0) ∧ w'.cell? ⟨gb376, 1, none⟩ = some (.int .i64 a0_1) ∧ w'.cell? ⟨gb376, 2, none⟩ = some (.int .i64 a0_2) ∧ w'.cell? ⟨gb376, 3, none⟩ = some (.int .i64 a0_3) ∧ w'.cell? ⟨gb376, 4, none⟩ = some (.int .i64 a0_4) ∧ w'.cell? ⟨gb376, 5, none⟩ = some (.int .i64 a0_5) ∧ w'.cell? ⟨gb377, 0, none⟩ = some (.int .i64 a1_0) ∧ w'.cell? ⟨gb377, 1, none⟩ = some (.int .i64 a1_1) ∧ w'.cell? ⟨gb377, 2, none⟩ = some (.int .i64 a1_2) ∧ w'.cell? ⟨gb377, 3, none⟩ = some (.int .i64 a1_3) ∧ w'.cell? ⟨gb377, 4, none⟩ = some (.int .i64 a1_4) ∧ w'.cell? ⟨gb377, 5, none⟩ = some (.int .i64 a1_5) ∧ w'.cell? ⟨gb378, 0, none⟩ = some (.int .i64 a2_0) ∧ w'.cell? ⟨gb378, 1, none⟩ = some (.int .i64 a2_1) ∧ w'.cell? ⟨gb378, 2, none⟩ = some (.int .i64 a2_2) ∧ w'.cell? ⟨gb378, 3, none⟩ = some (.int .i64 a2_3) ∧ w'.cell? ⟨gb378, 4, none⟩ = some (.int .i64 a2_4)) ∧ (w'.heap[gb376]? = some (.cells #[.int .i64 a0_0, .int .i64 a0_1, .int .i64 a0_2, .int .i64 a0_3, .int .i64 a0_4, .int .i64 a0_5] 25 (0, 0))) ∧ (w'.heap[gb377]? = some (.cells #[.int .i64 a1_0, .int .i64 a1_1, .int .i64 a1_2, .int .i64 a1_3, .int .i64 a1_4, .int .i64 a1_5] 25 (0, 0))) ∧ (w'.heap[gb378]? = some (.cells #[.int .i64 a2_0, .int .i64 a2_1, .int .i64 a2_2, .int .i64 a2_3, .int .i64 a2_4] 23 (0, 0))) ∧ (Below w.heap.size w w')) ?_ ?_
   rotate_left
   ·intro hJ1_3_5_6
    refine join_ (σ := Nat) 2 #[true, true, true, true, true, true, false, true, false] (fun s_ => [(10, .agg #[.int .i64 t379, .int .i64 t380, .int .i64 t381, .int .i64 t382, .int .i64 t383, .int .i64 t384]), (12, .agg #[.int .i64 t385, .int .i64 t386, .int .i64 t387, .int .i64 t388, .int .i64 t389, .int .i64 t390]), (14, .agg #[.int .i64 t391, .int .i64 t392, .int .i64 t393, .int .i64 t394, .int .i64 t395]), (7, .pointer (some ⟨s_, 0, none⟩))]) (fun s_ w' => (w'.cell? ⟨gb376, 0, none⟩ = some (.int .i64 a0_0) ∧ w'.cell? ⟨gb376, 1, none⟩ = some (.int .i64 a0_1) ∧ w'.cell? ⟨gb376, 2, none⟩ = some (.int .i64 a0_2) ∧ w'.cell? ⟨gb376, 3, none⟩ = some (.int .i64 a0_3) ∧ w'.cell? ⟨gb376, 4, none⟩ = some (.int .i64 a0_4) ∧ w'.cell? ⟨gb376, 5, none⟩ = some (.int .i64 a0_5) ∧ w'.cell? ⟨gb377, 0, none⟩ = some (.int .i64 a1_0) ∧ w'.cell? ⟨gb377, 1, none⟩ = some (.int .i64 a1_1) ∧ w'.cell? ⟨gb377, 2, none⟩ = some (.int .i64 a1_2) ∧ w'.cell? ⟨gb377, 3, none⟩ = some (.int .i64 a1_3) ∧ w'.cell? ⟨gb377, 4, none⟩ = some (.int .i64 a1_4) ∧ w'.cell? ⟨gb377, 5, none⟩ = some (.int .i64 a1_5) ∧ w'.cell? ⟨gb378, 0, none⟩ = some (.int .i64 a2_0) ∧ w'.cell? ⟨gb378, 1, none⟩ = some (.int .i64 a2_1) ∧ w'.cell? ⟨gb378, 2, none⟩ = some (.int .i64 a2_2) ∧ w'.cell? ⟨gb378, 3, none⟩ = some (.int .i64 a2_3) ∧ w'.cell? ⟨gb378, 4, none⟩ = some (.int .i64 a2_4)) ∧ (w'.heap[gb376]? = some (.cells #[.int .i64 a0_0, .int .i64 a0_1, .int .i64 a0_2, .int .i64 a0_3, .int .i64 a0_4, .int .i64 a0_5] 25 (0, 0))) ∧ (w'.heap[gb377]? = some (.cells #[.int .i64 a1_0, .int .i64 a1_1, .int .i64 a1_2, .int .i64 a1_3, .int .i64 a1_4, .int .i64 a1_5] 25 (0, 0))) ∧ (w'.heap[gb378]? = some (.cells #[.int .i64 a2_0, .int .i64 a2_1, .int .i64 a2_2, .int .i64 a2_3, .int .i64 a2_4] 23 (0, 0))) ∧ (w'.heap[s_]? = some (.cells #[.int .i64 0, .int .i64 0, .int .i64 0, .int .i64 0, .int .i64 0] 26 (0, 0))) ∧ (w.heap.size ≤ s_) ∧ (w.heap.size ≤ s_) ∧ (gb376 ≠ s_) ∧ (s_ ≠ gb376) ∧ (gb377 ≠ s_) ∧ (s_ ≠ gb377) ∧ (gb378 ≠ s_) ∧ (s_ ≠ gb378) ∧ (Below w.heap.size w w')) ?_ ?_
    rotate_left
    ·intro hJ1_3_5_7
     refine join_ (σ := Unit) 3 #[true, true, true, true, true, true, false, false, false] (fun s_ => [(10, .agg #[.int .i64 t379, .int .i64 t380, .int .i64 t381, .int .i64 t382, .int .i64 t383, .int .i64 t384]), (12, .agg #[.int .i64 t385, .int .i64 t386, .int .i64 t387, .int .i64 t388, .int .i64 t389, .int .i64 t390]), (14, .agg #[.int .i64 t391, .int .i64 t392, .int .i64 t393, .int .i64 t394, .int .i64 t395])]) (fun s_ w' => (w'.cell? ⟨gb376, 0, none⟩ = some (.int .i64 a0_0) ∧ w'.cell? ⟨gb376, 1, none⟩ = some (.int .i64 a0_1) ∧ w'.cell? ⟨gb376, 2, none⟩ = some (.int .i64 a0_2) ∧ w'.cell? ⟨gb376, 3, none⟩ = some (.int .i64 a0_3) ∧ w'.cell? ⟨gb376, 4, none⟩ = some (.int .i64 a0_4) ∧ w'.cell? ⟨gb376, 5, none⟩ = some (.int .i64 a0_5) ∧ w'.cell? ⟨gb377, 0, none⟩ = some (.int .i64 a1_0) ∧ w'.cell? ⟨gb377, 1, none⟩ = some (.int .i64 a1_1) ∧ w'.cell? ⟨gb377, 2, none⟩ = some (.int .i64 a1_2) ∧ w'.cell? ⟨gb377, 3, none⟩ = some (.int .i64 a1_3) ∧ w'.cell? ⟨gb377, 4, none⟩ = some (.int .i64 a1_4) ∧ w'.cell? ⟨gb377, 5, none⟩ = some (.int .i64 a1_5) ∧ w'.cell? ⟨gb378, 0, none⟩ = some (.int .i64 a2_0) ∧ w'.cell? ⟨gb378, 1, none⟩ = some (.int .i64 a2_1) ∧ w'.cell? ⟨gb378, 2, none⟩ = some (.int .i64 a2_2) ∧ w'.cell? ⟨gb378, 3, none⟩ = some (.int .i64 a2_3) ∧ w'.cell? ⟨gb378, 4, none⟩ = some (.int .i64 a2_4)) ∧ (w'.heap[gb376]? = some (.cells #[.int .i64 a0_0, .int .i64 a0_1, .int .i64 a0_2, .int .i64 a0_3, .int .i64 a0_4, .int .i64 a0_5] 25 (0, 0))) ∧ (w'.heap[gb377]? = some (.cells #[.int .i64 a1_0, .int .i64 a1_1, .int .i64 a1_2, .int .i64 a1_3, .int .i64 a1_4, .int .i64 a1_5] 25 (0, 0))) ∧ (w'.heap[gb378]? = some (.cells #[.int .i64 a2_0, .int .i64 a2_1, .int .i64 a2_2, .int .i64 a2_3, .int .i64 a2_4] 23 (0, 0))) ∧ (Below w.heap.size w w')) ?_ ?_
     rotate_left
     ·intro hJ1_3_5
      refine join_ (σ := Nat) 3 #[true, true, true, true, true, false, false, true, false] (fun s_ => [(10, .agg #[.int .i64 t379, .int .i64 t380, .int .i64 t381, .int .i64 t382, .int .i64 t383, .int .i64 t384]), (12, .agg #[.int .i64 t385, .int .i64 t386, .int .i64 t387, .int .i64 t388, .int .i64 t389, .int .i64 t390]), (7, .pointer (some ⟨s_, 0, none⟩))]) (fun s_ w' => (w'.cell? ⟨gb376, 0, none⟩ = some (.int .i64 a0_0) ∧ w'.cell? ⟨gb376, 1, none⟩ = some (.int .i64 a0_1) ∧ w'.cell? ⟨gb376, 2, none⟩ = some (.int .i64 a0_2) ∧ w'.cell? ⟨gb376, 3, none⟩ = some (.int .i64 a0_3) ∧ w'.cell? ⟨gb376, 4, none⟩ = some (.int .i64 a0_4) ∧ w'.cell? ⟨gb376, 5, none⟩ = some (.int .i64 a0_5) ∧ w'.cell? ⟨gb377, 0, none⟩ = some (.int .i64 a1_0) ∧ w'.cell? ⟨gb377, 1, none⟩ = some (.int .i64 a1_1) ∧ w'.cell? ⟨gb377, 2, none⟩ = some (.int .i64 a1_2) ∧ w'.cell? ⟨gb377, 3, none⟩ = some (.int .i64 a1_3) ∧ w'.cell? ⟨gb377, 4, none⟩ = some (.int .i64 a1_4) ∧ w'.cell? ⟨gb377, 5, none⟩ = some (.int .i64 a1_5) ∧ w'.cell? ⟨gb378, 0, none⟩ = some (.int .i64 a2_0) ∧ w'.cell? ⟨gb378, 1, none⟩ = some (.int .i64 a2_1) ∧ w'.cell? ⟨gb378, 2, none⟩ = some (.int .i64 a2_2) ∧ w'.cell? ⟨gb378, 3, none⟩ = some (.int .i64 a2_3) ∧ w'.cell? ⟨gb378, 4, none⟩ = some (.int .i64 a2_4)) ∧ (w'.heap[gb376]? = some (.cells #[.int .i64 a0_0, .int .i64 a0_1, .int .i64 a0_2, .int .i64 a0_3, .int .i64 a0_4, .int .i64 a0_5] 25 (0, 0))) ∧ (w'.heap[gb377]? = some (.cells #[.int .i64 a1_0, .int .i64 a1_1, .int .i64 a1_2, .int .i64 a1_3, .int .i64 a1_4, .int .i64 a1_5] 25 (0, 0))) ∧ (w'.heap[gb378]? = some (.cells #[.int .i64 a2_0, .int .i64 a2_1, .int .i64 a2_2, .int .i64 a2_3, .int .i64 a2_4] 23 (0, 0))) ∧ (w'.heap[s_]? = some (.cells #[.int .i64 0, .int .i64 0, .int .i64 0, .int .i64 0, .int .i64 0] 26 (0, 0))) ∧ (w.heap.size ≤ s_) ∧ (w.heap.size ≤ s_) ∧ (gb376 ≠ s_) ∧ (s_ ≠ gb376) ∧ (gb377 ≠ s_) ∧ (s_ ≠ gb377) ∧ (gb378 ≠ s_) ∧ (s_ ≠ gb378) ∧ (Below w.heap.size w w')) ?_ ?_
      rotate_left
      ·intro hJ1_3_7
       refine join_ (σ := Unit) 4 #[true, true, true, true, true, false, false, false, false] (fun s_ => [(10, .agg #[.int .i64 t379, .int .i64 t380, .int .i64 t381, .int .i64 t382, .int .i64 t383, .int .i64 t384]), (12, .agg #[.int .i64 t385, .int .i64 t386, .int .i64 t387, .int .i64 t388, .int .i64 t389, .int .i64 t390])]) (fun s_ w' => (w'.cell? ⟨gb376, 0, none⟩ = some (.int .i64 a0_0) ∧ w'.cell? ⟨gb376, 1, none⟩ = some (.int .i64 a0_1) ∧ w'.cell? ⟨gb376, 2, none⟩ = some (.int .i64 a0_2) ∧ w'.cell? ⟨gb376, 3, none⟩ = some (.int .i64 a0_3) ∧ w'.cell? ⟨gb376, 4, none⟩ = some (.int .i64 a0_4) ∧ w'.cell? ⟨gb376, 5, none⟩ = some (.int .i64 a0_5) ∧ w'.cell? ⟨gb377, 0, none⟩ = some (.int .i64 a1_0) ∧ w'.cell? ⟨gb377, 1, none⟩ = some (.int .i64 a1_1) ∧ w'.cell? ⟨gb377, 2, none⟩ = some (.int .i64 a1_2) ∧ w'.cell? ⟨gb377, 3, none⟩ = some (.int .i64 a1_3) ∧ w'.cell? ⟨gb377, 4, none⟩ = some (.int .i64 a1_4) ∧ w'.cell? ⟨gb377, 5, none⟩ = some (.int .i64 a1_5) ∧ w'.cell? ⟨gb378, 0, none⟩ = some (.int .i64 a2_0) ∧ w'.cell? ⟨gb378, 1, none⟩ = some (.int .i64 a2_1) ∧ w'.cell? ⟨gb378, 2, none⟩ = some (.int .i64 a2_2) ∧ w'.cell? ⟨gb378, 3, none⟩ = some (.int .i64 a2_3) ∧ w'.cell? ⟨gb378, 4, none⟩ = some (.int .i64 a2_4)) ∧ (w'.heap[gb376]? = some (.cells #[.int .i64 a0_0, .int .i64 a0_1, .int .i64 a0_2, .int .i64 a0_3, .int .i64 a0_4, .int .i64 a0_5] 25 (0, 0))) ∧ (w'.heap[gb377]? = some (.cells #[.int .i64 a1_0, .int .i64 a1_1, .int .i64 a1_2, .int .i64 a1_3, .int .i64 a1_4, .int .i64 a1_5] 25 (0, 0))) ∧ (w'.heap[gb378]? = some (.cells #[.int .i64 a2_0, .int .i64 a2_1, .int .i64 a2_2, .int .i64 a2_3, .int .i64 a2_4] 23 (0, 0))) ∧ (Below w.heap.size w w')) ?_ ?_
       rotate_left
       ·intro hJ1_3
        refine join_ (σ := Nat) 4 #[true, true, true, false, true, false, false, true, false] (fun s_ => [(10, .agg #[.int .i64 t379, .int .i64 t380, .int .i64 t381, .int .i64 t382, .int .i64 t383, .int .i64 t384]), (7, .pointer (some ⟨s_, 0, none⟩))]) (fun s_ w' => (w'.cell? ⟨gb376, 0, none⟩ = some (.int .i64 a0_0) ∧ w'.cell? ⟨gb376, 1, none⟩ = some (.int .i64 a0_1) ∧ w'.cell? ⟨gb376, 2, none⟩ = some (.int .i64 a0_2) ∧ w'.cell? ⟨gb376, 3, none⟩ = some (.int .i64 a0_3) ∧ w'.cell? ⟨gb376, 4, none⟩ = some (.int .i64 a0_4) ∧ w'.cell? ⟨gb376, 5, none⟩ = some (.int .i64 a0_5) ∧ w'.cell? ⟨gb377, 0, none⟩ = some (.int .i64 a1_0) ∧ w'.cell? ⟨gb377, 1, none⟩ = some (.int .i64 a1_1) ∧ w'.cell? ⟨gb377, 2, none⟩ = some (.int .i64 a1_2) ∧ w'.cell? ⟨gb377, 3, none⟩ = some (.int .i64 a1_3) ∧ w'.cell? ⟨gb377, 4, none⟩ = some (.int .i64 a1_4) ∧ w'.cell? ⟨gb377, 5, none⟩ = some (.int .i64 a1_5) ∧ w'.cell? ⟨gb378, 0, none⟩ = some (.int .i64 a2_0) ∧ w'.cell? ⟨gb378, 1, none⟩ = some (.int .i64 a2_1) ∧ w'.cell? ⟨gb378, 2, none⟩ = some (.int .i64 a2_2) ∧ w'.cell? ⟨gb378, 3, none⟩ = some (.int .i64 a2_3) ∧ w'.cell? ⟨gb378, 4, none⟩ = some (.int .i64 a2_4)) ∧ (w'.heap[gb376]? = some (.cells #[.int .i64 a0_0, .int .i64 a0_1, .int .i64 a0_2, .int .i64 a0_3, .int .i64 a0_4, .int .i64 a0_5] 25 (0, 0))) ∧ (w'.heap[gb377]? = some (.cells #[.int .i64 a1_0, .int .i64 a1_1, .int .i64 a1_2, .int .i64 a1_3, .int .i64 a1_4, .int .i64 a1_5] 25 (0, 0))) ∧ (w'.heap[gb378]? = some (.cells #[.int .i64 a2_0, .int .i64 a2_1, .int .i64 a2_2, .int .i64 a2_3, .int .i64 a2_4] 23 (0, 0))) ∧ (w'.heap[s_]? = some (.cells #[.int .i64 0, .int .i64 0, .int .i64 0, .int .i64 0, .int .i64 0] 26 (0, 0))) ∧ (w.heap.size ≤ s_) ∧ (w.heap.size ≤ s_) ∧ (gb376 ≠ s_) ∧ (s_ ≠ gb376) ∧ (gb377 ≠ s_) ∧ (s_ ≠ gb377) ∧ (gb378 ≠ s_) ∧ (s_ ≠ gb378) ∧ (Below w.heap.size w w')) ?_ ?_
        rotate_left
        ·intro hJ1_7
         refine join_ (σ := Unit) 5 #[true, true, true, false, true, false, false, false, false] (fun s_ => [(10, .agg #[.int .i64 t379, .int .i64 t380, .int .i64 t381, .int .i64 t382, .int .i64 t383, .int .i64 t384])]) (fun s_ w' => (w'.cell? ⟨gb376, 0, none⟩ = some (.int .i64 a0_0) ∧ w'.cell? ⟨gb376, 1, none⟩ = some (.int .i64 a0_1) ∧ w'.cell? ⟨gb376, 2, none⟩ = some (.int .i64 a0_2) ∧ w'.cell? ⟨gb376, 3, none⟩ = some (.int .i64 a0_3) ∧ w'.cell? ⟨gb376, 4, none⟩ = some (.int .i64 a0_4) ∧ w'.cell? ⟨gb376, 5, none⟩ = some (.int .i64 a0_5) ∧ w'.cell? ⟨gb377, 0, none⟩ = some (.int .i64 a1_0) ∧ w'.cell? ⟨gb377, 1, none⟩ = some (.int .i64 a1_1) ∧ w'.cell? ⟨gb377, 2, none⟩ = some (.int .i64 a1_2) ∧ w'.cell? ⟨gb377, 3, none⟩ = some (.int .i64 a1_3) ∧ w'.cell? ⟨gb377, 4, none⟩ = some (.int .i64 a1_4) ∧ w'.cell? ⟨gb377, 5, none⟩ = some (.int .i64 a1_5) ∧ w'.cell? ⟨gb378, 0, none⟩ = some (.int .i64 a2_0) ∧ w'.cell? ⟨gb378, 1, none⟩ = some (.int .i64 a2_1) ∧ w'.cell? ⟨gb378, 2, none⟩ = some (.int .i64 a2_2) ∧ w'.cell? ⟨gb378, 3, none⟩ = some (.int .i64 a2_3) ∧ w'.cell? ⟨gb378, 4, none⟩ = some (.int .i64 a2_4)) ∧ (w'.heap[gb376]? = some (.cells #[.int .i64 a0_0, .int .i64 a0_1, .int .i64 a0_2, .int .i64 a0_3, .int .i64 a0_4, .int .i64 a0_5] 25 (0, 0))) ∧ (w'.heap[gb377]? = some (.cells #[.int .i64 a1_0, .int .i64 a1_1, .int .i64 a1_2, .int .i64 a1_3, .int .i64 a1_4, .int .i64 a1_5] 25 (0, 0))) ∧ (w'.heap[gb378]? = some (.cells #[.int .i64 a2_0, .int .i64 a2_1, .int .i64 a2_2, .int .i64 a2_3, .int .i64 a2_4] 23 (0, 0))) ∧ (Below w.heap.size w w')) ?_ ?_
         rotate_left
         ·intro hJ1
          refine join_ (σ := Nat) 5 #[true, false, true, false, true, false, false, true, false] (fun s_ => [(7, .pointer (some ⟨s_, 0, none⟩))]) (fun s_ w' => (w'.cell? ⟨gb376, 0, none⟩ = some (.int .i64 a0_0) ∧ w'.cell? ⟨gb376, 1, none⟩ = some (.int .i64 a0_1) ∧ w'.cell? ⟨gb376, 2, none⟩ = some (.int .i64 a0_2) ∧ w'.cell? ⟨gb376, 3, none⟩ = some (.int .i64 a0_3) ∧ w'.cell? ⟨gb376, 4, none⟩ = some (.int .i64 a0_4) ∧ w'.cell? ⟨gb376, 5, none⟩ = some (.int .i64 a0_5) ∧ w'.cell? ⟨gb377, 0, none⟩ = some (.int .i64 a1_0) ∧ w'.cell? ⟨gb377, 1, none⟩ = some (.int .i64 a1_1) ∧ w'.cell? ⟨gb377, 2, none⟩ = some (.int .i64 a1_2) ∧ w'.cell? ⟨gb377, 3, none⟩ = some (.int .i64 a1_3) ∧ w'.cell? ⟨gb377, 4, none⟩ = some (.int .i64 a1_4) ∧ w'.cell? ⟨gb377, 5, none⟩ = some (.int .i64 a1_5) ∧ w'.cell? ⟨gb378, 0, none⟩ = some (.int .i64 a2_0) ∧ w'.cell? ⟨gb378, 1, none⟩ = some (.int .i64 a2_1) ∧ w'.cell? ⟨gb378, 2, none⟩ = some (.int .i64 a2_2) ∧ w'.cell? ⟨gb378, 3, none⟩ = some (.int .i64 a2_3) ∧ w'.cell? ⟨gb378, 4, none⟩ = some (.int .i64 a2_4)) ∧ (w'.heap[gb376]? = some (.cells #[.int .i64 a0_0, .int .i64 a0_1, .int .i64 a0_2, .int .i64 a0_3, .int .i64 a0_4, .int .i64 a0_5] 25 (0, 0))) ∧ (w'.heap[gb377]? = some (.cells #[.int .i64 a1_0, .int .i64 a1_1, .int .i64 a1_2, .int .i64 a1_3, .int .i64 a1_4, .int .i64 a1_5] 25 (0, 0))) ∧ (w'.heap[gb378]? = some (.cells #[.int .i64 a2_0, .int .i64 a2_1, .int .i64 a2_2, .int .i64 a2_3, .int .i64 a2_4] 23 (0, 0))) ∧ (w'.heap[s_]? = some (.cells #[.int .i64 0, .int .i64 0, .int .i64 0, .int .i64 0, .int .i64 0] 26 (0, 0))) ∧ (w.heap.size ≤ s_) ∧ (w.heap.size ≤ s_) ∧ (gb376 ≠ s_) ∧ (s_ ≠ gb376) ∧ (gb377 ≠ s_) ∧ (s_ ≠ gb377) ∧ (gb378 ≠ s_) ∧ (s_ ≠ gb378) ∧ (Below w.heap.size w w')) ?_ ?_
          rotate_left
          ·intro hJ7
           refine two_ (i := 1) (j := 7) (Ni := some 10) (Nj := some 7) #[true, true, true, false, true, false, false, false, false] #[true, false, true, false, true, false, false, true, false] rfl rfl rfl rfl (two_of HT_.out (by kernel_rfl)) (by decide) (by decide) (fun K hK => ?_) (fun K hK => ?_)
           ·skip
            refine goes_ Try.func9 (by kernel_rfl) rfl #[.agg #[.int .i64 a0_0, .int .i64 a0_1, .int .i64 a0_2, .int .i64 a0_3, .int .i64 a0_4, .int .i64 a0_5]] (by rfl) rfl rfl (by (try simp only [List.map_toArray, List.map_cons, List.map_nil]); first | done | rfl | (simp only [List.length_drop, List.length_take]; rfl)) ?_
            with_reducible refine (laws_toPrefix.calls a0_0 a0_1 a0_2 a0_3 a0_4 a0_5 t379 t380 t381 t382 t383 t384 _ A4.out).mono ?_
            rintro e w18 ⟨rfl, hb⟩
            refine ⟨_, rfl, ?_⟩
            have n0_ := Gv.a0 (blk_below BK376.out hb)
            have n1_ := Gv.a0 (blk_below BK377.out hb)
            have n2_ := Gv.a0 (blk_below BK378.out hb)
            have n3_ := Gv.a0 (below_step Gv.bw hb)
            clear BK376
            clear BK377
            clear BK378
            clear HB
            have BK376 := n0_
            have BK377 := n1_
            have BK378 := n2_
            have HB := n3_
            clear n0_ n1_ n2_ n3_
            (try clear hb)
            (try clear hb2)
            (try clear hk)
            (try clear hi)
            refine hK.out _ _ ⟨(blk_cell BK376.out 0).trans rfl, (blk_cell BK376.out 1).trans rfl, (blk_cell BK376.out 2).trans rfl, (blk_cell BK376.out 3).trans rfl, (blk_cell BK376.out 4).trans rfl, (blk_cell BK376.out 5).trans rfl, (blk_cell BK377.out 0).trans rfl, (blk_cell BK377.out 1).trans rfl, (blk_cell BK377.out 2).trans rfl, (blk_cell BK377.out 3).trans rfl, (blk_cell BK377.out 4).trans rfl, (blk_cell BK377.out 5).trans rfl, (blk_cell BK378.out 0).trans rfl, (blk_cell BK378.out 1).trans rfl, (blk_cell BK378.out 2).trans rfl, (blk_cell BK378.out 3).trans rfl, (blk_cell BK378.out 4).trans rfl⟩ (fun hHeld => ?_)
            clear hK K
            refine norm_ (a' := ?_) ?_ ?_
            rotate_left
            ·show Act.put _ (some 10) _ = _
             simp only [Act.put, List.setIfInBounds_toArray, List.set_cons_zero, List.set_cons_succ, i64_w, i32_w]
             rfl
            exact Gv.nm (hJ1 () _ ⟨hHeld, Gv.bk, Gv.bk, Gv.bk, Gv.bw⟩)
           ·skip
            refine box_step ?hg (N := 7) ?hd (cs := #[.int .i64 0, .int .i64 0, .int .i64 0, .int .i64 0, .int .i64 0]) (t := 26) ?hr ?_; (case hd => rfl); (case hg => rfl); (case hr => first | (go_simp; done) | (go_simp; rfl))
            intro gb401 hg w18 hbox hb
            have n0_ := Gv.a0 (blk_below BK376.out hb)
            have n1_ := Gv.a0 (blk_below BK377.out hb)
            have n2_ := Gv.a0 (blk_below BK378.out hb)
            have n3_ := Gv.a0 (below_step Gv.bw hb)
            have n4_ := Gv.a0 (hbox)
            have n5_ := Gv.a0 ((by rw [hg]; exact (below_size Gv.bw) : w.heap.size ≤ gb401))
            have n6_ := Gv.a0 ((by rw [hg]; exact (below_size Gv.bw) : w.heap.size ≤ gb401))
            have n7_ := Gv.a0 ((by rw [hg]; exact Nat.ne_of_lt (blk_lt (g := gb376) (o := .cells #[.int .i64 a0_0, .int .i64 a0_1, .int .i64 a0_2, .int .i64 a0_3, .int .i64 a0_4, .int .i64 a0_5] 25 (0, 0)) Gv.bk) : gb376 ≠ gb401))
            have n8_ := Gv.a0 ((by rw [hg]; exact Nat.ne_of_gt (blk_lt (g := gb376) (o := .cells #[.int .i64 a0_0, .int .i64 a0_1, .int .i64 a0_2, .int .i64 a0_3, .int .i64 a0_4, .int .i64 a0_5] 25 (0, 0)) Gv.bk) : gb401 ≠ gb376))
            have n9_ := Gv.a0 ((by rw [hg]; exact Nat.ne_of_lt (blk_lt (g := gb377) (o := .cells #[.int .i64 a1_0, .int .i64 a1_1, .int .i64 a1_2, .int .i64 a1_3, .int .i64 a1_4, .int .i64 a1_5] 25 (0, 0)) Gv.bk) : gb377 ≠ gb401))
            have n10_ := Gv.a0 ((by rw [hg]; exact Nat.ne_of_gt (blk_lt (g := gb377) (o := .cells #[.int .i64 a1_0, .int .i64 a1_1, .int .i64 a1_2, .int .i64 a1_3, .int .i64 a1_4, .int .i64 a1_5] 25 (0, 0)) Gv.bk) : gb401 ≠ gb377))
            have n11_ := Gv.a0 ((by rw [hg]; exact Nat.ne_of_lt (blk_lt (g := gb378) (o := .cells #[.int .i64 a2_0, .int .i64 a2_1, .int .i64 a2_2, .int .i64 a2_3, .int .i64 a2_4] 23 (0, 0)) Gv.bk) : gb378 ≠ gb401))
            have n12_ := Gv.a0 ((by rw [hg]; exact Nat.ne_of_gt (blk_lt (g := gb378) (o := .cells #[.int .i64 a2_0, .int .i64 a2_1, .int .i64 a2_2, .int .i64 a2_3, .int .i64 a2_4] 23 (0, 0)) Gv.bk) : gb401 ≠ gb378))
            clear BK376
            clear BK377
            clear BK378
            clear HB
            have BK376 := n0_
            have BK377 := n1_
            have BK378 := n2_
            have HB := n3_
            have BK401 := n4_
            have GW401 := n5_
            have GE401 := n6_
            have NB376_401 := n7_
            have NB401_376 := n8_
            have NB377_401 := n9_
            have NB401_377 := n10_
            have NB378_401 := n11_
            have NB401_378 := n12_
            clear n0_ n1_ n2_ n3_ n4_ n5_ n6_ n7_ n8_ n9_ n10_ n11_ n12_
            clear hb hbox hg
            refine hK.out _ _ ⟨(blk_cell BK376.out 0).trans rfl, (blk_cell BK376.out 1).trans rfl, (blk_cell BK376.out 2).trans rfl, (blk_cell BK376.out 3).trans rfl, (blk_cell BK376.out 4).trans rfl, (blk_cell BK376.out 5).trans rfl, (blk_cell BK377.out 0).trans rfl, (blk_cell BK377.out 1).trans rfl, (blk_cell BK377.out 2).trans rfl, (blk_cell BK377.out 3).trans rfl, (blk_cell BK377.out 4).trans rfl, (blk_cell BK377.out 5).trans rfl, (blk_cell BK378.out 0).trans rfl, (blk_cell BK378.out 1).trans rfl, (blk_cell BK378.out 2).trans rfl, (blk_cell BK378.out 3).trans rfl, (blk_cell BK378.out 4).trans rfl⟩ (fun hHeld => ?_)
            clear hK K
            refine norm_ (a' := ?_) ?_ ?_
            rotate_left
            ·show Act.put _ (some 7) _ = _
             simp only [Act.put, List.setIfInBounds_toArray, List.set_cons_zero, List.set_cons_succ, i64_w, i32_w]
             rfl
            exact Gv.nm (hJ7 (gb401) _ ⟨hHeld, Gv.bk, Gv.bk, Gv.bk, Gv.bk, GW401.out, GE401.out, NB376_401.out, NB401_376.out, NB377_401.out, NB401_377.out, NB378_401.out, NB401_378.out, Gv.bw⟩)
          ·skip
           rintro gb401 w19 ⟨hS_, h0_, h1_, h2_, h3_, h4_, h5_, h6_, h7_, h8_, h9_, h10_, h11_, h12_⟩
           have n0_ : Aside0 (w19.heap[gb376]? = some (.cells #[.int .i64 a0_0, .int .i64 a0_1, .int .i64 a0_2, .int .i64 a0_3, .int .i64 a0_4, .int .i64 a0_5] 25 (0, 0))) := ⟨h0_⟩
           have n1_ : Aside0 (w19.heap[gb377]? = some (.cells #[.int .i64 a1_0, .int .i64 a1_1, .int .i64 a1_2, .int .i64 a1_3, .int .i64 a1_4, .int .i64 a1_5] 25 (0, 0))) := ⟨h1_⟩
           have n2_ : Aside0 (w19.heap[gb378]? = some (.cells #[.int .i64 a2_0, .int .i64 a2_1, .int .i64 a2_2, .int .i64 a2_3, .int .i64 a2_4] 23 (0, 0))) := ⟨h2_⟩
           have n3_ : Aside0 (w19.heap[gb401]? = some (.cells #[.int .i64 0, .int .i64 0, .int .i64 0, .int .i64 0, .int .i64 0] 26 (0, 0))) := ⟨h3_⟩
           have n4_ : Aside0 (w.heap.size ≤ gb401) := ⟨h4_⟩
           have n5_ : Aside0 (w.heap.size ≤ gb401) := ⟨h5_⟩
           have n6_ : Aside0 (gb376 ≠ gb401) := ⟨h6_⟩
           have n7_ : Aside0 (gb401 ≠ gb376) := ⟨h7_⟩
           have n8_ : Aside0 (gb377 ≠ gb401) := ⟨h8_⟩
           have n9_ : Aside0 (gb401 ≠ gb377) := ⟨h9_⟩
           have n10_ : Aside0 (gb378 ≠ gb401) := ⟨h10_⟩
           have n11_ : Aside0 (gb401 ≠ gb378) := ⟨h11_⟩
           have n12_ : Aside0 (Below w.heap.size w w19) := ⟨h12_⟩
           clear BK376
           clear BK377
           clear BK378
           clear HB
           clear h0_ h1_ h2_ h3_ h4_ h5_ h6_ h7_ h8_ h9_ h10_ h11_ h12_
           have BK376 := n0_
           have BK377 := n1_
           have BK378 := n2_
           have BK401 := n3_
           have GW401 := n4_
           have GE401 := n5_
           have NB376_401 := n6_
           have NB401_376 := n7_
           have NB377_401 := n8_
           have NB401_377 := n9_
           have NB378_401 := n10_
           have NB401_378 := n11_
           have HB := n12_
           clear n0_ n1_ n2_ n3_ n4_ n5_ n6_ n7_ n8_ n9_ n10_ n11_ n12_
           have hHeld : w19.cell? ⟨gb376, 0, none⟩ = some (.int .i64 a0_0) ∧ w19.cell? ⟨gb376, 1, none⟩ = some (.int .i64 a0_1) ∧ w19.cell? ⟨gb376, 2, none⟩ = some (.int .i64 a0_2) ∧ w19.cell? ⟨gb376, 3, none⟩ = some (.int .i64 a0_3) ∧ w19.cell? ⟨gb376, 4, none⟩ = some (.int .i64 a0_4) ∧ w19.cell? ⟨gb376, 5, none⟩ = some (.int .i64 a0_5) ∧ w19.cell? ⟨gb377, 0, none⟩ = some (.int .i64 a1_0) ∧ w19.cell? ⟨gb377, 1, none⟩ = some (.int .i64 a1_1) ∧ w19.cell? ⟨gb377, 2, none⟩ = some (.int .i64 a1_2) ∧ w19.cell? ⟨gb377, 3, none⟩ = some (.int .i64 a1_3) ∧ w19.cell? ⟨gb377, 4, none⟩ = some (.int .i64 a1_4) ∧ w19.cell? ⟨gb377, 5, none⟩ = some (.int .i64 a1_5) ∧ w19.cell? ⟨gb378, 0, none⟩ = some (.int .i64 a2_0) ∧ w19.cell? ⟨gb378, 1, none⟩ = some (.int .i64 a2_1) ∧ w19.cell? ⟨gb378, 2, none⟩ = some (.int .i64 a2_2) ∧ w19.cell? ⟨gb378, 3, none⟩ = some (.int .i64 a2_3) ∧ w19.cell? ⟨gb378, 4, none⟩ = some (.int .i64 a2_4) := hS_
           refine norm_ (a' := ?_) ?_ ?_
           rotate_left
           ·simp only [putAll, Act.put, List.setIfInBounds_toArray, List.set_cons_zero, List.set_cons_succ]
            rfl
           refine one_ (i := 1) (N := some 10) #[true, true, true, false, true, false, false, true, false] rfl rfl (one_of HT_.out (by kernel_rfl)) (by decide) (fun K hK => ?_)
           refine goes_ Try.func9 (by kernel_rfl) rfl #[.agg #[.int .i64 a0_0, .int .i64 a0_1, .int .i64 a0_2, .int .i64 a0_3, .int .i64 a0_4, .int .i64 a0_5]] (by rfl) rfl rfl (by (try simp only [List.map_toArray, List.map_cons, List.map_nil]); first | done | rfl | (simp only [List.length_drop, List.length_take]; rfl)) ?_
           with_reducible refine (laws_toPrefix.calls a0_0 a0_1 a0_2 a0_3 a0_4 a0_5 t379 t380 t381 t382 t383 t384 _ A4.out).mono ?_
           rintro e w20 ⟨rfl, hb⟩
           refine ⟨_, rfl, ?_⟩
           have n0_ := Gv.a0 (blk_below BK376.out hb)
           have n1_ := Gv.a0 (blk_below BK377.out hb)
           have n2_ := Gv.a0 (blk_below BK378.out hb)
           have n3_ := Gv.a0 (blk_below BK401.out hb)
           have n4_ := Gv.a0 (below_step Gv.bw hb)
           clear BK376
           clear BK377
           clear BK378
           clear BK401
           clear HB
           have BK376 := n0_
           have BK377 := n1_
           have BK378 := n2_
           have BK401 := n3_
           have HB := n4_
           clear n0_ n1_ n2_ n3_ n4_
           (try clear hb)
           (try clear hb2)
           (try clear hk)
           (try clear hi)
           refine hK.out _ _ ⟨(blk_cell BK376.out 0).trans rfl, (blk_cell BK376.out 1).trans rfl, (blk_cell BK376.out 2).trans rfl, (blk_cell BK376.out 3).trans rfl, (blk_cell BK376.out 4).trans rfl, (blk_cell BK376.out 5).trans rfl, (blk_cell BK377.out 0).trans rfl, (blk_cell BK377.out 1).trans rfl, (blk_cell BK377.out 2).trans rfl, (blk_cell BK377.out 3).trans rfl, (blk_cell BK377.out 4).trans rfl, (blk_cell BK377.out 5).trans rfl, (blk_cell BK378.out 0).trans rfl, (blk_cell BK378.out 1).trans rfl, (blk_cell BK378.out 2).trans rfl, (blk_cell BK378.out 3).trans rfl, (blk_cell BK378.out 4).trans rfl⟩ (fun hHeld => ?_)
           clear hK K
           refine norm_ (a' := ?_) ?_ ?_
           rotate_left
           ·show Act.put _ (some 10) _ = _
            simp only [Act.put, List.setIfInBounds_toArray, List.set_cons_zero, List.set_cons_succ, i64_w, i32_w]
            rfl
           exact Gv.nm (hJ1_7 (gb401) _ ⟨hHeld, Gv.bk, Gv.bk, Gv.bk, Gv.bk, GW401.out, GE401.out, NB376_401.out, NB401_376.out, NB377_401.out, NB401_377.out, NB378_401.out, NB401_378.out, Gv.bw⟩)
         ·skip
          rintro _ w19 ⟨hS_, h0_, h1_, h2_, h3_⟩
          have n0_ : Aside0 (w19.heap[gb376]? = some (.cells #[.int .i64 a0_0, .int .i64 a0_1, .int .i64 a0_2, .int .i64 a0_3, .int .i64 a0_4, .int .i64 a0_5] 25 (0, 0))) := ⟨h0_⟩
          have n1_ : Aside0 (w19.heap[gb377]? = some (.cells #[.int .i64 a1_0, .int .i64 a1_1, .int .i64 a1_2, .int .i64 a1_3, .int .i64 a1_4, .int .i64 a1_5] 25 (0, 0))) := ⟨h1_⟩
          have n2_ : Aside0 (w19.heap[gb378]? = some (.cells #[.int .i64 a2_0, .int .i64 a2_1, .int .i64 a2_2, .int .i64 a2_3, .int .i64 a2_4] 23 (0, 0))) := ⟨h2_⟩
          have n3_ : Aside0 (Below w.heap.size w w19) := ⟨h3_⟩
          clear BK376
          clear BK377
          clear BK378
          clear HB
          clear h0_ h1_ h2_ h3_
          have BK376 := n0_
          have BK377 := n1_
          have BK378 := n2_
          have HB := n3_
          clear n0_ n1_ n2_ n3_
          have hHeld : w19.cell? ⟨gb376, 0, none⟩ = some (.int .i64 a0_0) ∧ w19.cell? ⟨gb376, 1, none⟩ = some (.int .i64 a0_1) ∧ w19.cell? ⟨gb376, 2, none⟩ = some (.int .i64 a0_2) ∧ w19.cell? ⟨gb376, 3, none⟩ = some (.int .i64 a0_3) ∧ w19.cell? ⟨gb376, 4, none⟩ = some (.int .i64 a0_4) ∧ w19.cell? ⟨gb376, 5, none⟩ = some (.int .i64 a0_5) ∧ w19.cell? ⟨gb377, 0, none⟩ = some (.int .i64 a1_0) ∧ w19.cell? ⟨gb377, 1, none⟩ = some (.int .i64 a1_1) ∧ w19.cell? ⟨gb377, 2, none⟩ = some (.int .i64 a1_2) ∧ w19.cell? ⟨gb377, 3, none⟩ = some (.int .i64 a1_3) ∧ w19.cell? ⟨gb377, 4, none⟩ = some (.int .i64 a1_4) ∧ w19.cell? ⟨gb377, 5, none⟩ = some (.int .i64 a1_5) ∧ w19.cell? ⟨gb378, 0, none⟩ = some (.int .i64 a2_0) ∧ w19.cell? ⟨gb378, 1, none⟩ = some (.int .i64 a2_1) ∧ w19.cell? ⟨gb378, 2, none⟩ = some (.int .i64 a2_2) ∧ w19.cell? ⟨gb378, 3, none⟩ = some (.int .i64 a2_3) ∧ w19.cell? ⟨gb378, 4, none⟩ = some (.int .i64 a2_4) := hS_
          refine norm_ (a' := ?_) ?_ ?_
          rotate_left
          ·simp only [putAll, Act.put, List.setIfInBounds_toArray, List.set_cons_zero, List.set_cons_succ]
           rfl
          refine two_ (i := 3) (j := 7) (Ni := some 12) (Nj := some 7) #[true, true, true, true, true, false, false, false, false] #[true, true, true, false, true, false, false, true, false] rfl rfl rfl rfl (two_of HT_.out (by kernel_rfl)) (by decide) (by decide) (fun K hK => ?_) (fun K hK => ?_)
          ·skip
           refine goes_ Try.func9 (by kernel_rfl) rfl #[.agg #[.int .i64 a1_0, .int .i64 a1_1, .int .i64 a1_2, .int .i64 a1_3, .int .i64 a1_4, .int .i64 a1_5]] (by rfl) rfl rfl (by (try simp only [List.map_toArray, List.map_cons, List.map_nil]); first | done | rfl | (simp only [List.length_drop, List.length_take]; rfl)) ?_
           with_reducible refine (laws_toPrefix.calls a1_0 a1_1 a1_2 a1_3 a1_4 a1_5 t385 t386 t387 t388 t389 t390 _ A5.out).mono ?_
           rintro e w20 ⟨rfl, hb⟩
           refine ⟨_, rfl, ?_⟩
           have n0_ := Gv.a0 (blk_below BK376.out hb)
           have n1_ := Gv.a0 (blk_below BK377.out hb)
           have n2_ := Gv.a0 (blk_below BK378.out hb)
           have n3_ := Gv.a0 (below_step Gv.bw hb)
           clear BK376
           clear BK377
           clear BK378
           clear HB
           have BK376 := n0_
           have BK377 := n1_
           have BK378 := n2_
           have HB := n3_
           clear n0_ n1_ n2_ n3_
           (try clear hb)
           (try clear hb2)
           (try clear hk)
           (try clear hi)
           refine hK.out _ _ ⟨(blk_cell BK376.out 0).trans rfl, (blk_cell BK376.out 1).trans rfl, (blk_cell BK376.out 2).trans rfl, (blk_cell BK376.out 3).trans rfl, (blk_cell BK376.out 4).trans rfl, (blk_cell BK376.out 5).trans rfl, (blk_cell BK377.out 0).trans rfl, (blk_cell BK377.out 1).trans rfl, (blk_cell BK377.out 2).trans rfl, (blk_cell BK377.out 3).trans rfl, (blk_cell BK377.out 4).trans rfl, (blk_cell BK377.out 5).trans rfl, (blk_cell BK378.out 0).trans rfl, (blk_cell BK378.out 1).trans rfl, (blk_cell BK378.out 2).trans rfl, (blk_cell BK378.out 3).trans rfl, (blk_cell BK378.out 4).trans rfl⟩ (fun hHeld => ?_)
           clear hK K
           refine norm_ (a' := ?_) ?_ ?_
           rotate_left
           ·show Act.put _ (some 12) _ = _
            simp only [Act.put, List.setIfInBounds_toArray, List.set_cons_zero, List.set_cons_succ, i64_w, i32_w]
            rfl
           exact Gv.nm (hJ1_3 () _ ⟨hHeld, Gv.bk, Gv.bk, Gv.bk, Gv.bw⟩)
          ·skip
           refine box_step ?hg (N := 7) ?hd (cs := #[.int .i64 0, .int .i64 0, .int .i64 0, .int .i64 0, .int .i64 0]) (t := 26) ?hr ?_; (case hd => rfl); (case hg => rfl); (case hr => first | (go_simp; done) | (go_simp; rfl))
           intro gb401 hg w20 hbox hb
           have n0_ := Gv.a0 (blk_below BK376.out hb)
           have n1_ := Gv.a0 (blk_below BK377.out hb)
           have n2_ := Gv.a0 (blk_below BK378.out hb)
           have n3_ := Gv.a0 (below_step Gv.bw hb)
           have n4_ := Gv.a0 (hbox)
           have n5_ := Gv.a0 ((by rw [hg]; exact (below_size Gv.bw) : w.heap.size ≤ gb401))
           have n6_ := Gv.a0 ((by rw [hg]; exact (below_size Gv.bw) : w.heap.size ≤ gb401))
           have n7_ := Gv.a0 ((by rw [hg]; exact Nat.ne_of_lt (blk_lt (g := gb376) (o := .cells #[.int .i64 a0_0, .int .i64 a0_1, .int .i64 a0_2, .int .i64 a0_3, .int .i64 a0_4, .int .i64 a0_5] 25 (0, 0)) Gv.bk) : gb376 ≠ gb401))
           have n8_ := Gv.a0 ((by rw [hg]; exact Nat.ne_of_gt (blk_lt (g := gb376) (o := .cells #[.int .i64 a0_0, .int .i64 a0_1, .int .i64 a0_2, .int .i64 a0_3, .int .i64 a0_4, .int .i64 a0_5] 25 (0, 0)) Gv.bk) : gb401 ≠ gb376))
           have n9_ := Gv.a0 ((by rw [hg]; exact Nat.ne_of_lt (blk_lt (g := gb377) (o := .cells #[.int .i64 a1_0, .int .i64 a1_1, .int .i64 a1_2, .int .i64 a1_3, .int .i64 a1_4, .int .i64 a1_5] 25 (0, 0)) Gv.bk) : gb377 ≠ gb401))
           have n10_ := Gv.a0 ((by rw [hg]; exact Nat.ne_of_gt (blk_lt (g := gb377) (o := .cells #[.int .i64 a1_0, .int .i64 a1_1, .int .i64 a1_2, .int .i64 a1_3, .int .i64 a1_4, .int .i64 a1_5] 25 (0, 0)) Gv.bk) : gb401 ≠ gb377))
           have n11_ := Gv.a0 ((by rw [hg]; exact Nat.ne_of_lt (blk_lt (g := gb378) (o := .cells #[.int .i64 a2_0, .int .i64 a2_1, .int .i64 a2_2, .int .i64 a2_3, .int .i64 a2_4] 23 (0, 0)) Gv.bk) : gb378 ≠ gb401))
           have n12_ := Gv.a0 ((by rw [hg]; exact Nat.ne_of_gt (blk_lt (g := gb378) (o := .cells #[.int .i64 a2_0, .int .i64 a2_1, .int .i64 a2_2, .int .i64 a2_3, .int .i64 a2_4] 23 (0, 0)) Gv.bk) : gb401 ≠ gb378))
           clear BK376
           clear BK377
           clear BK378
           clear HB
           have BK376 := n0_
           have BK377 := n1_
           have BK378 := n2_
           have HB := n3_
           have BK401 := n4_
           have GW401 := n5_
           have GE401 := n6_
           have NB376_401 := n7_
           have NB401_376 := n8_
           have NB377_401 := n9_
           have NB401_377 := n10_
           have NB378_401 := n11_
           have NB401_378 := n12_
           clear n0_ n1_ n2_ n3_ n4_ n5_ n6_ n7_ n8_ n9_ n10_ n11_ n12_
           clear hb hbox hg
           refine hK.out _ _ ⟨(blk_cell BK376.out 0).trans rfl, (blk_cell BK376.out 1).trans rfl, (blk_cell BK376.out 2).trans rfl, (blk_cell BK376.out 3).trans rfl, (blk_cell BK376.out 4).trans rfl, (blk_cell BK376.out 5).trans rfl, (blk_cell BK377.out 0).trans rfl, (blk_cell BK377.out 1).trans rfl, (blk_cell BK377.out 2).trans rfl, (blk_cell BK377.out 3).trans rfl, (blk_cell BK377.out 4).trans rfl, (blk_cell BK377.out 5).trans rfl, (blk_cell BK378.out 0).trans rfl, (blk_cell BK378.out 1).trans rfl, (blk_cell BK378.out 2).trans rfl, (blk_cell BK378.out 3).trans rfl, (blk_cell BK378.out 4).trans rfl⟩ (fun hHeld => ?_)
           clear hK K
           refine norm_ (a' := ?_) ?_ ?_
           rotate_left
           ·show Act.put _ (some 7) _ = _
            simp only [Act.put, List.setIfInBounds_toArray, List.set_cons_zero, List.set_cons_succ, i64_w, i32_w]
            rfl
           exact Gv.nm (hJ1_7 (gb401) _ ⟨hHeld, Gv.bk, Gv.bk, Gv.bk, Gv.bk, GW401.out, GE401.out, NB376_401.out, NB401_376.out, NB377_401.out, NB401_377.out, NB378_401.out, NB401_378.out, Gv.bw⟩)
        ·skip
         rintro gb401 w20 ⟨hS_, h0_, h1_, h2_, h3_, h4_, h5_, h6_, h7_, h8_, h9_, h10_, h11_, h12_⟩
         have n0_ : Aside0 (w20.heap[gb376]? = some (.cells #[.int .i64 a0_0, .int .i64 a0_1, .int .i64 a0_2, .int .i64 a0_3, .int .i64 a0_4, .int .i64 a0_5] 25 (0, 0))) := ⟨h0_⟩
         have n1_ : Aside0 (w20.heap[gb377]? = some (.cells #[.int .i64 a1_0, .int .i64 a1_1, .int .i64 a1_2, .int .i64 a1_3, .int .i64 a1_4, .int .i64 a1_5] 25 (0, 0))) := ⟨h1_⟩
         have n2_ : Aside0 (w20.heap[gb378]? = some (.cells #[.int .i64 a2_0, .int .i64 a2_1, .int .i64 a2_2, .int .i64 a2_3, .int .i64 a2_4] 23 (0, 0))) := ⟨h2_⟩
         have n3_ : Aside0 (w20.heap[gb401]? = some (.cells #[.int .i64 0, .int .i64 0, .int .i64 0, .int .i64 0, .int .i64 0] 26 (0, 0))) := ⟨h3_⟩
         have n4_ : Aside0 (w.heap.size ≤ gb401) := ⟨h4_⟩
         have n5_ : Aside0 (w.heap.size ≤ gb401) := ⟨h5_⟩
         have n6_ : Aside0 (gb376 ≠ gb401) := ⟨h6_⟩
         have n7_ : Aside0 (gb401 ≠ gb376) := ⟨h7_⟩
         have n8_ : Aside0 (gb377 ≠ gb401) := ⟨h8_⟩
         have n9_ : Aside0 (gb401 ≠ gb377) := ⟨h9_⟩
         have n10_ : Aside0 (gb378 ≠ gb401) := ⟨h10_⟩
         have n11_ : Aside0 (gb401 ≠ gb378) := ⟨h11_⟩
         have n12_ : Aside0 (Below w.heap.size w w20) := ⟨h12_⟩
         clear BK376
         clear BK377
         clear BK378
         clear HB
         clear h0_ h1_ h2_ h3_ h4_ h5_ h6_ h7_ h8_ h9_ h10_ h11_ h12_
         have BK376 := n0_
         have BK377 := n1_
         have BK378 := n2_
         have BK401 := n3_
         have GW401 := n4_
         have GE401 := n5_
         have NB376_401 := n6_
         have NB401_376 := n7_
         have NB377_401 := n8_
         have NB401_377 := n9_
         have NB378_401 := n10_
         have NB401_378 := n11_
         have HB := n12_
         clear n0_ n1_ n2_ n3_ n4_ n5_ n6_ n7_ n8_ n9_ n10_ n11_ n12_
         have hHeld : w20.cell? ⟨gb376, 0, none⟩ = some (.int .i64 a0_0) ∧ w20.cell? ⟨gb376, 1, none⟩ = some (.int .i64 a0_1) ∧ w20.cell? ⟨gb376, 2, none⟩ = some (.int .i64 a0_2) ∧ w20.cell? ⟨gb376, 3, none⟩ = some (.int .i64 a0_3) ∧ w20.cell? ⟨gb376, 4, none⟩ = some (.int .i64 a0_4) ∧ w20.cell? ⟨gb376, 5, none⟩ = some (.int .i64 a0_5) ∧ w20.cell? ⟨gb377, 0, none⟩ = some (.int .i64 a1_0) ∧ w20.cell? ⟨gb377, 1, none⟩ = some (.int .i64 a1_1) ∧ w20.cell? ⟨gb377, 2, none⟩ = some (.int .i64 a1_2) ∧ w20.cell? ⟨gb377, 3, none⟩ = some (.int .i64 a1_3) ∧ w20.cell? ⟨gb377, 4, none⟩ = some (.int .i64 a1_4) ∧ w20.cell? ⟨gb377, 5, none⟩ = some (.int .i64 a1_5) ∧ w20.cell? ⟨gb378, 0, none⟩ = some (.int .i64 a2_0) ∧ w20.cell? ⟨gb378, 1, none⟩ = some (.int .i64 a2_1) ∧ w20.cell? ⟨gb378, 2, none⟩ = some (.int .i64 a2_2) ∧ w20.cell? ⟨gb378, 3, none⟩ = some (.int .i64 a2_3) ∧ w20.cell? ⟨gb378, 4, none⟩ = some (.int .i64 a2_4) := hS_
         refine norm_ (a' := ?_) ?_ ?_
         rotate_left
         ·simp only [putAll, Act.put, List.setIfInBounds_toArray, List.set_cons_zero, List.set_cons_succ]
          rfl
         refine one_ (i := 3) (N := some 12) #[true, true, true, true, true, false, false, true, false] rfl rfl (one_of HT_.out (by kernel_rfl)) (by decide) (fun K hK => ?_)
         refine goes_ Try.func9 (by kernel_rfl) rfl #[.agg #[.int .i64 a1_0, .int .i64 a1_1, .int .i64 a1_2, .int .i64 a1_3, .int .i64 a1_4, .int .i64 a1_5]] (by rfl) rfl rfl (by (try simp only [List.map_toArray, List.map_cons, List.map_nil]); first | done | rfl | (simp only [List.length_drop, List.length_take]; rfl)) ?_
         with_reducible refine (laws_toPrefix.calls a1_0 a1_1 a1_2 a1_3 a1_4 a1_5 t385 t386 t387 t388 t389 t390 _ A5.out).mono ?_
         rintro e w21 ⟨rfl, hb⟩
         refine ⟨_, rfl, ?_⟩
         have n0_ := Gv.a0 (blk_below BK376.out hb)
         have n1_ := Gv.a0 (blk_below BK377.out hb)
         have n2_ := Gv.a0 (blk_below BK378.out hb)
         have n3_ := Gv.a0 (blk_below BK401.out hb)
         have n4_ := Gv.a0 (below_step Gv.bw hb)
         clear BK376
         clear BK377
         clear BK378
         clear BK401
         clear HB
         have BK376 := n0_
         have BK377 := n1_
         have BK378 := n2_
         have BK401 := n3_
         have HB := n4_
         clear n0_ n1_ n2_ n3_ n4_
         (try clear hb)
         (try clear hb2)
         (try clear hk)
         (try clear hi)
         refine hK.out _ _ ⟨(blk_cell BK376.out 0).trans rfl, (blk_cell BK376.out 1).trans rfl, (blk_cell BK376.out 2).trans rfl, (blk_cell BK376.out 3).trans rfl, (blk_cell BK376.out 4).trans rfl, (blk_cell BK376.out 5).trans rfl, (blk_cell BK377.out 0).trans rfl, (blk_cell BK377.out 1).trans rfl, (blk_cell BK377.out 2).trans rfl, (blk_cell BK377.out 3).trans rfl, (blk_cell BK377.out 4).trans rfl, (blk_cell BK377.out 5).trans rfl, (blk_cell BK378.out 0).trans rfl, (blk_cell BK378.out 1).trans rfl, (blk_cell BK378.out 2).trans rfl, (blk_cell BK378.out 3).trans rfl, (blk_cell BK378.out 4).trans rfl⟩ (fun hHeld => ?_)
         clear hK K
         refine norm_ (a' := ?_) ?_ ?_
         rotate_left
         ·show Act.put _ (some 12) _ = _
          simp only [Act.put, List.setIfInBounds_toArray, List.set_cons_zero, List.set_cons_succ, i64_w, i32_w]
          rfl
         exact Gv.nm (hJ1_3_7 (gb401) _ ⟨hHeld, Gv.bk, Gv.bk, Gv.bk, Gv.bk, GW401.out, GE401.out, NB376_401.out, NB401_376.out, NB377_401.out, NB401_377.out, NB378_401.out, NB401_378.out, Gv.bw⟩)
       ·skip
        rintro _ w20 ⟨hS_, h0_, h1_, h2_, h3_⟩
        have n0_ : Aside0 (w20.heap[gb376]? = some (.cells #[.int .i64 a0_0, .int .i64 a0_1, .int .i64 a0_2, .int .i64 a0_3, .int .i64 a0_4, .int .i64 a0_5] 25 (0, 0))) := ⟨h0_⟩
        have n1_ : Aside0 (w20.heap[gb377]? = some (.cells #[.int .i64 a1_0, .int .i64 a1_1, .int .i64 a1_2, .int .i64 a1_3, .int .i64 a1_4, .int .i64 a1_5] 25 (0, 0))) := ⟨h1_⟩
        have n2_ : Aside0 (w20.heap[gb378]? = some (.cells #[.int .i64 a2_0, .int .i64 a2_1, .int .i64 a2_2, .int .i64 a2_3, .int .i64 a2_4] 23 (0, 0))) := ⟨h2_⟩
        have n3_ : Aside0 (Below w.heap.size w w20) := ⟨h3_⟩
        clear BK376
        clear BK377
        clear BK378
        clear HB
        clear h0_ h1_ h2_ h3_
        have BK376 := n0_
        have BK377 := n1_
        have BK378 := n2_
        have HB := n3_
        clear n0_ n1_ n2_ n3_
        have hHeld : w20.cell? ⟨gb376, 0, none⟩ = some (.int .i64 a0_0) ∧ w20.cell? ⟨gb376, 1, none⟩ = some (.int .i64 a0_1) ∧ w20.cell? ⟨gb376, 2, none⟩ = some (.int .i64 a0_2) ∧ w20.cell? ⟨gb376, 3, none⟩ = some (.int .i64 a0_3) ∧ w20.cell? ⟨gb376, 4, none⟩ = some (.int .i64 a0_4) ∧ w20.cell? ⟨gb376, 5, none⟩ = some (.int .i64 a0_5) ∧ w20.cell? ⟨gb377, 0, none⟩ = some (.int .i64 a1_0) ∧ w20.cell? ⟨gb377, 1, none⟩ = some (.int .i64 a1_1) ∧ w20.cell? ⟨gb377, 2, none⟩ = some (.int .i64 a1_2) ∧ w20.cell? ⟨gb377, 3, none⟩ = some (.int .i64 a1_3) ∧ w20.cell? ⟨gb377, 4, none⟩ = some (.int .i64 a1_4) ∧ w20.cell? ⟨gb377, 5, none⟩ = some (.int .i64 a1_5) ∧ w20.cell? ⟨gb378, 0, none⟩ = some (.int .i64 a2_0) ∧ w20.cell? ⟨gb378, 1, none⟩ = some (.int .i64 a2_1) ∧ w20.cell? ⟨gb378, 2, none⟩ = some (.int .i64 a2_2) ∧ w20.cell? ⟨gb378, 3, none⟩ = some (.int .i64 a2_3) ∧ w20.cell? ⟨gb378, 4, none⟩ = some (.int .i64 a2_4) := hS_
        refine norm_ (a' := ?_) ?_ ?_
        rotate_left
        ·simp only [putAll, Act.put, List.setIfInBounds_toArray, List.set_cons_zero, List.set_cons_succ]
         rfl
        refine two_ (i := 5) (j := 7) (Ni := some 14) (Nj := some 7) #[true, true, true, true, true, true, false, false, false] #[true, true, true, true, true, false, false, true, false] rfl rfl rfl rfl (two_of HT_.out (by kernel_rfl)) (by decide) (by decide) (fun K hK => ?_) (fun K hK => ?_)
        ·skip
         refine goes_ Try.func10 (by kernel_rfl) rfl #[.agg #[.int .i64 a2_0, .int .i64 a2_1, .int .i64 a2_2, .int .i64 a2_3, .int .i64 a2_4]] (by rfl) rfl rfl (by (try simp only [List.map_toArray, List.map_cons, List.map_nil]); first | done | rfl | (simp only [List.length_drop, List.length_take]; rfl)) ?_
         with_reducible refine (laws_toAddr.calls a2_0 a2_1 a2_2 a2_3 a2_4 t391 t392 t393 t394 t395 _ A6.out).mono ?_
         rintro e w21 ⟨rfl, hb⟩
         refine ⟨_, rfl, ?_⟩
         have n0_ := Gv.a0 (blk_below BK376.out hb)
         have n1_ := Gv.a0 (blk_below BK377.out hb)
         have n2_ := Gv.a0 (blk_below BK378.out hb)
         have n3_ := Gv.a0 (below_step Gv.bw hb)
         clear BK376
         clear BK377
         clear BK378
         clear HB
         have BK376 := n0_
         have BK377 := n1_
         have BK378 := n2_
         have HB := n3_
         clear n0_ n1_ n2_ n3_
         (try clear hb)
         (try clear hb2)
         (try clear hk)
         (try clear hi)
         refine hK.out _ _ ⟨(blk_cell BK376.out 0).trans rfl, (blk_cell BK376.out 1).trans rfl, (blk_cell BK376.out 2).trans rfl, (blk_cell BK376.out 3).trans rfl, (blk_cell BK376.out 4).trans rfl, (blk_cell BK376.out 5).trans rfl, (blk_cell BK377.out 0).trans rfl, (blk_cell BK377.out 1).trans rfl, (blk_cell BK377.out 2).trans rfl, (blk_cell BK377.out 3).trans rfl, (blk_cell BK377.out 4).trans rfl, (blk_cell BK377.out 5).trans rfl, (blk_cell BK378.out 0).trans rfl, (blk_cell BK378.out 1).trans rfl, (blk_cell BK378.out 2).trans rfl, (blk_cell BK378.out 3).trans rfl, (blk_cell BK378.out 4).trans rfl⟩ (fun hHeld => ?_)
         clear hK K
         refine norm_ (a' := ?_) ?_ ?_
         rotate_left
         ·show Act.put _ (some 14) _ = _
          simp only [Act.put, List.setIfInBounds_toArray, List.set_cons_zero, List.set_cons_succ, i64_w, i32_w]
          rfl
         exact Gv.nm (hJ1_3_5 () _ ⟨hHeld, Gv.bk, Gv.bk, Gv.bk, Gv.bw⟩)
        ·skip
         refine box_step ?hg (N := 7) ?hd (cs := #[.int .i64 0, .int .i64 0, .int .i64 0, .int .i64 0, .int .i64 0]) (t := 26) ?hr ?_; (case hd => rfl); (case hg => rfl); (case hr => first | (go_simp; done) | (go_simp; rfl))
         intro gb401 hg w21 hbox hb
         have n0_ := Gv.a0 (blk_below BK376.out hb)
         have n1_ := Gv.a0 (blk_below BK377.out hb)
         have n2_ := Gv.a0 (blk_below BK378.out hb)
         have n3_ := Gv.a0 (below_step Gv.bw hb)
         have n4_ := Gv.a0 (hbox)
         have n5_ := Gv.a0 ((by rw [hg]; exact (below_size Gv.bw) : w.heap.size ≤ gb401))
         have n6_ := Gv.a0 ((by rw [hg]; exact (below_size Gv.bw) : w.heap.size ≤ gb401))
         have n7_ := Gv.a0 ((by rw [hg]; exact Nat.ne_of_lt (blk_lt (g := gb376) (o := .cells #[.int .i64 a0_0, .int .i64 a0_1, .int .i64 a0_2, .int .i64 a0_3, .int .i64 a0_4, .int .i64 a0_5] 25 (0, 0)) Gv.bk) : gb376 ≠ gb401))
         have n8_ := Gv.a0 ((by rw [hg]; exact Nat.ne_of_gt (blk_lt (g := gb376) (o := .cells #[.int .i64 a0_0, .int .i64 a0_1, .int .i64 a0_2, .int .i64 a0_3, .int .i64 a0_4, .int .i64 a0_5] 25 (0, 0)) Gv.bk) : gb401 ≠ gb376))
         have n9_ := Gv.a0 ((by rw [hg]; exact Nat.ne_of_lt (blk_lt (g := gb377) (o := .cells #[.int .i64 a1_0, .int .i64 a1_1, .int .i64 a1_2, .int .i64 a1_3, .int .i64 a1_4, .int .i64 a1_5] 25 (0, 0)) Gv.bk) : gb377 ≠ gb401))
         have n10_ := Gv.a0 ((by rw [hg]; exact Nat.ne_of_gt (blk_lt (g := gb377) (o := .cells #[.int .i64 a1_0, .int .i64 a1_1, .int .i64 a1_2, .int .i64 a1_3, .int .i64 a1_4, .int .i64 a1_5] 25 (0, 0)) Gv.bk) : gb401 ≠ gb377))
         have n11_ := Gv.a0 ((by rw [hg]; exact Nat.ne_of_lt (blk_lt (g := gb378) (o := .cells #[.int .i64 a2_0, .int .i64 a2_1, .int .i64 a2_2, .int .i64 a2_3, .int .i64 a2_4] 23 (0, 0)) Gv.bk) : gb378 ≠ gb401))
         have n12_ := Gv.a0 ((by rw [hg]; exact Nat.ne_of_gt (blk_lt (g := gb378) (o := .cells #[.int .i64 a2_0, .int .i64 a2_1, .int .i64 a2_2, .int .i64 a2_3, .int .i64 a2_4] 23 (0, 0)) Gv.bk) : gb401 ≠ gb378))
         clear BK376
         clear BK377
         clear BK378
         clear HB
         have BK376 := n0_
         have BK377 := n1_
         have BK378 := n2_
         have HB := n3_
         have BK401 := n4_
         have GW401 := n5_
         have GE401 := n6_
         have NB376_401 := n7_
         have NB401_376 := n8_
         have NB377_401 := n9_
         have NB401_377 := n10_
         have NB378_401 := n11_
         have NB401_378 := n12_
         clear n0_ n1_ n2_ n3_ n4_ n5_ n6_ n7_ n8_ n9_ n10_ n11_ n12_
         clear hb hbox hg
         refine hK.out _ _ ⟨(blk_cell BK376.out 0).trans rfl, (blk_cell BK376.out 1).trans rfl, (blk_cell BK376.out 2).trans rfl, (blk_cell BK376.out 3).trans rfl, (blk_cell BK376.out 4).trans rfl, (blk_cell BK376.out 5).trans rfl, (blk_cell BK377.out 0).trans rfl, (blk_cell BK377.out 1).trans rfl, (blk_cell BK377.out 2).trans rfl, (blk_cell BK377.out 3).trans rfl, (blk_cell BK377.out 4).trans rfl, (blk_cell BK377.out 5).trans rfl, (blk_cell BK378.out 0).trans rfl, (blk_cell BK378.out 1).trans rfl, (blk_cell BK378.out 2).trans rfl, (blk_cell BK378.out 3).trans rfl, (blk_cell BK378.out 4).trans rfl⟩ (fun hHeld => ?_)
         clear hK K
         refine norm_ (a' := ?_) ?_ ?_
         rotate_left
         ·show Act.put _ (some 7) _ = _
          simp only [Act.put, List.setIfInBounds_toArray, List.set_cons_zero, List.set_cons_succ, i64_w, i32_w]
          rfl
         exact Gv.nm (hJ1_3_7 (gb401) _ ⟨hHeld, Gv.bk, Gv.bk, Gv.bk, Gv.bk, GW401.out, GE401.out, NB376_401.out, NB401_376.out, NB377_401.out, NB401_377.out, NB378_401.out, NB401_378.out, Gv.bw⟩)
      ·skip
       rintro gb401 w21 ⟨hS_, h0_, h1_, h2_, h3_, h4_, h5_, h6_, h7_, h8_, h9_, h10_, h11_, h12_⟩
       have n0_ : Aside0 (w21.heap[gb376]? = some (.cells #[.int .i64 a0_0, .int .i64 a0_1, .int .i64 a0_2, .int .i64 a0_3, .int .i64 a0_4, .int .i64 a0_5] 25 (0, 0))) := ⟨h0_⟩
       have n1_ : Aside0 (w21.heap[gb377]? = some (.cells #[.int .i64 a1_0, .int .i64 a1_1, .int .i64 a1_2, .int .i64 a1_3, .int .i64 a1_4, .int .i64 a1_5] 25 (0, 0))) := ⟨h1_⟩
       have n2_ : Aside0 (w21.heap[gb378]? = some (.cells #[.int .i64 a2_0, .int .i64 a2_1, .int .i64 a2_2, .int .i64 a2_3, .int .i64 a2_4] 23 (0, 0))) := ⟨h2_⟩
       have n3_ : Aside0 (w21.heap[gb401]? = some (.cells #[.int .i64 0, .int .i64 0, .int .i64 0, .int .i64 0, .int .i64 0] 26 (0, 0))) := ⟨h3_⟩
       have n4_ : Aside0 (w.heap.size ≤ gb401) := ⟨h4_⟩
       have n5_ : Aside0 (w.heap.size ≤ gb401) := ⟨h5_⟩
       have n6_ : Aside0 (gb376 ≠ gb401) := ⟨h6_⟩
       have n7_ : Aside0 (gb401 ≠ gb376) := ⟨h7_⟩
       have n8_ : Aside0 (gb377 ≠ gb401) := ⟨h8_⟩
       have n9_ : Aside0 (gb401 ≠ gb377) := ⟨h9_⟩
       have n10_ : Aside0 (gb378 ≠ gb401) := ⟨h10_⟩
       have n11_ : Aside0 (gb401 ≠ gb378) := ⟨h11_⟩
       have n12_ : Aside0 (Below w.heap.size w w21) := ⟨h12_⟩
       clear BK376
       clear BK377
       clear BK378
       clear HB
       clear h0_ h1_ h2_ h3_ h4_ h5_ h6_ h7_ h8_ h9_ h10_ h11_ h12_
       have BK376 := n0_
       have BK377 := n1_
       have BK378 := n2_
       have BK401 := n3_
       have GW401 := n4_
       have GE401 := n5_
       have NB376_401 := n6_
       have NB401_376 := n7_
       have NB377_401 := n8_
       have NB401_377 := n9_
       have NB378_401 := n10_
       have NB401_378 := n11_
       have HB := n12_
       clear n0_ n1_ n2_ n3_ n4_ n5_ n6_ n7_ n8_ n9_ n10_ n11_ n12_
       have hHeld : w21.cell? ⟨gb376, 0, none⟩ = some (.int .i64 a0_0) ∧ w21.cell? ⟨gb376, 1, none⟩ = some (.int .i64 a0_1) ∧ w21.cell? ⟨gb376, 2, none⟩ = some (.int .i64 a0_2) ∧ w21.cell? ⟨gb376, 3, none⟩ = some (.int .i64 a0_3) ∧ w21.cell? ⟨gb376, 4, none⟩ = some (.int .i64 a0_4) ∧ w21.cell? ⟨gb376, 5, none⟩ = some (.int .i64 a0_5) ∧ w21.cell? ⟨gb377, 0, none⟩ = some (.int .i64 a1_0) ∧ w21.cell? ⟨gb377, 1, none⟩ = some (.int .i64 a1_1) ∧ w21.cell? ⟨gb377, 2, none⟩ = some (.int .i64 a1_2) ∧ w21.cell? ⟨gb377, 3, none⟩ = some (.int .i64 a1_3) ∧ w21.cell? ⟨gb377, 4, none⟩ = some (.int .i64 a1_4) ∧ w21.cell? ⟨gb377, 5, none⟩ = some (.int .i64 a1_5) ∧ w21.cell? ⟨gb378, 0, none⟩ = some (.int .i64 a2_0) ∧ w21.cell? ⟨gb378, 1, none⟩ = some (.int .i64 a2_1) ∧ w21.cell? ⟨gb378, 2, none⟩ = some (.int .i64 a2_2) ∧ w21.cell? ⟨gb378, 3, none⟩ = some (.int .i64 a2_3) ∧ w21.cell? ⟨gb378, 4, none⟩ = some (.int .i64 a2_4) := hS_
       refine norm_ (a' := ?_) ?_ ?_
       rotate_left
       ·simp only [putAll, Act.put, List.setIfInBounds_toArray, List.set_cons_zero, List.set_cons_succ]
        rfl
       refine one_ (i := 5) (N := some 14) #[true, true, true, true, true, true, false, true, false] rfl rfl (one_of HT_.out (by kernel_rfl)) (by decide) (fun K hK => ?_)
       refine goes_ Try.func10 (by kernel_rfl) rfl #[.agg #[.int .i64 a2_0, .int .i64 a2_1, .int .i64 a2_2, .int .i64 a2_3, .int .i64 a2_4]] (by rfl) rfl rfl (by (try simp only [List.map_toArray, List.map_cons, List.map_nil]); first | done | rfl | (simp only [List.length_drop, List.length_take]; rfl)) ?_
       with_reducible refine (laws_toAddr.calls a2_0 a2_1 a2_2 a2_3 a2_4 t391 t392 t393 t394 t395 _ A6.out).mono ?_
       rintro e w22 ⟨rfl, hb⟩
       refine ⟨_, rfl, ?_⟩
       have n0_ := Gv.a0 (blk_below BK376.out hb)
       have n1_ := Gv.a0 (blk_below BK377.out hb)
       have n2_ := Gv.a0 (blk_below BK378.out hb)
       have n3_ := Gv.a0 (blk_below BK401.out hb)
       have n4_ := Gv.a0 (below_step Gv.bw hb)
       clear BK376
       clear BK377
       clear BK378
       clear BK401
       clear HB
       have BK376 := n0_
       have BK377 := n1_
       have BK378 := n2_
       have BK401 := n3_
       have HB := n4_
       clear n0_ n1_ n2_ n3_ n4_
       (try clear hb)
       (try clear hb2)
       (try clear hk)
       (try clear hi)
       refine hK.out _ _ ⟨(blk_cell BK376.out 0).trans rfl, (blk_cell BK376.out 1).trans rfl, (blk_cell BK376.out 2).trans rfl, (blk_cell BK376.out 3).trans rfl, (blk_cell BK376.out 4).trans rfl, (blk_cell BK376.out 5).trans rfl, (blk_cell BK377.out 0).trans rfl, (blk_cell BK377.out 1).trans rfl, (blk_cell BK377.out 2).trans rfl, (blk_cell BK377.out 3).trans rfl, (blk_cell BK377.out 4).trans rfl, (blk_cell BK377.out 5).trans rfl, (blk_cell BK378.out 0).trans rfl, (blk_cell BK378.out 1).trans rfl, (blk_cell BK378.out 2).trans rfl, (blk_cell BK378.out 3).trans rfl, (blk_cell BK378.out 4).trans rfl⟩ (fun hHeld => ?_)
       clear hK K
       refine norm_ (a' := ?_) ?_ ?_
       rotate_left
       ·show Act.put _ (some 14) _ = _
        simp only [Act.put, List.setIfInBounds_toArray, List.set_cons_zero, List.set_cons_succ, i64_w, i32_w]
        rfl
       exact Gv.nm (hJ1_3_5_7 (gb401) _ ⟨hHeld, Gv.bk, Gv.bk, Gv.bk, Gv.bk, GW401.out, GE401.out, NB376_401.out, NB401_376.out, NB377_401.out, NB401_377.out, NB378_401.out, NB401_378.out, Gv.bw⟩)
     ·skip
      rintro _ w21 ⟨hS_, h0_, h1_, h2_, h3_⟩
      have n0_ : Aside0 (w21.heap[gb376]? = some (.cells #[.int .i64 a0_0, .int .i64 a0_1, .int .i64 a0_2, .int .i64 a0_3, .int .i64 a0_4, .int .i64 a0_5] 25 (0, 0))) := ⟨h0_⟩
      have n1_ : Aside0 (w21.heap[gb377]? = some (.cells #[.int .i64 a1_0, .int .i64 a1_1, .int .i64 a1_2, .int .i64 a1_3, .int .i64 a1_4, .int .i64 a1_5] 25 (0, 0))) := ⟨h1_⟩
      have n2_ : Aside0 (w21.heap[gb378]? = some (.cells #[.int .i64 a2_0, .int .i64 a2_1, .int .i64 a2_2, .int .i64 a2_3, .int .i64 a2_4] 23 (0, 0))) := ⟨h2_⟩
      have n3_ : Aside0 (Below w.heap.size w w21) := ⟨h3_⟩
      clear BK376
      clear BK377
      clear BK378
      clear HB
      clear h0_ h1_ h2_ h3_
      have BK376 := n0_
      have BK377 := n1_
      have BK378 := n2_
      have HB := n3_
      clear n0_ n1_ n2_ n3_
      have hHeld : w21.cell? ⟨gb376, 0, none⟩ = some (.int .i64 a0_0) ∧ w21.cell? ⟨gb376, 1, none⟩ = some (.int .i64 a0_1) ∧ w21.cell? ⟨gb376, 2, none⟩ = some (.int .i64 a0_2) ∧ w21.cell? ⟨gb376, 3, none⟩ = some (.int .i64 a0_3) ∧ w21.cell? ⟨gb376, 4, none⟩ = some (.int .i64 a0_4) ∧ w21.cell? ⟨gb376, 5, none⟩ = some (.int .i64 a0_5) ∧ w21.cell? ⟨gb377, 0, none⟩ = some (.int .i64 a1_0) ∧ w21.cell? ⟨gb377, 1, none⟩ = some (.int .i64 a1_1) ∧ w21.cell? ⟨gb377, 2, none⟩ = some (.int .i64 a1_2) ∧ w21.cell? ⟨gb377, 3, none⟩ = some (.int .i64 a1_3) ∧ w21.cell? ⟨gb377, 4, none⟩ = some (.int .i64 a1_4) ∧ w21.cell? ⟨gb377, 5, none⟩ = some (.int .i64 a1_5) ∧ w21.cell? ⟨gb378, 0, none⟩ = some (.int .i64 a2_0) ∧ w21.cell? ⟨gb378, 1, none⟩ = some (.int .i64 a2_1) ∧ w21.cell? ⟨gb378, 2, none⟩ = some (.int .i64 a2_2) ∧ w21.cell? ⟨gb378, 3, none⟩ = some (.int .i64 a2_3) ∧ w21.cell? ⟨gb378, 4, none⟩ = some (.int .i64 a2_4) := hS_
      refine norm_ (a' := ?_) ?_ ?_
      rotate_left
      ·simp only [putAll, Act.put, List.setIfInBounds_toArray, List.set_cons_zero, List.set_cons_succ]
       rfl
      refine two_ (i := 6) (j := 7) (Ni := some 15) (Nj := some 7) #[true, true, true, true, true, true, true, false, false] #[true, true, true, true, true, true, false, true, false] rfl rfl rfl rfl (two_of HT_.out (by kernel_rfl)) (by decide) (by decide) (fun K hK => ?_) (fun K hK => ?_)
      ·skip
       refine goes_ Try.func8 (by kernel_rfl) rfl #[.agg #[.int .i64 t379, .int .i64 t380, .int .i64 t381, .int .i64 t382, .int .i64 t383, .int .i64 t384], .agg #[.int .i64 t385, .int .i64 t386, .int .i64 t387, .int .i64 t388, .int .i64 t389, .int .i64 t390], .agg #[.int .i64 t391, .int .i64 t392, .int .i64 t393, .int .i64 t394, .int .i64 t395]] (by rfl) rfl rfl (by (try simp only [List.map_toArray, List.map_cons, List.map_nil]); first | done | rfl | (simp only [List.length_drop, List.length_take]; rfl)) ?_
       with_reducible refine (spec_NatAddr.calls k t379 t380 t381 t382 t383 t384 t385 t386 t387 t388 t389 t390 t391 t392 t393 t394 t395 t396 t397 t398 t399 t400 _ A7.out).mono ?_
       rintro e w22 ⟨rfl, hb⟩
       refine ⟨_, rfl, ?_⟩
       have n0_ := Gv.a0 (blk_below BK376.out hb)
       have n1_ := Gv.a0 (blk_below BK377.out hb)
       have n2_ := Gv.a0 (blk_below BK378.out hb)
       have n3_ := Gv.a0 (below_step Gv.bw hb)
       clear BK376
       clear BK377
       clear BK378
       clear HB
       have BK376 := n0_
       have BK377 := n1_
       have BK378 := n2_
       have HB := n3_
       clear n0_ n1_ n2_ n3_
       (try clear hb)
       (try clear hb2)
       (try clear hk)
       (try clear hi)
       refine hK.out _ _ ⟨(blk_cell BK376.out 0).trans rfl, (blk_cell BK376.out 1).trans rfl, (blk_cell BK376.out 2).trans rfl, (blk_cell BK376.out 3).trans rfl, (blk_cell BK376.out 4).trans rfl, (blk_cell BK376.out 5).trans rfl, (blk_cell BK377.out 0).trans rfl, (blk_cell BK377.out 1).trans rfl, (blk_cell BK377.out 2).trans rfl, (blk_cell BK377.out 3).trans rfl, (blk_cell BK377.out 4).trans rfl, (blk_cell BK377.out 5).trans rfl, (blk_cell BK378.out 0).trans rfl, (blk_cell BK378.out 1).trans rfl, (blk_cell BK378.out 2).trans rfl, (blk_cell BK378.out 3).trans rfl, (blk_cell BK378.out 4).trans rfl⟩ (fun hHeld => ?_)
       clear hK K
       refine norm_ (a' := ?_) ?_ ?_
       rotate_left
       ·show Act.put _ (some 15) _ = _
        simp only [Act.put, List.setIfInBounds_toArray, List.set_cons_zero, List.set_cons_succ, i64_w, i32_w]
        rfl
       exact Gv.nm (hJ1_3_5_6 () _ ⟨hHeld, Gv.bk, Gv.bk, Gv.bk, Gv.bw⟩)
      ·skip
       refine box_step ?hg (N := 7) ?hd (cs := #[.int .i64 0, .int .i64 0, .int .i64 0, .int .i64 0, .int .i64 0]) (t := 26) ?hr ?_; (case hd => rfl); (case hg => rfl); (case hr => first | (go_simp; done) | (go_simp; rfl))
       intro gb401 hg w22 hbox hb
       have n0_ := Gv.a0 (blk_below BK376.out hb)
       have n1_ := Gv.a0 (blk_below BK377.out hb)
       have n2_ := Gv.a0 (blk_below BK378.out hb)
       have n3_ := Gv.a0 (below_step Gv.bw hb)
       have n4_ := Gv.a0 (hbox)
       have n5_ := Gv.a0 ((by rw [hg]; exact (below_size Gv.bw) : w.heap.size ≤ gb401))
       have n6_ := Gv.a0 ((by rw [hg]; exact (below_size Gv.bw) : w.heap.size ≤ gb401))
       have n7_ := Gv.a0 ((by rw [hg]; exact Nat.ne_of_lt (blk_lt (g := gb376) (o := .cells #[.int .i64 a0_0, .int .i64 a0_1, .int .i64 a0_2, .int .i64 a0_3, .int .i64 a0_4, .int .i64 a0_5] 25 (0, 0)) Gv.bk) : gb376 ≠ gb401))
       have n8_ := Gv.a0 ((by rw [hg]; exact Nat.ne_of_gt (blk_lt (g := gb376) (o := .cells #[.int .i64 a0_0, .int .i64 a0_1, .int .i64 a0_2, .int .i64 a0_3, .int .i64 a0_4, .int .i64 a0_5] 25 (0, 0)) Gv.bk) : gb401 ≠ gb376))
       have n9_ := Gv.a0 ((by rw [hg]; exact Nat.ne_of_lt (blk_lt (g := gb377) (o := .cells #[.int .i64 a1_0, .int .i64 a1_1, .int .i64 a1_2, .int .i64 a1_3, .int .i64 a1_4, .int .i64 a1_5] 25 (0, 0)) Gv.bk) : gb377 ≠ gb401))
       have n10_ := Gv.a0 ((by rw [hg]; exact Nat.ne_of_gt (blk_lt (g := gb377) (o := .cells #[.int .i64 a1_0, .int .i64 a1_1, .int .i64 a1_2, .int .i64 a1_3, .int .i64 a1_4, .int .i64 a1_5] 25 (0, 0)) Gv.bk) : gb401 ≠ gb377))
       have n11_ := Gv.a0 ((by rw [hg]; exact Nat.ne_of_lt (blk_lt (g := gb378) (o := .cells #[.int .i64 a2_0, .int .i64 a2_1, .int .i64 a2_2, .int .i64 a2_3, .int .i64 a2_4] 23 (0, 0)) Gv.bk) : gb378 ≠ gb401))
       have n12_ := Gv.a0 ((by rw [hg]; exact Nat.ne_of_gt (blk_lt (g := gb378) (o := .cells #[.int .i64 a2_0, .int .i64 a2_1, .int .i64 a2_2, .int .i64 a2_3, .int .i64 a2_4] 23 (0, 0)) Gv.bk) : gb401 ≠ gb378))
       clear BK376
       clear BK377
       clear BK378
       clear HB
       have BK376 := n0_
       have BK377 := n1_
       have BK378 := n2_
       have HB := n3_
       have BK401 := n4_
       have GW401 := n5_
       have GE401 := n6_
       have NB376_401 := n7_
       have NB401_376 := n8_
       have NB377_401 := n9_
       have NB401_377 := n10_
       have NB378_401 := n11_
       have NB401_378 := n12_
       clear n0_ n1_ n2_ n3_ n4_ n5_ n6_ n7_ n8_ n9_ n10_ n11_ n12_
       clear hb hbox hg
       refine hK.out _ _ ⟨(blk_cell BK376.out 0).trans rfl, (blk_cell BK376.out 1).trans rfl, (blk_cell BK376.out 2).trans rfl, (blk_cell BK376.out 3).trans rfl, (blk_cell BK376.out 4).trans rfl, (blk_cell BK376.out 5).trans rfl, (blk_cell BK377.out 0).trans rfl, (blk_cell BK377.out 1).trans rfl, (blk_cell BK377.out 2).trans rfl, (blk_cell BK377.out 3).trans rfl, (blk_cell BK377.out 4).trans rfl, (blk_cell BK377.out 5).trans rfl, (blk_cell BK378.out 0).trans rfl, (blk_cell BK378.out 1).trans rfl, (blk_cell BK378.out 2).trans rfl, (blk_cell BK378.out 3).trans rfl, (blk_cell BK378.out 4).trans rfl⟩ (fun hHeld => ?_)
       clear hK K
       refine norm_ (a' := ?_) ?_ ?_
       rotate_left
       ·show Act.put _ (some 7) _ = _
        simp only [Act.put, List.setIfInBounds_toArray, List.set_cons_zero, List.set_cons_succ, i64_w, i32_w]
        rfl
       exact Gv.nm (hJ1_3_5_7 (gb401) _ ⟨hHeld, Gv.bk, Gv.bk, Gv.bk, Gv.bk, GW401.out, GE401.out, NB376_401.out, NB401_376.out, NB377_401.out, NB401_377.out, NB378_401.out, NB401_378.out, Gv.bw⟩)
    ·skip
     rintro gb401 w22 ⟨hS_, h0_, h1_, h2_, h3_, h4_, h5_, h6_, h7_, h8_, h9_, h10_, h11_, h12_⟩
     have n0_ : Aside0 (w22.heap[gb376]? = some (.cells #[.int .i64 a0_0, .int .i64 a0_1, .int .i64 a0_2, .int .i64 a0_3, .int .i64 a0_4, .int .i64 a0_5] 25 (0, 0))) := ⟨h0_⟩
     have n1_ : Aside0 (w22.heap[gb377]? = some (.cells #[.int .i64 a1_0, .int .i64 a1_1, .int .i64 a1_2, .int .i64 a1_3, .int .i64 a1_4, .int .i64 a1_5] 25 (0, 0))) := ⟨h1_⟩
     have n2_ : Aside0 (w22.heap[gb378]? = some (.cells #[.int .i64 a2_0, .int .i64 a2_1, .int .i64 a2_2, .int .i64 a2_3, .int .i64 a2_4] 23 (0, 0))) := ⟨h2_⟩
     have n3_ : Aside0 (w22.heap[gb401]? = some (.cells #[.int .i64 0, .int .i64 0, .int .i64 0, .int .i64 0, .int .i64 0] 26 (0, 0))) := ⟨h3_⟩
     have n4_ : Aside0 (w.heap.size ≤ gb401) := ⟨h4_⟩
     have n5_ : Aside0 (w.heap.size ≤ gb401) := ⟨h5_⟩
     have n6_ : Aside0 (gb376 ≠ gb401) := ⟨h6_⟩
     have n7_ : Aside0 (gb401 ≠ gb376) := ⟨h7_⟩
     have n8_ : Aside0 (gb377 ≠ gb401) := ⟨h8_⟩
     have n9_ : Aside0 (gb401 ≠ gb377) := ⟨h9_⟩
     have n10_ : Aside0 (gb378 ≠ gb401) := ⟨h10_⟩
     have n11_ : Aside0 (gb401 ≠ gb378) := ⟨h11_⟩
     have n12_ : Aside0 (Below w.heap.size w w22) := ⟨h12_⟩
     clear BK376
     clear BK377
     clear BK378
     clear HB
     clear h0_ h1_ h2_ h3_ h4_ h5_ h6_ h7_ h8_ h9_ h10_ h11_ h12_
     have BK376 := n0_
     have BK377 := n1_
     have BK378 := n2_
     have BK401 := n3_
     have GW401 := n4_
     have GE401 := n5_
     have NB376_401 := n6_
     have NB401_376 := n7_
     have NB377_401 := n8_
     have NB401_377 := n9_
     have NB378_401 := n10_
     have NB401_378 := n11_
     have HB := n12_
     clear n0_ n1_ n2_ n3_ n4_ n5_ n6_ n7_ n8_ n9_ n10_ n11_ n12_
     have hHeld : w22.cell? ⟨gb376, 0, none⟩ = some (.int .i64 a0_0) ∧ w22.cell? ⟨gb376, 1, none⟩ = some (.int .i64 a0_1) ∧ w22.cell? ⟨gb376, 2, none⟩ = some (.int .i64 a0_2) ∧ w22.cell? ⟨gb376, 3, none⟩ = some (.int .i64 a0_3) ∧ w22.cell? ⟨gb376, 4, none⟩ = some (.int .i64 a0_4) ∧ w22.cell? ⟨gb376, 5, none⟩ = some (.int .i64 a0_5) ∧ w22.cell? ⟨gb377, 0, none⟩ = some (.int .i64 a1_0) ∧ w22.cell? ⟨gb377, 1, none⟩ = some (.int .i64 a1_1) ∧ w22.cell? ⟨gb377, 2, none⟩ = some (.int .i64 a1_2) ∧ w22.cell? ⟨gb377, 3, none⟩ = some (.int .i64 a1_3) ∧ w22.cell? ⟨gb377, 4, none⟩ = some (.int .i64 a1_4) ∧ w22.cell? ⟨gb377, 5, none⟩ = some (.int .i64 a1_5) ∧ w22.cell? ⟨gb378, 0, none⟩ = some (.int .i64 a2_0) ∧ w22.cell? ⟨gb378, 1, none⟩ = some (.int .i64 a2_1) ∧ w22.cell? ⟨gb378, 2, none⟩ = some (.int .i64 a2_2) ∧ w22.cell? ⟨gb378, 3, none⟩ = some (.int .i64 a2_3) ∧ w22.cell? ⟨gb378, 4, none⟩ = some (.int .i64 a2_4) := hS_
     refine norm_ (a' := ?_) ?_ ?_
     rotate_left
     ·simp only [putAll, Act.put, List.setIfInBounds_toArray, List.set_cons_zero, List.set_cons_succ]
      rfl
     refine one_ (i := 6) (N := some 15) #[true, true, true, true, true, true, true, true, false] rfl rfl (one_of HT_.out (by kernel_rfl)) (by decide) (fun K hK => ?_)
     refine goes_ Try.func8 (by kernel_rfl) rfl #[.agg #[.int .i64 t379, .int .i64 t380, .int .i64 t381, .int .i64 t382, .int .i64 t383, .int .i64 t384], .agg #[.int .i64 t385, .int .i64 t386, .int .i64 t387, .int .i64 t388, .int .i64 t389, .int .i64 t390], .agg #[.int .i64 t391, .int .i64 t392, .int .i64 t393, .int .i64 t394, .int .i64 t395]] (by rfl) rfl rfl (by (try simp only [List.map_toArray, List.map_cons, List.map_nil]); first | done | rfl | (simp only [List.length_drop, List.length_take]; rfl)) ?_
     with_reducible refine (spec_NatAddr.calls k t379 t380 t381 t382 t383 t384 t385 t386 t387 t388 t389 t390 t391 t392 t393 t394 t395 t396 t397 t398 t399 t400 _ A7.out).mono ?_
     rintro e w23 ⟨rfl, hb⟩
     refine ⟨_, rfl, ?_⟩
     have n0_ := Gv.a0 (blk_below BK376.out hb)
     have n1_ := Gv.a0 (blk_below BK377.out hb)
     have n2_ := Gv.a0 (blk_below BK378.out hb)
     have n3_ := Gv.a0 (blk_below BK401.out hb)
     have n4_ := Gv.a0 (below_step Gv.bw hb)
     clear BK376
     clear BK377
     clear BK378
     clear BK401
     clear HB
     have BK376 := n0_
     have BK377 := n1_
     have BK378 := n2_
     have BK401 := n3_
     have HB := n4_
     clear n0_ n1_ n2_ n3_ n4_
     (try clear hb)
     (try clear hb2)
     (try clear hk)
     (try clear hi)
     refine hK.out _ _ ⟨(blk_cell BK376.out 0).trans rfl, (blk_cell BK376.out 1).trans rfl, (blk_cell BK376.out 2).trans rfl, (blk_cell BK376.out 3).trans rfl, (blk_cell BK376.out 4).trans rfl, (blk_cell BK376.out 5).trans rfl, (blk_cell BK377.out 0).trans rfl, (blk_cell BK377.out 1).trans rfl, (blk_cell BK377.out 2).trans rfl, (blk_cell BK377.out 3).trans rfl, (blk_cell BK377.out 4).trans rfl, (blk_cell BK377.out 5).trans rfl, (blk_cell BK378.out 0).trans rfl, (blk_cell BK378.out 1).trans rfl, (blk_cell BK378.out 2).trans rfl, (blk_cell BK378.out 3).trans rfl, (blk_cell BK378.out 4).trans rfl⟩ (fun hHeld => ?_)
     clear hK K
     refine norm_ (a' := ?_) ?_ ?_
     rotate_left
     ·show Act.put _ (some 15) _ = _
      simp only [Act.put, List.setIfInBounds_toArray, List.set_cons_zero, List.set_cons_succ, i64_w, i32_w]
      rfl
     exact Gv.nm (hJ1_3_5_6_7 (gb401) _ ⟨hHeld, Gv.bk, Gv.bk, Gv.bk, Gv.bk, GW401.out, GE401.out, NB376_401.out, NB401_376.out, NB377_401.out, NB401_377.out, NB378_401.out, NB401_378.out, Gv.bw⟩)
   ·skip
    rintro _ w22 ⟨hS_, h0_, h1_, h2_, h3_⟩
    have n0_ : Aside0 (w22.heap[gb376]? = some (.cells #[.int .i64 a0_0, .int .i64 a0_1, .int .i64 a0_2, .int .i64 a0_3, .int .i64 a0_4, .int .i64 a0_5] 25 (0, 0))) := ⟨h0_⟩
    have n1_ : Aside0 (w22.heap[gb377]? = some (.cells #[.int .i64 a1_0, .int .i64 a1_1, .int .i64 a1_2, .int .i64 a1_3, .int .i64 a1_4, .int .i64 a1_5] 25 (0, 0))) := ⟨h1_⟩
    have n2_ : Aside0 (w22.heap[gb378]? = some (.cells #[.int .i64 a2_0, .int .i64 a2_1, .int .i64 a2_2, .int .i64 a2_3, .int .i64 a2_4] 23 (0, 0))) := ⟨h2_⟩
    have n3_ : Aside0 (Below w.heap.size w w22) := ⟨h3_⟩
    clear BK376
    clear BK377
    clear BK378
    clear HB
    clear h0_ h1_ h2_ h3_
    have BK376 := n0_
    have BK377 := n1_
    have BK378 := n2_
    have HB := n3_
    clear n0_ n1_ n2_ n3_
    have hHeld : w22.cell? ⟨gb376, 0, none⟩ = some (.int .i64 a0_0) ∧ w22.cell? ⟨gb376, 1, none⟩ = some (.int .i64 a0_1) ∧ w22.cell? ⟨gb376, 2, none⟩ = some (.int .i64 a0_2) ∧ w22.cell? ⟨gb376, 3, none⟩ = some (.int .i64 a0_3) ∧ w22.cell? ⟨gb376, 4, none⟩ = some (.int .i64 a0_4) ∧ w22.cell? ⟨gb376, 5, none⟩ = some (.int .i64 a0_5) ∧ w22.cell? ⟨gb377, 0, none⟩ = some (.int .i64 a1_0) ∧ w22.cell? ⟨gb377, 1, none⟩ = some (.int .i64 a1_1) ∧ w22.cell? ⟨gb377, 2, none⟩ = some (.int .i64 a1_2) ∧ w22.cell? ⟨gb377, 3, none⟩ = some (.int .i64 a1_3) ∧ w22.cell? ⟨gb377, 4, none⟩ = some (.int .i64 a1_4) ∧ w22.cell? ⟨gb377, 5, none⟩ = some (.int .i64 a1_5) ∧ w22.cell? ⟨gb378, 0, none⟩ = some (.int .i64 a2_0) ∧ w22.cell? ⟨gb378, 1, none⟩ = some (.int .i64 a2_1) ∧ w22.cell? ⟨gb378, 2, none⟩ = some (.int .i64 a2_2) ∧ w22.cell? ⟨gb378, 3, none⟩ = some (.int .i64 a2_3) ∧ w22.cell? ⟨gb378, 4, none⟩ = some (.int .i64 a2_4) := hS_
    refine norm_ (a' := ?_) ?_ ?_
    rotate_left
    ·simp only [putAll, Act.put, List.setIfInBounds_toArray, List.set_cons_zero, List.set_cons_succ]
     rfl
    refine one_ (i := 7) (N := some 7) #[true, true, true, true, true, true, true, true, false] rfl rfl (one_of HT_.out (by kernel_rfl)) (by decide) (fun K hK => ?_)
    refine box_step ?hg (N := 7) ?hd (cs := #[.int .i64 0, .int .i64 0, .int .i64 0, .int .i64 0, .int .i64 0]) (t := 26) ?hr ?_; (case hd => rfl); (case hg => rfl); (case hr => first | (go_simp; done) | (go_simp; rfl))
    intro gb401 hg w23 hbox hb
    have n0_ := Gv.a0 (blk_below BK376.out hb)
    have n1_ := Gv.a0 (blk_below BK377.out hb)
    have n2_ := Gv.a0 (blk_below BK378.out hb)
    have n3_ := Gv.a0 (below_step Gv.bw hb)
    have n4_ := Gv.a0 (hbox)
    have n5_ := Gv.a0 ((by rw [hg]; exact (below_size Gv.bw) : w.heap.size ≤ gb401))
    have n6_ := Gv.a0 ((by rw [hg]; exact (below_size Gv.bw) : w.heap.size ≤ gb401))
    have n7_ := Gv.a0 ((by rw [hg]; exact Nat.ne_of_lt (blk_lt (g := gb376) (o := .cells #[.int .i64 a0_0, .int .i64 a0_1, .int .i64 a0_2, .int .i64 a0_3, .int .i64 a0_4, .int .i64 a0_5] 25 (0, 0)) Gv.bk) : gb376 ≠ gb401))
    have n8_ := Gv.a0 ((by rw [hg]; exact Nat.ne_of_gt (blk_lt (g := gb376) (o := .cells #[.int .i64 a0_0, .int .i64 a0_1, .int .i64 a0_2, .int .i64 a0_3, .int .i64 a0_4, .int .i64 a0_5] 25 (0, 0)) Gv.bk) : gb401 ≠ gb376))
    have n9_ := Gv.a0 ((by rw [hg]; exact Nat.ne_of_lt (blk_lt (g := gb377) (o := .cells #[.int .i64 a1_0, .int .i64 a1_1, .int .i64 a1_2, .int .i64 a1_3, .int .i64 a1_4, .int .i64 a1_5] 25 (0, 0)) Gv.bk) : gb377 ≠ gb401))
    have n10_ := Gv.a0 ((by rw [hg]; exact Nat.ne_of_gt (blk_lt (g := gb377) (o := .cells #[.int .i64 a1_0, .int .i64 a1_1, .int .i64 a1_2, .int .i64 a1_3, .int .i64 a1_4, .int .i64 a1_5] 25 (0, 0)) Gv.bk) : gb401 ≠ gb377))
    have n11_ := Gv.a0 ((by rw [hg]; exact Nat.ne_of_lt (blk_lt (g := gb378) (o := .cells #[.int .i64 a2_0, .int .i64 a2_1, .int .i64 a2_2, .int .i64 a2_3, .int .i64 a2_4] 23 (0, 0)) Gv.bk) : gb378 ≠ gb401))
    have n12_ := Gv.a0 ((by rw [hg]; exact Nat.ne_of_gt (blk_lt (g := gb378) (o := .cells #[.int .i64 a2_0, .int .i64 a2_1, .int .i64 a2_2, .int .i64 a2_3, .int .i64 a2_4] 23 (0, 0)) Gv.bk) : gb401 ≠ gb378))
    clear BK376
    clear BK377
    clear BK378
    clear HB
    have BK376 := n0_
    have BK377 := n1_
    have BK378 := n2_
    have HB := n3_
    have BK401 := n4_
    have GW401 := n5_
    have GE401 := n6_
    have NB376_401 := n7_
    have NB401_376 := n8_
    have NB377_401 := n9_
    have NB401_377 := n10_
    have NB378_401 := n11_
    have NB401_378 := n12_
    clear n0_ n1_ n2_ n3_ n4_ n5_ n6_ n7_ n8_ n9_ n10_ n11_ n12_
    clear hb hbox hg
    refine hK.out _ _ ⟨(blk_cell BK376.out 0).trans rfl, (blk_cell BK376.out 1).trans rfl, (blk_cell BK376.out 2).trans rfl, (blk_cell BK376.out 3).trans rfl, (blk_cell BK376.out 4).trans rfl, (blk_cell BK376.out 5).trans rfl, (blk_cell BK377.out 0).trans rfl, (blk_cell BK377.out 1).trans rfl, (blk_cell BK377.out 2).trans rfl, (blk_cell BK377.out 3).trans rfl, (blk_cell BK377.out 4).trans rfl, (blk_cell BK377.out 5).trans rfl, (blk_cell BK378.out 0).trans rfl, (blk_cell BK378.out 1).trans rfl, (blk_cell BK378.out 2).trans rfl, (blk_cell BK378.out 3).trans rfl, (blk_cell BK378.out 4).trans rfl⟩ (fun hHeld => ?_)
    clear hK K
    refine norm_ (a' := ?_) ?_ ?_
    rotate_left
    ·show Act.put _ (some 7) _ = _
     simp only [Act.put, List.setIfInBounds_toArray, List.set_cons_zero, List.set_cons_succ, i64_w, i32_w]
     rfl
    exact Gv.nm (hJ1_3_5_6_7 (gb401) _ ⟨hHeld, Gv.bk, Gv.bk, Gv.bk, Gv.bk, GW401.out, GE401.out, NB376_401.out, NB401_376.out, NB377_401.out, NB401_377.out, NB378_401.out, NB401_378.out, Gv.bw⟩)
  rintro gb401 w23 ⟨hS_, h0_, h1_, h2_, h3_, h4_, h5_, h6_, h7_, h8_, h9_, h10_, h11_, h12_⟩
  have n0_ : Aside0 (w23.heap[gb376]? = some (.cells #[.int .i64 a0_0, .int .i64 a0_1, .int .i64 a0_2, .int .i64 a0_3, .int .i64 a0_4, .int .i64 a0_5] 25 (0, 0))) := ⟨h0_⟩
  have n1_ : Aside0 (w23.heap[gb377]? = some (.cells #[.int .i64 a1_0, .int .i64 a1_1, .int .i64 a1_2, .int .i64 a1_3, .int .i64 a1_4, .int .i64 a1_5] 25 (0, 0))) := ⟨h1_⟩
  have n2_ : Aside0 (w23.heap[gb378]? = some (.cells #[.int .i64 a2_0, .int .i64 a2_1, .int .i64 a2_2, .int .i64 a2_3, .int .i64 a2_4] 23 (0, 0))) := ⟨h2_⟩
  have n3_ : Aside0 (w23.heap[gb401]? = some (.cells #[.int .i64 0, .int .i64 0, .int .i64 0, .int .i64 0, .int .i64 0] 26 (0, 0))) := ⟨h3_⟩
  have n4_ : Aside0 (w.heap.size ≤ gb401) := ⟨h4_⟩
  have n5_ : Aside0 (w.heap.size ≤ gb401) := ⟨h5_⟩
  have n6_ : Aside0 (gb376 ≠ gb401) := ⟨h6_⟩
  have n7_ : Aside0 (gb401 ≠ gb376) := ⟨h7_⟩
  have n8_ : Aside0 (gb377 ≠ gb401) := ⟨h8_⟩
  have n9_ : Aside0 (gb401 ≠ gb377) := ⟨h9_⟩
  have n10_ : Aside0 (gb378 ≠ gb401) := ⟨h10_⟩
  have n11_ : Aside0 (gb401 ≠ gb378) := ⟨h11_⟩
  have n12_ : Aside0 (Below w.heap.size w w23) := ⟨h12_⟩
  clear BK376
  clear BK377
  clear BK378
  clear HB
  clear h0_ h1_ h2_ h3_ h4_ h5_ h6_ h7_ h8_ h9_ h10_ h11_ h12_
  have BK376 := n0_
  have BK377 := n1_
  have BK378 := n2_
  have BK401 := n3_
  have GW401 := n4_
  have GE401 := n5_
  have NB376_401 := n6_
  have NB401_376 := n7_
  have NB377_401 := n8_
  have NB401_377 := n9_
  have NB378_401 := n10_
  have NB401_378 := n11_
  have HB := n12_
  clear n0_ n1_ n2_ n3_ n4_ n5_ n6_ n7_ n8_ n9_ n10_ n11_ n12_
  have hHeld : w23.cell? ⟨gb376, 0, none⟩ = some (.int .i64 a0_0) ∧ w23.cell? ⟨gb376, 1, none⟩ = some (.int .i64 a0_1) ∧ w23.cell? ⟨gb376, 2, none⟩ = some (.int .i64 a0_2) ∧ w23.cell? ⟨gb376, 3, none⟩ = some (.int .i64 a0_3) ∧ w23.cell? ⟨gb376, 4, none⟩ = some (.int .i64 a0_4) ∧ w23.cell? ⟨gb376, 5, none⟩ = some (.int .i64 a0_5) ∧ w23.cell? ⟨gb377, 0, none⟩ = some (.int .i64 a1_0) ∧ w23.cell? ⟨gb377, 1, none⟩ = some (.int .i64 a1_1) ∧ w23.cell? ⟨gb377, 2, none⟩ = some (.int .i64 a1_2) ∧ w23.cell? ⟨gb377, 3, none⟩ = some (.int .i64 a1_3) ∧ w23.cell? ⟨gb377, 4, none⟩ = some (.int .i64 a1_4) ∧ w23.cell? ⟨gb377, 5, none⟩ = some (.int .i64 a1_5) ∧ w23.cell? ⟨gb378, 0, none⟩ = some (.int .i64 a2_0) ∧ w23.cell? ⟨gb378, 1, none⟩ = some (.int .i64 a2_1) ∧ w23.cell? ⟨gb378, 2, none⟩ = some (.int .i64 a2_2) ∧ w23.cell? ⟨gb378, 3, none⟩ = some (.int .i64 a2_3) ∧ w23.cell? ⟨gb378, 4, none⟩ = some (.int .i64 a2_4) := hS_
  refine norm_ (a' := ?_) ?_ ?_
  rotate_left
  ·simp only [putAll, Act.put, List.setIfInBounds_toArray, List.set_cons_zero, List.set_cons_succ]
   rfl
  refine one_ (i := 8) (N := none) #[true, true, true, true, true, true, true, true, true] rfl rfl (one_of HT_.out (by kernel_rfl)) (by decide) (fun K hK => ?_)
  have hs24 : w23.cell? ⟨gb401, 0, none⟩ = some (.int .i64 0) := (blk_cell BK401.out 0).trans rfl
  have hfs24 := blk_frozen BK401.out 0
  have hns24_0 := NB376_401.out
  have hns24_1 := NB377_401.out
  have hns24_2 := NB378_401.out
  have hms24_0 := NB401_376.out
  have hms24_1 := NB401_377.out
  have hms24_2 := NB401_378.out
  have hs25 : w23.cell? ⟨gb401, 1, none⟩ = some (.int .i64 0) := (blk_cell BK401.out 1).trans rfl
  have hfs25 := blk_frozen BK401.out 1
  have hns25_0 := NB376_401.out
  have hns25_1 := NB377_401.out
  have hns25_2 := NB378_401.out
  have hms25_0 := NB401_376.out
  have hms25_1 := NB401_377.out
  have hms25_2 := NB401_378.out
  have hs26 : w23.cell? ⟨gb401, 2, none⟩ = some (.int .i64 0) := (blk_cell BK401.out 2).trans rfl
  have hfs26 := blk_frozen BK401.out 2
  have hns26_0 := NB376_401.out
  have hns26_1 := NB377_401.out
  have hns26_2 := NB378_401.out
  have hms26_0 := NB401_376.out
  have hms26_1 := NB401_377.out
  have hms26_2 := NB401_378.out
  have hs27 : w23.cell? ⟨gb401, 3, none⟩ = some (.int .i64 0) := (blk_cell BK401.out 3).trans rfl
  have hfs27 := blk_frozen BK401.out 3
  have hns27_0 := NB376_401.out
  have hns27_1 := NB377_401.out
  have hns27_2 := NB378_401.out
  have hms27_0 := NB401_376.out
  have hms27_1 := NB401_377.out
  have hms27_2 := NB401_378.out
  have hs28 : w23.cell? ⟨gb401, 4, none⟩ = some (.int .i64 0) := (blk_cell BK401.out 4).trans rfl
  have hfs28 := blk_frozen BK401.out 4
  have hns28_0 := NB376_401.out
  have hns28_1 := NB377_401.out
  have hns28_2 := NB378_401.out
  have hms28_0 := NB401_376.out
  have hms28_1 := NB401_377.out
  have hms28_2 := NB401_378.out
  refine skip_ (w1 := ?_) (by rfl) rfl ?_ ?_
  rotate_left
  ·go_simp
   rfl
  refine hK.out _ _ ⟨((cell_far (p := ⟨gb401, _, none⟩) NB376_401.out _).trans (((cell_far (p := ⟨gb401, _, none⟩) NB376_401.out _).trans (((cell_far (p := ⟨gb401, _, none⟩) NB376_401.out _).trans (((cell_far (p := ⟨gb401, _, none⟩) NB376_401.out _).trans (((cell_far (p := ⟨gb401, _, none⟩) NB376_401.out _).trans (hHeld.1)))))))))), ((cell_far (p := ⟨gb401, _, none⟩) NB376_401.out _).trans (((cell_far (p := ⟨gb401, _, none⟩) NB376_401.out _).trans (((cell_far (p := ⟨gb401, _, none⟩) NB376_401.out _).trans (((cell_far (p := ⟨gb401, _, none⟩) NB376_401.out _).trans (((cell_far (p := ⟨gb401, _, none⟩) NB376_401.out _).trans (hHeld.2.1)))))))))), ((cell_far (p := ⟨gb401, _, none⟩) NB376_401.out _).trans (((cell_far (p := ⟨gb401, _, none⟩) NB376_401.out _).trans (((cell_far (p := ⟨gb401, _, none⟩) NB376_401.out _).trans (((cell_far (p := ⟨gb401, _, none⟩) NB376_401.out _).trans (((cell_far (p := ⟨gb401, _, none⟩) NB376_401.out _).trans (hHeld.2.2.1)))))))))), ((cell_far (p := ⟨gb401, _, none⟩) NB376_401.out _).trans (((cell_far (p := ⟨gb401, _, none⟩) NB376_401.out _).trans (((cell_far (p := ⟨gb401, _, none⟩) NB376_401.out _).trans (((cell_far (p := ⟨gb401, _, none⟩) NB376_401.out _).trans (((cell_far (p := ⟨gb401, _, none⟩) NB376_401.out _).trans (hHeld.2.2.2.1)))))))))), ((cell_far (p := ⟨gb401, _, none⟩) NB376_401.out _).trans (((cell_far (p := ⟨gb401, _, none⟩) NB376_401.out _).trans (((cell_far (p := ⟨gb401, _, none⟩) NB376_401.out _).trans (((cell_far (p := ⟨gb401, _, none⟩) NB376_401.out _).trans (((cell_far (p := ⟨gb401, _, none⟩) NB376_401.out _).trans (hHeld.2.2.2.2.1)))))))))), ((cell_far (p := ⟨gb401, _, none⟩) NB376_401.out _).trans (((cell_far (p := ⟨gb401, _, none⟩) NB376_401.out _).trans (((cell_far (p := ⟨gb401, _, none⟩) NB376_401.out _).trans (((cell_far (p := ⟨gb401, _, none⟩) NB376_401.out _).trans (((cell_far (p := ⟨gb401, _, none⟩) NB376_401.out _).trans (hHeld.2.2.2.2.2.1)))))))))), ((cell_far (p := ⟨gb401, _, none⟩) NB377_401.out _).trans (((cell_far (p := ⟨gb401, _, none⟩) NB377_401.out _).trans (((cell_far (p := ⟨gb401, _, none⟩) NB377_401.out _).trans (((cell_far (p := ⟨gb401, _, none⟩) NB377_401.out _).trans (((cell_far (p := ⟨gb401, _, none⟩) NB377_401.out _).trans (hHeld.2.2.2.2.2.2.1)))))))))), ((cell_far (p := ⟨gb401, _, none⟩) NB377_401.out _).trans (((cell_far (p := ⟨gb401, _, none⟩) NB377_401.out _).trans (((cell_far (p := ⟨gb401, _, none⟩) NB377_401.out _).trans (((cell_far (p := ⟨gb401, _, none⟩) NB377_401.out _).trans (((cell_far (p := ⟨gb401, _, none⟩) NB377_401.out _).trans (hHeld.2.2.2.2.2.2.2.1)))))))))), ((cell_far (p := ⟨gb401, _, none⟩) NB377_401.out _).trans (((cell_far (p := ⟨gb401, _, none⟩) NB377_401.out _).trans (((cell_far (p := ⟨gb401, _, none⟩) NB377_401.out _).trans (((cell_far (p := ⟨gb401, _, none⟩) NB377_401.out _).trans (((cell_far (p := ⟨gb401, _, none⟩) NB377_401.out _).trans (hHeld.2.2.2.2.2.2.2.2.1)))))))))), ((cell_far (p := ⟨gb401, _, none⟩) NB377_401.out _).trans (((cell_far (p := ⟨gb401, _, none⟩) NB377_401.out _).trans (((cell_far (p := ⟨gb401, _, none⟩) NB377_401.out _).trans (((cell_far (p := ⟨gb401, _, none⟩) NB377_401.out _).trans (((cell_far (p := ⟨gb401, _, none⟩) NB377_401.out _).trans (hHeld.2.2.2.2.2.2.2.2.2.1)))))))))), ((cell_far (p := ⟨gb401, _, none⟩) NB377_401.out _).trans (((cell_far (p := ⟨gb401, _, none⟩) NB377_401.out _).trans (((cell_far (p := ⟨gb401, _, none⟩) NB377_401.out _).trans (((cell_far (p := ⟨gb401, _, none⟩) NB377_401.out _).trans (((cell_far (p := ⟨gb401, _, none⟩) NB377_401.out _).trans (hHeld.2.2.2.2.2.2.2.2.2.2.1)))))))))), ((cell_far (p := ⟨gb401, _, none⟩) NB377_401.out _).trans (((cell_far (p := ⟨gb401, _, none⟩) NB377_401.out _).trans (((cell_far (p := ⟨gb401, _, none⟩) NB377_401.out _).trans (((cell_far (p := ⟨gb401, _, none⟩) NB377_401.out _).trans (((cell_far (p := ⟨gb401, _, none⟩) NB377_401.out _).trans (hHeld.2.2.2.2.2.2.2.2.2.2.2.1)))))))))), ((cell_far (p := ⟨gb401, _, none⟩) NB378_401.out _).trans (((cell_far (p := ⟨gb401, _, none⟩) NB378_401.out _).trans (((cell_far (p := ⟨gb401, _, none⟩) NB378_401.out _).trans (((cell_far (p := ⟨gb401, _, none⟩) NB378_401.out _).trans (((cell_far (p := ⟨gb401, _, none⟩) NB378_401.out _).trans (hHeld.2.2.2.2.2.2.2.2.2.2.2.2.1)))))))))), ((cell_far (p := ⟨gb401, _, none⟩) NB378_401.out _).trans (((cell_far (p := ⟨gb401, _, none⟩) NB378_401.out _).trans (((cell_far (p := ⟨gb401, _, none⟩) NB378_401.out _).trans (((cell_far (p := ⟨gb401, _, none⟩) NB378_401.out _).trans (((cell_far (p := ⟨gb401, _, none⟩) NB378_401.out _).trans (hHeld.2.2.2.2.2.2.2.2.2.2.2.2.2.1)))))))))), ((cell_far (p := ⟨gb401, _, none⟩) NB378_401.out _).trans (((cell_far (p := ⟨gb401, _, none⟩) NB378_401.out _).trans (((cell_far (p := ⟨gb401, _, none⟩) NB378_401.out _).trans (((cell_far (p := ⟨gb401, _, none⟩) NB378_401.out _).trans (((cell_far (p := ⟨gb401, _, none⟩) NB378_401.out _).trans (hHeld.2.2.2.2.2.2.2.2.2.2.2.2.2.2.1)))))))))), ((cell_far (p := ⟨gb401, _, none⟩) NB378_401.out _).trans (((cell_far (p := ⟨gb401, _, none⟩) NB378_401.out _).trans (((cell_far (p := ⟨gb401, _, none⟩) NB378_401.out _).trans (((cell_far (p := ⟨gb401, _, none⟩) NB378_401.out _).trans (((cell_far (p := ⟨gb401, _, none⟩) NB378_401.out _).trans (hHeld.2.2.2.2.2.2.2.2.2.2.2.2.2.2.2.1)))))))))), ((cell_far (p := ⟨gb401, _, none⟩) NB378_401.out _).trans (((cell_far (p := ⟨gb401, _, none⟩) NB378_401.out _).trans (((cell_far (p := ⟨gb401, _, none⟩) NB378_401.out _).trans (((cell_far (p := ⟨gb401, _, none⟩) NB378_401.out _).trans (((cell_far (p := ⟨gb401, _, none⟩) NB378_401.out _).trans (hHeld.2.2.2.2.2.2.2.2.2.2.2.2.2.2.2.2))))))))))⟩ (fun hHeld => ?_)
  clear hK K
  refine done_ (done_of HT_.out (by kernel_rfl)) ?_
  try go_wp2
  have n0_ : Aside0 ((((((w23.setCell ⟨gb401, 0, none⟩ (.int .i64 t396)).setCell ⟨gb401, 1, none⟩ (.int .i64 t397)).setCell ⟨gb401, 2, none⟩ (.int .i64 t398)).setCell ⟨gb401, 3, none⟩ (.int .i64 t399)).setCell ⟨gb401, 4, none⟩ (.int .i64 t400)).heap[gb376]? = some (.cells #[.int .i64 a0_0, .int .i64 a0_1, .int .i64 a0_2, .int .i64 a0_3, .int .i64 a0_4, .int .i64 a0_5] 25 (0, 0))) := ⟨by (with_reducible repeat (first | refine blk_drewN ?_ _ | refine blk_drew ?_ | refine blk_alloc ?_ _)); refine blk_far ?_ NB376_401.out _; (with_reducible repeat (first | refine blk_drewN ?_ _ | refine blk_drew ?_ | refine blk_alloc ?_ _)); refine blk_far ?_ NB376_401.out _; (with_reducible repeat (first | refine blk_drewN ?_ _ | refine blk_drew ?_ | refine blk_alloc ?_ _)); refine blk_far ?_ NB376_401.out _; (with_reducible repeat (first | refine blk_drewN ?_ _ | refine blk_drew ?_ | refine blk_alloc ?_ _)); refine blk_far ?_ NB376_401.out _; (with_reducible repeat (first | refine blk_drewN ?_ _ | refine blk_drew ?_ | refine blk_alloc ?_ _)); refine blk_far ?_ NB376_401.out _; (with_reducible repeat (first | refine blk_drewN ?_ _ | refine blk_drew ?_ | refine blk_alloc ?_ _)); exact BK376.out⟩
  have n1_ : Aside0 ((((((w23.setCell ⟨gb401, 0, none⟩ (.int .i64 t396)).setCell ⟨gb401, 1, none⟩ (.int .i64 t397)).setCell ⟨gb401, 2, none⟩ (.int .i64 t398)).setCell ⟨gb401, 3, none⟩ (.int .i64 t399)).setCell ⟨gb401, 4, none⟩ (.int .i64 t400)).heap[gb377]? = some (.cells #[.int .i64 a1_0, .int .i64 a1_1, .int .i64 a1_2, .int .i64 a1_3, .int .i64 a1_4, .int .i64 a1_5] 25 (0, 0))) := ⟨by (with_reducible repeat (first | refine blk_drewN ?_ _ | refine blk_drew ?_ | refine blk_alloc ?_ _)); refine blk_far ?_ NB377_401.out _; (with_reducible repeat (first | refine blk_drewN ?_ _ | refine blk_drew ?_ | refine blk_alloc ?_ _)); refine blk_far ?_ NB377_401.out _; (with_reducible repeat (first | refine blk_drewN ?_ _ | refine blk_drew ?_ | refine blk_alloc ?_ _)); refine blk_far ?_ NB377_401.out _; (with_reducible repeat (first | refine blk_drewN ?_ _ | refine blk_drew ?_ | refine blk_alloc ?_ _)); refine blk_far ?_ NB377_401.out _; (with_reducible repeat (first | refine blk_drewN ?_ _ | refine blk_drew ?_ | refine blk_alloc ?_ _)); refine blk_far ?_ NB377_401.out _; (with_reducible repeat (first | refine blk_drewN ?_ _ | refine blk_drew ?_ | refine blk_alloc ?_ _)); exact BK377.out⟩
  have n2_ : Aside0 ((((((w23.setCell ⟨gb401, 0, none⟩ (.int .i64 t396)).setCell ⟨gb401, 1, none⟩ (.int .i64 t397)).setCell ⟨gb401, 2, none⟩ (.int .i64 t398)).setCell ⟨gb401, 3, none⟩ (.int .i64 t399)).setCell ⟨gb401, 4, none⟩ (.int .i64 t400)).heap[gb378]? = some (.cells #[.int .i64 a2_0, .int .i64 a2_1, .int .i64 a2_2, .int .i64 a2_3, .int .i64 a2_4] 23 (0, 0))) := ⟨by (with_reducible repeat (first | refine blk_drewN ?_ _ | refine blk_drew ?_ | refine blk_alloc ?_ _)); refine blk_far ?_ NB378_401.out _; (with_reducible repeat (first | refine blk_drewN ?_ _ | refine blk_drew ?_ | refine blk_alloc ?_ _)); refine blk_far ?_ NB378_401.out _; (with_reducible repeat (first | refine blk_drewN ?_ _ | refine blk_drew ?_ | refine blk_alloc ?_ _)); refine blk_far ?_ NB378_401.out _; (with_reducible repeat (first | refine blk_drewN ?_ _ | refine blk_drew ?_ | refine blk_alloc ?_ _)); refine blk_far ?_ NB378_401.out _; (with_reducible repeat (first | refine blk_drewN ?_ _ | refine blk_drew ?_ | refine blk_alloc ?_ _)); refine blk_far ?_ NB378_401.out _; (with_reducible repeat (first | refine blk_drewN ?_ _ | refine blk_drew ?_ | refine blk_alloc ?_ _)); exact BK378.out⟩
  have n3_ : Aside0 ((((((w23.setCell ⟨gb401, 0, none⟩ (.int .i64 t396)).setCell ⟨gb401, 1, none⟩ (.int .i64 t397)).setCell ⟨gb401, 2, none⟩ (.int .i64 t398)).setCell ⟨gb401, 3, none⟩ (.int .i64 t399)).setCell ⟨gb401, 4, none⟩ (.int .i64 t400)).heap[gb401]? = some (.cells #[.int .i64 t396, .int .i64 t397, .int .i64 t398, .int .i64 t399, .int .i64 t400] 26 (0, 0))) := ⟨by (with_reducible repeat (first | refine blk_drewN ?_ _ | refine blk_drew ?_ | refine blk_alloc ?_ _)); refine blk_put (cs := #[.int .i64 t396, .int .i64 t397, .int .i64 t398, .int .i64 t399, .int .i64 0]) ?_ 4 _ rfl; (with_reducible repeat (first | refine blk_drewN ?_ _ | refine blk_drew ?_ | refine blk_alloc ?_ _)); refine blk_put (cs := #[.int .i64 t396, .int .i64 t397, .int .i64 t398, .int .i64 0, .int .i64 0]) ?_ 3 _ rfl; (with_reducible repeat (first | refine blk_drewN ?_ _ | refine blk_drew ?_ | refine blk_alloc ?_ _)); refine blk_put (cs := #[.int .i64 t396, .int .i64 t397, .int .i64 0, .int .i64 0, .int .i64 0]) ?_ 2 _ rfl; (with_reducible repeat (first | refine blk_drewN ?_ _ | refine blk_drew ?_ | refine blk_alloc ?_ _)); refine blk_put (cs := #[.int .i64 t396, .int .i64 0, .int .i64 0, .int .i64 0, .int .i64 0]) ?_ 1 _ rfl; (with_reducible repeat (first | refine blk_drewN ?_ _ | refine blk_drew ?_ | refine blk_alloc ?_ _)); refine blk_put (cs := #[.int .i64 0, .int .i64 0, .int .i64 0, .int .i64 0, .int .i64 0]) ?_ 0 _ rfl; (with_reducible repeat (first | refine blk_drewN ?_ _ | refine blk_drew ?_ | refine blk_alloc ?_ _)); exact BK401.out⟩
  have n4_ : Aside0 (Below w.heap.size w (((((w23.setCell ⟨gb401, 0, none⟩ (.int .i64 t396)).setCell ⟨gb401, 1, none⟩ (.int .i64 t397)).setCell ⟨gb401, 2, none⟩ (.int .i64 t398)).setCell ⟨gb401, 3, none⟩ (.int .i64 t399)).setCell ⟨gb401, 4, none⟩ (.int .i64 t400))) := ⟨by repeat (first | (with_reducible first | exact HB.out | apply below_alloc | apply pw_below_drewN | apply below_drew1 | refine below_set ?_ GE376.out | refine below_set ?_ GE377.out | refine below_set ?_ GE378.out | refine below_set ?_ GE401.out) | exact HB.out)⟩
  (try clear BK376)
  (try clear BK377)
  (try clear BK378)
  (try clear BK401)
  (try clear HB)
  generalize (((((w23.setCell ⟨gb401, 0, none⟩ (.int .i64 t396)).setCell ⟨gb401, 1, none⟩ (.int .i64 t397)).setCell ⟨gb401, 2, none⟩ (.int .i64 t398)).setCell ⟨gb401, 3, none⟩ (.int .i64 t399)).setCell ⟨gb401, 4, none⟩ (.int .i64 t400)) = w29 at n0_ n1_ n2_ n3_ n4_ ⊢
  have BK376 := n0_
  have BK377 := n1_
  have BK378 := n2_
  have BK401 := n3_
  have HB := n4_
  clear n0_ n1_ n2_ n3_ n4_
  have n0_ := Gv.a0 (blk_drew BK376.out)
  have n1_ := Gv.a0 (blk_drew BK377.out)
  have n2_ := Gv.a0 (blk_drew BK378.out)
  have n3_ := Gv.a0 (blk_drew BK401.out)
  have n4_ := Gv.a0 (below_drew1 HB.out)
  clear BK376
  clear BK377
  clear BK378
  clear BK401
  clear HB
  have BK376 := n0_
  have BK377 := n1_
  have BK378 := n2_
  have BK401 := n3_
  have HB := n4_
  clear n0_ n1_ n2_ n3_ n4_
  refine start_ (n := 9) (S := fun w' => w'.cell? ⟨gb376, 0, none⟩ = some (.int .i64 a0_0) ∧ w'.cell? ⟨gb376, 1, none⟩ = some (.int .i64 a0_1) ∧ w'.cell? ⟨gb376, 2, none⟩ = some (.int .i64 a0_2) ∧ w'.cell? ⟨gb376, 3, none⟩ = some (.int .i64 a0_3) ∧ w'.cell? ⟨gb376, 4, none⟩ = some (.int .i64 a0_4) ∧ w'.cell? ⟨gb376, 5, none⟩ = some (.int .i64 a0_5) ∧ w'.cell? ⟨gb377, 0, none⟩ = some (.int .i64 a1_0) ∧ w'.cell? ⟨gb377, 1, none⟩ = some (.int .i64 a1_1) ∧ w'.cell? ⟨gb377, 2, none⟩ = some (.int .i64 a1_2) ∧ w'.cell? ⟨gb377, 3, none⟩ = some (.int .i64 a1_3) ∧ w'.cell? ⟨gb377, 4, none⟩ = some (.int .i64 a1_4) ∧ w'.cell? ⟨gb377, 5, none⟩ = some (.int .i64 a1_5) ∧ w'.cell? ⟨gb378, 0, none⟩ = some (.int .i64 a2_0) ∧ w'.cell? ⟨gb378, 1, none⟩ = some (.int .i64 a2_1) ∧ w'.cell? ⟨gb378, 2, none⟩ = some (.int .i64 a2_2) ∧ w'.cell? ⟨gb378, 3, none⟩ = some (.int .i64 a2_3) ∧ w'.cell? ⟨gb378, 4, none⟩ = some (.int .i64 a2_4)) (ds := []) #[false, false, false, false, false, false, false, false, false] (by kernel_rfl) rfl rfl ⟨(blk_cell BK376.out 0).trans rfl, (blk_cell BK376.out 1).trans rfl, (blk_cell BK376.out 2).trans rfl, (blk_cell BK376.out 3).trans rfl, (blk_cell BK376.out 4).trans rfl, (blk_cell BK376.out 5).trans rfl, (blk_cell BK377.out 0).trans rfl, (blk_cell BK377.out 1).trans rfl, (blk_cell BK377.out 2).trans rfl, (blk_cell BK377.out 3).trans rfl, (blk_cell BK377.out 4).trans rfl, (blk_cell BK377.out 5).trans rfl, (blk_cell BK378.out 0).trans rfl, (blk_cell BK378.out 1).trans rfl, (blk_cell BK378.out 2).trans rfl, (blk_cell BK378.out 3).trans rfl, (blk_cell BK378.out 4).trans rfl⟩ (fun hHeld => ?_); refine with_tabW laws_FnExactNatAddr.tab2 laws_FnExactNatAddr.bits2 (fun HT_ HW_ => ?_)
  generalize w29.drew = w30 at BK376 BK377 BK378 BK401 HB hHeld ⊢
  refine take_ (i := 0) (N := some 16) (v := ?_) (a' := ?_) #[true, false, false, false, false, false, false, false, false] rfl rfl (take_ofW HT_.out HW_.out (by kernel_rfl)) (fun _ _ _ h => h) (Or.inl ⟨by rfl, ?_⟩) hHeld ?_ ?_
  rotate_left
  ·rintro w' ⟨s0, s1, s2, s3, s4, s5, s6, s7, s8, s9, s10, s11, s12, s13, s14, s15, s16⟩
   go_simp
   with_reducible rfl
  rotate_left
  ·simp only [Act.put, List.setIfInBounds_toArray, List.set_cons_zero, List.set_cons_succ, i64_w, i32_w]
   rfl
  refine take_ (i := 2) (N := some 18) (v := ?_) (a' := ?_) #[true, false, true, false, false, false, false, false, false] rfl rfl (take_ofW HT_.out HW_.out (by kernel_rfl)) (fun _ _ _ h => h) (Or.inl ⟨by rfl, ?_⟩) hHeld ?_ ?_
  rotate_left
  ·rintro w' ⟨s0, s1, s2, s3, s4, s5, s6, s7, s8, s9, s10, s11, s12, s13, s14, s15, s16⟩
   go_simp
   with_reducible rfl
  rotate_left
  ·simp only [Act.put, List.setIfInBounds_toArray, List.set_cons_zero, List.set_cons_succ, i64_w, i32_w]
   rfl
  refine take_ (i := 4) (N := some 20) (v := ?_) (a' := ?_) #[true, false, true, false, true, false, false, false, false] rfl rfl (take_ofW HT_.out HW_.out (by kernel_rfl)) (fun _ _ _ h => h) (Or.inl ⟨by rfl, ?_⟩) hHeld ?_ ?_
  rotate_left
  ·rintro w' ⟨s0, s1, s2, s3, s4, s5, s6, s7, s8, s9, s10, s11, s12, s13, s14, s15, s16⟩
   go_simp
   with_reducible rfl
  rotate_left
  ·simp only [Act.put, List.setIfInBounds_toArray, List.set_cons_zero, List.set_cons_succ, i64_w, i32_w]
   rfl
  refine join_ (σ := Nat) 1 #[true, true, true, true, true, true, true, true, false] (fun s_ => [(17, .agg #[.int .i64 t402, .int .i64 t403, .int .i64 t404, .int .i64 t405, .int .i64 t406, .int .i64 t407]), (19, .agg #[.int .i64 t408, .int .i64 t409, .int .i64 t410, .int .i64 t411, .int .i64 t412, .int .i64 t413]), (21, .agg #[.int .i64 t414, .int .i64 t415, .int .i64 t416, .int .i64 t417, .int .i64 t418]), (22, .agg #[.int .i64 t419, .int .i64 t420, .int .i64 t421, .int .i64 t422, .int .i64 t423]), (8, .pointer (some ⟨s_, 0, none⟩))]) (fun s_ w' => (w'.cell? ⟨gb376, 0, none⟩ = some (.int .i64 a0_0) ∧ w'.cell? ⟨gb376, 1, none⟩ = some (.int .i64 a0_1) ∧ w'.cell? ⟨gb376, 2, none⟩ = some (.int .i64 a0_2) ∧ w'.cell? ⟨gb376, 3, none⟩ = some (.int .i64 a0_3) ∧ w'.cell? ⟨gb376, 4, none⟩ = some (.int .i64 a0_4) ∧ w'.cell? ⟨gb376, 5, none⟩ = some (.int .i64 a0_5) ∧ w'.cell? ⟨gb377, 0, none⟩ = some (.int .i64 a1_0) ∧ w'.cell? ⟨gb377, 1, none⟩ = some (.int .i64 a1_1) ∧ w'.cell? ⟨gb377, 2, none⟩ = some (.int .i64 a1_2) ∧ w'.cell? ⟨gb377, 3, none⟩ = some (.int .i64 a1_3) ∧ w'.cell? ⟨gb377, 4, none⟩ = some (.int .i64 a1_4) ∧ w'.cell? ⟨gb377, 5, none⟩ = some (.int .i64 a1_5) ∧ w'.cell? ⟨gb378, 0, none⟩ = some (.int .i64 a2_0) ∧ w'.cell? ⟨gb378, 1, none⟩ = some (.int .i64 a2_1) ∧ w'.cell? ⟨gb378, 2, none⟩ = some (.int .i64 a2_2) ∧ w'.cell? ⟨gb378, 3, none⟩ = some (.int .i64 a2_3) ∧ w'.cell? ⟨gb378, 4, none⟩ = some (.int .i64 a2_4)) ∧ (w'.heap[gb376]? = some (.cells #[.int .i64 a0_0, .int .i64 a0_1, .int .i64 a0_2, .int .i64 a0_3, .int .i64 a0_4, .int .i64 a0_5] 25 (0, 0))) ∧ (w'.heap[gb377]? = some (.cells #[.int .i64 a1_0, .int .i64 a1_1, .int .i64 a1_2, .int .i64 a1_3, .int .i64 a1_4, .int .i64 a1_5] 25 (0, 0))) ∧ (w'.heap[gb378]? = some (.cells #[.int .i64 a2_0, .int .i64 a2_1, .int .i64 a2_2, .int .i64 a2_3, .int .i64 a2_4] 23 (0, 0))) ∧ (w'.heap[gb401]? = some (.cells #[.int .i64 t396, .int .i64 t397, .int .i64 t398, .int .i64 t399, .int .i64 t400] 26 (0, 0))) ∧ (w'.heap[s_]? = some (.cells #[.int .i64 0, .int .i64 0, .int .i64 0, .int .i64 0, .int .i64 0] 26 (0, 0))) ∧ (w.heap.size ≤ s_) ∧ (w.heap.size ≤ s_) ∧ (gb376 ≠ s_) ∧ (s_ ≠ gb376) ∧ (gb377 ≠ s_) ∧ (s_ ≠ gb377) ∧ (gb378 ≠ s_) ∧ (s_ ≠ gb378) ∧ (gb401 ≠ s_) ∧ (s_ ≠ gb401) ∧ (Below w.heap.size w w')) ?_ ?_
  rotate_left
  ·intro hJ1_3_5_6_7
   refine join_ (σ := Unit) 2 #[true, true, true, true, true, true, true, false, false] (fun s_ => [(17, .agg #[.int .i64 t402, .int .i64 t403, .int .i64 t404, .int .i64 t405, .int .i64 t406, .int .i64 t407]), (19, .agg #[.int .i64 t408, .int .i64 t409, .int .i64 t410, .int .i64 t411, .int .i64 t412, .int .i64 t413]), (21, .agg #[.int .i64 t414, .int .i64 t415, .int .i64 t416, .int .i64 t417, .int .i64 t418]), (22, .agg #[.int .i64 t419, .int .i64 t420, .int .i64 t421, .int .i64 t422, .int .i64 t423])]) (fun s_ w' => (w'.cell? ⟨gb376, 0, none⟩ = some (.int .i64 a0_0) ∧ w'.cell? ⟨gb376, 1, none⟩ = some (.int .i64 a0_1) ∧ w'.cell? ⟨gb376, 2, none⟩ = some (.int .i64 a0_2) ∧ w'.cell? ⟨gb376, 3, none⟩ = some (.int .i64 a0_3) ∧ w'.cell? ⟨gb376, 4, none⟩ = some (.int .i64 a0_4) ∧ w'.cell? ⟨gb376, 5, none⟩ = some (.int .i64 a0_5) ∧ w'.cell? ⟨gb377, 0, none⟩ = some (.int .i64 a1_0) ∧ w'.cell? ⟨gb377, 1, none⟩ = some (.int .i64 a1_1) ∧ w'.cell? ⟨gb377, 2, none⟩ = some (.int .i64 a1_2) ∧ w'.cell? ⟨gb377, 3, none⟩ = some (.int .i64 a1_3) ∧ w'.cell? ⟨gb377, 4, none⟩ = some (.int .i64 a1_4) ∧ w'.cell? ⟨gb377, 5, none⟩ = some (.int .i64 a1_5) ∧ w'.cell? ⟨gb378, 0, none⟩ = some (.int .i64 a2_0) ∧ w'.cell? ⟨gb378, 1, none⟩ = some (.int .i64 a2_1) ∧ w'.cell? ⟨gb378, 2, none⟩ = some (.int .i64 a2_2) ∧ w'.cell? ⟨gb378, 3, none⟩ = some (.int .i64 a2_3) ∧ w'.cell? ⟨gb378, 4, none⟩ = some (.int .i64 a2_4)) ∧ (w'.heap[gb376]? = some (.cells #[.int .i64 a0_0, .int .i64 a0_1, .int .i64 a0_2, .int .i64 a0_3, .int .i64 a0_4, .int .i64 a0_5] 25 (0, 0))) ∧ (w'.heap[gb377]? = some (.cells #[.int .i64 a1_0, .int .i64 a1_1, .int .i64 a1_2, .int .i64 a1_3, .int .i64 a1_4, .int .i64 a1_5] 25 (0, 0))) ∧ (w'.heap[gb378]? = some (.cells #[.int .i64 a2_0, .int .i64 a2_1, .int .i64 a2_2, .int .i64 a2_3, .int .i64 a2_4] 23 (0, 0))) ∧ (w'.heap[gb401]? = some (.cells #[.int .i64 t396, .int .i64 t397, .int .i64 t398, .int .i64 t399, .int .i64 t400] 26 (0, 0))) ∧ (Below w.heap.size w w')) ?_ ?_
   rotate_left
   ·intro hJ1_3_5_6
    refine join_ (σ := Nat) 2 #[true, true, true, true, true, true, false, true, false] (fun s_ => [(17, .agg #[.int .i64 t402, .int .i64 t403, .int .i64 t404, .int .i64 t405, .int .i64 t406, .int .i64 t407]), (19, .agg #[.int .i64 t408, .int .i64 t409, .int .i64 t410, .int .i64 t411, .int .i64 t412, .int .i64 t413]), (21, .agg #[.int .i64 t414, .int .i64 t415, .int .i64 t416, .int .i64 t417, .int .i64 t418]), (8, .pointer (some ⟨s_, 0, none⟩))]) (fun s_ w' => (w'.cell? ⟨gb376, 0, none⟩ = some (.int .i64 a0_0) ∧ w'.cell? ⟨gb376, 1, none⟩ = some (.int .i64 a0_1) ∧ w'.cell? ⟨gb376, 2, none⟩ = some (.int .i64 a0_2) ∧ w'.cell? ⟨gb376, 3, none⟩ = some (.int .i64 a0_3) ∧ w'.cell? ⟨gb376, 4, none⟩ = some (.int .i64 a0_4) ∧ w'.cell? ⟨gb376, 5, none⟩ = some (.int .i64 a0_5) ∧ w'.cell? ⟨gb377, 0, none⟩ = some (.int .i64 a1_0) ∧ w'.cell? ⟨gb377, 1, none⟩ = some (.int .i64 a1_1) ∧ w'.cell? ⟨gb377, 2, none⟩ = some (.int .i64 a1_2) ∧ w'.cell? ⟨gb377, 3, none⟩ = some (.int .i64 a1_3) ∧ w'.cell? ⟨gb377, 4, none⟩ = some (.int .i64 a1_4) ∧ w'.cell? ⟨gb377, 5, none⟩ = some (.int .i64 a1_5) ∧ w'.cell? ⟨gb378, 0, none⟩ = some (.int .i64 a2_0) ∧ w'.cell? ⟨gb378, 1, none⟩ = some (.int .i64 a2_1) ∧ w'.cell? ⟨gb378, 2, none⟩ = some (.int .i64 a2_2) ∧ w'.cell? ⟨gb378, 3, none⟩ = some (.int .i64 a2_3) ∧ w'.cell? ⟨gb378, 4, none⟩ = some (.int .i64 a2_4)) ∧ (w'.heap[gb376]? = some (.cells #[.int .i64 a0_0, .int .i64 a0_1, .int .i64 a0_2, .int .i64 a0_3, .int .i64 a0_4, .int .i64 a0_5] 25 (0, 0))) ∧ (w'.heap[gb377]? = some (.cells #[.int .i64 a1_0, .int .i64 a1_1, .int .i64 a1_2, .int .i64 a1_3, .int .i64 a1_4, .int .i64 a1_5] 25 (0, 0))) ∧ (w'.heap[gb378]? = some (.cells #[.int .i64 a2_0, .int .i64 a2_1, .int .i64 a2_2, .int .i64 a2_3, .int .i64 a2_4] 23 (0, 0))) ∧ (w'.heap[gb401]? = some (.cells #[.int .i64 t396, .int .i64 t397, .int .i64 t398, .int .i64 t399, .int .i64 t400] 26 (0, 0))) ∧ (w'.heap[s_]? = some (.cells #[.int .i64 0, .int .i64 0, .int .i64 0, .int .i64 0, .int .i64 0] 26 (0, 0))) ∧ (w.heap.size ≤ s_) ∧ (w.heap.size ≤ s_) ∧ (gb376 ≠ s_) ∧ (s_ ≠ gb376) ∧ (gb377 ≠ s_) ∧ (s_ ≠ gb377) ∧ (gb378 ≠ s_) ∧ (s_ ≠ gb378) ∧ (gb401 ≠ s_) ∧ (s_ ≠ gb401) ∧ (Below w.heap.size w w')) ?_ ?_
    rotate_left
    ·intro hJ1_3_5_7
     refine join_ (σ := Unit) 3 #[true, true, true, true, true, true, false, false, false] (fun s_ => [(17, .agg #[.int .i64 t402, .int .i64 t403, .int .i64 t404, .int .i64 t405, .int .i64 t406, .int .i64 t407]), (19, .agg #[.int .i64 t408, .int .i64 t409, .int .i64 t410, .int .i64 t411, .int .i64 t412, .int .i64 t413]), (21, .agg #[.int .i64 t414, .int .i64 t415, .int .i64 t416, .int .i64 t417, .int .i64 t418])]) (fun s_ w' => (w'.cell? ⟨gb376, 0, none⟩ = some (.int .i64 a0_0) ∧ w'.cell? ⟨gb376, 1, none⟩ = some (.int .i64 a0_1) ∧ w'.cell? ⟨gb376, 2, none⟩ = some (.int .i64 a0_2) ∧ w'.cell? ⟨gb376, 3, none⟩ = some (.int .i64 a0_3) ∧ w'.cell? ⟨gb376, 4, none⟩ = some (.int .i64 a0_4) ∧ w'.cell? ⟨gb376, 5, none⟩ = some (.int .i64 a0_5) ∧ w'.cell? ⟨gb377, 0, none⟩ = some (.int .i64 a1_0) ∧ w'.cell? ⟨gb377, 1, none⟩ = some (.int .i64 a1_1) ∧ w'.cell? ⟨gb377, 2, none⟩ = some (.int .i64 a1_2) ∧ w'.cell? ⟨gb377, 3, none⟩ = some (.int .i64 a1_3) ∧ w'.cell? ⟨gb377, 4, none⟩ = some (.int .i64 a1_4) ∧ w'.cell? ⟨gb377, 5, none⟩ = some (.int .i64 a1_5) ∧ w'.cell? ⟨gb378, 0, none⟩ = some (.int .i64 a2_0) ∧ w'.cell? ⟨gb378, 1, none⟩ = some (.int .i64 a2_1) ∧ w'.cell? ⟨gb378, 2, none⟩ = some (.int .i64 a2_2) ∧ w'.cell? ⟨gb378, 3, none⟩ = some (.int .i64 a2_3) ∧ w'.cell? ⟨gb378, 4, none⟩ = some (.int .i64 a2_4)) ∧ (w'.heap[gb376]? = some (.cells #[.int .i64 a0_0, .int .i64 a0_1, .int .i64 a0_2, .int .i64 a0_3, .int .i64 a0_4, .int .i64 a0_5] 25 (0, 0))) ∧ (w'.heap[gb377]? = some (.cells #[.int .i64 a1_0, .int .i64 a1_1, .int .i64 a1_2, .int .i64 a1_3, .int .i64 a1_4, .int .i64 a1_5] 25 (0, 0))) ∧ (w'.heap[gb378]? = some (.cells #[.int .i64 a2_0, .int .i64 a2_1, .int .i64 a2_2, .int .i64 a2_3, .int .i64 a2_4] 23 (0, 0))) ∧ (w'.heap[gb401]? = some (.cells #[.int .i64 t396, .int .i64 t397, .int .i64 t398, .int .i64 t399, .int .i64 t400] 26 (0, 0))) ∧ (Below w.heap.size w w')) ?_ ?_
     rotate_left
     ·intro hJ1_3_5
      refine join_ (σ := Nat) 3 #[true, true, true, true, true, false, false, true, false] (fun s_ => [(17, .agg #[.int .i64 t402, .int .i64 t403, .int .i64 t404, .int .i64 t405, .int .i64 t406, .int .i64 t407]), (19, .agg #[.int .i64 t408, .int .i64 t409, .int .i64 t410, .int .i64 t411, .int .i64 t412, .int .i64 t413]), (8, .pointer (some ⟨s_, 0, none⟩))]) (fun s_ w' => (w'.cell? ⟨gb376, 0, none⟩ = some (.int .i64 a0_0) ∧ w'.cell? ⟨gb376, 1, none⟩ = some (.int .i64 a0_1) ∧ w'.cell? ⟨gb376, 2, none⟩ = some (.int .i64 a0_2) ∧ w'.cell? ⟨gb376, 3, none⟩ = some (.int .i64 a0_3) ∧ w'.cell? ⟨gb376, 4, none⟩ = some (.int .i64 a0_4) ∧ w'.cell? ⟨gb376, 5, none⟩ = some (.int .i64 a0_5) ∧ w'.cell? ⟨gb377, 0, none⟩ = some (.int .i64 a1_0) ∧ w'.cell? ⟨gb377, 1, none⟩ = some (.int .i64 a1_1) ∧ w'.cell? ⟨gb377, 2, none⟩ = some (.int .i64 a1_2) ∧ w'.cell? ⟨gb377, 3, none⟩ = some (.int .i64 a1_3) ∧ w'.cell? ⟨gb377, 4, none⟩ = some (.int .i64 a1_4) ∧ w'.cell? ⟨gb377, 5, none⟩ = some (.int .i64 a1_5) ∧ w'.cell? ⟨gb378, 0, none⟩ = some (.int .i64 a2_0) ∧ w'.cell? ⟨gb378, 1, none⟩ = some (.int .i64 a2_1) ∧ w'.cell? ⟨gb378, 2, none⟩ = some (.int .i64 a2_2) ∧ w'.cell? ⟨gb378, 3, none⟩ = some (.int .i64 a2_3) ∧ w'.cell? ⟨gb378, 4, none⟩ = some (.int .i64 a2_4)) ∧ (w'.heap[gb376]? = some (.cells #[.int .i64 a0_0, .int .i64 a0_1, .int .i64 a0_2, .int .i64 a0_3, .int .i64 a0_4, .int .i64 a0_5] 25 (0, 0))) ∧ (w'.heap[gb377]? = some (.cells #[.int .i64 a1_0, .int .i64 a1_1, .int .i64 a1_2, .int .i64 a1_3, .int .i64 a1_4, .int .i64 a1_5] 25 (0, 0))) ∧ (w'.heap[gb378]? = some (.cells #[.int .i64 a2_0, .int .i64 a2_1, .int .i64 a2_2, .int .i64 a2_3, .int .i64 a2_4] 23 (0, 0))) ∧ (w'.heap[gb401]? = some (.cells #[.int .i64 t396, .int .i64 t397, .int .i64 t398, .int .i64 t399, .int .i64 t400] 26 (0, 0))) ∧ (w'.heap[s_]? = some (.cells #[.int .i64 0, .int .i64 0, .int .i64 0, .int .i64 0, .int .i64 0] 26 (0, 0))) ∧ (w.heap.size ≤ s_) ∧ (w.heap.size ≤ s_) ∧ (gb376 ≠ s_) ∧ (s_ ≠ gb376) ∧ (gb377 ≠ s_) ∧ (s_ ≠ gb377) ∧ (gb378 ≠ s_) ∧ (s_ ≠ gb378) ∧ (gb401 ≠ s_) ∧ (s_ ≠ gb401) ∧ (Below w.heap.size w w')) ?_ ?_
      rotate_left
      ·intro hJ1_3_7
       refine join_ (σ := Unit) 4 #[true, true, true, true, true, false, false, false, false] (fun s_ => [(17, .agg #[.int .i64 t402, .int .i64 t403, .int .i64 t404, .int .i64 t405, .int .i64 t406, .int .i64 t407]), (19, .agg #[.int .i64 t408, .int .i64 t409, .int .i64 t410, .int .i64 t411, .int .i64 t412, .int .i64 t413])]) (fun s_ w' => (w'.cell? ⟨gb376, 0, none⟩ = some (.int .i64 a0_0) ∧ w'.cell? ⟨gb376, 1, none⟩ = some (.int .i64 a0_1) ∧ w'.cell? ⟨gb376, 2, none⟩ = some (.int .i64 a0_2) ∧ w'.cell? ⟨gb376, 3, none⟩ = some (.int .i64 a0_3) ∧ w'.cell? ⟨gb376, 4, none⟩ = some (.int .i64 a0_4) ∧ w'.cell? ⟨gb376, 5, none⟩ = some (.int .i64 a0_5) ∧ w'.cell? ⟨gb377, 0, none⟩ = some (.int .i64 a1_0) ∧ w'.cell? ⟨gb377, 1, none⟩ = some (.int .i64 a1_1) ∧ w'.cell? ⟨gb377, 2, none⟩ = some (.int .i64 a1_2) ∧ w'.cell? ⟨gb377, 3, none⟩ = some (.int .i64 a1_3) ∧ w'.cell? ⟨gb377, 4, none⟩ = some (.int .i64 a1_4) ∧ w'.cell? ⟨gb377, 5, none⟩ = some (.int .i64 a1_5) ∧ w'.cell? ⟨gb378, 0, none⟩ = some (.int .i64 a2_0) ∧ w'.cell? ⟨gb378, 1, none⟩ = some (.int .i64 a2_1) ∧ w'.cell? ⟨gb378, 2, none⟩ = some (.int .i64 a2_2) ∧ w'.cell? ⟨gb378, 3, none⟩ = some (.int .i64 a2_3) ∧ w'.cell? ⟨gb378, 4, none⟩ = some (.int .i64 a2_4)) ∧ (w'.heap[gb376]? = some (.cells #[.int .i64 a0_0, .int .i64 a0_1, .int .i64 a0_2, .int .i64 a0_3, .int .i64 a0_4, .int .i64 a0_5] 25 (0, 0))) ∧ (w'.heap[gb377]? = some (.cells #[.int .i64 a1_0, .int .i64 a1_1, .int .i64 a1_2, .int .i64 a1_3, .int .i64 a1_4, .int .i64 a1_5] 25 (0, 0))) ∧ (w'.heap[gb378]? = some (.cells #[.int .i64 a2_0, .int .i64 a2_1, .int .i64 a2_2, .int .i64 a2_3, .int .i64 a2_4] 23 (0, 0))) ∧ (w'.heap[gb401]? = some (.cells #[.int .i64 t396, .int .i64 t397, .int .i64 t398, .int .i64 t399, .int .i64 t400] 26 (0, 0))) ∧ (Below w.heap.size w w')) ?_ ?_
       rotate_left
       ·intro hJ1_3
        refine join_ (σ := Nat) 4 #[true, true, true, false, true, false, false, true, false] (fun s_ => [(17, .agg #[.int .i64 t402, .int .i64 t403, .int .i64 t404, .int .i64 t405, .int .i64 t406, .int .i64 t407]), (8, .pointer (some ⟨s_, 0, none⟩))]) (fun s_ w' => (w'.cell? ⟨gb376, 0, none⟩ = some (.int .i64 a0_0) ∧ w'.cell? ⟨gb376, 1, none⟩ = some (.int .i64 a0_1) ∧ w'.cell? ⟨gb376, 2, none⟩ = some (.int .i64 a0_2) ∧ w'.cell? ⟨gb376, 3, none⟩ = some (.int .i64 a0_3) ∧ w'.cell? ⟨gb376, 4, none⟩ = some (.int .i64 a0_4) ∧ w'.cell? ⟨gb376, 5, none⟩ = some (.int .i64 a0_5) ∧ w'.cell? ⟨gb377, 0, none⟩ = some (.int .i64 a1_0) ∧ w'.cell? ⟨gb377, 1, none⟩ = some (.int .i64 a1_1) ∧ w'.cell? ⟨gb377, 2, none⟩ = some (.int .i64 a1_2) ∧ w'.cell? ⟨gb377, 3, none⟩ = some (.int .i64 a1_3) ∧ w'.cell? ⟨gb377, 4, none⟩ = some (.int .i64 a1_4) ∧ w'.cell? ⟨gb377, 5, none⟩ = some (.int .i64 a1_5) ∧ w'.cell? ⟨gb378, 0, none⟩ = some (.int .i64 a2_0) ∧ w'.cell? ⟨gb378, 1, none⟩ = some (.int .i64 a2_1) ∧ w'.cell? ⟨gb378, 2, none⟩ = some (.int .i64 a2_2) ∧ w'.cell? ⟨gb378, 3, none⟩ = some (.int .i64 a2_3) ∧ w'.cell? ⟨gb378, 4, none⟩ = some (.int .i64 a2_4)) ∧ (w'.heap[gb376]? = some (.cells #[.int .i64 a0_0, .int .i64 a0_1, .int .i64 a0_2, .int .i64 a0_3, .int .i64 a0_4, .int .i64 a0_5] 25 (0, 0))) ∧ (w'.heap[gb377]? = some (.cells #[.int .i64 a1_0, .int .i64 a1_1, .int .i64 a1_2, .int .i64 a1_3, .int .i64 a1_4, .int .i64 a1_5] 25 (0, 0))) ∧ (w'.heap[gb378]? = some (.cells #[.int .i64 a2_0, .int .i64 a2_1, .int .i64 a2_2, .int .i64 a2_3, .int .i64 a2_4] 23 (0, 0))) ∧ (w'.heap[gb401]? = some (.cells #[.int .i64 t396, .int .i64 t397, .int .i64 t398, .int .i64 t399, .int .i64 t400] 26 (0, 0))) ∧ (w'.heap[s_]? = some (.cells #[.int .i64 0, .int .i64 0, .int .i64 0, .int .i64 0, .int .i64 0] 26 (0, 0))) ∧ (w.heap.size ≤ s_) ∧ (w.heap.size ≤ s_) ∧ (gb376 ≠ s_) ∧ (s_ ≠ gb376) ∧ (gb377 ≠ s_) ∧ (s_ ≠ gb377) ∧ (gb378 ≠ s_) ∧ (s_ ≠ gb378) ∧ (gb401 ≠ s_) ∧ (s_ ≠ gb401) ∧ (Below w.heap.size w w')) ?_ ?_
        rotate_left
        ·intro hJ1_7
         refine join_ (σ := Unit) 5 #[true, true, true, false, true, false, false, false, false] (fun s_ => [(17, .agg #[.int .i64 t402, .int .i64 t403, .int .i64 t404, .int .i64 t405, .int .i64 t406, .int .i64 t407])]) (fun s_ w' => (w'.cell? ⟨gb376, 0, none⟩ = some (.int .i64 a0_0) ∧ w'.cell? ⟨gb376, 1, none⟩ = some (.int .i64 a0_1) ∧ w'.cell? ⟨gb376, 2, none⟩ = some (.int .i64 a0_2) ∧ w'.cell? ⟨gb376, 3, none⟩ = some (.int .i64 a0_3) ∧ w'.cell? ⟨gb376, 4, none⟩ = some (.int .i64 a0_4) ∧ w'.cell? ⟨gb376, 5, none⟩ = some (.int .i64 a0_5) ∧ w'.cell? ⟨gb377, 0, none⟩ = some (.int .i64 a1_0) ∧ w'.cell? ⟨gb377, 1, none⟩ = some (.int .i64 a1_1) ∧ w'.cell? ⟨gb377, 2, none⟩ = some (.int .i64 a1_2) ∧ w'.cell? ⟨gb377, 3, none⟩ = some (.int .i64 a1_3) ∧ w'.cell? ⟨gb377, 4, none⟩ = some (.int .i64 a1_4) ∧ w'.cell? ⟨gb377, 5, none⟩ = some (.int .i64 a1_5) ∧ w'.cell? ⟨gb378, 0, none⟩ = some (.int .i64 a2_0) ∧ w'.cell? ⟨gb378, 1, none⟩ = some (.int .i64 a2_1) ∧ w'.cell? ⟨gb378, 2, none⟩ = some (.int .i64 a2_2) ∧ w'.cell? ⟨gb378, 3, none⟩ = some (.int .i64 a2_3) ∧ w'.cell? ⟨gb378, 4, none⟩ = some (.int .i64 a2_4)) ∧ (w'.heap[gb376]? = some (.cells #[.int .i64 a0_0, .int .i64 a0_1, .int .i64 a0_2, .int .i64 a0_3, .int .i64 a0_4, .int .i64 a0_5] 25 (0, 0))) ∧ (w'.heap[gb377]? = some (.cells #[.int .i64 a1_0, .int .i64 a1_1, .int .i64 a1_2, .int .i64 a1_3, .int .i64 a1_4, .int .i64 a1_5] 25 (0, 0))) ∧ (w'.heap[gb378]? = some (.cells #[.int .i64 a2_0, .int .i64 a2_1, .int .i64 a2_2, .int .i64 a2_3, .int .i64 a2_4] 23 (0, 0))) ∧ (w'.heap[gb401]? = some (.cells #[.int .i64 t396, .int .i64 t397, .int .i64 t398, .int .i64 t399, .int .i64 t400] 26 (0, 0))) ∧ (Below w.heap.size w w')) ?_ ?_
         rotate_left
         ·intro hJ1
          refine join_ (σ := Nat) 5 #[true, false, true, false, true, false, false, true, false] (fun s_ => [(8, .pointer (some ⟨s_, 0, none⟩))]) (fun s_ w' => (w'.cell? ⟨gb376, 0, none⟩ = some (.int .i64 a0_0) ∧ w'.cell? ⟨gb376, 1, none⟩ = some (.int .i64 a0_1) ∧ w'.cell? ⟨gb376, 2, none⟩ = some (.int .i64 a0_2) ∧ w'.cell? ⟨gb376, 3, none⟩ = some (.int .i64 a0_3) ∧ w'.cell? ⟨gb376, 4, none⟩ = some (.int .i64 a0_4) ∧ w'.cell? ⟨gb376, 5, none⟩ = some (.int .i64 a0_5) ∧ w'.cell? ⟨gb377, 0, none⟩ = some (.int .i64 a1_0) ∧ w'.cell? ⟨gb377, 1, none⟩ = some (.int .i64 a1_1) ∧ w'.cell? ⟨gb377, 2, none⟩ = some (.int .i64 a1_2) ∧ w'.cell? ⟨gb377, 3, none⟩ = some (.int .i64 a1_3) ∧ w'.cell? ⟨gb377, 4, none⟩ = some (.int .i64 a1_4) ∧ w'.cell? ⟨gb377, 5, none⟩ = some (.int .i64 a1_5) ∧ w'.cell? ⟨gb378, 0, none⟩ = some (.int .i64 a2_0) ∧ w'.cell? ⟨gb378, 1, none⟩ = some (.int .i64 a2_1) ∧ w'.cell? ⟨gb378, 2, none⟩ = some (.int .i64 a2_2) ∧ w'.cell? ⟨gb378, 3, none⟩ = some (.int .i64 a2_3) ∧ w'.cell? ⟨gb378, 4, none⟩ = some (.int .i64 a2_4)) ∧ (w'.heap[gb376]? = some (.cells #[.int .i64 a0_0, .int .i64 a0_1, .int .i64 a0_2, .int .i64 a0_3, .int .i64 a0_4, .int .i64 a0_5] 25 (0, 0))) ∧ (w'.heap[gb377]? = some (.cells #[.int .i64 a1_0, .int .i64 a1_1, .int .i64 a1_2, .int .i64 a1_3, .int .i64 a1_4, .int .i64 a1_5] 25 (0, 0))) ∧ (w'.heap[gb378]? = some (.cells #[.int .i64 a2_0, .int .i64 a2_1, .int .i64 a2_2, .int .i64 a2_3, .int .i64 a2_4] 23 (0, 0))) ∧ (w'.heap[gb401]? = some (.cells #[.int .i64 t396, .int .i64 t397, .int .i64 t398, .int .i64 t399, .int .i64 t400] 26 (0, 0))) ∧ (w'.heap[s_]? = some (.cells #[.int .i64 0, .int .i64 0, .int .i64 0, .int .i64 0, .int .i64 0] 26 (0, 0))) ∧ (w.heap.size ≤ s_) ∧ (w.heap.size ≤ s_) ∧ (gb376 ≠ s_) ∧ (s_ ≠ gb376) ∧ (gb377 ≠ s_) ∧ (s_ ≠ gb377) ∧ (gb378 ≠ s_) ∧ (s_ ≠ gb378) ∧ (gb401 ≠ s_) ∧ (s_ ≠ gb401) ∧ (Below w.heap.size w w')) ?_ ?_
          rotate_left
          ·intro hJ7
           refine two_ (i := 1) (j := 7) (Ni := some 17) (Nj := some 8) #[true, true, true, false, true, false, false, false, false] #[true, false, true, false, true, false, false, true, false] rfl rfl rfl rfl (two_of HT_.out (by kernel_rfl)) (by decide) (by decide) (fun K hK => ?_) (fun K hK => ?_)
           ·skip
            refine goes_ Try.func9 (by kernel_rfl) rfl #[.agg #[.int .i64 a0_0, .int .i64 a0_1, .int .i64 a0_2, .int .i64 a0_3, .int .i64 a0_4, .int .i64 a0_5]] (by rfl) rfl rfl (by (try simp only [List.map_toArray, List.map_cons, List.map_nil]); first | done | rfl | (simp only [List.length_drop, List.length_take]; rfl)) ?_
            with_reducible refine (laws_toPrefix.calls a0_0 a0_1 a0_2 a0_3 a0_4 a0_5 t402 t403 t404 t405 t406 t407 _ A8.out).mono ?_
            rintro e w31 ⟨rfl, hb⟩
            refine ⟨_, rfl, ?_⟩
            have n0_ := Gv.a0 (blk_below BK376.out hb)
            have n1_ := Gv.a0 (blk_below BK377.out hb)
            have n2_ := Gv.a0 (blk_below BK378.out hb)
            have n3_ := Gv.a0 (blk_below BK401.out hb)
            have n4_ := Gv.a0 (below_step Gv.bw hb)
            clear BK376
            clear BK377
            clear BK378
            clear BK401
            clear HB
            have BK376 := n0_
            have BK377 := n1_
            have BK378 := n2_
            have BK401 := n3_
            have HB := n4_
            clear n0_ n1_ n2_ n3_ n4_
            (try clear hb)
            (try clear hb2)
            (try clear hk)
            (try clear hi)
            refine hK.out _ _ ⟨(blk_cell BK376.out 0).trans rfl, (blk_cell BK376.out 1).trans rfl, (blk_cell BK376.out 2).trans rfl, (blk_cell BK376.out 3).trans rfl, (blk_cell BK376.out 4).trans rfl, (blk_cell BK376.out 5).trans rfl, (blk_cell BK377.out 0).trans rfl, (blk_cell BK377.out 1).trans rfl, (blk_cell BK377.out 2).trans rfl, (blk_cell BK377.out 3).trans rfl, (blk_cell BK377.out 4).trans rfl, (blk_cell BK377.out 5).trans rfl, (blk_cell BK378.out 0).trans rfl, (blk_cell BK378.out 1).trans rfl, (blk_cell BK378.out 2).trans rfl, (blk_cell BK378.out 3).trans rfl, (blk_cell BK378.out 4).trans rfl⟩ (fun hHeld => ?_)
            clear hK K
            refine norm_ (a' := ?_) ?_ ?_
            rotate_left
            ·show Act.put _ (some 17) _ = _
             simp only [Act.put, List.setIfInBounds_toArray, List.set_cons_zero, List.set_cons_succ, i64_w, i32_w]
             rfl
            exact Gv.nm (hJ1 () _ ⟨hHeld, Gv.bk, Gv.bk, Gv.bk, Gv.bk, Gv.bw⟩)
           ·skip
            refine box_step ?hg (N := 8) ?hd (cs := #[.int .i64 0, .int .i64 0, .int .i64 0, .int .i64 0, .int .i64 0]) (t := 26) ?hr ?_; (case hd => rfl); (case hg => rfl); (case hr => first | (go_simp; done) | (go_simp; rfl))
            intro gb424 hg w31 hbox hb
            have n0_ := Gv.a0 (blk_below BK376.out hb)
            have n1_ := Gv.a0 (blk_below BK377.out hb)
            have n2_ := Gv.a0 (blk_below BK378.out hb)
            have n3_ := Gv.a0 (blk_below BK401.out hb)
            have n4_ := Gv.a0 (below_step Gv.bw hb)
            have n5_ := Gv.a0 (hbox)
            have n6_ := Gv.a0 ((by rw [hg]; exact (below_size Gv.bw) : w.heap.size ≤ gb424))
            have n7_ := Gv.a0 ((by rw [hg]; exact (below_size Gv.bw) : w.heap.size ≤ gb424))
            have n8_ := Gv.a0 ((by rw [hg]; exact Nat.ne_of_lt (blk_lt (g := gb376) (o := .cells #[.int .i64 a0_0, .int .i64 a0_1, .int .i64 a0_2, .int .i64 a0_3, .int .i64 a0_4, .int .i64 a0_5] 25 (0, 0)) Gv.bk) : gb376 ≠ gb424))
            have n9_ := Gv.a0 ((by rw [hg]; exact Nat.ne_of_gt (blk_lt (g := gb376) (o := .cells #[.int .i64 a0_0, .int .i64 a0_1, .int .i64 a0_2, .int .i64 a0_3, .int .i64 a0_4, .int .i64 a0_5] 25 (0, 0)) Gv.bk) : gb424 ≠ gb376))
            have n10_ := Gv.a0 ((by rw [hg]; exact Nat.ne_of_lt (blk_lt (g := gb377) (o := .cells #[.int .i64 a1_0, .int .i64 a1_1, .int .i64 a1_2, .int .i64 a1_3, .int .i64 a1_4, .int .i64 a1_5] 25 (0, 0)) Gv.bk) : gb377 ≠ gb424))
            have n11_ := Gv.a0 ((by rw [hg]; exact Nat.ne_of_gt (blk_lt (g := gb377) (o := .cells #[.int .i64 a1_0, .int .i64 a1_1, .int .i64 a1_2, .int .i64 a1_3, .int .i64 a1_4, .int .i64 a1_5] 25 (0, 0)) Gv.bk) : gb424 ≠ gb377))
            have n12_ := Gv.a0 ((by rw [hg]; exact Nat.ne_of_lt (blk_lt (g := gb378) (o := .cells #[.int .i64 a2_0, .int .i64 a2_1, .int .i64 a2_2, .int .i64 a2_3, .int .i64 a2_4] 23 (0, 0)) Gv.bk) : gb378 ≠ gb424))
            have n13_ := Gv.a0 ((by rw [hg]; exact Nat.ne_of_gt (blk_lt (g := gb378) (o := .cells #[.int .i64 a2_0, .int .i64 a2_1, .int .i64 a2_2, .int .i64 a2_3, .int .i64 a2_4] 23 (0, 0)) Gv.bk) : gb424 ≠ gb378))
            have n14_ := Gv.a0 ((by rw [hg]; exact Nat.ne_of_lt (blk_lt (g := gb401) (o := .cells #[.int .i64 t396, .int .i64 t397, .int .i64 t398, .int .i64 t399, .int .i64 t400] 26 (0, 0)) Gv.bk) : gb401 ≠ gb424))
            have n15_ := Gv.a0 ((by rw [hg]; exact Nat.ne_of_gt (blk_lt (g := gb401) (o := .cells #[.int .i64 t396, .int .i64 t397, .int .i64 t398, .int .i64 t399, .int .i64 t400] 26 (0, 0)) Gv.bk) : gb424 ≠ gb401))
            clear BK376
            clear BK377
            clear BK378
            clear BK401
            clear HB
            have BK376 := n0_
            have BK377 := n1_
            have BK378 := n2_
            have BK401 := n3_
            have HB := n4_
            have BK424 := n5_
            have GW424 := n6_
            have GE424 := n7_
            have NB376_424 := n8_
            have NB424_376 := n9_
            have NB377_424 := n10_
            have NB424_377 := n11_
            have NB378_424 := n12_
            have NB424_378 := n13_
            have NB401_424 := n14_
            have NB424_401 := n15_
            clear n0_ n1_ n2_ n3_ n4_ n5_ n6_ n7_ n8_ n9_ n10_ n11_ n12_ n13_ n14_ n15_
            clear hb hbox hg
            refine hK.out _ _ ⟨(blk_cell BK376.out 0).trans rfl, (blk_cell BK376.out 1).trans rfl, (blk_cell BK376.out 2).trans rfl, (blk_cell BK376.out 3).trans rfl, (blk_cell BK376.out 4).trans rfl, (blk_cell BK376.out 5).trans rfl, (blk_cell BK377.out 0).trans rfl, (blk_cell BK377.out 1).trans rfl, (blk_cell BK377.out 2).trans rfl, (blk_cell BK377.out 3).trans rfl, (blk_cell BK377.out 4).trans rfl, (blk_cell BK377.out 5).trans rfl, (blk_cell BK378.out 0).trans rfl, (blk_cell BK378.out 1).trans rfl, (blk_cell BK378.out 2).trans rfl, (blk_cell BK378.out 3).trans rfl, (blk_cell BK378.out 4).trans rfl⟩ (fun hHeld => ?_)
            clear hK K
            refine norm_ (a' := ?_) ?_ ?_
            rotate_left
            ·show Act.put _ (some 8) _ = _
             simp only [Act.put, List.setIfInBounds_toArray, List.set_cons_zero, List.set_cons_succ, i64_w, i32_w]
             rfl
            exact Gv.nm (hJ7 (gb424) _ ⟨hHeld, Gv.bk, Gv.bk, Gv.bk, Gv.bk, Gv.bk, GW424.out, GE424.out, NB376_424.out, NB424_376.out, NB377_424.out, NB424_377.out, NB378_424.out, NB424_378.out, NB401_424.out, NB424_401.out, Gv.bw⟩)
          ·skip
           rintro gb424 w32 ⟨hS_, h0_, h1_, h2_, h3_, h4_, h5_, h6_, h7_, h8_, h9_, h10_, h11_, h12_, h13_, h14_, h15_⟩
           have n0_ : Aside0 (w32.heap[gb376]? = some (.cells #[.int .i64 a0_0, .int .i64 a0_1, .int .i64 a0_2, .int .i64 a0_3, .int .i64 a0_4, .int .i64 a0_5] 25 (0, 0))) := ⟨h0_⟩
           have n1_ : Aside0 (w32.heap[gb377]? = some (.cells #[.int .i64 a1_0, .int .i64 a1_1, .int .i64 a1_2, .int .i64 a1_3, .int .i64 a1_4, .int .i64 a1_5] 25 (0, 0))) := ⟨h1_⟩
           have n2_ : Aside0 (w32.heap[gb378]? = some (.cells #[.int .i64 a2_0, .int .i64 a2_1, .int .i64 a2_2, .int .i64 a2_3, .int .i64 a2_4] 23 (0, 0))) := ⟨h2_⟩
           have n3_ : Aside0 (w32.heap[gb401]? = some (.cells #[.int .i64 t396, .int .i64 t397, .int .i64 t398, .int .i64 t399, .int .i64 t400] 26 (0, 0))) := ⟨h3_⟩
           have n4_ : Aside0 (w32.heap[gb424]? = some (.cells #[.int .i64 0, .int .i64 0, .int .i64 0, .int .i64 0, .int .i64 0] 26 (0, 0))) := ⟨h4_⟩
           have n5_ : Aside0 (w.heap.size ≤ gb424) := ⟨h5_⟩
           have n6_ : Aside0 (w.heap.size ≤ gb424) := ⟨h6_⟩
           have n7_ : Aside0 (gb376 ≠ gb424) := ⟨h7_⟩
           have n8_ : Aside0 (gb424 ≠ gb376) := ⟨h8_⟩
           have n9_ : Aside0 (gb377 ≠ gb424) := ⟨h9_⟩
           have n10_ : Aside0 (gb424 ≠ gb377) := ⟨h10_⟩
           have n11_ : Aside0 (gb378 ≠ gb424) := ⟨h11_⟩
           have n12_ : Aside0 (gb424 ≠ gb378) := ⟨h12_⟩
           have n13_ : Aside0 (gb401 ≠ gb424) := ⟨h13_⟩
           have n14_ : Aside0 (gb424 ≠ gb401) := ⟨h14_⟩
           have n15_ : Aside0 (Below w.heap.size w w32) := ⟨h15_⟩
           clear BK376
           clear BK377
           clear BK378
           clear BK401
           clear HB
           clear h0_ h1_ h2_ h3_ h4_ h5_ h6_ h7_ h8_ h9_ h10_ h11_ h12_ h13_ h14_ h15_
           have BK376 := n0_
           have BK377 := n1_
           have BK378 := n2_
           have BK401 := n3_
           have BK424 := n4_
           have GW424 := n5_
           have GE424 := n6_
           have NB376_424 := n7_
           have NB424_376 := n8_
           have NB377_424 := n9_
           have NB424_377 := n10_
           have NB378_424 := n11_
           have NB424_378 := n12_
           have NB401_424 := n13_
           have NB424_401 := n14_
           have HB := n15_
           clear n0_ n1_ n2_ n3_ n4_ n5_ n6_ n7_ n8_ n9_ n10_ n11_ n12_ n13_ n14_ n15_
           have hHeld : w32.cell? ⟨gb376, 0, none⟩ = some (.int .i64 a0_0) ∧ w32.cell? ⟨gb376, 1, none⟩ = some (.int .i64 a0_1) ∧ w32.cell? ⟨gb376, 2, none⟩ = some (.int .i64 a0_2) ∧ w32.cell? ⟨gb376, 3, none⟩ = some (.int .i64 a0_3) ∧ w32.cell? ⟨gb376, 4, none⟩ = some (.int .i64 a0_4) ∧ w32.cell? ⟨gb376, 5, none⟩ = some (.int .i64 a0_5) ∧ w32.cell? ⟨gb377, 0, none⟩ = some (.int .i64 a1_0) ∧ w32.cell? ⟨gb377, 1, none⟩ = some (.int .i64 a1_1) ∧ w32.cell? ⟨gb377, 2, none⟩ = some (.int .i64 a1_2) ∧ w32.cell? ⟨gb377, 3, none⟩ = some (.int .i64 a1_3) ∧ w32.cell? ⟨gb377, 4, none⟩ = some (.int .i64 a1_4) ∧ w32.cell? ⟨gb377, 5, none⟩ = some (.int .i64 a1_5) ∧ w32.cell? ⟨gb378, 0, none⟩ = some (.int .i64 a2_0) ∧ w32.cell? ⟨gb378, 1, none⟩ = some (.int .i64 a2_1) ∧ w32.cell? ⟨gb378, 2, none⟩ = some (.int .i64 a2_2) ∧ w32.cell? ⟨gb378, 3, none⟩ = some (.int .i64 a2_3) ∧ w32.cell? ⟨gb378, 4, none⟩ = some (.int .i64 a2_4) := hS_
           refine norm_ (a' := ?_) ?_ ?_
           rotate_left
           ·simp only [putAll, Act.put, List.setIfInBounds_toArray, List.set_cons_zero, List.set_cons_succ]
            rfl
           refine one_ (i := 1) (N := some 17) #[true, true, true, false, true, false, false, true, false] rfl rfl (one_of HT_.out (by kernel_rfl)) (by decide) (fun K hK => ?_)
           refine goes_ Try.func9 (by kernel_rfl) rfl #[.agg #[.int .i64 a0_0, .int .i64 a0_1, .int .i64 a0_2, .int .i64 a0_3, .int .i64 a0_4, .int .i64 a0_5]] (by rfl) rfl rfl (by (try simp only [List.map_toArray, List.map_cons, List.map_nil]); first | done | rfl | (simp only [List.length_drop, List.length_take]; rfl)) ?_
           with_reducible refine (laws_toPrefix.calls a0_0 a0_1 a0_2 a0_3 a0_4 a0_5 t402 t403 t404 t405 t406 t407 _ A8.out).mono ?_
           rintro e w33 ⟨rfl, hb⟩
           refine ⟨_, rfl, ?_⟩
           have n0_ := Gv.a0 (blk_below BK376.out hb)
           have n1_ := Gv.a0 (blk_below BK377.out hb)
           have n2_ := Gv.a0 (blk_below BK378.out hb)
           have n3_ := Gv.a0 (blk_below BK401.out hb)
           have n4_ := Gv.a0 (blk_below BK424.out hb)
           have n5_ := Gv.a0 (below_step Gv.bw hb)
           clear BK376
           clear BK377
           clear BK378
           clear BK401
           clear BK424
           clear HB
           have BK376 := n0_
           have BK377 := n1_
           have BK378 := n2_
           have BK401 := n3_
           have BK424 := n4_
           have HB := n5_
           clear n0_ n1_ n2_ n3_ n4_ n5_
           (try clear hb)
           (try clear hb2)
           (try clear hk)
           (try clear hi)
           refine hK.out _ _ ⟨(blk_cell BK376.out 0).trans rfl, (blk_cell BK376.out 1).trans rfl, (blk_cell BK376.out 2).trans rfl, (blk_cell BK376.out 3).trans rfl, (blk_cell BK376.out 4).trans rfl, (blk_cell BK376.out 5).trans rfl, (blk_cell BK377.out 0).trans rfl, (blk_cell BK377.out 1).trans rfl, (blk_cell BK377.out 2).trans rfl, (blk_cell BK377.out 3).trans rfl, (blk_cell BK377.out 4).trans rfl, (blk_cell BK377.out 5).trans rfl, (blk_cell BK378.out 0).trans rfl, (blk_cell BK378.out 1).trans rfl, (blk_cell BK378.out 2).trans rfl, (blk_cell BK378.out 3).trans rfl, (blk_cell BK378.out 4).trans rfl⟩ (fun hHeld => ?_)
           clear hK K
           refine norm_ (a' := ?_) ?_ ?_
           rotate_left
           ·show Act.put _ (some 17) _ = _
            simp only [Act.put, List.setIfInBounds_toArray, List.set_cons_zero, List.set_cons_succ, i64_w, i32_w]
            rfl
           exact Gv.nm (hJ1_7 (gb424) _ ⟨hHeld, Gv.bk, Gv.bk, Gv.bk, Gv.bk, Gv.bk, GW424.out, GE424.out, NB376_424.out, NB424_376.out, NB377_424.out, NB424_377.out, NB378_424.out, NB424_378.out, NB401_424.out, NB424_401.out, Gv.bw⟩)
         ·skip
          rintro _ w32 ⟨hS_, h0_, h1_, h2_, h3_, h4_⟩
          have n0_ : Aside0 (w32.heap[gb376]? = some (.cells #[.int .i64 a0_0, .int .i64 a0_1, .int .i64 a0_2, .int .i64 a0_3, .int .i64 a0_4, .int .i64 a0_5] 25 (0, 0))) := ⟨h0_⟩
          have n1_ : Aside0 (w32.heap[gb377]? = some (.cells #[.int .i64 a1_0, .int .i64 a1_1, .int .i64 a1_2, .int .i64 a1_3, .int .i64 a1_4, .int .i64 a1_5] 25 (0, 0))) := ⟨h1_⟩
          have n2_ : Aside0 (w32.heap[gb378]? = some (.cells #[.int .i64 a2_0, .int .i64 a2_1, .int .i64 a2_2, .int .i64 a2_3, .int .i64 a2_4] 23 (0, 0))) := ⟨h2_⟩
          have n3_ : Aside0 (w32.heap[gb401]? = some (.cells #[.int .i64 t396, .int .i64 t397, .int .i64 t398, .int .i64 t399, .int .i64 t400] 26 (0, 0))) := ⟨h3_⟩
          have n4_ : Aside0 (Below w.heap.size w w32) := ⟨h4_⟩
          clear BK376
          clear BK377
          clear BK378
          clear BK401
          clear HB
          clear h0_ h1_ h2_ h3_ h4_
          have BK376 := n0_
          have BK377 := n1_
          have BK378 := n2_
          have BK401 := n3_
          have HB := n4_
          clear n0_ n1_ n2_ n3_ n4_
          have hHeld : w32.cell? ⟨gb376, 0, none⟩ = some (.int .i64 a0_0) ∧ w32.cell? ⟨gb376, 1, none⟩ = some (.int .i64 a0_1) ∧ w32.cell? ⟨gb376, 2, none⟩ = some (.int .i64 a0_2) ∧ w32.cell? ⟨gb376, 3, none⟩ = some (.int .i64 a0_3) ∧ w32.cell? ⟨gb376, 4, none⟩ = some (.int .i64 a0_4) ∧ w32.cell? ⟨gb376, 5, none⟩ = some (.int .i64 a0_5) ∧ w32.cell? ⟨gb377, 0, none⟩ = some (.int .i64 a1_0) ∧ w32.cell? ⟨gb377, 1, none⟩ = some (.int .i64 a1_1) ∧ w32.cell? ⟨gb377, 2, none⟩ = some (.int .i64 a1_2) ∧ w32.cell? ⟨gb377, 3, none⟩ = some (.int .i64 a1_3) ∧ w32.cell? ⟨gb377, 4, none⟩ = some (.int .i64 a1_4) ∧ w32.cell? ⟨gb377, 5, none⟩ = some (.int .i64 a1_5) ∧ w32.cell? ⟨gb378, 0, none⟩ = some (.int .i64 a2_0) ∧ w32.cell? ⟨gb378, 1, none⟩ = some (.int .i64 a2_1) ∧ w32.cell? ⟨gb378, 2, none⟩ = some (.int .i64 a2_2) ∧ w32.cell? ⟨gb378, 3, none⟩ = some (.int .i64 a2_3) ∧ w32.cell? ⟨gb378, 4, none⟩ = some (.int .i64 a2_4) := hS_
          refine norm_ (a' := ?_) ?_ ?_
          rotate_left
          ·simp only [putAll, Act.put, List.setIfInBounds_toArray, List.set_cons_zero, List.set_cons_succ]
           rfl
          refine two_ (i := 3) (j := 7) (Ni := some 19) (Nj := some 8) #[true, true, true, true, true, false, false, false, false] #[true, true, true, false, true, false, false, true, false] rfl rfl rfl rfl (two_of HT_.out (by kernel_rfl)) (by decide) (by decide) (fun K hK => ?_) (fun K hK => ?_)
          ·skip
           refine goes_ Try.func9 (by kernel_rfl) rfl #[.agg #[.int .i64 a1_0, .int .i64 a1_1, .int .i64 a1_2, .int .i64 a1_3, .int .i64 a1_4, .int .i64 a1_5]] (by rfl) rfl rfl (by (try simp only [List.map_toArray, List.map_cons, List.map_nil]); first | done | rfl | (simp only [List.length_drop, List.length_take]; rfl)) ?_
           with_reducible refine (laws_toPrefix.calls a1_0 a1_1 a1_2 a1_3 a1_4 a1_5 t408 t409 t410 t411 t412 t413 _ A9.out).mono ?_
           rintro e w33 ⟨rfl, hb⟩
           refine ⟨_, rfl, ?_⟩
           have n0_ := Gv.a0 (blk_below BK376.out hb)
           have n1_ := Gv.a0 (blk_below BK377.out hb)
           have n2_ := Gv.a0 (blk_below BK378.out hb)
           have n3_ := Gv.a0 (blk_below BK401.out hb)
           have n4_ := Gv.a0 (below_step Gv.bw hb)
           clear BK376
           clear BK377
           clear BK378
           clear BK401
           clear HB
           have BK376 := n0_
           have BK377 := n1_
           have BK378 := n2_
           have BK401 := n3_
           have HB := n4_
           clear n0_ n1_ n2_ n3_ n4_
           (try clear hb)
           (try clear hb2)
           (try clear hk)
           (try clear hi)
           refine hK.out _ _ ⟨(blk_cell BK376.out 0).trans rfl, (blk_cell BK376.out 1).trans rfl, (blk_cell BK376.out 2).trans rfl, (blk_cell BK376.out 3).trans rfl, (blk_cell BK376.out 4).trans rfl, (blk_cell BK376.out 5).trans rfl, (blk_cell BK377.out 0).trans rfl, (blk_cell BK377.out 1).trans rfl, (blk_cell BK377.out 2).trans rfl, (blk_cell BK377.out 3).trans rfl, (blk_cell BK377.out 4).trans rfl, (blk_cell BK377.out 5).trans rfl, (blk_cell BK378.out 0).trans rfl, (blk_cell BK378.out 1).trans rfl, (blk_cell BK378.out 2).trans rfl, (blk_cell BK378.out 3).trans rfl, (blk_cell BK378.out 4).trans rfl⟩ (fun hHeld => ?_)
           clear hK K
           refine norm_ (a' := ?_) ?_ ?_
           rotate_left
           ·show Act.put _ (some 19) _ = _
            simp only [Act.put, List.setIfInBounds_toArray, List.set_cons_zero, List.set_cons_succ, i64_w, i32_w]
            rfl
           exact Gv.nm (hJ1_3 () _ ⟨hHeld, Gv.bk, Gv.bk, Gv.bk, Gv.bk, Gv.bw⟩)
          ·skip
           refine box_step ?hg (N := 8) ?hd (cs := #[.int .i64 0, .int .i64 0, .int .i64 0, .int .i64 0, .int .i64 0]) (t := 26) ?hr ?_; (case hd => rfl); (case hg => rfl); (case hr => first | (go_simp; done) | (go_simp; rfl))
           intro gb424 hg w33 hbox hb
           have n0_ := Gv.a0 (blk_below BK376.out hb)
           have n1_ := Gv.a0 (blk_below BK377.out hb)
           have n2_ := Gv.a0 (blk_below BK378.out hb)
           have n3_ := Gv.a0 (blk_below BK401.out hb)
           have n4_ := Gv.a0 (below_step Gv.bw hb)
           have n5_ := Gv.a0 (hbox)
           have n6_ := Gv.a0 ((by rw [hg]; exact (below_size Gv.bw) : w.heap.size ≤ gb424))
           have n7_ := Gv.a0 ((by rw [hg]; exact (below_size Gv.bw) : w.heap.size ≤ gb424))
           have n8_ := Gv.a0 ((by rw [hg]; exact Nat.ne_of_lt (blk_lt (g := gb376) (o := .cells #[.int .i64 a0_0, .int .i64 a0_1, .int .i64 a0_2, .int .i64 a0_3, .int .i64 a0_4, .int .i64 a0_5] 25 (0, 0)) Gv.bk) : gb376 ≠ gb424))
           have n9_ := Gv.a0 ((by rw [hg]; exact Nat.ne_of_gt (blk_lt (g := gb376) (o := .cells #[.int .i64 a0_0, .int .i64 a0_1, .int .i64 a0_2, .int .i64 a0_3, .int .i64 a0_4, .int .i64 a0_5] 25 (0, 0)) Gv.bk) : gb424 ≠ gb376))
           have n10_ := Gv.a0 ((by rw [hg]; exact Nat.ne_of_lt (blk_lt (g := gb377) (o := .cells #[.int .i64 a1_0, .int .i64 a1_1, .int .i64 a1_2, .int .i64 a1_3, .int .i64 a1_4, .int .i64 a1_5] 25 (0, 0)) Gv.bk) : gb377 ≠ gb424))
           have n11_ := Gv.a0 ((by rw [hg]; exact Nat.ne_of_gt (blk_lt (g := gb377) (o := .cells #[.int .i64 a1_0, .int .i64 a1_1, .int .i64 a1_2, .int .i64 a1_3, .int .i64 a1_4, .int .i64 a1_5] 25 (0, 0)) Gv.bk) : gb424 ≠ gb377))
           have n12_ := Gv.a0 ((by rw [hg]; exact Nat.ne_of_lt (blk_lt (g := gb378) (o := .cells #[.int .i64 a2_0, .int .i64 a2_1, .int .i64 a2_2, .int .i64 a2_3, .int .i64 a2_4] 23 (0, 0)) Gv.bk) : gb378 ≠ gb424))
           have n13_ := Gv.a0 ((by rw [hg]; exact Nat.ne_of_gt (blk_lt (g := gb378) (o := .cells #[.int .i64 a2_0, .int .i64 a2_1, .int .i64 a2_2, .int .i64 a2_3, .int .i64 a2_4] 23 (0, 0)) Gv.bk) : gb424 ≠ gb378))
           have n14_ := Gv.a0 ((by rw [hg]; exact Nat.ne_of_lt (blk_lt (g := gb401) (o := .cells #[.int .i64 t396, .int .i64 t397, .int .i64 t398, .int .i64 t399, .int .i64 t400] 26 (0, 0)) Gv.bk) : gb401 ≠ gb424))
           have n15_ := Gv.a0 ((by rw [hg]; exact Nat.ne_of_gt (blk_lt (g := gb401) (o := .cells #[.int .i64 t396, .int .i64 t397, .int .i64 t398, .int .i64 t399, .int .i64 t400] 26 (0, 0)) Gv.bk) : gb424 ≠ gb401))
           clear BK376
           clear BK377
           clear BK378
           clear BK401
           clear HB
           have BK376 := n0_
           have BK377 := n1_
           have BK378 := n2_
           have BK401 := n3_
           have HB := n4_
           have BK424 := n5_
           have GW424 := n6_
           have GE424 := n7_
           have NB376_424 := n8_
           have NB424_376 := n9_
           have NB377_424 := n10_
           have NB424_377 := n11_
           have NB378_424 := n12_
           have NB424_378 := n13_
           have NB401_424 := n14_
           have NB424_401 := n15_
           clear n0_ n1_ n2_ n3_ n4_ n5_ n6_ n7_ n8_ n9_ n10_ n11_ n12_ n13_ n14_ n15_
           clear hb hbox hg
           refine hK.out _ _ ⟨(blk_cell BK376.out 0).trans rfl, (blk_cell BK376.out 1).trans rfl, (blk_cell BK376.out 2).trans rfl, (blk_cell BK376.out 3).trans rfl, (blk_cell BK376.out 4).trans rfl, (blk_cell BK376.out 5).trans rfl, (blk_cell BK377.out 0).trans rfl, (blk_cell BK377.out 1).trans rfl, (blk_cell BK377.out 2).trans rfl, (blk_cell BK377.out 3).trans rfl, (blk_cell BK377.out 4).trans rfl, (blk_cell BK377.out 5).trans rfl, (blk_cell BK378.out 0).trans rfl, (blk_cell BK378.out 1).trans rfl, (blk_cell BK378.out 2).trans rfl, (blk_cell BK378.out 3).trans rfl, (blk_cell BK378.out 4).trans rfl⟩ (fun hHeld => ?_)
           clear hK K
           refine norm_ (a' := ?_) ?_ ?_
           rotate_left
           ·show Act.put _ (some 8) _ = _
            simp only [Act.put, List.setIfInBounds_toArray, List.set_cons_zero, List.set_cons_succ, i64_w, i32_w]
            rfl
           exact Gv.nm (hJ1_7 (gb424) _ ⟨hHeld, Gv.bk, Gv.bk, Gv.bk, Gv.bk, Gv.bk, GW424.out, GE424.out, NB376_424.out, NB424_376.out, NB377_424.out, NB424_377.out, NB378_424.out, NB424_378.out, NB401_424.out, NB424_401.out, Gv.bw⟩)
        ·skip
         rintro gb424 w33 ⟨hS_, h0_, h1_, h2_, h3_, h4_, h5_, h6_, h7_, h8_, h9_, h10_, h11_, h12_, h13_, h14_, h15_⟩
         have n0_ : Aside0 (w33.heap[gb376]? = some (.cells #[.int .i64 a0_0, .int .i64 a0_1, .int .i64 a0_2, .int .i64 a0_3, .int .i64 a0_4, .int .i64 a0_5] 25 (0, 0))) := ⟨h0_⟩
         have n1_ : Aside0 (w33.heap[gb377]? = some (.cells #[.int .i64 a1_0, .int .i64 a1_1, .int .i64 a1_2, .int .i64 a1_3, .int .i64 a1_4, .int .i64 a1_5] 25 (0, 0))) := ⟨h1_⟩
         have n2_ : Aside0 (w33.heap[gb378]? = some (.cells #[.int .i64 a2_0, .int .i64 a2_1, .int .i64 a2_2, .int .i64 a2_3, .int .i64 a2_4] 23 (0, 0))) := ⟨h2_⟩
         have n3_ : Aside0 (w33.heap[gb401]? = some (.cells #[.int .i64 t396, .int .i64 t397, .int .i64 t398, .int .i64 t399, .int .i64 t400] 26 (0, 0))) := ⟨h3_⟩
         have n4_ : Aside0 (w33.heap[gb424]? = some (.cells #[.int .i64 0, .int .i64 0, .int .i64 0, .int .i64 0, .int .i64 0] 26 (0, 0))) := ⟨h4_⟩
         have n5_ : Aside0 (w.heap.size ≤ gb424) := ⟨h5_⟩
         have n6_ : Aside0 (w.heap.size ≤ gb424) := ⟨h6_⟩
         have n7_ : Aside0 (gb376 ≠ gb424) := ⟨h7_⟩
         have n8_ : Aside0 (gb424 ≠ gb376) := ⟨h8_⟩
         have n9_ : Aside0 (gb377 ≠ gb424) := ⟨h9_⟩
         have n10_ : Aside0 (gb424 ≠ gb377) := ⟨h10_⟩
         have n11_ : Aside0 (gb378 ≠ gb424) := ⟨h11_⟩
         have n12_ : Aside0 (gb424 ≠ gb378) := ⟨h12_⟩
         have n13_ : Aside0 (gb401 ≠ gb424) := ⟨h13_⟩
         have n14_ : Aside0 (gb424 ≠ gb401) := ⟨h14_⟩
         have n15_ : Aside0 (Below w.heap.size w w33) := ⟨h15_⟩
         clear BK376
         clear BK377
         clear BK378
         clear BK401
         clear HB
         clear h0_ h1_ h2_ h3_ h4_ h5_ h6_ h7_ h8_ h9_ h10_ h11_ h12_ h13_ h14_ h15_
         have BK376 := n0_
         have BK377 := n1_
         have BK378 := n2_
         have BK401 := n3_
         have BK424 := n4_
         have GW424 := n5_
         have GE424 := n6_
         have NB376_424 := n7_
         have NB424_376 := n8_
         have NB377_424 := n9_
         have NB424_377 := n10_
         have NB378_424 := n11_
         have NB424_378 := n12_
         have NB401_424 := n13_
         have NB424_401 := n14_
         have HB := n15_
         clear n0_ n1_ n2_ n3_ n4_ n5_ n6_ n7_ n8_ n9_ n10_ n11_ n12_ n13_ n14_ n15_
         have hHeld : w33.cell? ⟨gb376, 0, none⟩ = some (.int .i64 a0_0) ∧ w33.cell? ⟨gb376, 1, none⟩ = some (.int .i64 a0_1) ∧ w33.cell? ⟨gb376, 2, none⟩ = some (.int .i64 a0_2) ∧ w33.cell? ⟨gb376, 3, none⟩ = some (.int .i64 a0_3) ∧ w33.cell? ⟨gb376, 4, none⟩ = some (.int .i64 a0_4) ∧ w33.cell? ⟨gb376, 5, none⟩ = some (.int .i64 a0_5) ∧ w33.cell? ⟨gb377, 0, none⟩ = some (.int .i64 a1_0) ∧ w33.cell? ⟨gb377, 1, none⟩ = some (.int .i64 a1_1) ∧ w33.cell? ⟨gb377, 2, none⟩ = some (.int .i64 a1_2) ∧ w33.cell? ⟨gb377, 3, none⟩ = some (.int .i64 a1_3) ∧ w33.cell? ⟨gb377, 4, none⟩ = some (.int .i64 a1_4) ∧ w33.cell? ⟨gb377, 5, none⟩ = some (.int .i64 a1_5) ∧ w33.cell? ⟨gb378, 0, none⟩ = some (.int .i64 a2_0) ∧ w33.cell? ⟨gb378, 1, none⟩ = some (.int .i64 a2_1) ∧ w33.cell? ⟨gb378, 2, none⟩ = some (.int .i64 a2_2) ∧ w33.cell? ⟨gb378, 3, none⟩ = some (.int .i64 a2_3) ∧ w33.cell? ⟨gb378, 4, none⟩ = some (.int .i64 a2_4) := hS_
         refine norm_ (a' := ?_) ?_ ?_
         rotate_left
         ·simp only [putAll, Act.put, List.setIfInBounds_toArray, List.set_cons_zero, List.set_cons_succ]
          rfl
         refine one_ (i := 3) (N := some 19) #[true, true, true, true, true, false, false, true, false] rfl rfl (one_of HT_.out (by kernel_rfl)) (by decide) (fun K hK => ?_)
         refine goes_ Try.func9 (by kernel_rfl) rfl #[.agg #[.int .i64 a1_0, .int .i64 a1_1, .int .i64 a1_2, .int .i64 a1_3, .int .i64 a1_4, .int .i64 a1_5]] (by rfl) rfl rfl (by (try simp only [List.map_toArray, List.map_cons, List.map_nil]); first | done | rfl | (simp only [List.length_drop, List.length_take]; rfl)) ?_
         with_reducible refine (laws_toPrefix.calls a1_0 a1_1 a1_2 a1_3 a1_4 a1_5 t408 t409 t410 t411 t412 t413 _ A9.out).mono ?_
         rintro e w34 ⟨rfl, hb⟩
         refine ⟨_, rfl, ?_⟩
         have n0_ := Gv.a0 (blk_below BK376.out hb)
         have n1_ := Gv.a0 (blk_below BK377.out hb)
         have n2_ := Gv.a0 (blk_below BK378.out hb)
         have n3_ := Gv.a0 (blk_below BK401.out hb)
         have n4_ := Gv.a0 (blk_below BK424.out hb)
         have n5_ := Gv.a0 (below_step Gv.bw hb)
         clear BK376
         clear BK377
         clear BK378
         clear BK401
         clear BK424
         clear HB
         have BK376 := n0_
         have BK377 := n1_
         have BK378 := n2_
         have BK401 := n3_
         have BK424 := n4_
         have HB := n5_
         clear n0_ n1_ n2_ n3_ n4_ n5_
         (try clear hb)
         (try clear hb2)
         (try clear hk)
         (try clear hi)
         refine hK.out _ _ ⟨(blk_cell BK376.out 0).trans rfl, (blk_cell BK376.out 1).trans rfl, (blk_cell BK376.out 2).trans rfl, (blk_cell BK376.out 3).trans rfl, (blk_cell BK376.out 4).trans rfl, (blk_cell BK376.out 5).trans rfl, (blk_cell BK377.out 0).trans rfl, (blk_cell BK377.out 1).trans rfl, (blk_cell BK377.out 2).trans rfl, (blk_cell BK377.out 3).trans rfl, (blk_cell BK377.out 4).trans rfl, (blk_cell BK377.out 5).trans rfl, (blk_cell BK378.out 0).trans rfl, (blk_cell BK378.out 1).trans rfl, (blk_cell BK378.out 2).trans rfl, (blk_cell BK378.out 3).trans rfl, (blk_cell BK378.out 4).trans rfl⟩ (fun hHeld => ?_)
         clear hK K
         refine norm_ (a' := ?_) ?_ ?_
         rotate_left
         ·show Act.put _ (some 19) _ = _
          simp only [Act.put, List.setIfInBounds_toArray, List.set_cons_zero, List.set_cons_succ, i64_w, i32_w]
          rfl
         exact Gv.nm (hJ1_3_7 (gb424) _ ⟨hHeld, Gv.bk, Gv.bk, Gv.bk, Gv.bk, Gv.bk, GW424.out, GE424.out, NB376_424.out, NB424_376.out, NB377_424.out, NB424_377.out, NB378_424.out, NB424_378.out, NB401_424.out, NB424_401.out, Gv.bw⟩)
       ·skip
        rintro _ w33 ⟨hS_, h0_, h1_, h2_, h3_, h4_⟩
        have n0_ : Aside0 (w33.heap[gb376]? = some (.cells #[.int .i64 a0_0, .int .i64 a0_1, .int .i64 a0_2, .int .i64 a0_3, .int .i64 a0_4, .int .i64 a0_5] 25 (0, 0))) := ⟨h0_⟩
        have n1_ : Aside0 (w33.heap[gb377]? = some (.cells #[.int .i64 a1_0, .int .i64 a1_1, .int .i64 a1_2, .int .i64 a1_3, .int .i64 a1_4, .int .i64 a1_5] 25 (0, 0))) := ⟨h1_⟩
        have n2_ : Aside0 (w33.heap[gb378]? = some (.cells #[.int .i64 a2_0, .int .i64 a2_1, .int .i64 a2_2, .int .i64 a2_3, .int .i64 a2_4] 23 (0, 0))) := ⟨h2_⟩
        have n3_ : Aside0 (w33.heap[gb401]? = some (.cells #[.int .i64 t396, .int .i64 t397, .int .i64 t398, .int .i64 t399, .int .i64 t400] 26 (0, 0))) := ⟨h3_⟩
        have n4_ : Aside0 (Below w.heap.size w w33) := ⟨h4_⟩
        clear BK376
        clear BK377
        clear BK378
        clear BK401
        clear HB
        clear h0_ h1_ h2_ h3_ h4_
        have BK376 := n0_
        have BK377 := n1_
        have BK378 := n2_
        have BK401 := n3_
        have HB := n4_
        clear n0_ n1_ n2_ n3_ n4_
        have hHeld : w33.cell? ⟨gb376, 0, none⟩ = some (.int .i64 a0_0) ∧ w33.cell? ⟨gb376, 1, none⟩ = some (.int .i64 a0_1) ∧ w33.cell? ⟨gb376, 2, none⟩ = some (.int .i64 a0_2) ∧ w33.cell? ⟨gb376, 3, none⟩ = some (.int .i64 a0_3) ∧ w33.cell? ⟨gb376, 4, none⟩ = some (.int .i64 a0_4) ∧ w33.cell? ⟨gb376, 5, none⟩ = some (.int .i64 a0_5) ∧ w33.cell? ⟨gb377, 0, none⟩ = some (.int .i64 a1_0) ∧ w33.cell? ⟨gb377, 1, none⟩ = some (.int .i64 a1_1) ∧ w33.cell? ⟨gb377, 2, none⟩ = some (.int .i64 a1_2) ∧ w33.cell? ⟨gb377, 3, none⟩ = some (.int .i64 a1_3) ∧ w33.cell? ⟨gb377, 4, none⟩ = some (.int .i64 a1_4) ∧ w33.cell? ⟨gb377, 5, none⟩ = some (.int .i64 a1_5) ∧ w33.cell? ⟨gb378, 0, none⟩ = some (.int .i64 a2_0) ∧ w33.cell? ⟨gb378, 1, none⟩ = some (.int .i64 a2_1) ∧ w33.cell? ⟨gb378, 2, none⟩ = some (.int .i64 a2_2) ∧ w33.cell? ⟨gb378, 3, none⟩ = some (.int .i64 a2_3) ∧ w33.cell? ⟨gb378, 4, none⟩ = some (.int .i64 a2_4) := hS_
        refine norm_ (a' := ?_) ?_ ?_
        rotate_left
        ·simp only [putAll, Act.put, List.setIfInBounds_toArray, List.set_cons_zero, List.set_cons_succ]
         rfl
        refine two_ (i := 5) (j := 7) (Ni := some 21) (Nj := some 8) #[true, true, true, true, true, true, false, false, false] #[true, true, true, true, true, false, false, true, false] rfl rfl rfl rfl (two_of HT_.out (by kernel_rfl)) (by decide) (by decide) (fun K hK => ?_) (fun K hK => ?_)
        ·skip
         refine goes_ Try.func10 (by kernel_rfl) rfl #[.agg #[.int .i64 a2_0, .int .i64 a2_1, .int .i64 a2_2, .int .i64 a2_3, .int .i64 a2_4]] (by rfl) rfl rfl (by (try simp only [List.map_toArray, List.map_cons, List.map_nil]); first | done | rfl | (simp only [List.length_drop, List.length_take]; rfl)) ?_
         with_reducible refine (laws_toAddr.calls a2_0 a2_1 a2_2 a2_3 a2_4 t414 t415 t416 t417 t418 _ A10.out).mono ?_
         rintro e w34 ⟨rfl, hb⟩
         refine ⟨_, rfl, ?_⟩
         have n0_ := Gv.a0 (blk_below BK376.out hb)
         have n1_ := Gv.a0 (blk_below BK377.out hb)
         have n2_ := Gv.a0 (blk_below BK378.out hb)
         have n3_ := Gv.a0 (blk_below BK401.out hb)
         have n4_ := Gv.a0 (below_step Gv.bw hb)
         clear BK376
         clear BK377
         clear BK378
         clear BK401
         clear HB
         have BK376 := n0_
         have BK377 := n1_
         have BK378 := n2_
         have BK401 := n3_
         have HB := n4_
         clear n0_ n1_ n2_ n3_ n4_
         (try clear hb)
         (try clear hb2)
         (try clear hk)
         (try clear hi)
         refine hK.out _ _ ⟨(blk_cell BK376.out 0).trans rfl, (blk_cell BK376.out 1).trans rfl, (blk_cell BK376.out 2).trans rfl, (blk_cell BK376.out 3).trans rfl, (blk_cell BK376.out 4).trans rfl, (blk_cell BK376.out 5).trans rfl, (blk_cell BK377.out 0).trans rfl, (blk_cell BK377.out 1).trans rfl, (blk_cell BK377.out 2).trans rfl, (blk_cell BK377.out 3).trans rfl, (blk_cell BK377.out 4).trans rfl, (blk_cell BK377.out 5).trans rfl, (blk_cell BK378.out 0).trans rfl, (blk_cell BK378.out 1).trans rfl, (blk_cell BK378.out 2).trans rfl, (blk_cell BK378.out 3).trans rfl, (blk_cell BK378.out 4).trans rfl⟩ (fun hHeld => ?_)
         clear hK K
         refine norm_ (a' := ?_) ?_ ?_
         rotate_left
         ·show Act.put _ (some 21) _ = _
          simp only [Act.put, List.setIfInBounds_toArray, List.set_cons_zero, List.set_cons_succ, i64_w, i32_w]
          rfl
         exact Gv.nm (hJ1_3_5 () _ ⟨hHeld, Gv.bk, Gv.bk, Gv.bk, Gv.bk, Gv.bw⟩)
        ·skip
         refine box_step ?hg (N := 8) ?hd (cs := #[.int .i64 0, .int .i64 0, .int .i64 0, .int .i64 0, .int .i64 0]) (t := 26) ?hr ?_; (case hd => rfl); (case hg => rfl); (case hr => first | (go_simp; done) | (go_simp; rfl))
         intro gb424 hg w34 hbox hb
         have n0_ := Gv.a0 (blk_below BK376.out hb)
         have n1_ := Gv.a0 (blk_below BK377.out hb)
         have n2_ := Gv.a0 (blk_below BK378.out hb)
         have n3_ := Gv.a0 (blk_below BK401.out hb)
         have n4_ := Gv.a0 (below_step Gv.bw hb)
         have n5_ := Gv.a0 (hbox)
         have n6_ := Gv.a0 ((by rw [hg]; exact (below_size Gv.bw) : w.heap.size ≤ gb424))
         have n7_ := Gv.a0 ((by rw [hg]; exact (below_size Gv.bw) : w.heap.size ≤ gb424))
         have n8_ := Gv.a0 ((by rw [hg]; exact Nat.ne_of_lt (blk_lt (g := gb376) (o := .cells #[.int .i64 a0_0, .int .i64 a0_1, .int .i64 a0_2, .int .i64 a0_3, .int .i64 a0_4, .int .i64 a0_5] 25 (0, 0)) Gv.bk) : gb376 ≠ gb424))
         have n9_ := Gv.a0 ((by rw [hg]; exact Nat.ne_of_gt (blk_lt (g := gb376) (o := .cells #[.int .i64 a0_0, .int .i64 a0_1, .int .i64 a0_2, .int .i64 a0_3, .int .i64 a0_4, .int .i64 a0_5] 25 (0, 0)) Gv.bk) : gb424 ≠ gb376))
         have n10_ := Gv.a0 ((by rw [hg]; exact Nat.ne_of_lt (blk_lt (g := gb377) (o := .cells #[.int .i64 a1_0, .int .i64 a1_1, .int .i64 a1_2, .int .i64 a1_3, .int .i64 a1_4, .int .i64 a1_5] 25 (0, 0)) Gv.bk) : gb377 ≠ gb424))
         have n11_ := Gv.a0 ((by rw [hg]; exact Nat.ne_of_gt (blk_lt (g := gb377) (o := .cells #[.int .i64 a1_0, .int .i64 a1_1, .int .i64 a1_2, .int .i64 a1_3, .int .i64 a1_4, .int .i64 a1_5] 25 (0, 0)) Gv.bk) : gb424 ≠ gb377))
         have n12_ := Gv.a0 ((by rw [hg]; exact Nat.ne_of_lt (blk_lt (g := gb378) (o := .cells #[.int .i64 a2_0, .int .i64 a2_1, .int .i64 a2_2, .int .i64 a2_3, .int .i64 a2_4] 23 (0, 0)) Gv.bk) : gb378 ≠ gb424))
         have n13_ := Gv.a0 ((by rw [hg]; exact Nat.ne_of_gt (blk_lt (g := gb378) (o := .cells #[.int .i64 a2_0, .int .i64 a2_1, .int .i64 a2_2, .int .i64 a2_3, .int .i64 a2_4] 23 (0, 0)) Gv.bk) : gb424 ≠ gb378))
         have n14_ := Gv.a0 ((by rw [hg]; exact Nat.ne_of_lt (blk_lt (g := gb401) (o := .cells #[.int .i64 t396, .int .i64 t397, .int .i64 t398, .int .i64 t399, .int .i64 t400] 26 (0, 0)) Gv.bk) : gb401 ≠ gb424))
         have n15_ := Gv.a0 ((by rw [hg]; exact Nat.ne_of_gt (blk_lt (g := gb401) (o := .cells #[.int .i64 t396, .int .i64 t397, .int .i64 t398, .int .i64 t399, .int .i64 t400] 26 (0, 0)) Gv.bk) : gb424 ≠ gb401))
         clear BK376
         clear BK377
         clear BK378
         clear BK401
         clear HB
         have BK376 := n0_
         have BK377 := n1_
         have BK378 := n2_
         have BK401 := n3_
         have HB := n4_
         have BK424 := n5_
         have GW424 := n6_
         have GE424 := n7_
         have NB376_424 := n8_
         have NB424_376 := n9_
         have NB377_424 := n10_
         have NB424_377 := n11_
         have NB378_424 := n12_
         have NB424_378 := n13_
         have NB401_424 := n14_
         have NB424_401 := n15_
         clear n0_ n1_ n2_ n3_ n4_ n5_ n6_ n7_ n8_ n9_ n10_ n11_ n12_ n13_ n14_ n15_
         clear hb hbox hg
         refine hK.out _ _ ⟨(blk_cell BK376.out 0).trans rfl, (blk_cell BK376.out 1).trans rfl, (blk_cell BK376.out 2).trans rfl, (blk_cell BK376.out 3).trans rfl, (blk_cell BK376.out 4).trans rfl, (blk_cell BK376.out 5).trans rfl, (blk_cell BK377.out 0).trans rfl, (blk_cell BK377.out 1).trans rfl, (blk_cell BK377.out 2).trans rfl, (blk_cell BK377.out 3).trans rfl, (blk_cell BK377.out 4).trans rfl, (blk_cell BK377.out 5).trans rfl, (blk_cell BK378.out 0).trans rfl, (blk_cell BK378.out 1).trans rfl, (blk_cell BK378.out 2).trans rfl, (blk_cell BK378.out 3).trans rfl, (blk_cell BK378.out 4).trans rfl⟩ (fun hHeld => ?_)
         clear hK K
         refine norm_ (a' := ?_) ?_ ?_
         rotate_left
         ·show Act.put _ (some 8) _ = _
          simp only [Act.put, List.setIfInBounds_toArray, List.set_cons_zero, List.set_cons_succ, i64_w, i32_w]
          rfl
         exact Gv.nm (hJ1_3_7 (gb424) _ ⟨hHeld, Gv.bk, Gv.bk, Gv.bk, Gv.bk, Gv.bk, GW424.out, GE424.out, NB376_424.out, NB424_376.out, NB377_424.out, NB424_377.out, NB378_424.out, NB424_378.out, NB401_424.out, NB424_401.out, Gv.bw⟩)
      ·skip
       rintro gb424 w34 ⟨hS_, h0_, h1_, h2_, h3_, h4_, h5_, h6_, h7_, h8_, h9_, h10_, h11_, h12_, h13_, h14_, h15_⟩
       have n0_ : Aside0 (w34.heap[gb376]? = some (.cells #[.int .i64 a0_0, .int .i64 a0_1, .int .i64 a0_2, .int .i64 a0_3, .int .i64 a0_4, .int .i64 a0_5] 25 (0, 0))) := ⟨h0_⟩
       have n1_ : Aside0 (w34.heap[gb377]? = some (.cells #[.int .i64 a1_0, .int .i64 a1_1, .int .i64 a1_2, .int .i64 a1_3, .int .i64 a1_4, .int .i64 a1_5] 25 (0, 0))) := ⟨h1_⟩
       have n2_ : Aside0 (w34.heap[gb378]? = some (.cells #[.int .i64 a2_0, .int .i64 a2_1, .int .i64 a2_2, .int .i64 a2_3, .int .i64 a2_4] 23 (0, 0))) := ⟨h2_⟩
       have n3_ : Aside0 (w34.heap[gb401]? = some (.cells #[.int .i64 t396, .int .i64 t397, .int .i64 t398, .int .i64 t399, .int .i64 t400] 26 (0, 0))) := ⟨h3_⟩
       have n4_ : Aside0 (w34.heap[gb424]? = some (.cells #[.int .i64 0, .int .i64 0, .int .i64 0, .int .i64 0, .int .i64 0] 26 (0, 0))) := ⟨h4_⟩
       have n5_ : Aside0 (w.heap.size ≤ gb424) := ⟨h5_⟩
       have n6_ : Aside0 (w.heap.size ≤ gb424) := ⟨h6_⟩
       have n7_ : Aside0 (gb376 ≠ gb424) := ⟨h7_⟩
       have n8_ : Aside0 (gb424 ≠ gb376) := ⟨h8_⟩
       have n9_ : Aside0 (gb377 ≠ gb424) := ⟨h9_⟩
       have n10_ : Aside0 (gb424 ≠ gb377) := ⟨h10_⟩
       have n11_ : Aside0 (gb378 ≠ gb424) := ⟨h11_⟩
       have n12_ : Aside0 (gb424 ≠ gb378) := ⟨h12_⟩
       have n13_ : Aside0 (gb401 ≠ gb424) := ⟨h13_⟩
       have n14_ : Aside0 (gb424 ≠ gb401) := ⟨h14_⟩
       have n15_ : Aside0 (Below w.heap.size w w34) := ⟨h15_⟩
       clear BK376
       clear BK377
       clear BK378
       clear BK401
       clear HB
       clear h0_ h1_ h2_ h3_ h4_ h5_ h6_ h7_ h8_ h9_ h10_ h11_ h12_ h13_ h14_ h15_
       have BK376 := n0_
       have BK377 := n1_
       have BK378 := n2_
       have BK401 := n3_
       have BK424 := n4_
       have GW424 := n5_
       have GE424 := n6_
       have NB376_424 := n7_
       have NB424_376 := n8_
       have NB377_424 := n9_
       have NB424_377 := n10_
       have NB378_424 := n11_
       have NB424_378 := n12_
       have NB401_424 := n13_
       have NB424_401 := n14_
       have HB := n15_
       clear n0_ n1_ n2_ n3_ n4_ n5_ n6_ n7_ n8_ n9_ n10_ n11_ n12_ n13_ n14_ n15_
       have hHeld : w34.cell? ⟨gb376, 0, none⟩ = some (.int .i64 a0_0) ∧ w34.cell? ⟨gb376, 1, none⟩ = some (.int .i64 a0_1) ∧ w34.cell? ⟨gb376, 2, none⟩ = some (.int .i64 a0_2) ∧ w34.cell? ⟨gb376, 3, none⟩ = some (.int .i64 a0_3) ∧ w34.cell? ⟨gb376, 4, none⟩ = some (.int .i64 a0_4) ∧ w34.cell? ⟨gb376, 5, none⟩ = some (.int .i64 a0_5) ∧ w34.cell? ⟨gb377, 0, none⟩ = some (.int .i64 a1_0) ∧ w34.cell? ⟨gb377, 1, none⟩ = some (.int .i64 a1_1) ∧ w34.cell? ⟨gb377, 2, none⟩ = some (.int .i64 a1_2) ∧ w34.cell? ⟨gb377, 3, none⟩ = some (.int .i64 a1_3) ∧ w34.cell? ⟨gb377, 4, none⟩ = some (.int .i64 a1_4) ∧ w34.cell? ⟨gb377, 5, none⟩ = some (.int .i64 a1_5) ∧ w34.cell? ⟨gb378, 0, none⟩ = some (.int .i64 a2_0) ∧ w34.cell? ⟨gb378, 1, none⟩ = some (.int .i64 a2_1) ∧ w34.cell? ⟨gb378, 2, none⟩ = some (.int .i64 a2_2) ∧ w34.cell? ⟨gb378, 3, none⟩ = some (.int .i64 a2_3) ∧ w34.cell? ⟨gb378, 4, none⟩ = some (.int .i64 a2_4) := hS_
       refine norm_ (a' := ?_) ?_ ?_
       rotate_left
       ·simp only [putAll, Act.put, List.setIfInBounds_toArray, List.set_cons_zero, List.set_cons_succ]
        rfl
       refine one_ (i := 5) (N := some 21) #[true, true, true, true, true, true, false, true, false] rfl rfl (one_of HT_.out (by kernel_rfl)) (by decide) (fun K hK => ?_)
       refine goes_ Try.func10 (by kernel_rfl) rfl #[.agg #[.int .i64 a2_0, .int .i64 a2_1, .int .i64 a2_2, .int .i64 a2_3, .int .i64 a2_4]] (by rfl) rfl rfl (by (try simp only [List.map_toArray, List.map_cons, List.map_nil]); first | done | rfl | (simp only [List.length_drop, List.length_take]; rfl)) ?_
       with_reducible refine (laws_toAddr.calls a2_0 a2_1 a2_2 a2_3 a2_4 t414 t415 t416 t417 t418 _ A10.out).mono ?_
       rintro e w35 ⟨rfl, hb⟩
       refine ⟨_, rfl, ?_⟩
       have n0_ := Gv.a0 (blk_below BK376.out hb)
       have n1_ := Gv.a0 (blk_below BK377.out hb)
       have n2_ := Gv.a0 (blk_below BK378.out hb)
       have n3_ := Gv.a0 (blk_below BK401.out hb)
       have n4_ := Gv.a0 (blk_below BK424.out hb)
       have n5_ := Gv.a0 (below_step Gv.bw hb)
       clear BK376
       clear BK377
       clear BK378
       clear BK401
       clear BK424
       clear HB
       have BK376 := n0_
       have BK377 := n1_
       have BK378 := n2_
       have BK401 := n3_
       have BK424 := n4_
       have HB := n5_
       clear n0_ n1_ n2_ n3_ n4_ n5_
       (try clear hb)
       (try clear hb2)
       (try clear hk)
       (try clear hi)
       refine hK.out _ _ ⟨(blk_cell BK376.out 0).trans rfl, (blk_cell BK376.out 1).trans rfl, (blk_cell BK376.out 2).trans rfl, (blk_cell BK376.out 3).trans rfl, (blk_cell BK376.out 4).trans rfl, (blk_cell BK376.out 5).trans rfl, (blk_cell BK377.out 0).trans rfl, (blk_cell BK377.out 1).trans rfl, (blk_cell BK377.out 2).trans rfl, (blk_cell BK377.out 3).trans rfl, (blk_cell BK377.out 4).trans rfl, (blk_cell BK377.out 5).trans rfl, (blk_cell BK378.out 0).trans rfl, (blk_cell BK378.out 1).trans rfl, (blk_cell BK378.out 2).trans rfl, (blk_cell BK378.out 3).trans rfl, (blk_cell BK378.out 4).trans rfl⟩ (fun hHeld => ?_)
       clear hK K
       refine norm_ (a' := ?_) ?_ ?_
       rotate_left
       ·show Act.put _ (some 21) _ = _
        simp only [Act.put, List.setIfInBounds_toArray, List.set_cons_zero, List.set_cons_succ, i64_w, i32_w]
        rfl
       exact Gv.nm (hJ1_3_5_7 (gb424) _ ⟨hHeld, Gv.bk, Gv.bk, Gv.bk, Gv.bk, Gv.bk, GW424.out, GE424.out, NB376_424.out, NB424_376.out, NB377_424.out, NB424_377.out, NB378_424.out, NB424_378.out, NB401_424.out, NB424_401.out, Gv.bw⟩)
     ·skip
      rintro _ w34 ⟨hS_, h0_, h1_, h2_, h3_, h4_⟩
      have n0_ : Aside0 (w34.heap[gb376]? = some (.cells #[.int .i64 a0_0, .int .i64 a0_1, .int .i64 a0_2, .int .i64 a0_3, .int .i64 a0_4, .int .i64 a0_5] 25 (0, 0))) := ⟨h0_⟩
      have n1_ : Aside0 (w34.heap[gb377]? = some (.cells #[.int .i64 a1_0, .int .i64 a1_1, .int .i64 a1_2, .int .i64 a1_3, .int .i64 a1_4, .int .i64 a1_5] 25 (0, 0))) := ⟨h1_⟩
      have n2_ : Aside0 (w34.heap[gb378]? = some (.cells #[.int .i64 a2_0, .int .i64 a2_1, .int .i64 a2_2, .int .i64 a2_3, .int .i64 a2_4] 23 (0, 0))) := ⟨h2_⟩
      have n3_ : Aside0 (w34.heap[gb401]? = some (.cells #[.int .i64 t396, .int .i64 t397, .int .i64 t398, .int .i64 t399, .int .i64 t400] 26 (0, 0))) := ⟨h3_⟩
      have n4_ : Aside0 (Below w.heap.size w w34) := ⟨h4_⟩
      clear BK376
      clear BK377
      clear BK378
      clear BK401
      clear HB
      clear h0_ h1_ h2_ h3_ h4_
      have BK376 := n0_
      have BK377 := n1_
      have BK378 := n2_
      have BK401 := n3_
      have HB := n4_
      clear n0_ n1_ n2_ n3_ n4_
      have hHeld : w34.cell? ⟨gb376, 0, none⟩ = some (.int .i64 a0_0) ∧ w34.cell? ⟨gb376, 1, none⟩ = some (.int .i64 a0_1) ∧ w34.cell? ⟨gb376, 2, none⟩ = some (.int .i64 a0_2) ∧ w34.cell? ⟨gb376, 3, none⟩ = some (.int .i64 a0_3) ∧ w34.cell? ⟨gb376, 4, none⟩ = some (.int .i64 a0_4) ∧ w34.cell? ⟨gb376, 5, none⟩ = some (.int .i64 a0_5) ∧ w34.cell? ⟨gb377, 0, none⟩ = some (.int .i64 a1_0) ∧ w34.cell? ⟨gb377, 1, none⟩ = some (.int .i64 a1_1) ∧ w34.cell? ⟨gb377, 2, none⟩ = some (.int .i64 a1_2) ∧ w34.cell? ⟨gb377, 3, none⟩ = some (.int .i64 a1_3) ∧ w34.cell? ⟨gb377, 4, none⟩ = some (.int .i64 a1_4) ∧ w34.cell? ⟨gb377, 5, none⟩ = some (.int .i64 a1_5) ∧ w34.cell? ⟨gb378, 0, none⟩ = some (.int .i64 a2_0) ∧ w34.cell? ⟨gb378, 1, none⟩ = some (.int .i64 a2_1) ∧ w34.cell? ⟨gb378, 2, none⟩ = some (.int .i64 a2_2) ∧ w34.cell? ⟨gb378, 3, none⟩ = some (.int .i64 a2_3) ∧ w34.cell? ⟨gb378, 4, none⟩ = some (.int .i64 a2_4) := hS_
      refine norm_ (a' := ?_) ?_ ?_
      rotate_left
      ·simp only [putAll, Act.put, List.setIfInBounds_toArray, List.set_cons_zero, List.set_cons_succ]
       rfl
      refine two_ (i := 6) (j := 7) (Ni := some 22) (Nj := some 8) #[true, true, true, true, true, true, true, false, false] #[true, true, true, true, true, true, false, true, false] rfl rfl rfl rfl (two_of HT_.out (by kernel_rfl)) (by decide) (by decide) (fun K hK => ?_) (fun K hK => ?_)
      ·skip
       refine goes_ Try.func11 (by kernel_rfl) rfl #[.agg #[.int .i64 t402, .int .i64 t403, .int .i64 t404, .int .i64 t405, .int .i64 t406, .int .i64 t407], .agg #[.int .i64 t408, .int .i64 t409, .int .i64 t410, .int .i64 t411, .int .i64 t412, .int .i64 t413], .agg #[.int .i64 t414, .int .i64 t415, .int .i64 t416, .int .i64 t417, .int .i64 t418]] (by rfl) rfl rfl (by (try simp only [List.map_toArray, List.map_cons, List.map_nil]); first | done | rfl | (simp only [List.length_drop, List.length_take]; rfl)) ?_
       with_reducible refine (impl_NatAddr.calls k t402 t403 t404 t405 t406 t407 t408 t409 t410 t411 t412 t413 t414 t415 t416 t417 t418 t419 t420 t421 t422 t423 _ A11.out).mono ?_
       rintro e w35 ⟨rfl, hb⟩
       refine ⟨_, rfl, ?_⟩
       have n0_ := Gv.a0 (blk_below BK376.out hb)
       have n1_ := Gv.a0 (blk_below BK377.out hb)
       have n2_ := Gv.a0 (blk_below BK378.out hb)
       have n3_ := Gv.a0 (blk_below BK401.out hb)
       have n4_ := Gv.a0 (below_step Gv.bw hb)
       clear BK376
       clear BK377
       clear BK378
       clear BK401
       clear HB
       have BK376 := n0_
       have BK377 := n1_
       have BK378 := n2_
       have BK401 := n3_
       have HB := n4_
       clear n0_ n1_ n2_ n3_ n4_
       (try clear hb)
       (try clear hb2)
       (try clear hk)
       (try clear hi)
       refine hK.out _ _ ⟨(blk_cell BK376.out 0).trans rfl, (blk_cell BK376.out 1).trans rfl, (blk_cell BK376.out 2).trans rfl, (blk_cell BK376.out 3).trans rfl, (blk_cell BK376.out 4).trans rfl, (blk_cell BK376.out 5).trans rfl, (blk_cell BK377.out 0).trans rfl, (blk_cell BK377.out 1).trans rfl, (blk_cell BK377.out 2).trans rfl, (blk_cell BK377.out 3).trans rfl, (blk_cell BK377.out 4).trans rfl, (blk_cell BK377.out 5).trans rfl, (blk_cell BK378.out 0).trans rfl, (blk_cell BK378.out 1).trans rfl, (blk_cell BK378.out 2).trans rfl, (blk_cell BK378.out 3).trans rfl, (blk_cell BK378.out 4).trans rfl⟩ (fun hHeld => ?_)
       clear hK K
       refine norm_ (a' := ?_) ?_ ?_
       rotate_left
       ·show Act.put _ (some 22) _ = _
        simp only [Act.put, List.setIfInBounds_toArray, List.set_cons_zero, List.set_cons_succ, i64_w, i32_w]
        rfl
       exact Gv.nm (hJ1_3_5_6 () _ ⟨hHeld, Gv.bk, Gv.bk, Gv.bk, Gv.bk, Gv.bw⟩)
      ·skip
       refine box_step ?hg (N := 8) ?hd (cs := #[.int .i64 0, .int .i64 0, .int .i64 0, .int .i64 0, .int .i64 0]) (t := 26) ?hr ?_; (case hd => rfl); (case hg => rfl); (case hr => first | (go_simp; done) | (go_simp; rfl))
       intro gb424 hg w35 hbox hb
       have n0_ := Gv.a0 (blk_below BK376.out hb)
       have n1_ := Gv.a0 (blk_below BK377.out hb)
       have n2_ := Gv.a0 (blk_below BK378.out hb)
       have n3_ := Gv.a0 (blk_below BK401.out hb)
       have n4_ := Gv.a0 (below_step Gv.bw hb)
       have n5_ := Gv.a0 (hbox)
       have n6_ := Gv.a0 ((by rw [hg]; exact (below_size Gv.bw) : w.heap.size ≤ gb424))
       have n7_ := Gv.a0 ((by rw [hg]; exact (below_size Gv.bw) : w.heap.size ≤ gb424))
       have n8_ := Gv.a0 ((by rw [hg]; exact Nat.ne_of_lt (blk_lt (g := gb376) (o := .cells #[.int .i64 a0_0, .int .i64 a0_1, .int .i64 a0_2, .int .i64 a0_3, .int .i64 a0_4, .int .i64 a0_5] 25 (0, 0)) Gv.bk) : gb376 ≠ gb424))
       have n9_ := Gv.a0 ((by rw [hg]; exact Nat.ne_of_gt (blk_lt (g := gb376) (o := .cells #[.int .i64 a0_0, .int .i64 a0_1, .int .i64 a0_2, .int .i64 a0_3, .int .i64 a0_4, .int .i64 a0_5] 25 (0, 0)) Gv.bk) : gb424 ≠ gb376))
       have n10_ := Gv.a0 ((by rw [hg]; exact Nat.ne_of_lt (blk_lt (g := gb377) (o := .cells #[.int .i64 a1_0, .int .i64 a1_1, .int .i64 a1_2, .int .i64 a1_3, .int .i64 a1_4, .int .i64 a1_5] 25 (0, 0)) Gv.bk) : gb377 ≠ gb424))
       have n11_ := Gv.a0 ((by rw [hg]; exact Nat.ne_of_gt (blk_lt (g := gb377) (o := .cells #[.int .i64 a1_0, .int .i64 a1_1, .int .i64 a1_2, .int .i64 a1_3, .int .i64 a1_4, .int .i64 a1_5] 25 (0, 0)) Gv.bk) : gb424 ≠ gb377))
       have n12_ := Gv.a0 ((by rw [hg]; exact Nat.ne_of_lt (blk_lt (g := gb378) (o := .cells #[.int .i64 a2_0, .int .i64 a2_1, .int .i64 a2_2, .int .i64 a2_3, .int .i64 a2_4] 23 (0, 0)) Gv.bk) : gb378 ≠ gb424))
       have n13_ := Gv.a0 ((by rw [hg]; exact Nat.ne_of_gt (blk_lt (g := gb378) (o := .cells #[.int .i64 a2_0, .int .i64 a2_1, .int .i64 a2_2, .int .i64 a2_3, .int .i64 a2_4] 23 (0, 0)) Gv.bk) : gb424 ≠ gb378))
       have n14_ := Gv.a0 ((by rw [hg]; exact Nat.ne_of_lt (blk_lt (g := gb401) (o := .cells #[.int .i64 t396, .int .i64 t397, .int .i64 t398, .int .i64 t399, .int .i64 t400] 26 (0, 0)) Gv.bk) : gb401 ≠ gb424))
       have n15_ := Gv.a0 ((by rw [hg]; exact Nat.ne_of_gt (blk_lt (g := gb401) (o := .cells #[.int .i64 t396, .int .i64 t397, .int .i64 t398, .int .i64 t399, .int .i64 t400] 26 (0, 0)) Gv.bk) : gb424 ≠ gb401))
       clear BK376
       clear BK377
       clear BK378
       clear BK401
       clear HB
       have BK376 := n0_
       have BK377 := n1_
       have BK378 := n2_
       have BK401 := n3_
       have HB := n4_
       have BK424 := n5_
       have GW424 := n6_
       have GE424 := n7_
       have NB376_424 := n8_
       have NB424_376 := n9_
       have NB377_424 := n10_
       have NB424_377 := n11_
       have NB378_424 := n12_
       have NB424_378 := n13_
       have NB401_424 := n14_
       have NB424_401 := n15_
       clear n0_ n1_ n2_ n3_ n4_ n5_ n6_ n7_ n8_ n9_ n10_ n11_ n12_ n13_ n14_ n15_
       clear hb hbox hg
       refine hK.out _ _ ⟨(blk_cell BK376.out 0).trans rfl, (blk_cell BK376.out 1).trans rfl, (blk_cell BK376.out 2).trans rfl, (blk_cell BK376.out 3).trans rfl, (blk_cell BK376.out 4).trans rfl, (blk_cell BK376.out 5).trans rfl, (blk_cell BK377.out 0).trans rfl, (blk_cell BK377.out 1).trans rfl, (blk_cell BK377.out 2).trans rfl, (blk_cell BK377.out 3).trans rfl, (blk_cell BK377.out 4).trans rfl, (blk_cell BK377.out 5).trans rfl, (blk_cell BK378.out 0).trans rfl, (blk_cell BK378.out 1).trans rfl, (blk_cell BK378.out 2).trans rfl, (blk_cell BK378.out 3).trans rfl, (blk_cell BK378.out 4).trans rfl⟩ (fun hHeld => ?_)
       clear hK K
       refine norm_ (a' := ?_) ?_ ?_
       rotate_left
       ·show Act.put _ (some 8) _ = _
        simp only [Act.put, List.setIfInBounds_toArray, List.set_cons_zero, List.set_cons_succ, i64_w, i32_w]
        rfl
       exact Gv.nm (hJ1_3_5_7 (gb424) _ ⟨hHeld, Gv.bk, Gv.bk, Gv.bk, Gv.bk, Gv.bk, GW424.out, GE424.out, NB376_424.out, NB424_376.out, NB377_424.out, NB424_377.out, NB378_424.out, NB424_378.out, NB401_424.out, NB424_401.out, Gv.bw⟩)
    ·skip
     rintro gb424 w35 ⟨hS_, h0_, h1_, h2_, h3_, h4_, h5_, h6_, h7_, h8_, h9_, h10_, h11_, h12_, h13_, h14_, h15_⟩
     have n0_ : Aside0 (w35.heap[gb376]? = some (.cells #[.int .i64 a0_0, .int .i64 a0_1, .int .i64 a0_2, .int .i64 a0_3, .int .i64 a0_4, .int .i64 a0_5] 25 (0, 0))) := ⟨h0_⟩
     have n1_ : Aside0 (w35.heap[gb377]? = some (.cells #[.int .i64 a1_0, .int .i64 a1_1, .int .i64 a1_2, .int .i64 a1_3, .int .i64 a1_4, .int .i64 a1_5] 25 (0, 0))) := ⟨h1_⟩
     have n2_ : Aside0 (w35.heap[gb378]? = some (.cells #[.int .i64 a2_0, .int .i64 a2_1, .int .i64 a2_2, .int .i64 a2_3, .int .i64 a2_4] 23 (0, 0))) := ⟨h2_⟩
     have n3_ : Aside0 (w35.heap[gb401]? = some (.cells #[.int .i64 t396, .int .i64 t397, .int .i64 t398, .int .i64 t399, .int .i64 t400] 26 (0, 0))) := ⟨h3_⟩
     have n4_ : Aside0 (w35.heap[gb424]? = some (.cells #[.int .i64 0, .int .i64 0, .int .i64 0, .int .i64 0, .int .i64 0] 26 (0, 0))) := ⟨h4_⟩
     have n5_ : Aside0 (w.heap.size ≤ gb424) := ⟨h5_⟩
     have n6_ : Aside0 (w.heap.size ≤ gb424) := ⟨h6_⟩
     have n7_ : Aside0 (gb376 ≠ gb424) := ⟨h7_⟩
     have n8_ : Aside0 (gb424 ≠ gb376) := ⟨h8_⟩
     have n9_ : Aside0 (gb377 ≠ gb424) := ⟨h9_⟩
     have n10_ : Aside0 (gb424 ≠ gb377) := ⟨h10_⟩
     have n11_ : Aside0 (gb378 ≠ gb424) := ⟨h11_⟩
     have n12_ : Aside0 (gb424 ≠ gb378) := ⟨h12_⟩
     have n13_ : Aside0 (gb401 ≠ gb424) := ⟨h13_⟩
     have n14_ : Aside0 (gb424 ≠ gb401) := ⟨h14_⟩
     have n15_ : Aside0 (Below w.heap.size w w35) := ⟨h15_⟩
     clear BK376
     clear BK377
     clear BK378
     clear BK401
     clear HB
     clear h0_ h1_ h2_ h3_ h4_ h5_ h6_ h7_ h8_ h9_ h10_ h11_ h12_ h13_ h14_ h15_
     have BK376 := n0_
     have BK377 := n1_
     have BK378 := n2_
     have BK401 := n3_
     have BK424 := n4_
     have GW424 := n5_
     have GE424 := n6_
     have NB376_424 := n7_
     have NB424_376 := n8_
     have NB377_424 := n9_
     have NB424_377 := n10_
     have NB378_424 := n11_
     have NB424_378 := n12_
     have NB401_424 := n13_
     have NB424_401 := n14_
     have HB := n15_
     clear n0_ n1_ n2_ n3_ n4_ n5_ n6_ n7_ n8_ n9_ n10_ n11_ n12_ n13_ n14_ n15_
     have hHeld : w35.cell? ⟨gb376, 0, none⟩ = some (.int .i64 a0_0) ∧ w35.cell? ⟨gb376, 1, none⟩ = some (.int .i64 a0_1) ∧ w35.cell? ⟨gb376, 2, none⟩ = some (.int .i64 a0_2) ∧ w35.cell? ⟨gb376, 3, none⟩ = some (.int .i64 a0_3) ∧ w35.cell? ⟨gb376, 4, none⟩ = some (.int .i64 a0_4) ∧ w35.cell? ⟨gb376, 5, none⟩ = some (.int .i64 a0_5) ∧ w35.cell? ⟨gb377, 0, none⟩ = some (.int .i64 a1_0) ∧ w35.cell? ⟨gb377, 1, none⟩ = some (.int .i64 a1_1) ∧ w35.cell? ⟨gb377, 2, none⟩ = some (.int .i64 a1_2) ∧ w35.cell? ⟨gb377, 3, none⟩ = some (.int .i64 a1_3) ∧ w35.cell? ⟨gb377, 4, none⟩ = some (.int .i64 a1_4) ∧ w35.cell? ⟨gb377, 5, none⟩ = some (.int .i64 a1_5) ∧ w35.cell? ⟨gb378, 0, none⟩ = some (.int .i64 a2_0) ∧ w35.cell? ⟨gb378, 1, none⟩ = some (.int .i64 a2_1) ∧ w35.cell? ⟨gb378, 2, none⟩ = some (.int .i64 a2_2) ∧ w35.cell? ⟨gb378, 3, none⟩ = some (.int .i64 a2_3) ∧ w35.cell? ⟨gb378, 4, none⟩ = some (.int .i64 a2_4) := hS_
     refine norm_ (a' := ?_) ?_ ?_
     rotate_left
     ·simp only [putAll, Act.put, List.setIfInBounds_toArray, List.set_cons_zero, List.set_cons_succ]
      rfl
     refine one_ (i := 6) (N := some 22) #[true, true, true, true, true, true, true, true, false] rfl rfl (one_of HT_.out (by kernel_rfl)) (by decide) (fun K hK => ?_)
     refine goes_ Try.func11 (by kernel_rfl) rfl #[.agg #[.int .i64 t402, .int .i64 t403, .int .i64 t404, .int .i64 t405, .int .i64 t406, .int .i64 t407], .agg #[.int .i64 t408, .int .i64 t409, .int .i64 t410, .int .i64 t411, .int .i64 t412, .int .i64 t413], .agg #[.int .i64 t414, .int .i64 t415, .int .i64 t416, .int .i64 t417, .int .i64 t418]] (by rfl) rfl rfl (by (try simp only [List.map_toArray, List.map_cons, List.map_nil]); first | done | rfl | (simp only [List.length_drop, List.length_take]; rfl)) ?_
     with_reducible refine (impl_NatAddr.calls k t402 t403 t404 t405 t406 t407 t408 t409 t410 t411 t412 t413 t414 t415 t416 t417 t418 t419 t420 t421 t422 t423 _ A11.out).mono ?_
     rintro e w36 ⟨rfl, hb⟩
     refine ⟨_, rfl, ?_⟩
     have n0_ := Gv.a0 (blk_below BK376.out hb)
     have n1_ := Gv.a0 (blk_below BK377.out hb)
     have n2_ := Gv.a0 (blk_below BK378.out hb)
     have n3_ := Gv.a0 (blk_below BK401.out hb)
     have n4_ := Gv.a0 (blk_below BK424.out hb)
     have n5_ := Gv.a0 (below_step Gv.bw hb)
     clear BK376
     clear BK377
     clear BK378
     clear BK401
     clear BK424
     clear HB
     have BK376 := n0_
     have BK377 := n1_
     have BK378 := n2_
     have BK401 := n3_
     have BK424 := n4_
     have HB := n5_
     clear n0_ n1_ n2_ n3_ n4_ n5_
     (try clear hb)
     (try clear hb2)
     (try clear hk)
     (try clear hi)
     refine hK.out _ _ ⟨(blk_cell BK376.out 0).trans rfl, (blk_cell BK376.out 1).trans rfl, (blk_cell BK376.out 2).trans rfl, (blk_cell BK376.out 3).trans rfl, (blk_cell BK376.out 4).trans rfl, (blk_cell BK376.out 5).trans rfl, (blk_cell BK377.out 0).trans rfl, (blk_cell BK377.out 1).trans rfl, (blk_cell BK377.out 2).trans rfl, (blk_cell BK377.out 3).trans rfl, (blk_cell BK377.out 4).trans rfl, (blk_cell BK377.out 5).trans rfl, (blk_cell BK378.out 0).trans rfl, (blk_cell BK378.out 1).trans rfl, (blk_cell BK378.out 2).trans rfl, (blk_cell BK378.out 3).trans rfl, (blk_cell BK378.out 4).trans rfl⟩ (fun hHeld => ?_)
     clear hK K
     refine norm_ (a' := ?_) ?_ ?_
     rotate_left
     ·show Act.put _ (some 22) _ = _
      simp only [Act.put, List.setIfInBounds_toArray, List.set_cons_zero, List.set_cons_succ, i64_w, i32_w]
      rfl
     exact Gv.nm (hJ1_3_5_6_7 (gb424) _ ⟨hHeld, Gv.bk, Gv.bk, Gv.bk, Gv.bk, Gv.bk, GW424.out, GE424.out, NB376_424.out, NB424_376.out, NB377_424.out, NB424_377.out, NB378_424.out, NB424_378.out, NB401_424.out, NB424_401.out, Gv.bw⟩)
   ·skip
    rintro _ w35 ⟨hS_, h0_, h1_, h2_, h3_, h4_⟩
    have n0_ : Aside0 (w35.heap[gb376]? = some (.cells #[.int .i64 a0_0, .int .i64 a0_1, .int .i64 a0_2, .int .i64 a0_3, .int .i64 a0_4, .int .i64 a0_5] 25 (0, 0))) := ⟨h0_⟩
    have n1_ : Aside0 (w35.heap[gb377]? = some (.cells #[.int .i64 a1_0, .int .i64 a1_1, .int .i64 a1_2, .int .i64 a1_3, .int .i64 a1_4, .int .i64 a1_5] 25 (0, 0))) := ⟨h1_⟩
    have n2_ : Aside0 (w35.heap[gb378]? = some (.cells #[.int .i64 a2_0, .int .i64 a2_1, .int .i64 a2_2, .int .i64 a2_3, .int .i64 a2_4] 23 (0, 0))) := ⟨h2_⟩
    have n3_ : Aside0 (w35.heap[gb401]? = some (.cells #[.int .i64 t396, .int .i64 t397, .int .i64 t398, .int .i64 t399, .int .i64 t400] 26 (0, 0))) := ⟨h3_⟩
    have n4_ : Aside0 (Below w.heap.size w w35) := ⟨h4_⟩
    clear BK376
    clear BK377
    clear BK378
    clear BK401
    clear HB
    clear h0_ h1_ h2_ h3_ h4_
    have BK376 := n0_
    have BK377 := n1_
    have BK378 := n2_
    have BK401 := n3_
    have HB := n4_
    clear n0_ n1_ n2_ n3_ n4_
    have hHeld : w35.cell? ⟨gb376, 0, none⟩ = some (.int .i64 a0_0) ∧ w35.cell? ⟨gb376, 1, none⟩ = some (.int .i64 a0_1) ∧ w35.cell? ⟨gb376, 2, none⟩ = some (.int .i64 a0_2) ∧ w35.cell? ⟨gb376, 3, none⟩ = some (.int .i64 a0_3) ∧ w35.cell? ⟨gb376, 4, none⟩ = some (.int .i64 a0_4) ∧ w35.cell? ⟨gb376, 5, none⟩ = some (.int .i64 a0_5) ∧ w35.cell? ⟨gb377, 0, none⟩ = some (.int .i64 a1_0) ∧ w35.cell? ⟨gb377, 1, none⟩ = some (.int .i64 a1_1) ∧ w35.cell? ⟨gb377, 2, none⟩ = some (.int .i64 a1_2) ∧ w35.cell? ⟨gb377, 3, none⟩ = some (.int .i64 a1_3) ∧ w35.cell? ⟨gb377, 4, none⟩ = some (.int .i64 a1_4) ∧ w35.cell? ⟨gb377, 5, none⟩ = some (.int .i64 a1_5) ∧ w35.cell? ⟨gb378, 0, none⟩ = some (.int .i64 a2_0) ∧ w35.cell? ⟨gb378, 1, none⟩ = some (.int .i64 a2_1) ∧ w35.cell? ⟨gb378, 2, none⟩ = some (.int .i64 a2_2) ∧ w35.cell? ⟨gb378, 3, none⟩ = some (.int .i64 a2_3) ∧ w35.cell? ⟨gb378, 4, none⟩ = some (.int .i64 a2_4) := hS_
    refine norm_ (a' := ?_) ?_ ?_
    rotate_left
    ·simp only [putAll, Act.put, List.setIfInBounds_toArray, List.set_cons_zero, List.set_cons_succ]
     rfl
    refine one_ (i := 7) (N := some 8) #[true, true, true, true, true, true, true, true, false] rfl rfl (one_of HT_.out (by kernel_rfl)) (by decide) (fun K hK => ?_)
    refine box_step ?hg (N := 8) ?hd (cs := #[.int .i64 0, .int .i64 0, .int .i64 0, .int .i64 0, .int .i64 0]) (t := 26) ?hr ?_; (case hd => rfl); (case hg => rfl); (case hr => first | (go_simp; done) | (go_simp; rfl))
    intro gb424 hg w36 hbox hb
    have n0_ := Gv.a0 (blk_below BK376.out hb)
    have n1_ := Gv.a0 (blk_below BK377.out hb)
    have n2_ := Gv.a0 (blk_below BK378.out hb)
    have n3_ := Gv.a0 (blk_below BK401.out hb)
    have n4_ := Gv.a0 (below_step Gv.bw hb)
    have n5_ := Gv.a0 (hbox)
    have n6_ := Gv.a0 ((by rw [hg]; exact (below_size Gv.bw) : w.heap.size ≤ gb424))
    have n7_ := Gv.a0 ((by rw [hg]; exact (below_size Gv.bw) : w.heap.size ≤ gb424))
    have n8_ := Gv.a0 ((by rw [hg]; exact Nat.ne_of_lt (blk_lt (g := gb376) (o := .cells #[.int .i64 a0_0, .int .i64 a0_1, .int .i64 a0_2, .int .i64 a0_3, .int .i64 a0_4, .int .i64 a0_5] 25 (0, 0)) Gv.bk) : gb376 ≠ gb424))
    have n9_ := Gv.a0 ((by rw [hg]; exact Nat.ne_of_gt (blk_lt (g := gb376) (o := .cells #[.int .i64 a0_0, .int .i64 a0_1, .int .i64 a0_2, .int .i64 a0_3, .int .i64 a0_4, .int .i64 a0_5] 25 (0, 0)) Gv.bk) : gb424 ≠ gb376))
    have n10_ := Gv.a0 ((by rw [hg]; exact Nat.ne_of_lt (blk_lt (g := gb377) (o := .cells #[.int .i64 a1_0, .int .i64 a1_1, .int .i64 a1_2, .int .i64 a1_3, .int .i64 a1_4, .int .i64 a1_5] 25 (0, 0)) Gv.bk) : gb377 ≠ gb424))
    have n11_ := Gv.a0 ((by rw [hg]; exact Nat.ne_of_gt (blk_lt (g := gb377) (o := .cells #[.int .i64 a1_0, .int .i64 a1_1, .int .i64 a1_2, .int .i64 a1_3, .int .i64 a1_4, .int .i64 a1_5] 25 (0, 0)) Gv.bk) : gb424 ≠ gb377))
    have n12_ := Gv.a0 ((by rw [hg]; exact Nat.ne_of_lt (blk_lt (g := gb378) (o := .cells #[.int .i64 a2_0, .int .i64 a2_1, .int .i64 a2_2, .int .i64 a2_3, .int .i64 a2_4] 23 (0, 0)) Gv.bk) : gb378 ≠ gb424))
    have n13_ := Gv.a0 ((by rw [hg]; exact Nat.ne_of_gt (blk_lt (g := gb378) (o := .cells #[.int .i64 a2_0, .int .i64 a2_1, .int .i64 a2_2, .int .i64 a2_3, .int .i64 a2_4] 23 (0, 0)) Gv.bk) : gb424 ≠ gb378))
    have n14_ := Gv.a0 ((by rw [hg]; exact Nat.ne_of_lt (blk_lt (g := gb401) (o := .cells #[.int .i64 t396, .int .i64 t397, .int .i64 t398, .int .i64 t399, .int .i64 t400] 26 (0, 0)) Gv.bk) : gb401 ≠ gb424))
    have n15_ := Gv.a0 ((by rw [hg]; exact Nat.ne_of_gt (blk_lt (g := gb401) (o := .cells #[.int .i64 t396, .int .i64 t397, .int .i64 t398, .int .i64 t399, .int .i64 t400] 26 (0, 0)) Gv.bk) : gb424 ≠ gb401))
    clear BK376
    clear BK377
    clear BK378
    clear BK401
    clear HB
    have BK376 := n0_
    have BK377 := n1_
    have BK378 := n2_
    have BK401 := n3_
    have HB := n4_
    have BK424 := n5_
    have GW424 := n6_
    have GE424 := n7_
    have NB376_424 := n8_
    have NB424_376 := n9_
    have NB377_424 := n10_
    have NB424_377 := n11_
    have NB378_424 := n12_
    have NB424_378 := n13_
    have NB401_424 := n14_
    have NB424_401 := n15_
    clear n0_ n1_ n2_ n3_ n4_ n5_ n6_ n7_ n8_ n9_ n10_ n11_ n12_ n13_ n14_ n15_
    clear hb hbox hg
    refine hK.out _ _ ⟨(blk_cell BK376.out 0).trans rfl, (blk_cell BK376.out 1).trans rfl, (blk_cell BK376.out 2).trans rfl, (blk_cell BK376.out 3).trans rfl, (blk_cell BK376.out 4).trans rfl, (blk_cell BK376.out 5).trans rfl, (blk_cell BK377.out 0).trans rfl, (blk_cell BK377.out 1).trans rfl, (blk_cell BK377.out 2).trans rfl, (blk_cell BK377.out 3).trans rfl, (blk_cell BK377.out 4).trans rfl, (blk_cell BK377.out 5).trans rfl, (blk_cell BK378.out 0).trans rfl, (blk_cell BK378.out 1).trans rfl, (blk_cell BK378.out 2).trans rfl, (blk_cell BK378.out 3).trans rfl, (blk_cell BK378.out 4).trans rfl⟩ (fun hHeld => ?_)
    clear hK K
    refine norm_ (a' := ?_) ?_ ?_
    rotate_left
    ·show Act.put _ (some 8) _ = _
     simp only [Act.put, List.setIfInBounds_toArray, List.set_cons_zero, List.set_cons_succ, i64_w, i32_w]
     rfl
    exact Gv.nm (hJ1_3_5_6_7 (gb424) _ ⟨hHeld, Gv.bk, Gv.bk, Gv.bk, Gv.bk, Gv.bk, GW424.out, GE424.out, NB376_424.out, NB424_376.out, NB377_424.out, NB424_377.out, NB378_424.out, NB424_378.out, NB401_424.out, NB424_401.out, Gv.bw⟩)
  rintro gb424 w36 ⟨hS_, h0_, h1_, h2_, h3_, h4_, h5_, h6_, h7_, h8_, h9_, h10_, h11_, h12_, h13_, h14_, h15_⟩
  have n0_ : Aside0 (w36.heap[gb376]? = some (.cells #[.int .i64 a0_0, .int .i64 a0_1, .int .i64 a0_2, .int .i64 a0_3, .int .i64 a0_4, .int .i64 a0_5] 25 (0, 0))) := ⟨h0_⟩
  have n1_ : Aside0 (w36.heap[gb377]? = some (.cells #[.int .i64 a1_0, .int .i64 a1_1, .int .i64 a1_2, .int .i64 a1_3, .int .i64 a1_4, .int .i64 a1_5] 25 (0, 0))) := ⟨h1_⟩
  have n2_ : Aside0 (w36.heap[gb378]? = some (.cells #[.int .i64 a2_0, .int .i64 a2_1, .int .i64 a2_2, .int .i64 a2_3, .int .i64 a2_4] 23 (0, 0))) := ⟨h2_⟩
  have n3_ : Aside0 (w36.heap[gb401]? = some (.cells #[.int .i64 t396, .int .i64 t397, .int .i64 t398, .int .i64 t399, .int .i64 t400] 26 (0, 0))) := ⟨h3_⟩
  have n4_ : Aside0 (w36.heap[gb424]? = some (.cells #[.int .i64 0, .int .i64 0, .int .i64 0, .int .i64 0, .int .i64 0] 26 (0, 0))) := ⟨h4_⟩
  have n5_ : Aside0 (w.heap.size ≤ gb424) := ⟨h5_⟩
  have n6_ : Aside0 (w.heap.size ≤ gb424) := ⟨h6_⟩
  have n7_ : Aside0 (gb376 ≠ gb424) := ⟨h7_⟩
  have n8_ : Aside0 (gb424 ≠ gb376) := ⟨h8_⟩
  have n9_ : Aside0 (gb377 ≠ gb424) := ⟨h9_⟩
  have n10_ : Aside0 (gb424 ≠ gb377) := ⟨h10_⟩
  have n11_ : Aside0 (gb378 ≠ gb424) := ⟨h11_⟩
  have n12_ : Aside0 (gb424 ≠ gb378) := ⟨h12_⟩
  have n13_ : Aside0 (gb401 ≠ gb424) := ⟨h13_⟩
  have n14_ : Aside0 (gb424 ≠ gb401) := ⟨h14_⟩
  have n15_ : Aside0 (Below w.heap.size w w36) := ⟨h15_⟩
  clear BK376
  clear BK377
  clear BK378
  clear BK401
  clear HB
  clear h0_ h1_ h2_ h3_ h4_ h5_ h6_ h7_ h8_ h9_ h10_ h11_ h12_ h13_ h14_ h15_
  have BK376 := n0_
  have BK377 := n1_
  have BK378 := n2_
  have BK401 := n3_
  have BK424 := n4_
  have GW424 := n5_
  have GE424 := n6_
  have NB376_424 := n7_
  have NB424_376 := n8_
  have NB377_424 := n9_
  have NB424_377 := n10_
  have NB378_424 := n11_
  have NB424_378 := n12_
  have NB401_424 := n13_
  have NB424_401 := n14_
  have HB := n15_
  clear n0_ n1_ n2_ n3_ n4_ n5_ n6_ n7_ n8_ n9_ n10_ n11_ n12_ n13_ n14_ n15_
  have hHeld : w36.cell? ⟨gb376, 0, none⟩ = some (.int .i64 a0_0) ∧ w36.cell? ⟨gb376, 1, none⟩ = some (.int .i64 a0_1) ∧ w36.cell? ⟨gb376, 2, none⟩ = some (.int .i64 a0_2) ∧ w36.cell? ⟨gb376, 3, none⟩ = some (.int .i64 a0_3) ∧ w36.cell? ⟨gb376, 4, none⟩ = some (.int .i64 a0_4) ∧ w36.cell? ⟨gb376, 5, none⟩ = some (.int .i64 a0_5) ∧ w36.cell? ⟨gb377, 0, none⟩ = some (.int .i64 a1_0) ∧ w36.cell? ⟨gb377, 1, none⟩ = some (.int .i64 a1_1) ∧ w36.cell? ⟨gb377, 2, none⟩ = some (.int .i64 a1_2) ∧ w36.cell? ⟨gb377, 3, none⟩ = some (.int .i64 a1_3) ∧ w36.cell? ⟨gb377, 4, none⟩ = some (.int .i64 a1_4) ∧ w36.cell? ⟨gb377, 5, none⟩ = some (.int .i64 a1_5) ∧ w36.cell? ⟨gb378, 0, none⟩ = some (.int .i64 a2_0) ∧ w36.cell? ⟨gb378, 1, none⟩ = some (.int .i64 a2_1) ∧ w36.cell? ⟨gb378, 2, none⟩ = some (.int .i64 a2_2) ∧ w36.cell? ⟨gb378, 3, none⟩ = some (.int .i64 a2_3) ∧ w36.cell? ⟨gb378, 4, none⟩ = some (.int .i64 a2_4) := hS_
  refine norm_ (a' := ?_) ?_ ?_
  rotate_left
  ·simp only [putAll, Act.put, List.setIfInBounds_toArray, List.set_cons_zero, List.set_cons_succ]
   rfl
  refine one_ (i := 8) (N := none) #[true, true, true, true, true, true, true, true, true] rfl rfl (one_of HT_.out (by kernel_rfl)) (by decide) (fun K hK => ?_)
  have hs37 : w36.cell? ⟨gb424, 0, none⟩ = some (.int .i64 0) := (blk_cell BK424.out 0).trans rfl
  have hfs37 := blk_frozen BK424.out 0
  have hns37_0 := NB376_424.out
  have hns37_1 := NB377_424.out
  have hns37_2 := NB378_424.out
  have hns37_3 := NB401_424.out
  have hms37_0 := NB424_376.out
  have hms37_1 := NB424_377.out
  have hms37_2 := NB424_378.out
  have hms37_3 := NB424_401.out
  have hs38 : w36.cell? ⟨gb424, 1, none⟩ = some (.int .i64 0) := (blk_cell BK424.out 1).trans rfl
  have hfs38 := blk_frozen BK424.out 1
  have hns38_0 := NB376_424.out
  have hns38_1 := NB377_424.out
  have hns38_2 := NB378_424.out
  have hns38_3 := NB401_424.out
  have hms38_0 := NB424_376.out
  have hms38_1 := NB424_377.out
  have hms38_2 := NB424_378.out
  have hms38_3 := NB424_401.out
  have hs39 : w36.cell? ⟨gb424, 2, none⟩ = some (.int .i64 0) := (blk_cell BK424.out 2).trans rfl
  have hfs39 := blk_frozen BK424.out 2
  have hns39_0 := NB376_424.out
  have hns39_1 := NB377_424.out
  have hns39_2 := NB378_424.out
  have hns39_3 := NB401_424.out
  have hms39_0 := NB424_376.out
  have hms39_1 := NB424_377.out
  have hms39_2 := NB424_378.out
  have hms39_3 := NB424_401.out
  have hs40 : w36.cell? ⟨gb424, 3, none⟩ = some (.int .i64 0) := (blk_cell BK424.out 3).trans rfl
  have hfs40 := blk_frozen BK424.out 3
  have hns40_0 := NB376_424.out
  have hns40_1 := NB377_424.out
  have hns40_2 := NB378_424.out
  have hns40_3 := NB401_424.out
  have hms40_0 := NB424_376.out
  have hms40_1 := NB424_377.out
  have hms40_2 := NB424_378.out
  have hms40_3 := NB424_401.out
  have hs41 : w36.cell? ⟨gb424, 4, none⟩ = some (.int .i64 0) := (blk_cell BK424.out 4).trans rfl
  have hfs41 := blk_frozen BK424.out 4
  have hns41_0 := NB376_424.out
  have hns41_1 := NB377_424.out
  have hns41_2 := NB378_424.out
  have hns41_3 := NB401_424.out
  have hms41_0 := NB424_376.out
  have hms41_1 := NB424_377.out
  have hms41_2 := NB424_378.out
  have hms41_3 := NB424_401.out
  refine skip_ (w1 := ?_) (by rfl) rfl ?_ ?_
  rotate_left
  ·go_simp
   rfl
  refine hK.out _ _ ⟨((cell_far (p := ⟨gb424, _, none⟩) NB376_424.out _).trans (((cell_far (p := ⟨gb424, _, none⟩) NB376_424.out _).trans (((cell_far (p := ⟨gb424, _, none⟩) NB376_424.out _).trans (((cell_far (p := ⟨gb424, _, none⟩) NB376_424.out _).trans (((cell_far (p := ⟨gb424, _, none⟩) NB376_424.out _).trans (hHeld.1)))))))))), ((cell_far (p := ⟨gb424, _, none⟩) NB376_424.out _).trans (((cell_far (p := ⟨gb424, _, none⟩) NB376_424.out _).trans (((cell_far (p := ⟨gb424, _, none⟩) NB376_424.out _).trans (((cell_far (p := ⟨gb424, _, none⟩) NB376_424.out _).trans (((cell_far (p := ⟨gb424, _, none⟩) NB376_424.out _).trans (hHeld.2.1)))))))))), ((cell_far (p := ⟨gb424, _, none⟩) NB376_424.out _).trans (((cell_far (p := ⟨gb424, _, none⟩) NB376_424.out _).trans (((cell_far (p := ⟨gb424, _, none⟩) NB376_424.out _).trans (((cell_far (p := ⟨gb424, _, none⟩) NB376_424.out _).trans (((cell_far (p := ⟨gb424, _, none⟩) NB376_424.out _).trans (hHeld.2.2.1)))))))))), ((cell_far (p := ⟨gb424, _, none⟩) NB376_424.out _).trans (((cell_far (p := ⟨gb424, _, none⟩) NB376_424.out _).trans (((cell_far (p := ⟨gb424, _, none⟩) NB376_424.out _).trans (((cell_far (p := ⟨gb424, _, none⟩) NB376_424.out _).trans (((cell_far (p := ⟨gb424, _, none⟩) NB376_424.out _).trans (hHeld.2.2.2.1)))))))))), ((cell_far (p := ⟨gb424, _, none⟩) NB376_424.out _).trans (((cell_far (p := ⟨gb424, _, none⟩) NB376_424.out _).trans (((cell_far (p := ⟨gb424, _, none⟩) NB376_424.out _).trans (((cell_far (p := ⟨gb424, _, none⟩) NB376_424.out _).trans (((cell_far (p := ⟨gb424, _, none⟩) NB376_424.out _).trans (hHeld.2.2.2.2.1)))))))))), ((cell_far (p := ⟨gb424, _, none⟩) NB376_424.out _).trans (((cell_far (p := ⟨gb424, _, none⟩) NB376_424.out _).trans (((cell_far (p := ⟨gb424, _, none⟩) NB376_424.out _).trans (((cell_far (p := ⟨gb424, _, none⟩) NB376_424.out _).trans (((cell_far (p := ⟨gb424, _, none⟩) NB376_424.out _).trans (hHeld.2.2.2.2.2.1)))))))))), ((cell_far (p := ⟨gb424, _, none⟩) NB377_424.out _).trans (((cell_far (p := ⟨gb424, _, none⟩) NB377_424.out _).trans (((cell_far (p := ⟨gb424, _, none⟩) NB377_424.out _).trans (((cell_far (p := ⟨gb424, _, none⟩) NB377_424.out _).trans (((cell_far (p := ⟨gb424, _, none⟩) NB377_424.out _).trans (hHeld.2.2.2.2.2.2.1)))))))))), ((cell_far (p := ⟨gb424, _, none⟩) NB377_424.out _).trans (((cell_far (p := ⟨gb424, _, none⟩) NB377_424.out _).trans (((cell_far (p := ⟨gb424, _, none⟩) NB377_424.out _).trans (((cell_far (p := ⟨gb424, _, none⟩) NB377_424.out _).trans (((cell_far (p := ⟨gb424, _, none⟩) NB377_424.out _).trans (hHeld.2.2.2.2.2.2.2.1)))))))))), ((cell_far (p := ⟨gb424, _, none⟩) NB377_424.out _).trans (((cell_far (p := ⟨gb424, _, none⟩) NB377_424.out _).trans (((cell_far (p := ⟨gb424, _, none⟩) NB377_424.out _).trans (((cell_far (p := ⟨gb424, _, none⟩) NB377_424.out _).trans (((cell_far (p := ⟨gb424, _, none⟩) NB377_424.out _).trans (hHeld.2.2.2.2.2.2.2.2.1)))))))))), ((cell_far (p := ⟨gb424, _, none⟩) NB377_424.out _).trans (((cell_far (p := ⟨gb424, _, none⟩) NB377_424.out _).trans (((cell_far (p := ⟨gb424, _, none⟩) NB377_424.out _).trans (((cell_far (p := ⟨gb424, _, none⟩) NB377_424.out _).trans (((cell_far (p := ⟨gb424, _, none⟩) NB377_424.out _).trans (hHeld.2.2.2.2.2.2.2.2.2.1)))))))))), ((cell_far (p := ⟨gb424, _, none⟩) NB377_424.out _).trans (((cell_far (p := ⟨gb424, _, none⟩) NB377_424.out _).trans (((cell_far (p := ⟨gb424, _, none⟩) NB377_424.out _).trans (((cell_far (p := ⟨gb424, _, none⟩) NB377_424.out _).trans (((cell_far (p := ⟨gb424, _, none⟩) NB377_424.out _).trans (hHeld.2.2.2.2.2.2.2.2.2.2.1)))))))))), ((cell_far (p := ⟨gb424, _, none⟩) NB377_424.out _).trans (((cell_far (p := ⟨gb424, _, none⟩) NB377_424.out _).trans (((cell_far (p := ⟨gb424, _, none⟩) NB377_424.out _).trans (((cell_far (p := ⟨gb424, _, none⟩) NB377_424.out _).trans (((cell_far (p := ⟨gb424, _, none⟩) NB377_424.out _).trans (hHeld.2.2.2.2.2.2.2.2.2.2.2.1)))))))))), ((cell_far (p := ⟨gb424, _, none⟩) NB378_424.out _).trans (((cell_far (p := ⟨gb424, _, none⟩) NB378_424.out _).trans (((cell_far (p := ⟨gb424, _, none⟩) NB378_424.out _).trans (((cell_far (p := ⟨gb424, _, none⟩) NB378_424.out _).trans (((cell_far (p := ⟨gb424, _, none⟩) NB378_424.out _).trans (hHeld.2.2.2.2.2.2.2.2.2.2.2.2.1)))))))))), ((cell_far (p := ⟨gb424, _, none⟩) NB378_424.out _).trans (((cell_far (p := ⟨gb424, _, none⟩) NB378_424.out _).trans (((cell_far (p := ⟨gb424, _, none⟩) NB378_424.out _).trans (((cell_far (p := ⟨gb424, _, none⟩) NB378_424.out _).trans (((cell_far (p := ⟨gb424, _, none⟩) NB378_424.out _).trans (hHeld.2.2.2.2.2.2.2.2.2.2.2.2.2.1)))))))))), ((cell_far (p := ⟨gb424, _, none⟩) NB378_424.out _).trans (((cell_far (p := ⟨gb424, _, none⟩) NB378_424.out _).trans (((cell_far (p := ⟨gb424, _, none⟩) NB378_424.out _).trans (((cell_far (p := ⟨gb424, _, none⟩) NB378_424.out _).trans (((cell_far (p := ⟨gb424, _, none⟩) NB378_424.out _).trans (hHeld.2.2.2.2.2.2.2.2.2.2.2.2.2.2.1)))))))))), ((cell_far (p := ⟨gb424, _, none⟩) NB378_424.out _).trans (((cell_far (p := ⟨gb424, _, none⟩) NB378_424.out _).trans (((cell_far (p := ⟨gb424, _, none⟩) NB378_424.out _).trans (((cell_far (p := ⟨gb424, _, none⟩) NB378_424.out _).trans (((cell_far (p := ⟨gb424, _, none⟩) NB378_424.out _).trans (hHeld.2.2.2.2.2.2.2.2.2.2.2.2.2.2.2.1)))))))))), ((cell_far (p := ⟨gb424, _, none⟩) NB378_424.out _).trans (((cell_far (p := ⟨gb424, _, none⟩) NB378_424.out _).trans (((cell_far (p := ⟨gb424, _, none⟩) NB378_424.out _).trans (((cell_far (p := ⟨gb424, _, none⟩) NB378_424.out _).trans (((cell_far (p := ⟨gb424, _, none⟩) NB378_424.out _).trans (hHeld.2.2.2.2.2.2.2.2.2.2.2.2.2.2.2.2))))))))))⟩ (fun hHeld => ?_)
  clear hK K
  refine done_ (done_of HT_.out (by kernel_rfl)) ?_
  have hnb42 := NB424_376.out
  have hnc42 := NB376_424.out
  have hnb43 := NB424_377.out
  have hnc43 := NB377_424.out
  have hnb44 := NB424_378.out
  have hnc44 := NB378_424.out
  have hnb45 := NB424_401.out
  have hnc45 := NB401_424.out
  obtain ⟨hcz46_0, hcz46_1, hcz46_2, hcz46_3, hcz46_4⟩ := Gv.c5 BK424.out
  obtain ⟨hfz46_0, hfz46_1, hfz46_2, hfz46_3, hfz46_4⟩ := Gv.f5 BK424.out
  have hnb47 := NB401_376.out
  have hnc47 := NB376_401.out
  have hnb48 := NB401_377.out
  have hnc48 := NB377_401.out
  have hnb49 := NB401_378.out
  have hnc49 := NB378_401.out
  obtain ⟨hcz50_0, hcz50_1, hcz50_2, hcz50_3, hcz50_4⟩ := Gv.c5 BK401.out
  obtain ⟨hfz50_0, hfz50_1, hfz50_2, hfz50_3, hfz50_4⟩ := Gv.f5 BK401.out
  try go_wp2_with (first | ((with_reducible refine gate_callee (f := 12) rfl ?_); refine goesL_ (some 25) rfl rfl Try.func12 (by kernel_rfl) rfl #[.agg #[.int .i64 t419, .int .i64 t420, .int .i64 t421, .int .i64 t422, .int .i64 t423], .agg #[.int .i64 t396, .int .i64 t397, .int .i64 t398, .int .i64 t399, .int .i64 t400]] rfl (by (try simp only [List.map_toArray, List.map_cons, List.map_nil]); first | done | rfl | (simp only [List.length_drop, List.length_take]; rfl)) ?_; (with_reducible refine (laws_eqAddr.calls t419 t420 t421 t422 t423 t396 t397 t398 t399 t400 true _ A12.out).mono ?_); rintro e w51 ⟨rfl, hb⟩; refine ⟨_, rfl, ?_⟩; have n0_ := Gv.a0 (blk_below (g := gb376) (o := .cells #[.int .i64 a0_0, .int .i64 a0_1, .int .i64 a0_2, .int .i64 a0_3, .int .i64 a0_4, .int .i64 a0_5] 25 (0, 0)) Gv.bkf hb); have n1_ := Gv.a0 (blk_below (g := gb377) (o := .cells #[.int .i64 a1_0, .int .i64 a1_1, .int .i64 a1_2, .int .i64 a1_3, .int .i64 a1_4, .int .i64 a1_5] 25 (0, 0)) Gv.bkf hb); have n2_ := Gv.a0 (blk_below (g := gb378) (o := .cells #[.int .i64 a2_0, .int .i64 a2_1, .int .i64 a2_2, .int .i64 a2_3, .int .i64 a2_4] 23 (0, 0)) Gv.bkf hb); have n3_ := Gv.a0 (blk_below (g := gb401) (o := .cells #[.int .i64 t396, .int .i64 t397, .int .i64 t398, .int .i64 t399, .int .i64 t400] 26 (0, 0)) Gv.bkf hb); have n4_ := Gv.a0 (blk_below (g := gb424) (o := .cells #[.int .i64 t419, .int .i64 t420, .int .i64 t421, .int .i64 t422, .int .i64 t423] 26 (0, 0)) (by (with_reducible repeat (first | refine blk_drewN ?_ _ | refine blk_drew ?_ | refine blk_alloc ?_ _)); refine blk_put (cs := #[.int .i64 t419, .int .i64 t420, .int .i64 t421, .int .i64 t422, .int .i64 0]) ?_ 4 _ rfl; (with_reducible repeat (first | refine blk_drewN ?_ _ | refine blk_drew ?_ | refine blk_alloc ?_ _)); refine blk_put (cs := #[.int .i64 t419, .int .i64 t420, .int .i64 t421, .int .i64 0, .int .i64 0]) ?_ 3 _ rfl; (with_reducible repeat (first | refine blk_drewN ?_ _ | refine blk_drew ?_ | refine blk_alloc ?_ _)); refine blk_put (cs := #[.int .i64 t419, .int .i64 t420, .int .i64 0, .int .i64 0, .int .i64 0]) ?_ 2 _ rfl; (with_reducible repeat (first | refine blk_drewN ?_ _ | refine blk_drew ?_ | refine blk_alloc ?_ _)); refine blk_put (cs := #[.int .i64 t419, .int .i64 0, .int .i64 0, .int .i64 0, .int .i64 0]) ?_ 1 _ rfl; (with_reducible repeat (first | refine blk_drewN ?_ _ | refine blk_drew ?_ | refine blk_alloc ?_ _)); refine blk_put (cs := #[.int .i64 0, .int .i64 0, .int .i64 0, .int .i64 0, .int .i64 0]) ?_ 0 _ rfl; (with_reducible repeat (first | refine blk_drewN ?_ _ | refine blk_drew ?_ | refine blk_alloc ?_ _)); exact BK424.out) hb); have n5_ := Gv.a0 (below_step Gv.bw hb); clear BK376; clear BK377; clear BK378; clear BK401; clear BK424; clear HB; have BK376 := n0_; have BK377 := n1_; have BK378 := n2_; have BK401 := n3_; have BK424 := n4_; have HB := n5_; clear n0_ n1_ n2_ n3_ n4_ n5_; (try clear hb); (try clear hb2); (try clear hk); (try clear hi)))
  go_ret
  exact ⟨by first | rfl | (simp [errW_none, errW_some] <;> rfl) | (simp [*, errW_none, errW_some] <;> rfl), by repeat (first | (with_reducible first | exact HB.out | apply below_alloc | apply pw_below_drewN | apply below_drew1 | refine below_set ?_ GE376.out | refine below_set ?_ GE377.out | refine below_set ?_ GE378.out | refine below_set ?_ GE401.out | refine below_set ?_ GE424.out) | exact HB.out)⟩
 ·replace c13 := Bool.eq_false_iff.mpr c13
  subst c13
  have H1 : (none) = some r := by rw [if_neg (show ¬ (false = true) by decide)] at H; exact H
  clear H
  have H := H1
  clear H1
  exact absurd H (by simp)

end Go.Proofs.Ytbpkmdghloapjaa.PNa
