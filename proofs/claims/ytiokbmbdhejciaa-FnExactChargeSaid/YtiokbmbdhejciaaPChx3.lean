/- Plain Lean functions of a law's Go functions, their contracts, by a program of this session (wip/pr.py over the kit's print). -/
import Derived.Test.YtiokbmbdhejciaaPChx0
import Derived.Test.YtiokbmbdhejciaaPChx1
import Derived.Test.YtiokbmbdhejciaaPChx2
namespace Go.Proofs.Ytiokbmbdhejciaa.PCh
open Go.RowKit Go.Proofs.YtiokbmbdhejciaaW.PrintWords Go.Proofs.YtiokbmbdhejciaaW.PrintLast Go.Proofs.YtiokbmbdhejciaaW.PrintMore
attribute [local go_sem] max2_int min2_int max_two min_two max_three min_three max_four min_four   -- for this text's walks alone
set_option linter.unusedVariables false
set_option linter.unusedSimpArgs false

/-! ### laws_FnExactCharge: function 8 -/
def laws_FnExactCharge.f (k : Nat) (a0_0 : Int) (a0_1 : Int) (a0_2 : Int) (a1_0 : Int) (a1_1 : Int) (a1_2 : Int) : Option (Bool) := (laws_toVec.f a0_0 a0_1 a0_2).bind fun bt198 => ((laws_toVec.f a1_0 a1_1 a1_2).bind fun bt201 => ((spec_Charge.f k bt198.1 bt198.2.1 bt198.2.2 bt201.1 bt201.2.1 bt201.2.2).bind fun bt204 => ((laws_toVec.f a0_0 a0_1 a0_2).bind fun bt212 => ((laws_toVec.f a1_0 a1_1 a1_2).bind fun bt215 => ((impl_Charge.f k bt212.1 bt212.2.1 bt212.2.2 bt215.1 bt215.2.1 bt215.2.2).bind fun bt218 => ((laws_eqVec.f bt218.1 bt218.2.1 bt218.2.2.1 bt204.1 bt204.2.1 bt204.2.2.1).bind fun t226 => (if t226 = true then ((laws_eqVec.f bt218.2.2.2.1 bt218.2.2.2.2.1 bt218.2.2.2.2.2 bt204.2.2.2.1 bt204.2.2.2.2.1 bt204.2.2.2.2.2).bind fun t227 => (if t227 = true then (some true) else (none))) else (none))))))))
theorem laws_FnExactCharge.mono : ∀ a0 a1 a2 a3 a4 a5 k, LeO (laws_FnExactCharge.f k a0 a1 a2 a3 a4 a5) (laws_FnExactCharge.f (k + 1) a0 a1 a2 a3 a4 a5) := by
 intro a0 a1 a2 a3 a4 a5 k
 unfold laws_FnExactCharge.f
 repeat' first
   | (with_reducible exact impl_Charge.mono _ _ _ _ _ _ _)
   | (with_reducible exact spec_Charge.mono _ _ _ _ _ _ _)
   | (with_reducible exact LeO.refl _)
   | (with_reducible exact LeO.none _)
   | (with_reducible refine LeO.ite ?_ ?_)
   | (with_reducible refine LeO.bind ?_ (fun _ => ?_))
   | exact impl_Charge.mono _ _ _ _ _ _ _
   | exact spec_Charge.mono _ _ _ _ _ _ _
   | exact LeO.none _
   | refine LeO.ite ?_ ?_
   | refine LeO.bind ?_ (fun _ => ?_)
def laws_FnExactCharge.T1 : Bool × List (List Nat × List Nat) := (true, [([], []), ([0], [0]), ([], []), ([2, 1], [2]), ([1, 3, 3], [1, 3]), ([4], [4]), ([5], [5]), ([5], [5]), ([], []), ([], []), ([8, 6, 4, 0, 1, 2, 3, 4, 5, 6, 8, 9], [6, 8]), ([9, 7, 10, 0, 1, 2, 3, 4, 5, 6, 7, 8, 9, 10], [7, 9])])
def laws_FnExactCharge.B1 : List Nat := [0, 1, 0, 7, 15, 31, 63, 63, 0, 0, 895, 2047]
theorem laws_FnExactCharge.tab1 : rtab .any (opsOf Try.f8 1) = laws_FnExactCharge.T1 := by kernel_rfl
theorem laws_FnExactCharge.bits1 : waitsOk laws_FnExactCharge.T1.2 laws_FnExactCharge.B1 = true := by kernel_rfl
def laws_FnExactCharge.T2 : Bool × List (List Nat × List Nat) := (true, [([], []), ([0], [0]), ([], []), ([2, 1], [2]), ([1, 3, 3], [1, 3]), ([4], [4]), ([5], [5]), ([5], [5]), ([], []), ([], []), ([8, 6, 4, 0, 1, 2, 3, 4, 5, 6, 8, 9], [6, 8]), ([9, 7, 10, 0, 1, 2, 3, 4, 5, 6, 7, 8, 9, 10], [7, 9])])
def laws_FnExactCharge.B2 : List Nat := [0, 1, 0, 7, 15, 31, 63, 63, 0, 0, 895, 2047]
theorem laws_FnExactCharge.tab2 : rtab .any (opsOf Try.f8 2) = laws_FnExactCharge.T2 := by kernel_rfl
theorem laws_FnExactCharge.bits2 : waitsOk laws_FnExactCharge.T2.2 laws_FnExactCharge.B2 = true := by kernel_rfl
set_option maxHeartbeats 8000000 in
set_option maxRecDepth 100000 in
theorem laws_FnExactCharge.calls (k : Nat) (a0_0 : Int) (a0_1 : Int) (a0_2 : Int) (a1_0 : Int) (a1_1 : Int) (a1_2 : Int) (r : Bool) (w : World) (h : laws_FnExactCharge.f k a0_0 a0_1 a0_2 a1_0 a1_1 a1_2 = some r) :
  Calls Try.prog 8 #[.agg #[.int .i64 a0_0, .int .i64 a0_1, .int .i64 a0_2], .agg #[.int .i64 a1_0, .int .i64 a1_1, .int .i64 a1_2]] w fun e w' => e = .returned (.bool r) ∧ Below w.heap.size w w' := by
 have hu23 := Try.underlying23
 have hu26 := Try.underlying26
 have HB := Gv.a0 (Below.refl w.heap.size w)
 have H : ((laws_toVec.f a0_0 a0_1 a0_2).bind fun bt198 => ((laws_toVec.f a1_0 a1_1 a1_2).bind fun bt201 => ((spec_Charge.f k bt198.1 bt198.2.1 bt198.2.2 bt201.1 bt201.2.1 bt201.2.2).bind fun bt204 => ((laws_toVec.f a0_0 a0_1 a0_2).bind fun bt212 => ((laws_toVec.f a1_0 a1_1 a1_2).bind fun bt215 => ((impl_Charge.f k bt212.1 bt212.2.1 bt212.2.2 bt215.1 bt215.2.1 bt215.2.2).bind fun bt218 => ((laws_eqVec.f bt218.1 bt218.2.1 bt218.2.2.1 bt204.1 bt204.2.1 bt204.2.2.1).bind fun t226 => (if t226 = true then ((laws_eqVec.f bt218.2.2.2.1 bt218.2.2.2.2.1 bt218.2.2.2.2.2 bt204.2.2.2.1 bt204.2.2.2.2.1 bt204.2.2.2.2.2).bind fun t227 => (if t227 = true then (some true) else (none))) else (none))))))))) = some r := h
 clear h
 replace H := Option.bind_eq_some_iff.mp H
 obtain ⟨⟨t198, t199, t200⟩, A30, H⟩ := H
 replace H : ((laws_toVec.f a1_0 a1_1 a1_2).bind fun bt201 => ((spec_Charge.f k t198 t199 t200 bt201.1 bt201.2.1 bt201.2.2).bind fun bt204 => ((laws_toVec.f a0_0 a0_1 a0_2).bind fun bt212 => ((laws_toVec.f a1_0 a1_1 a1_2).bind fun bt215 => ((impl_Charge.f k bt212.1 bt212.2.1 bt212.2.2 bt215.1 bt215.2.1 bt215.2.2).bind fun bt218 => ((laws_eqVec.f bt218.1 bt218.2.1 bt218.2.2.1 bt204.1 bt204.2.1 bt204.2.2.1).bind fun t226 => (if t226 = true then ((laws_eqVec.f bt218.2.2.2.1 bt218.2.2.2.2.1 bt218.2.2.2.2.2 bt204.2.2.2.1 bt204.2.2.2.2.1 bt204.2.2.2.2.2).bind fun t227 => (if t227 = true then (some true) else (none))) else (none)))))))) = some r := H
 have A3 := Gv.a0 A30
 clear A30
 replace H := Option.bind_eq_some_iff.mp H
 obtain ⟨⟨t201, t202, t203⟩, A40, H⟩ := H
 replace H : ((spec_Charge.f k t198 t199 t200 t201 t202 t203).bind fun bt204 => ((laws_toVec.f a0_0 a0_1 a0_2).bind fun bt212 => ((laws_toVec.f a1_0 a1_1 a1_2).bind fun bt215 => ((impl_Charge.f k bt212.1 bt212.2.1 bt212.2.2 bt215.1 bt215.2.1 bt215.2.2).bind fun bt218 => ((laws_eqVec.f bt218.1 bt218.2.1 bt218.2.2.1 bt204.1 bt204.2.1 bt204.2.2.1).bind fun t226 => (if t226 = true then ((laws_eqVec.f bt218.2.2.2.1 bt218.2.2.2.2.1 bt218.2.2.2.2.2 bt204.2.2.2.1 bt204.2.2.2.2.1 bt204.2.2.2.2.2).bind fun t227 => (if t227 = true then (some true) else (none))) else (none))))))) = some r := H
 have A4 := Gv.a0 A40
 clear A40
 replace H := Option.bind_eq_some_iff.mp H
 obtain ⟨⟨t204, t205, t206, t207, t208, t209⟩, A50, H⟩ := H
 replace H : ((laws_toVec.f a0_0 a0_1 a0_2).bind fun bt212 => ((laws_toVec.f a1_0 a1_1 a1_2).bind fun bt215 => ((impl_Charge.f k bt212.1 bt212.2.1 bt212.2.2 bt215.1 bt215.2.1 bt215.2.2).bind fun bt218 => ((laws_eqVec.f bt218.1 bt218.2.1 bt218.2.2.1 t204 t205 t206).bind fun t226 => (if t226 = true then ((laws_eqVec.f bt218.2.2.2.1 bt218.2.2.2.2.1 bt218.2.2.2.2.2 t207 t208 t209).bind fun t227 => (if t227 = true then (some true) else (none))) else (none)))))) = some r := H
 have A5 := Gv.a0 A50
 clear A50
 replace H := Option.bind_eq_some_iff.mp H
 obtain ⟨⟨t212, t213, t214⟩, A60, H⟩ := H
 replace H : ((laws_toVec.f a1_0 a1_1 a1_2).bind fun bt215 => ((impl_Charge.f k t212 t213 t214 bt215.1 bt215.2.1 bt215.2.2).bind fun bt218 => ((laws_eqVec.f bt218.1 bt218.2.1 bt218.2.2.1 t204 t205 t206).bind fun t226 => (if t226 = true then ((laws_eqVec.f bt218.2.2.2.1 bt218.2.2.2.2.1 bt218.2.2.2.2.2 t207 t208 t209).bind fun t227 => (if t227 = true then (some true) else (none))) else (none))))) = some r := H
 have A6 := Gv.a0 A60
 clear A60
 replace H := Option.bind_eq_some_iff.mp H
 obtain ⟨⟨t215, t216, t217⟩, A70, H⟩ := H
 replace H : ((impl_Charge.f k t212 t213 t214 t215 t216 t217).bind fun bt218 => ((laws_eqVec.f bt218.1 bt218.2.1 bt218.2.2.1 t204 t205 t206).bind fun t226 => (if t226 = true then ((laws_eqVec.f bt218.2.2.2.1 bt218.2.2.2.2.1 bt218.2.2.2.2.2 t207 t208 t209).bind fun t227 => (if t227 = true then (some true) else (none))) else (none)))) = some r := H
 have A7 := Gv.a0 A70
 clear A70
 replace H := Option.bind_eq_some_iff.mp H
 obtain ⟨⟨t218, t219, t220, t221, t222, t223⟩, A80, H⟩ := H
 replace H : ((laws_eqVec.f t218 t219 t220 t204 t205 t206).bind fun t226 => (if t226 = true then ((laws_eqVec.f t221 t222 t223 t207 t208 t209).bind fun t227 => (if t227 = true then (some true) else (none))) else (none))) = some r := H
 have A8 := Gv.a0 A80
 clear A80
 replace H := Option.bind_eq_some_iff.mp H
 obtain ⟨t226, A90, H⟩ := H
 replace H : (if t226 = true then ((laws_eqVec.f t221 t222 t223 t207 t208 t209).bind fun t227 => (if t227 = true then (some true) else (none))) else (none)) = some r := H
 have A9 := Gv.a0 A90
 clear A90
 by_cases c10 : t226 = true
 ·subst c10
  have H1 : ((laws_eqVec.f t221 t222 t223 t207 t208 t209).bind fun t227 => (if t227 = true then (some true) else (none))) = some r := by rw [if_pos rfl] at H; exact H
  clear H
  have H := H1
  clear H1
  replace H := Option.bind_eq_some_iff.mp H
  obtain ⟨t227, A110, H⟩ := H
  replace H : (if t227 = true then (some true) else (none)) = some r := H
  have A11 := Gv.a0 A110
  clear A110
  by_cases c12 : t227 = true
  ·subst c12
   have H1 : (some true) = some r := by rw [if_pos rfl] at H; exact H
   clear H
   have H := H1
   clear H1
   obtain rfl := Option.some.inj H
   go_enter Try.func8, Try.ntmps8
   try go_wp2_with (first | ((with_reducible refine gate_dst (N := 2) rfl ?_); refine box_event ?hg (N := 2) ?hd (cs := #[.int .i64 a0_0, .int .i64 a0_1, .int .i64 a0_2]) (t := 23) ?hr ?_; (case hd => rfl); (case hg => rfl); (case hr => first | (go_simp; done) | (go_simp; rfl)); intro gb196 hg w13 hbox hb; have n0_ := Gv.a0 (below_step Gv.bw hb); have n1_ := Gv.a0 (hbox); have n2_ := Gv.a0 ((by rw [hg]; exact (below_size Gv.bw) : w.heap.size ≤ gb196)); have n3_ := Gv.a0 ((by rw [hg]; exact (below_size Gv.bw) : w.heap.size ≤ gb196)); clear HB; have HB := n0_; have BK196 := n1_; have GW196 := n2_; have GE196 := n3_; clear n0_ n1_ n2_ n3_; clear hb hbox hg) | ((with_reducible refine gate_dst (N := 3) rfl ?_); refine box_event ?hg (N := 3) ?hd (cs := #[.int .i64 a1_0, .int .i64 a1_1, .int .i64 a1_2]) (t := 23) ?hr ?_; (case hd => rfl); (case hg => rfl); (case hr => first | (go_simp; done) | (go_simp; rfl)); intro gb197 hg w14 hbox hb; have n0_ := Gv.a0 (blk_below (g := gb196) (o := .cells #[.int .i64 a0_0, .int .i64 a0_1, .int .i64 a0_2] 23 (0, 0)) Gv.bk hb); have n1_ := Gv.a0 (below_step Gv.bw hb); have n2_ := Gv.a0 (hbox); have n3_ := Gv.a0 ((by rw [hg]; exact (below_size Gv.bw) : w.heap.size ≤ gb197)); have n4_ := Gv.a0 ((by rw [hg]; exact (below_size Gv.bw) : w.heap.size ≤ gb197)); have n5_ := Gv.a0 ((by rw [hg]; exact Nat.ne_of_lt (blk_lt (g := gb196) (o := .cells #[.int .i64 a0_0, .int .i64 a0_1, .int .i64 a0_2] 23 (0, 0)) Gv.bk) : gb196 ≠ gb197)); have n6_ := Gv.a0 ((by rw [hg]; exact Nat.ne_of_gt (blk_lt (g := gb196) (o := .cells #[.int .i64 a0_0, .int .i64 a0_1, .int .i64 a0_2] 23 (0, 0)) Gv.bk) : gb197 ≠ gb196)); clear BK196; clear HB; have BK196 := n0_; have HB := n1_; have BK197 := n2_; have GW197 := n3_; have GE197 := n4_; have NB196_197 := n5_; have NB197_196 := n6_; clear n0_ n1_ n2_ n3_ n4_ n5_ n6_; clear hb hbox hg))
   have n0_ := Gv.a0 (blk_drew BK196.out)
   have n1_ := Gv.a0 (blk_drew BK197.out)
   have n2_ := Gv.a0 (below_drew1 HB.out)
   clear BK196 BK197 HB; have BK196 := n0_; have BK197 := n1_; have HB := n2_; clear n0_ n1_ n2_
   refine start_ (n := 12) (S := fun w' => w'.cell? ⟨gb196, 0, none⟩ = some (.int .i64 a0_0) ∧ w'.cell? ⟨gb196, 1, none⟩ = some (.int .i64 a0_1) ∧ w'.cell? ⟨gb196, 2, none⟩ = some (.int .i64 a0_2) ∧ w'.cell? ⟨gb197, 0, none⟩ = some (.int .i64 a1_0) ∧ w'.cell? ⟨gb197, 1, none⟩ = some (.int .i64 a1_1) ∧ w'.cell? ⟨gb197, 2, none⟩ = some (.int .i64 a1_2)) (ds := []) #[false, false, false, false, false, false, false, false, false, false, false, false] (by kernel_rfl) rfl rfl ⟨(blk_cell BK196.out 0).trans rfl, (blk_cell BK196.out 1).trans rfl, (blk_cell BK196.out 2).trans rfl, (blk_cell BK197.out 0).trans rfl, (blk_cell BK197.out 1).trans rfl, (blk_cell BK197.out 2).trans rfl⟩ (fun hHeld => ?_); refine with_tabW laws_FnExactCharge.tab1 laws_FnExactCharge.bits1 (fun HT_ HW_ => ?_)
   generalize w14.drew = w15 at BK196 BK197 HB hHeld ⊢
   refine take_ (i := 0) (N := some 10) (v := ?_) (a' := ?_) #[true, false, false, false, false, false, false, false, false, false, false, false] rfl rfl (take_ofW HT_.out HW_.out (by kernel_rfl)) (fun _ _ _ h => h) (Or.inl ⟨by rfl, ?_⟩) hHeld ?_ ?_
   rotate_left
   ·rintro w' ⟨s0, s1, s2, s3, s4, s5⟩
    go_simp
    with_reducible rfl
   rotate_left
   ·simp only [Act.put, List.setIfInBounds_toArray, List.set_cons_zero, List.set_cons_succ, i64_w, i32_w]
    rfl
   refine take_ (i := 2) (N := some 12) (v := ?_) (a' := ?_) #[true, false, true, false, false, false, false, false, false, false, false, false] rfl rfl (take_ofW HT_.out HW_.out (by kernel_rfl)) (fun _ _ _ h => h) (Or.inl ⟨by rfl, ?_⟩) hHeld ?_ ?_
   rotate_left
   ·rintro w' ⟨s0, s1, s2, s3, s4, s5⟩
    go_simp
    with_reducible rfl
   rotate_left
   ·simp only [Act.put, List.setIfInBounds_toArray, List.set_cons_zero, List.set_cons_succ, i64_w, i32_w]
    rfl
   refine join_ (σ := Nat × Nat) 2 #[true, true, true, true, true, true, true, true, true, true, false, false] (fun s_ => [(11, .agg #[.int .i64 t198, .int .i64 t199, .int .i64 t200]), (13, .agg #[.int .i64 t201, .int .i64 t202, .int .i64 t203]), (14, .tuple #[.agg #[.int .i64 t204, .int .i64 t205, .int .i64 t206], .agg #[.int .i64 t207, .int .i64 t208, .int .i64 t209]]), (5, .pointer (some ⟨s_.1, 0, none⟩)), (6, .pointer (some ⟨s_.2, 0, none⟩)), (9, .tuple #[.agg #[.int .i64 t204, .int .i64 t205, .int .i64 t206], .agg #[.int .i64 t207, .int .i64 t208, .int .i64 t209]]), (15, .agg #[.int .i64 t204, .int .i64 t205, .int .i64 t206]), (16, .agg #[.int .i64 t207, .int .i64 t208, .int .i64 t209])]) (fun s_ w' => (w'.cell? ⟨gb196, 0, none⟩ = some (.int .i64 a0_0) ∧ w'.cell? ⟨gb196, 1, none⟩ = some (.int .i64 a0_1) ∧ w'.cell? ⟨gb196, 2, none⟩ = some (.int .i64 a0_2) ∧ w'.cell? ⟨gb197, 0, none⟩ = some (.int .i64 a1_0) ∧ w'.cell? ⟨gb197, 1, none⟩ = some (.int .i64 a1_1) ∧ w'.cell? ⟨gb197, 2, none⟩ = some (.int .i64 a1_2)) ∧ (w'.heap[gb196]? = some (.cells #[.int .i64 a0_0, .int .i64 a0_1, .int .i64 a0_2] 23 (0, 0))) ∧ (w'.heap[gb197]? = some (.cells #[.int .i64 a1_0, .int .i64 a1_1, .int .i64 a1_2] 23 (0, 0))) ∧ (w'.heap[s_.1]? = some (.cells #[.int .i64 0, .int .i64 0, .int .i64 0] 26 (0, 0))) ∧ (w'.heap[s_.2]? = some (.cells #[.int .i64 0, .int .i64 0, .int .i64 0] 26 (0, 0))) ∧ (w.heap.size ≤ s_.1) ∧ (w.heap.size ≤ s_.1) ∧ (gb196 ≠ s_.1) ∧ (s_.1 ≠ gb196) ∧ (gb197 ≠ s_.1) ∧ (s_.1 ≠ gb197) ∧ (s_.2 ≠ s_.1) ∧ (s_.1 ≠ s_.2) ∧ (w.heap.size ≤ s_.2) ∧ (w.heap.size ≤ s_.2) ∧ (gb196 ≠ s_.2) ∧ (s_.2 ≠ gb196) ∧ (gb197 ≠ s_.2) ∧ (s_.2 ≠ gb197) ∧ (Below w.heap.size w w')) ?_ ?_
   rotate_left
   ·intro hJ1_3_4_8_9
    refine join_ (σ := Nat) 3 #[true, true, true, true, true, true, true, true, true, false, false, false] (fun s_ => [(11, .agg #[.int .i64 t198, .int .i64 t199, .int .i64 t200]), (13, .agg #[.int .i64 t201, .int .i64 t202, .int .i64 t203]), (14, .tuple #[.agg #[.int .i64 t204, .int .i64 t205, .int .i64 t206], .agg #[.int .i64 t207, .int .i64 t208, .int .i64 t209]]), (5, .pointer (some ⟨s_, 0, none⟩)), (9, .tuple #[.agg #[.int .i64 t204, .int .i64 t205, .int .i64 t206], .agg #[.int .i64 t207, .int .i64 t208, .int .i64 t209]]), (15, .agg #[.int .i64 t204, .int .i64 t205, .int .i64 t206]), (16, .agg #[.int .i64 t207, .int .i64 t208, .int .i64 t209])]) (fun s_ w' => (w'.cell? ⟨gb196, 0, none⟩ = some (.int .i64 a0_0) ∧ w'.cell? ⟨gb196, 1, none⟩ = some (.int .i64 a0_1) ∧ w'.cell? ⟨gb196, 2, none⟩ = some (.int .i64 a0_2) ∧ w'.cell? ⟨gb197, 0, none⟩ = some (.int .i64 a1_0) ∧ w'.cell? ⟨gb197, 1, none⟩ = some (.int .i64 a1_1) ∧ w'.cell? ⟨gb197, 2, none⟩ = some (.int .i64 a1_2)) ∧ (w'.heap[gb196]? = some (.cells #[.int .i64 a0_0, .int .i64 a0_1, .int .i64 a0_2] 23 (0, 0))) ∧ (w'.heap[gb197]? = some (.cells #[.int .i64 a1_0, .int .i64 a1_1, .int .i64 a1_2] 23 (0, 0))) ∧ (w'.heap[s_]? = some (.cells #[.int .i64 0, .int .i64 0, .int .i64 0] 26 (0, 0))) ∧ (w.heap.size ≤ s_) ∧ (w.heap.size ≤ s_) ∧ (gb196 ≠ s_) ∧ (s_ ≠ gb196) ∧ (gb197 ≠ s_) ∧ (s_ ≠ gb197) ∧ (Below w.heap.size w w')) ?_ ?_
    rotate_left
    ·intro hJ1_3_4_8
     refine join_ (σ := Nat) 3 #[true, true, true, true, true, true, true, true, false, true, false, false] (fun s_ => [(11, .agg #[.int .i64 t198, .int .i64 t199, .int .i64 t200]), (13, .agg #[.int .i64 t201, .int .i64 t202, .int .i64 t203]), (14, .tuple #[.agg #[.int .i64 t204, .int .i64 t205, .int .i64 t206], .agg #[.int .i64 t207, .int .i64 t208, .int .i64 t209]]), (6, .pointer (some ⟨s_, 0, none⟩)), (9, .tuple #[.agg #[.int .i64 t204, .int .i64 t205, .int .i64 t206], .agg #[.int .i64 t207, .int .i64 t208, .int .i64 t209]]), (15, .agg #[.int .i64 t204, .int .i64 t205, .int .i64 t206]), (16, .agg #[.int .i64 t207, .int .i64 t208, .int .i64 t209])]) (fun s_ w' => (w'.cell? ⟨gb196, 0, none⟩ = some (.int .i64 a0_0) ∧ w'.cell? ⟨gb196, 1, none⟩ = some (.int .i64 a0_1) ∧ w'.cell? ⟨gb196, 2, none⟩ = some (.int .i64 a0_2) ∧ w'.cell? ⟨gb197, 0, none⟩ = some (.int .i64 a1_0) ∧ w'.cell? ⟨gb197, 1, none⟩ = some (.int .i64 a1_1) ∧ w'.cell? ⟨gb197, 2, none⟩ = some (.int .i64 a1_2)) ∧ (w'.heap[gb196]? = some (.cells #[.int .i64 a0_0, .int .i64 a0_1, .int .i64 a0_2] 23 (0, 0))) ∧ (w'.heap[gb197]? = some (.cells #[.int .i64 a1_0, .int .i64 a1_1, .int .i64 a1_2] 23 (0, 0))) ∧ (w'.heap[s_]? = some (.cells #[.int .i64 0, .int .i64 0, .int .i64 0] 26 (0, 0))) ∧ (w.heap.size ≤ s_) ∧ (w.heap.size ≤ s_) ∧ (gb196 ≠ s_) ∧ (s_ ≠ gb196) ∧ (gb197 ≠ s_) ∧ (s_ ≠ gb197) ∧ (Below w.heap.size w w')) ?_ ?_
     rotate_left
     ·intro hJ1_3_4_9
      refine join_ (σ := Nat × Nat) 6 #[true, true, true, true, false, false, false, false, true, true, false, false] (fun s_ => [(11, .agg #[.int .i64 t198, .int .i64 t199, .int .i64 t200]), (13, .agg #[.int .i64 t201, .int .i64 t202, .int .i64 t203]), (5, .pointer (some ⟨s_.1, 0, none⟩)), (6, .pointer (some ⟨s_.2, 0, none⟩))]) (fun s_ w' => (w'.cell? ⟨gb196, 0, none⟩ = some (.int .i64 a0_0) ∧ w'.cell? ⟨gb196, 1, none⟩ = some (.int .i64 a0_1) ∧ w'.cell? ⟨gb196, 2, none⟩ = some (.int .i64 a0_2) ∧ w'.cell? ⟨gb197, 0, none⟩ = some (.int .i64 a1_0) ∧ w'.cell? ⟨gb197, 1, none⟩ = some (.int .i64 a1_1) ∧ w'.cell? ⟨gb197, 2, none⟩ = some (.int .i64 a1_2)) ∧ (w'.heap[gb196]? = some (.cells #[.int .i64 a0_0, .int .i64 a0_1, .int .i64 a0_2] 23 (0, 0))) ∧ (w'.heap[gb197]? = some (.cells #[.int .i64 a1_0, .int .i64 a1_1, .int .i64 a1_2] 23 (0, 0))) ∧ (w'.heap[s_.1]? = some (.cells #[.int .i64 0, .int .i64 0, .int .i64 0] 26 (0, 0))) ∧ (w'.heap[s_.2]? = some (.cells #[.int .i64 0, .int .i64 0, .int .i64 0] 26 (0, 0))) ∧ (w.heap.size ≤ s_.1) ∧ (w.heap.size ≤ s_.1) ∧ (gb196 ≠ s_.1) ∧ (s_.1 ≠ gb196) ∧ (gb197 ≠ s_.1) ∧ (s_.1 ≠ gb197) ∧ (s_.2 ≠ s_.1) ∧ (s_.1 ≠ s_.2) ∧ (w.heap.size ≤ s_.2) ∧ (w.heap.size ≤ s_.2) ∧ (gb196 ≠ s_.2) ∧ (s_.2 ≠ gb196) ∧ (gb197 ≠ s_.2) ∧ (s_.2 ≠ gb197) ∧ (Below w.heap.size w w')) ?_ ?_
      rotate_left
      ·intro hJ1_3_8_9
       refine join_ (σ := Unit) 4 #[true, true, true, true, true, true, true, true, false, false, false, false] (fun s_ => [(11, .agg #[.int .i64 t198, .int .i64 t199, .int .i64 t200]), (13, .agg #[.int .i64 t201, .int .i64 t202, .int .i64 t203]), (14, .tuple #[.agg #[.int .i64 t204, .int .i64 t205, .int .i64 t206], .agg #[.int .i64 t207, .int .i64 t208, .int .i64 t209]]), (9, .tuple #[.agg #[.int .i64 t204, .int .i64 t205, .int .i64 t206], .agg #[.int .i64 t207, .int .i64 t208, .int .i64 t209]]), (15, .agg #[.int .i64 t204, .int .i64 t205, .int .i64 t206]), (16, .agg #[.int .i64 t207, .int .i64 t208, .int .i64 t209])]) (fun s_ w' => (w'.cell? ⟨gb196, 0, none⟩ = some (.int .i64 a0_0) ∧ w'.cell? ⟨gb196, 1, none⟩ = some (.int .i64 a0_1) ∧ w'.cell? ⟨gb196, 2, none⟩ = some (.int .i64 a0_2) ∧ w'.cell? ⟨gb197, 0, none⟩ = some (.int .i64 a1_0) ∧ w'.cell? ⟨gb197, 1, none⟩ = some (.int .i64 a1_1) ∧ w'.cell? ⟨gb197, 2, none⟩ = some (.int .i64 a1_2)) ∧ (w'.heap[gb196]? = some (.cells #[.int .i64 a0_0, .int .i64 a0_1, .int .i64 a0_2] 23 (0, 0))) ∧ (w'.heap[gb197]? = some (.cells #[.int .i64 a1_0, .int .i64 a1_1, .int .i64 a1_2] 23 (0, 0))) ∧ (Below w.heap.size w w')) ?_ ?_
       rotate_left
       ·intro hJ1_3_4
        refine join_ (σ := Nat) 7 #[true, true, true, true, false, false, false, false, true, false, false, false] (fun s_ => [(11, .agg #[.int .i64 t198, .int .i64 t199, .int .i64 t200]), (13, .agg #[.int .i64 t201, .int .i64 t202, .int .i64 t203]), (5, .pointer (some ⟨s_, 0, none⟩))]) (fun s_ w' => (w'.cell? ⟨gb196, 0, none⟩ = some (.int .i64 a0_0) ∧ w'.cell? ⟨gb196, 1, none⟩ = some (.int .i64 a0_1) ∧ w'.cell? ⟨gb196, 2, none⟩ = some (.int .i64 a0_2) ∧ w'.cell? ⟨gb197, 0, none⟩ = some (.int .i64 a1_0) ∧ w'.cell? ⟨gb197, 1, none⟩ = some (.int .i64 a1_1) ∧ w'.cell? ⟨gb197, 2, none⟩ = some (.int .i64 a1_2)) ∧ (w'.heap[gb196]? = some (.cells #[.int .i64 a0_0, .int .i64 a0_1, .int .i64 a0_2] 23 (0, 0))) ∧ (w'.heap[gb197]? = some (.cells #[.int .i64 a1_0, .int .i64 a1_1, .int .i64 a1_2] 23 (0, 0))) ∧ (w'.heap[s_]? = some (.cells #[.int .i64 0, .int .i64 0, .int .i64 0] 26 (0, 0))) ∧ (w.heap.size ≤ s_) ∧ (w.heap.size ≤ s_) ∧ (gb196 ≠ s_) ∧ (s_ ≠ gb196) ∧ (gb197 ≠ s_) ∧ (s_ ≠ gb197) ∧ (Below w.heap.size w w')) ?_ ?_
        rotate_left
        ·intro hJ1_3_8
         refine join_ (σ := Nat) 7 #[true, true, true, true, false, false, false, false, false, true, false, false] (fun s_ => [(11, .agg #[.int .i64 t198, .int .i64 t199, .int .i64 t200]), (13, .agg #[.int .i64 t201, .int .i64 t202, .int .i64 t203]), (6, .pointer (some ⟨s_, 0, none⟩))]) (fun s_ w' => (w'.cell? ⟨gb196, 0, none⟩ = some (.int .i64 a0_0) ∧ w'.cell? ⟨gb196, 1, none⟩ = some (.int .i64 a0_1) ∧ w'.cell? ⟨gb196, 2, none⟩ = some (.int .i64 a0_2) ∧ w'.cell? ⟨gb197, 0, none⟩ = some (.int .i64 a1_0) ∧ w'.cell? ⟨gb197, 1, none⟩ = some (.int .i64 a1_1) ∧ w'.cell? ⟨gb197, 2, none⟩ = some (.int .i64 a1_2)) ∧ (w'.heap[gb196]? = some (.cells #[.int .i64 a0_0, .int .i64 a0_1, .int .i64 a0_2] 23 (0, 0))) ∧ (w'.heap[gb197]? = some (.cells #[.int .i64 a1_0, .int .i64 a1_1, .int .i64 a1_2] 23 (0, 0))) ∧ (w'.heap[s_]? = some (.cells #[.int .i64 0, .int .i64 0, .int .i64 0] 26 (0, 0))) ∧ (w.heap.size ≤ s_) ∧ (w.heap.size ≤ s_) ∧ (gb196 ≠ s_) ∧ (s_ ≠ gb196) ∧ (gb197 ≠ s_) ∧ (s_ ≠ gb197) ∧ (Below w.heap.size w w')) ?_ ?_
         rotate_left
         ·intro hJ1_3_9
          refine join_ (σ := Nat × Nat) 7 #[true, true, true, false, false, false, false, false, true, true, false, false] (fun s_ => [(11, .agg #[.int .i64 t198, .int .i64 t199, .int .i64 t200]), (5, .pointer (some ⟨s_.1, 0, none⟩)), (6, .pointer (some ⟨s_.2, 0, none⟩))]) (fun s_ w' => (w'.cell? ⟨gb196, 0, none⟩ = some (.int .i64 a0_0) ∧ w'.cell? ⟨gb196, 1, none⟩ = some (.int .i64 a0_1) ∧ w'.cell? ⟨gb196, 2, none⟩ = some (.int .i64 a0_2) ∧ w'.cell? ⟨gb197, 0, none⟩ = some (.int .i64 a1_0) ∧ w'.cell? ⟨gb197, 1, none⟩ = some (.int .i64 a1_1) ∧ w'.cell? ⟨gb197, 2, none⟩ = some (.int .i64 a1_2)) ∧ (w'.heap[gb196]? = some (.cells #[.int .i64 a0_0, .int .i64 a0_1, .int .i64 a0_2] 23 (0, 0))) ∧ (w'.heap[gb197]? = some (.cells #[.int .i64 a1_0, .int .i64 a1_1, .int .i64 a1_2] 23 (0, 0))) ∧ (w'.heap[s_.1]? = some (.cells #[.int .i64 0, .int .i64 0, .int .i64 0] 26 (0, 0))) ∧ (w'.heap[s_.2]? = some (.cells #[.int .i64 0, .int .i64 0, .int .i64 0] 26 (0, 0))) ∧ (w.heap.size ≤ s_.1) ∧ (w.heap.size ≤ s_.1) ∧ (gb196 ≠ s_.1) ∧ (s_.1 ≠ gb196) ∧ (gb197 ≠ s_.1) ∧ (s_.1 ≠ gb197) ∧ (s_.2 ≠ s_.1) ∧ (s_.1 ≠ s_.2) ∧ (w.heap.size ≤ s_.2) ∧ (w.heap.size ≤ s_.2) ∧ (gb196 ≠ s_.2) ∧ (s_.2 ≠ gb196) ∧ (gb197 ≠ s_.2) ∧ (s_.2 ≠ gb197) ∧ (Below w.heap.size w w')) ?_ ?_
          rotate_left
          ·intro hJ1_8_9
           refine join_ (σ := Unit) 8 #[true, true, true, true, false, false, false, false, false, false, false, false] (fun s_ => [(11, .agg #[.int .i64 t198, .int .i64 t199, .int .i64 t200]), (13, .agg #[.int .i64 t201, .int .i64 t202, .int .i64 t203])]) (fun s_ w' => (w'.cell? ⟨gb196, 0, none⟩ = some (.int .i64 a0_0) ∧ w'.cell? ⟨gb196, 1, none⟩ = some (.int .i64 a0_1) ∧ w'.cell? ⟨gb196, 2, none⟩ = some (.int .i64 a0_2) ∧ w'.cell? ⟨gb197, 0, none⟩ = some (.int .i64 a1_0) ∧ w'.cell? ⟨gb197, 1, none⟩ = some (.int .i64 a1_1) ∧ w'.cell? ⟨gb197, 2, none⟩ = some (.int .i64 a1_2)) ∧ (w'.heap[gb196]? = some (.cells #[.int .i64 a0_0, .int .i64 a0_1, .int .i64 a0_2] 23 (0, 0))) ∧ (w'.heap[gb197]? = some (.cells #[.int .i64 a1_0, .int .i64 a1_1, .int .i64 a1_2] 23 (0, 0))) ∧ (Below w.heap.size w w')) ?_ ?_
           rotate_left
           ·intro hJ1_3
            refine join_ (σ := Nat) 8 #[true, true, true, false, false, false, false, false, true, false, false, false] (fun s_ => [(11, .agg #[.int .i64 t198, .int .i64 t199, .int .i64 t200]), (5, .pointer (some ⟨s_, 0, none⟩))]) (fun s_ w' => (w'.cell? ⟨gb196, 0, none⟩ = some (.int .i64 a0_0) ∧ w'.cell? ⟨gb196, 1, none⟩ = some (.int .i64 a0_1) ∧ w'.cell? ⟨gb196, 2, none⟩ = some (.int .i64 a0_2) ∧ w'.cell? ⟨gb197, 0, none⟩ = some (.int .i64 a1_0) ∧ w'.cell? ⟨gb197, 1, none⟩ = some (.int .i64 a1_1) ∧ w'.cell? ⟨gb197, 2, none⟩ = some (.int .i64 a1_2)) ∧ (w'.heap[gb196]? = some (.cells #[.int .i64 a0_0, .int .i64 a0_1, .int .i64 a0_2] 23 (0, 0))) ∧ (w'.heap[gb197]? = some (.cells #[.int .i64 a1_0, .int .i64 a1_1, .int .i64 a1_2] 23 (0, 0))) ∧ (w'.heap[s_]? = some (.cells #[.int .i64 0, .int .i64 0, .int .i64 0] 26 (0, 0))) ∧ (w.heap.size ≤ s_) ∧ (w.heap.size ≤ s_) ∧ (gb196 ≠ s_) ∧ (s_ ≠ gb196) ∧ (gb197 ≠ s_) ∧ (s_ ≠ gb197) ∧ (Below w.heap.size w w')) ?_ ?_
            rotate_left
            ·intro hJ1_8
             refine join_ (σ := Nat) 8 #[true, true, true, false, false, false, false, false, false, true, false, false] (fun s_ => [(11, .agg #[.int .i64 t198, .int .i64 t199, .int .i64 t200]), (6, .pointer (some ⟨s_, 0, none⟩))]) (fun s_ w' => (w'.cell? ⟨gb196, 0, none⟩ = some (.int .i64 a0_0) ∧ w'.cell? ⟨gb196, 1, none⟩ = some (.int .i64 a0_1) ∧ w'.cell? ⟨gb196, 2, none⟩ = some (.int .i64 a0_2) ∧ w'.cell? ⟨gb197, 0, none⟩ = some (.int .i64 a1_0) ∧ w'.cell? ⟨gb197, 1, none⟩ = some (.int .i64 a1_1) ∧ w'.cell? ⟨gb197, 2, none⟩ = some (.int .i64 a1_2)) ∧ (w'.heap[gb196]? = some (.cells #[.int .i64 a0_0, .int .i64 a0_1, .int .i64 a0_2] 23 (0, 0))) ∧ (w'.heap[gb197]? = some (.cells #[.int .i64 a1_0, .int .i64 a1_1, .int .i64 a1_2] 23 (0, 0))) ∧ (w'.heap[s_]? = some (.cells #[.int .i64 0, .int .i64 0, .int .i64 0] 26 (0, 0))) ∧ (w.heap.size ≤ s_) ∧ (w.heap.size ≤ s_) ∧ (gb196 ≠ s_) ∧ (s_ ≠ gb196) ∧ (gb197 ≠ s_) ∧ (s_ ≠ gb197) ∧ (Below w.heap.size w w')) ?_ ?_
             rotate_left
             ·intro hJ1_9
              refine join_ (σ := Nat × Nat) 8 #[true, false, true, false, false, false, false, false, true, true, false, false] (fun s_ => [(5, .pointer (some ⟨s_.1, 0, none⟩)), (6, .pointer (some ⟨s_.2, 0, none⟩))]) (fun s_ w' => (w'.cell? ⟨gb196, 0, none⟩ = some (.int .i64 a0_0) ∧ w'.cell? ⟨gb196, 1, none⟩ = some (.int .i64 a0_1) ∧ w'.cell? ⟨gb196, 2, none⟩ = some (.int .i64 a0_2) ∧ w'.cell? ⟨gb197, 0, none⟩ = some (.int .i64 a1_0) ∧ w'.cell? ⟨gb197, 1, none⟩ = some (.int .i64 a1_1) ∧ w'.cell? ⟨gb197, 2, none⟩ = some (.int .i64 a1_2)) ∧ (w'.heap[gb196]? = some (.cells #[.int .i64 a0_0, .int .i64 a0_1, .int .i64 a0_2] 23 (0, 0))) ∧ (w'.heap[gb197]? = some (.cells #[.int .i64 a1_0, .int .i64 a1_1, .int .i64 a1_2] 23 (0, 0))) ∧ (w'.heap[s_.1]? = some (.cells #[.int .i64 0, .int .i64 0, .int .i64 0] 26 (0, 0))) ∧ (w'.heap[s_.2]? = some (.cells #[.int .i64 0, .int .i64 0, .int .i64 0] 26 (0, 0))) ∧ (w.heap.size ≤ s_.1) ∧ (w.heap.size ≤ s_.1) ∧ (gb196 ≠ s_.1) ∧ (s_.1 ≠ gb196) ∧ (gb197 ≠ s_.1) ∧ (s_.1 ≠ gb197) ∧ (s_.2 ≠ s_.1) ∧ (s_.1 ≠ s_.2) ∧ (w.heap.size ≤ s_.2) ∧ (w.heap.size ≤ s_.2) ∧ (gb196 ≠ s_.2) ∧ (s_.2 ≠ gb196) ∧ (gb197 ≠ s_.2) ∧ (s_.2 ≠ gb197) ∧ (Below w.heap.size w w')) ?_ ?_
              rotate_left
              ·intro hJ8_9
               refine join_ (σ := Unit) 9 #[true, true, true, false, false, false, false, false, false, false, false, false] (fun s_ => [(11, .agg #[.int .i64 t198, .int .i64 t199, .int .i64 t200])]) (fun s_ w' => (w'.cell? ⟨gb196, 0, none⟩ = some (.int .i64 a0_0) ∧ w'.cell? ⟨gb196, 1, none⟩ = some (.int .i64 a0_1) ∧ w'.cell? ⟨gb196, 2, none⟩ = some (.int .i64 a0_2) ∧ w'.cell? ⟨gb197, 0, none⟩ = some (.int .i64 a1_0) ∧ w'.cell? ⟨gb197, 1, none⟩ = some (.int .i64 a1_1) ∧ w'.cell? ⟨gb197, 2, none⟩ = some (.int .i64 a1_2)) ∧ (w'.heap[gb196]? = some (.cells #[.int .i64 a0_0, .int .i64 a0_1, .int .i64 a0_2] 23 (0, 0))) ∧ (w'.heap[gb197]? = some (.cells #[.int .i64 a1_0, .int .i64 a1_1, .int .i64 a1_2] 23 (0, 0))) ∧ (Below w.heap.size w w')) ?_ ?_
               rotate_left
               ·intro hJ1
                refine join_ (σ := Nat) 9 #[true, false, true, false, false, false, false, false, true, false, false, false] (fun s_ => [(5, .pointer (some ⟨s_, 0, none⟩))]) (fun s_ w' => (w'.cell? ⟨gb196, 0, none⟩ = some (.int .i64 a0_0) ∧ w'.cell? ⟨gb196, 1, none⟩ = some (.int .i64 a0_1) ∧ w'.cell? ⟨gb196, 2, none⟩ = some (.int .i64 a0_2) ∧ w'.cell? ⟨gb197, 0, none⟩ = some (.int .i64 a1_0) ∧ w'.cell? ⟨gb197, 1, none⟩ = some (.int .i64 a1_1) ∧ w'.cell? ⟨gb197, 2, none⟩ = some (.int .i64 a1_2)) ∧ (w'.heap[gb196]? = some (.cells #[.int .i64 a0_0, .int .i64 a0_1, .int .i64 a0_2] 23 (0, 0))) ∧ (w'.heap[gb197]? = some (.cells #[.int .i64 a1_0, .int .i64 a1_1, .int .i64 a1_2] 23 (0, 0))) ∧ (w'.heap[s_]? = some (.cells #[.int .i64 0, .int .i64 0, .int .i64 0] 26 (0, 0))) ∧ (w.heap.size ≤ s_) ∧ (w.heap.size ≤ s_) ∧ (gb196 ≠ s_) ∧ (s_ ≠ gb196) ∧ (gb197 ≠ s_) ∧ (s_ ≠ gb197) ∧ (Below w.heap.size w w')) ?_ ?_
                rotate_left
                ·intro hJ8
                 refine join_ (σ := Nat) 9 #[true, false, true, false, false, false, false, false, false, true, false, false] (fun s_ => [(6, .pointer (some ⟨s_, 0, none⟩))]) (fun s_ w' => (w'.cell? ⟨gb196, 0, none⟩ = some (.int .i64 a0_0) ∧ w'.cell? ⟨gb196, 1, none⟩ = some (.int .i64 a0_1) ∧ w'.cell? ⟨gb196, 2, none⟩ = some (.int .i64 a0_2) ∧ w'.cell? ⟨gb197, 0, none⟩ = some (.int .i64 a1_0) ∧ w'.cell? ⟨gb197, 1, none⟩ = some (.int .i64 a1_1) ∧ w'.cell? ⟨gb197, 2, none⟩ = some (.int .i64 a1_2)) ∧ (w'.heap[gb196]? = some (.cells #[.int .i64 a0_0, .int .i64 a0_1, .int .i64 a0_2] 23 (0, 0))) ∧ (w'.heap[gb197]? = some (.cells #[.int .i64 a1_0, .int .i64 a1_1, .int .i64 a1_2] 23 (0, 0))) ∧ (w'.heap[s_]? = some (.cells #[.int .i64 0, .int .i64 0, .int .i64 0] 26 (0, 0))) ∧ (w.heap.size ≤ s_) ∧ (w.heap.size ≤ s_) ∧ (gb196 ≠ s_) ∧ (s_ ≠ gb196) ∧ (gb197 ≠ s_) ∧ (s_ ≠ gb197) ∧ (Below w.heap.size w w')) ?_ ?_
                 rotate_left
                 ·intro hJ9
                  refine three_ (i := 1) (j := 8) (k := 9) (Ni := some 11) (Nj := some 5) (Nk := some 6) #[true, true, true, false, false, false, false, false, false, false, false, false] #[true, false, true, false, false, false, false, false, true, false, false, false] #[true, false, true, false, false, false, false, false, false, true, false, false] rfl rfl rfl rfl rfl rfl (three_of HT_.out (by kernel_rfl)) (by decide) (by decide) (by decide) (fun K hK => ?_) (fun K hK => ?_) (fun K hK => ?_)
                  ·skip
                   refine goes_ Try.func16 (by kernel_rfl) rfl #[.agg #[.int .i64 a0_0, .int .i64 a0_1, .int .i64 a0_2]] (by rfl) rfl rfl (by (try simp only [List.map_toArray, List.map_cons, List.map_nil]); first | done | rfl | (simp only [List.length_drop, List.length_take]; rfl)) ?_
                   with_reducible refine (laws_toVec.calls a0_0 a0_1 a0_2 t198 t199 t200 _ A3.out).mono ?_
                   rintro e w16 ⟨rfl, hb⟩
                   refine ⟨_, rfl, ?_⟩
                   have n0_ := Gv.a0 (blk_below BK196.out hb)
                   have n1_ := Gv.a0 (blk_below BK197.out hb)
                   have n2_ := Gv.a0 (below_step HB.out hb)
                   clear BK196 BK197 HB; have BK196 := n0_; have BK197 := n1_; have HB := n2_; clear n0_ n1_ n2_; (try clear hb); (try clear hb2); (try clear hk); (try clear hi)
                   refine hK.out _ _ ⟨(blk_cell BK196.out 0).trans rfl, (blk_cell BK196.out 1).trans rfl, (blk_cell BK196.out 2).trans rfl, (blk_cell BK197.out 0).trans rfl, (blk_cell BK197.out 1).trans rfl, (blk_cell BK197.out 2).trans rfl⟩ (fun hHeld => ?_)
                   clear hK K
                   refine norm_ (a' := ?_) ?_ ?_
                   rotate_left
                   ·show Act.put _ (some 11) _ = _
                    simp only [Act.put, List.setIfInBounds_toArray, List.set_cons_zero, List.set_cons_succ, i64_w, i32_w]
                    rfl
                   exact Gv.nm (hJ1 () _ ⟨hHeld, BK196.out, BK197.out, HB.out⟩)
                  ·skip
                   refine box_step ?hg (N := 5) ?hd (cs := #[.int .i64 0, .int .i64 0, .int .i64 0]) (t := 26) ?hr ?_; (case hd => rfl); (case hg => rfl); (case hr => first | (go_simp; done) | (go_simp; rfl))
                   intro gb210 hg w16 hbox hb
                   have n0_ := Gv.a0 (blk_below BK196.out hb)
                   have n1_ := Gv.a0 (blk_below BK197.out hb)
                   have n2_ := Gv.a0 (below_step HB.out hb)
                   have n3_ := Gv.a0 (hbox)
                   have n4_ := Gv.a0 (Gv.ble hg HB.out : w.heap.size ≤ gb210)
                   have n5_ := Gv.a0 (Gv.ble hg HB.out : w.heap.size ≤ gb210)
                   have n6_ := Gv.a0 (Gv.nlt hg BK196.out : gb196 ≠ gb210)
                   have n7_ := Gv.a0 (Gv.ngt hg BK196.out : gb210 ≠ gb196)
                   have n8_ := Gv.a0 (Gv.nlt hg BK197.out : gb197 ≠ gb210)
                   have n9_ := Gv.a0 (Gv.ngt hg BK197.out : gb210 ≠ gb197)
                   clear BK196 BK197 HB; have BK196 := n0_; have BK197 := n1_; have HB := n2_; have BK210 := n3_; have GW210 := n4_; have GE210 := n5_; have NB196_210 := n6_; have NB210_196 := n7_; have NB197_210 := n8_; have NB210_197 := n9_; clear n0_ n1_ n2_ n3_ n4_ n5_ n6_ n7_ n8_ n9_; clear hb hbox hg
                   refine hK.out _ _ ⟨(blk_cell BK196.out 0).trans rfl, (blk_cell BK196.out 1).trans rfl, (blk_cell BK196.out 2).trans rfl, (blk_cell BK197.out 0).trans rfl, (blk_cell BK197.out 1).trans rfl, (blk_cell BK197.out 2).trans rfl⟩ (fun hHeld => ?_)
                   clear hK K
                   refine norm_ (a' := ?_) ?_ ?_
                   rotate_left
                   ·show Act.put _ (some 5) _ = _
                    simp only [Act.put, List.setIfInBounds_toArray, List.set_cons_zero, List.set_cons_succ, i64_w, i32_w]
                    rfl
                   exact Gv.nm (hJ8 (gb210) _ ⟨hHeld, BK196.out, BK197.out, BK210.out, GW210.out, GE210.out, NB196_210.out, NB210_196.out, NB197_210.out, NB210_197.out, HB.out⟩)
                  ·skip
                   refine box_step ?hg (N := 6) ?hd (cs := #[.int .i64 0, .int .i64 0, .int .i64 0]) (t := 26) ?hr ?_; (case hd => rfl); (case hg => rfl); (case hr => first | (go_simp; done) | (go_simp; rfl))
                   intro gb211 hg w16 hbox hb
                   have n0_ := Gv.a0 (blk_below BK196.out hb)
                   have n1_ := Gv.a0 (blk_below BK197.out hb)
                   have n2_ := Gv.a0 (below_step HB.out hb)
                   have n3_ := Gv.a0 (hbox)
                   have n4_ := Gv.a0 (Gv.ble hg HB.out : w.heap.size ≤ gb211)
                   have n5_ := Gv.a0 (Gv.ble hg HB.out : w.heap.size ≤ gb211)
                   have n6_ := Gv.a0 (Gv.nlt hg BK196.out : gb196 ≠ gb211)
                   have n7_ := Gv.a0 (Gv.ngt hg BK196.out : gb211 ≠ gb196)
                   have n8_ := Gv.a0 (Gv.nlt hg BK197.out : gb197 ≠ gb211)
                   have n9_ := Gv.a0 (Gv.ngt hg BK197.out : gb211 ≠ gb197)
                   clear BK196 BK197 HB; have BK196 := n0_; have BK197 := n1_; have HB := n2_; have BK211 := n3_; have GW211 := n4_; have GE211 := n5_; have NB196_211 := n6_; have NB211_196 := n7_; have NB197_211 := n8_; have NB211_197 := n9_; clear n0_ n1_ n2_ n3_ n4_ n5_ n6_ n7_ n8_ n9_; clear hb hbox hg
                   refine hK.out _ _ ⟨(blk_cell BK196.out 0).trans rfl, (blk_cell BK196.out 1).trans rfl, (blk_cell BK196.out 2).trans rfl, (blk_cell BK197.out 0).trans rfl, (blk_cell BK197.out 1).trans rfl, (blk_cell BK197.out 2).trans rfl⟩ (fun hHeld => ?_)
                   clear hK K
                   refine norm_ (a' := ?_) ?_ ?_
                   rotate_left
                   ·show Act.put _ (some 6) _ = _
                    simp only [Act.put, List.setIfInBounds_toArray, List.set_cons_zero, List.set_cons_succ, i64_w, i32_w]
                    rfl
                   exact Gv.nm (hJ9 (gb211) _ ⟨hHeld, BK196.out, BK197.out, BK211.out, GW211.out, GE211.out, NB196_211.out, NB211_196.out, NB197_211.out, NB211_197.out, HB.out⟩)
                 ·skip
                  rintro gb211 w17 ⟨hS_, h0_, h1_, h2_, h3_, h4_, h5_, h6_, h7_, h8_, h9_⟩
                  have n0_ : Aside0 (w17.heap[gb196]? = some (.cells #[.int .i64 a0_0, .int .i64 a0_1, .int .i64 a0_2] 23 (0, 0))) := ⟨h0_⟩
                  have n1_ : Aside0 (w17.heap[gb197]? = some (.cells #[.int .i64 a1_0, .int .i64 a1_1, .int .i64 a1_2] 23 (0, 0))) := ⟨h1_⟩
                  have n2_ : Aside0 (w17.heap[gb211]? = some (.cells #[.int .i64 0, .int .i64 0, .int .i64 0] 26 (0, 0))) := ⟨h2_⟩
                  have n3_ : Aside0 (w.heap.size ≤ gb211) := ⟨h3_⟩
                  have n4_ : Aside0 (w.heap.size ≤ gb211) := ⟨h4_⟩
                  have n5_ : Aside0 (gb196 ≠ gb211) := ⟨h5_⟩
                  have n6_ : Aside0 (gb211 ≠ gb196) := ⟨h6_⟩
                  have n7_ : Aside0 (gb197 ≠ gb211) := ⟨h7_⟩
                  have n8_ : Aside0 (gb211 ≠ gb197) := ⟨h8_⟩
                  have n9_ : Aside0 (Below w.heap.size w w17) := ⟨h9_⟩
                  clear BK196 BK197 HB; clear h0_ h1_ h2_ h3_ h4_ h5_ h6_ h7_ h8_ h9_; have BK196 := n0_; have BK197 := n1_; have BK211 := n2_; have GW211 := n3_; have GE211 := n4_; have NB196_211 := n5_; have NB211_196 := n6_; have NB197_211 := n7_; have NB211_197 := n8_; have HB := n9_; clear n0_ n1_ n2_ n3_ n4_ n5_ n6_ n7_ n8_ n9_
                  have hHeld : w17.cell? ⟨gb196, 0, none⟩ = some (.int .i64 a0_0) ∧ w17.cell? ⟨gb196, 1, none⟩ = some (.int .i64 a0_1) ∧ w17.cell? ⟨gb196, 2, none⟩ = some (.int .i64 a0_2) ∧ w17.cell? ⟨gb197, 0, none⟩ = some (.int .i64 a1_0) ∧ w17.cell? ⟨gb197, 1, none⟩ = some (.int .i64 a1_1) ∧ w17.cell? ⟨gb197, 2, none⟩ = some (.int .i64 a1_2) := hS_
                  refine norm_ (a' := ?_) ?_ ?_
                  rotate_left
                  ·simp only [putAll, Act.put, List.setIfInBounds_toArray, List.set_cons_zero, List.set_cons_succ]
                   rfl
                  refine two_ (i := 1) (j := 8) (Ni := some 11) (Nj := some 5) #[true, true, true, false, false, false, false, false, false, true, false, false] #[true, false, true, false, false, false, false, false, true, true, false, false] rfl rfl rfl rfl (two_of HT_.out (by kernel_rfl)) (by decide) (by decide) (fun K hK => ?_) (fun K hK => ?_)
                  ·skip
                   refine goes_ Try.func16 (by kernel_rfl) rfl #[.agg #[.int .i64 a0_0, .int .i64 a0_1, .int .i64 a0_2]] (by rfl) rfl rfl (by (try simp only [List.map_toArray, List.map_cons, List.map_nil]); first | done | rfl | (simp only [List.length_drop, List.length_take]; rfl)) ?_
                   with_reducible refine (laws_toVec.calls a0_0 a0_1 a0_2 t198 t199 t200 _ A3.out).mono ?_
                   rintro e w18 ⟨rfl, hb⟩
                   refine ⟨_, rfl, ?_⟩
                   have n0_ := Gv.a0 (blk_below BK196.out hb)
                   have n1_ := Gv.a0 (blk_below BK197.out hb)
                   have n2_ := Gv.a0 (blk_below BK211.out hb)
                   have n3_ := Gv.a0 (below_step HB.out hb)
                   clear BK196 BK197 BK211 HB; have BK196 := n0_; have BK197 := n1_; have BK211 := n2_; have HB := n3_; clear n0_ n1_ n2_ n3_; (try clear hb); (try clear hb2); (try clear hk); (try clear hi)
                   refine hK.out _ _ ⟨(blk_cell BK196.out 0).trans rfl, (blk_cell BK196.out 1).trans rfl, (blk_cell BK196.out 2).trans rfl, (blk_cell BK197.out 0).trans rfl, (blk_cell BK197.out 1).trans rfl, (blk_cell BK197.out 2).trans rfl⟩ (fun hHeld => ?_)
                   clear hK K
                   refine norm_ (a' := ?_) ?_ ?_
                   rotate_left
                   ·show Act.put _ (some 11) _ = _
                    simp only [Act.put, List.setIfInBounds_toArray, List.set_cons_zero, List.set_cons_succ, i64_w, i32_w]
                    rfl
                   exact Gv.nm (hJ1_9 (gb211) _ ⟨hHeld, BK196.out, BK197.out, BK211.out, GW211.out, GE211.out, NB196_211.out, NB211_196.out, NB197_211.out, NB211_197.out, HB.out⟩)
                  ·skip
                   refine box_step ?hg (N := 5) ?hd (cs := #[.int .i64 0, .int .i64 0, .int .i64 0]) (t := 26) ?hr ?_; (case hd => rfl); (case hg => rfl); (case hr => first | (go_simp; done) | (go_simp; rfl))
                   intro gb210 hg w18 hbox hb
                   have n0_ := Gv.a0 (blk_below BK196.out hb)
                   have n1_ := Gv.a0 (blk_below BK197.out hb)
                   have n2_ := Gv.a0 (blk_below BK211.out hb)
                   have n3_ := Gv.a0 (below_step HB.out hb)
                   have n4_ := Gv.a0 (hbox)
                   have n5_ := Gv.a0 (Gv.ble hg HB.out : w.heap.size ≤ gb210)
                   have n6_ := Gv.a0 (Gv.ble hg HB.out : w.heap.size ≤ gb210)
                   have n7_ := Gv.a0 (Gv.nlt hg BK196.out : gb196 ≠ gb210)
                   have n8_ := Gv.a0 (Gv.ngt hg BK196.out : gb210 ≠ gb196)
                   have n9_ := Gv.a0 (Gv.nlt hg BK197.out : gb197 ≠ gb210)
                   have n10_ := Gv.a0 (Gv.ngt hg BK197.out : gb210 ≠ gb197)
                   have n11_ := Gv.a0 (Gv.nlt hg BK211.out : gb211 ≠ gb210)
                   have n12_ := Gv.a0 (Gv.ngt hg BK211.out : gb210 ≠ gb211)
                   clear BK196 BK197 BK211 HB; have BK196 := n0_; have BK197 := n1_; have BK211 := n2_; have HB := n3_; have BK210 := n4_; have GW210 := n5_; have GE210 := n6_; have NB196_210 := n7_; have NB210_196 := n8_; have NB197_210 := n9_; have NB210_197 := n10_; have NB211_210 := n11_; have NB210_211 := n12_; clear n0_ n1_ n2_ n3_ n4_ n5_ n6_ n7_ n8_ n9_ n10_ n11_ n12_; clear hb hbox hg
                   refine hK.out _ _ ⟨(blk_cell BK196.out 0).trans rfl, (blk_cell BK196.out 1).trans rfl, (blk_cell BK196.out 2).trans rfl, (blk_cell BK197.out 0).trans rfl, (blk_cell BK197.out 1).trans rfl, (blk_cell BK197.out 2).trans rfl⟩ (fun hHeld => ?_)
                   clear hK K
                   refine norm_ (a' := ?_) ?_ ?_
                   rotate_left
                   ·show Act.put _ (some 5) _ = _
                    simp only [Act.put, List.setIfInBounds_toArray, List.set_cons_zero, List.set_cons_succ, i64_w, i32_w]
                    rfl
                   exact Gv.nm (hJ8_9 (gb210, gb211) _ ⟨hHeld, BK196.out, BK197.out, BK210.out, BK211.out, GW210.out, GE210.out, NB196_210.out, NB210_196.out, NB197_210.out, NB210_197.out, NB211_210.out, NB210_211.out, GW211.out, GE211.out, NB196_211.out, NB211_196.out, NB197_211.out, NB211_197.out, HB.out⟩)
                ·skip
                 rintro gb210 w17 ⟨hS_, h0_, h1_, h2_, h3_, h4_, h5_, h6_, h7_, h8_, h9_⟩
                 have n0_ : Aside0 (w17.heap[gb196]? = some (.cells #[.int .i64 a0_0, .int .i64 a0_1, .int .i64 a0_2] 23 (0, 0))) := ⟨h0_⟩
                 have n1_ : Aside0 (w17.heap[gb197]? = some (.cells #[.int .i64 a1_0, .int .i64 a1_1, .int .i64 a1_2] 23 (0, 0))) := ⟨h1_⟩
                 have n2_ : Aside0 (w17.heap[gb210]? = some (.cells #[.int .i64 0, .int .i64 0, .int .i64 0] 26 (0, 0))) := ⟨h2_⟩
                 have n3_ : Aside0 (w.heap.size ≤ gb210) := ⟨h3_⟩
                 have n4_ : Aside0 (w.heap.size ≤ gb210) := ⟨h4_⟩
                 have n5_ : Aside0 (gb196 ≠ gb210) := ⟨h5_⟩
                 have n6_ : Aside0 (gb210 ≠ gb196) := ⟨h6_⟩
                 have n7_ : Aside0 (gb197 ≠ gb210) := ⟨h7_⟩
                 have n8_ : Aside0 (gb210 ≠ gb197) := ⟨h8_⟩
                 have n9_ : Aside0 (Below w.heap.size w w17) := ⟨h9_⟩
                 clear BK196 BK197 HB; clear h0_ h1_ h2_ h3_ h4_ h5_ h6_ h7_ h8_ h9_; have BK196 := n0_; have BK197 := n1_; have BK210 := n2_; have GW210 := n3_; have GE210 := n4_; have NB196_210 := n5_; have NB210_196 := n6_; have NB197_210 := n7_; have NB210_197 := n8_; have HB := n9_; clear n0_ n1_ n2_ n3_ n4_ n5_ n6_ n7_ n8_ n9_
                 have hHeld : w17.cell? ⟨gb196, 0, none⟩ = some (.int .i64 a0_0) ∧ w17.cell? ⟨gb196, 1, none⟩ = some (.int .i64 a0_1) ∧ w17.cell? ⟨gb196, 2, none⟩ = some (.int .i64 a0_2) ∧ w17.cell? ⟨gb197, 0, none⟩ = some (.int .i64 a1_0) ∧ w17.cell? ⟨gb197, 1, none⟩ = some (.int .i64 a1_1) ∧ w17.cell? ⟨gb197, 2, none⟩ = some (.int .i64 a1_2) := hS_
                 refine norm_ (a' := ?_) ?_ ?_
                 rotate_left
                 ·simp only [putAll, Act.put, List.setIfInBounds_toArray, List.set_cons_zero, List.set_cons_succ]
                  rfl
                 refine two_ (i := 1) (j := 9) (Ni := some 11) (Nj := some 6) #[true, true, true, false, false, false, false, false, true, false, false, false] #[true, false, true, false, false, false, false, false, true, true, false, false] rfl rfl rfl rfl (two_of HT_.out (by kernel_rfl)) (by decide) (by decide) (fun K hK => ?_) (fun K hK => ?_)
                 ·skip
                  refine goes_ Try.func16 (by kernel_rfl) rfl #[.agg #[.int .i64 a0_0, .int .i64 a0_1, .int .i64 a0_2]] (by rfl) rfl rfl (by (try simp only [List.map_toArray, List.map_cons, List.map_nil]); first | done | rfl | (simp only [List.length_drop, List.length_take]; rfl)) ?_
                  with_reducible refine (laws_toVec.calls a0_0 a0_1 a0_2 t198 t199 t200 _ A3.out).mono ?_
                  rintro e w18 ⟨rfl, hb⟩
                  refine ⟨_, rfl, ?_⟩
                  have n0_ := Gv.a0 (blk_below BK196.out hb)
                  have n1_ := Gv.a0 (blk_below BK197.out hb)
                  have n2_ := Gv.a0 (blk_below BK210.out hb)
                  have n3_ := Gv.a0 (below_step HB.out hb)
                  clear BK196 BK197 BK210 HB; have BK196 := n0_; have BK197 := n1_; have BK210 := n2_; have HB := n3_; clear n0_ n1_ n2_ n3_; (try clear hb); (try clear hb2); (try clear hk); (try clear hi)
                  refine hK.out _ _ ⟨(blk_cell BK196.out 0).trans rfl, (blk_cell BK196.out 1).trans rfl, (blk_cell BK196.out 2).trans rfl, (blk_cell BK197.out 0).trans rfl, (blk_cell BK197.out 1).trans rfl, (blk_cell BK197.out 2).trans rfl⟩ (fun hHeld => ?_)
                  clear hK K
                  refine norm_ (a' := ?_) ?_ ?_
                  rotate_left
                  ·show Act.put _ (some 11) _ = _
                   simp only [Act.put, List.setIfInBounds_toArray, List.set_cons_zero, List.set_cons_succ, i64_w, i32_w]
                   rfl
                  exact Gv.nm (hJ1_8 (gb210) _ ⟨hHeld, BK196.out, BK197.out, BK210.out, GW210.out, GE210.out, NB196_210.out, NB210_196.out, NB197_210.out, NB210_197.out, HB.out⟩)
                 ·skip
                  refine box_step ?hg (N := 6) ?hd (cs := #[.int .i64 0, .int .i64 0, .int .i64 0]) (t := 26) ?hr ?_; (case hd => rfl); (case hg => rfl); (case hr => first | (go_simp; done) | (go_simp; rfl))
                  intro gb211 hg w18 hbox hb
                  have n0_ := Gv.a0 (blk_below BK196.out hb)
                  have n1_ := Gv.a0 (blk_below BK197.out hb)
                  have n2_ := Gv.a0 (blk_below BK210.out hb)
                  have n3_ := Gv.a0 (below_step HB.out hb)
                  have n4_ := Gv.a0 (hbox)
                  have n5_ := Gv.a0 (Gv.ble hg HB.out : w.heap.size ≤ gb211)
                  have n6_ := Gv.a0 (Gv.ble hg HB.out : w.heap.size ≤ gb211)
                  have n7_ := Gv.a0 (Gv.nlt hg BK196.out : gb196 ≠ gb211)
                  have n8_ := Gv.a0 (Gv.ngt hg BK196.out : gb211 ≠ gb196)
                  have n9_ := Gv.a0 (Gv.nlt hg BK197.out : gb197 ≠ gb211)
                  have n10_ := Gv.a0 (Gv.ngt hg BK197.out : gb211 ≠ gb197)
                  have n11_ := Gv.a0 (Gv.nlt hg BK210.out : gb210 ≠ gb211)
                  have n12_ := Gv.a0 (Gv.ngt hg BK210.out : gb211 ≠ gb210)
                  clear BK196 BK197 BK210 HB; have BK196 := n0_; have BK197 := n1_; have BK210 := n2_; have HB := n3_; have BK211 := n4_; have GW211 := n5_; have GE211 := n6_; have NB196_211 := n7_; have NB211_196 := n8_; have NB197_211 := n9_; have NB211_197 := n10_; have NB210_211 := n11_; have NB211_210 := n12_; clear n0_ n1_ n2_ n3_ n4_ n5_ n6_ n7_ n8_ n9_ n10_ n11_ n12_; clear hb hbox hg
                  refine hK.out _ _ ⟨(blk_cell BK196.out 0).trans rfl, (blk_cell BK196.out 1).trans rfl, (blk_cell BK196.out 2).trans rfl, (blk_cell BK197.out 0).trans rfl, (blk_cell BK197.out 1).trans rfl, (blk_cell BK197.out 2).trans rfl⟩ (fun hHeld => ?_)
                  clear hK K
                  refine norm_ (a' := ?_) ?_ ?_
                  rotate_left
                  ·show Act.put _ (some 6) _ = _
                   simp only [Act.put, List.setIfInBounds_toArray, List.set_cons_zero, List.set_cons_succ, i64_w, i32_w]
                   rfl
                  exact Gv.nm (hJ8_9 (gb210, gb211) _ ⟨hHeld, BK196.out, BK197.out, BK210.out, BK211.out, GW210.out, GE210.out, NB196_210.out, NB210_196.out, NB197_210.out, NB210_197.out, NB211_210.out, NB210_211.out, GW211.out, GE211.out, NB196_211.out, NB211_196.out, NB197_211.out, NB211_197.out, HB.out⟩)
               ·skip
                rintro _ w17 ⟨hS_, h0_, h1_, h2_⟩
                have n0_ : Aside0 (w17.heap[gb196]? = some (.cells #[.int .i64 a0_0, .int .i64 a0_1, .int .i64 a0_2] 23 (0, 0))) := ⟨h0_⟩
                have n1_ : Aside0 (w17.heap[gb197]? = some (.cells #[.int .i64 a1_0, .int .i64 a1_1, .int .i64 a1_2] 23 (0, 0))) := ⟨h1_⟩
                have n2_ : Aside0 (Below w.heap.size w w17) := ⟨h2_⟩
                clear BK196 BK197 HB; clear h0_ h1_ h2_; have BK196 := n0_; have BK197 := n1_; have HB := n2_; clear n0_ n1_ n2_
                have hHeld : w17.cell? ⟨gb196, 0, none⟩ = some (.int .i64 a0_0) ∧ w17.cell? ⟨gb196, 1, none⟩ = some (.int .i64 a0_1) ∧ w17.cell? ⟨gb196, 2, none⟩ = some (.int .i64 a0_2) ∧ w17.cell? ⟨gb197, 0, none⟩ = some (.int .i64 a1_0) ∧ w17.cell? ⟨gb197, 1, none⟩ = some (.int .i64 a1_1) ∧ w17.cell? ⟨gb197, 2, none⟩ = some (.int .i64 a1_2) := hS_
                refine norm_ (a' := ?_) ?_ ?_
                rotate_left
                ·simp only [putAll, Act.put, List.setIfInBounds_toArray, List.set_cons_zero, List.set_cons_succ]
                 rfl
                refine three_ (i := 3) (j := 8) (k := 9) (Ni := some 13) (Nj := some 5) (Nk := some 6) #[true, true, true, true, false, false, false, false, false, false, false, false] #[true, true, true, false, false, false, false, false, true, false, false, false] #[true, true, true, false, false, false, false, false, false, true, false, false] rfl rfl rfl rfl rfl rfl (three_of HT_.out (by kernel_rfl)) (by decide) (by decide) (by decide) (fun K hK => ?_) (fun K hK => ?_) (fun K hK => ?_)
                ·skip
                 refine goes_ Try.func16 (by kernel_rfl) rfl #[.agg #[.int .i64 a1_0, .int .i64 a1_1, .int .i64 a1_2]] (by rfl) rfl rfl (by (try simp only [List.map_toArray, List.map_cons, List.map_nil]); first | done | rfl | (simp only [List.length_drop, List.length_take]; rfl)) ?_
                 with_reducible refine (laws_toVec.calls a1_0 a1_1 a1_2 t201 t202 t203 _ A4.out).mono ?_
                 rintro e w18 ⟨rfl, hb⟩
                 refine ⟨_, rfl, ?_⟩
                 have n0_ := Gv.a0 (blk_below BK196.out hb)
                 have n1_ := Gv.a0 (blk_below BK197.out hb)
                 have n2_ := Gv.a0 (below_step HB.out hb)
                 clear BK196 BK197 HB; have BK196 := n0_; have BK197 := n1_; have HB := n2_; clear n0_ n1_ n2_; (try clear hb); (try clear hb2); (try clear hk); (try clear hi)
                 refine hK.out _ _ ⟨(blk_cell BK196.out 0).trans rfl, (blk_cell BK196.out 1).trans rfl, (blk_cell BK196.out 2).trans rfl, (blk_cell BK197.out 0).trans rfl, (blk_cell BK197.out 1).trans rfl, (blk_cell BK197.out 2).trans rfl⟩ (fun hHeld => ?_)
                 clear hK K
                 refine norm_ (a' := ?_) ?_ ?_
                 rotate_left
                 ·show Act.put _ (some 13) _ = _
                  simp only [Act.put, List.setIfInBounds_toArray, List.set_cons_zero, List.set_cons_succ, i64_w, i32_w]
                  rfl
                 exact Gv.nm (hJ1_3 () _ ⟨hHeld, BK196.out, BK197.out, HB.out⟩)
                ·skip
                 refine box_step ?hg (N := 5) ?hd (cs := #[.int .i64 0, .int .i64 0, .int .i64 0]) (t := 26) ?hr ?_; (case hd => rfl); (case hg => rfl); (case hr => first | (go_simp; done) | (go_simp; rfl))
                 intro gb210 hg w18 hbox hb
                 have n0_ := Gv.a0 (blk_below BK196.out hb)
                 have n1_ := Gv.a0 (blk_below BK197.out hb)
                 have n2_ := Gv.a0 (below_step HB.out hb)
                 have n3_ := Gv.a0 (hbox)
                 have n4_ := Gv.a0 (Gv.ble hg HB.out : w.heap.size ≤ gb210)
                 have n5_ := Gv.a0 (Gv.ble hg HB.out : w.heap.size ≤ gb210)
                 have n6_ := Gv.a0 (Gv.nlt hg BK196.out : gb196 ≠ gb210)
                 have n7_ := Gv.a0 (Gv.ngt hg BK196.out : gb210 ≠ gb196)
                 have n8_ := Gv.a0 (Gv.nlt hg BK197.out : gb197 ≠ gb210)
                 have n9_ := Gv.a0 (Gv.ngt hg BK197.out : gb210 ≠ gb197)
                 clear BK196 BK197 HB; have BK196 := n0_; have BK197 := n1_; have HB := n2_; have BK210 := n3_; have GW210 := n4_; have GE210 := n5_; have NB196_210 := n6_; have NB210_196 := n7_; have NB197_210 := n8_; have NB210_197 := n9_; clear n0_ n1_ n2_ n3_ n4_ n5_ n6_ n7_ n8_ n9_; clear hb hbox hg
                 refine hK.out _ _ ⟨(blk_cell BK196.out 0).trans rfl, (blk_cell BK196.out 1).trans rfl, (blk_cell BK196.out 2).trans rfl, (blk_cell BK197.out 0).trans rfl, (blk_cell BK197.out 1).trans rfl, (blk_cell BK197.out 2).trans rfl⟩ (fun hHeld => ?_)
                 clear hK K
                 refine norm_ (a' := ?_) ?_ ?_
                 rotate_left
                 ·show Act.put _ (some 5) _ = _
                  simp only [Act.put, List.setIfInBounds_toArray, List.set_cons_zero, List.set_cons_succ, i64_w, i32_w]
                  rfl
                 exact Gv.nm (hJ1_8 (gb210) _ ⟨hHeld, BK196.out, BK197.out, BK210.out, GW210.out, GE210.out, NB196_210.out, NB210_196.out, NB197_210.out, NB210_197.out, HB.out⟩)
                ·skip
                 refine box_step ?hg (N := 6) ?hd (cs := #[.int .i64 0, .int .i64 0, .int .i64 0]) (t := 26) ?hr ?_; (case hd => rfl); (case hg => rfl); (case hr => first | (go_simp; done) | (go_simp; rfl))
                 intro gb211 hg w18 hbox hb
                 have n0_ := Gv.a0 (blk_below BK196.out hb)
                 have n1_ := Gv.a0 (blk_below BK197.out hb)
                 have n2_ := Gv.a0 (below_step HB.out hb)
                 have n3_ := Gv.a0 (hbox)
                 have n4_ := Gv.a0 (Gv.ble hg HB.out : w.heap.size ≤ gb211)
                 have n5_ := Gv.a0 (Gv.ble hg HB.out : w.heap.size ≤ gb211)
                 have n6_ := Gv.a0 (Gv.nlt hg BK196.out : gb196 ≠ gb211)
                 have n7_ := Gv.a0 (Gv.ngt hg BK196.out : gb211 ≠ gb196)
                 have n8_ := Gv.a0 (Gv.nlt hg BK197.out : gb197 ≠ gb211)
                 have n9_ := Gv.a0 (Gv.ngt hg BK197.out : gb211 ≠ gb197)
                 clear BK196 BK197 HB; have BK196 := n0_; have BK197 := n1_; have HB := n2_; have BK211 := n3_; have GW211 := n4_; have GE211 := n5_; have NB196_211 := n6_; have NB211_196 := n7_; have NB197_211 := n8_; have NB211_197 := n9_; clear n0_ n1_ n2_ n3_ n4_ n5_ n6_ n7_ n8_ n9_; clear hb hbox hg
                 refine hK.out _ _ ⟨(blk_cell BK196.out 0).trans rfl, (blk_cell BK196.out 1).trans rfl, (blk_cell BK196.out 2).trans rfl, (blk_cell BK197.out 0).trans rfl, (blk_cell BK197.out 1).trans rfl, (blk_cell BK197.out 2).trans rfl⟩ (fun hHeld => ?_)
                 clear hK K
                 refine norm_ (a' := ?_) ?_ ?_
                 rotate_left
                 ·show Act.put _ (some 6) _ = _
                  simp only [Act.put, List.setIfInBounds_toArray, List.set_cons_zero, List.set_cons_succ, i64_w, i32_w]
                  rfl
                 exact Gv.nm (hJ1_9 (gb211) _ ⟨hHeld, BK196.out, BK197.out, BK211.out, GW211.out, GE211.out, NB196_211.out, NB211_196.out, NB197_211.out, NB211_197.out, HB.out⟩)
              ·skip
               rintro ⟨gb210, gb211⟩ w18 ⟨hS_, h0_, h1_, h2_, h3_, h4_, h5_, h6_, h7_, h8_, h9_, h10_, h11_, h12_, h13_, h14_, h15_, h16_, h17_, h18_⟩
               have n0_ : Aside0 (w18.heap[gb196]? = some (.cells #[.int .i64 a0_0, .int .i64 a0_1, .int .i64 a0_2] 23 (0, 0))) := ⟨h0_⟩
               have n1_ : Aside0 (w18.heap[gb197]? = some (.cells #[.int .i64 a1_0, .int .i64 a1_1, .int .i64 a1_2] 23 (0, 0))) := ⟨h1_⟩
               have n2_ : Aside0 (w18.heap[gb210]? = some (.cells #[.int .i64 0, .int .i64 0, .int .i64 0] 26 (0, 0))) := ⟨h2_⟩
               have n3_ : Aside0 (w18.heap[gb211]? = some (.cells #[.int .i64 0, .int .i64 0, .int .i64 0] 26 (0, 0))) := ⟨h3_⟩
               have n4_ : Aside0 (w.heap.size ≤ gb210) := ⟨h4_⟩
               have n5_ : Aside0 (w.heap.size ≤ gb210) := ⟨h5_⟩
               have n6_ : Aside0 (gb196 ≠ gb210) := ⟨h6_⟩
               have n7_ : Aside0 (gb210 ≠ gb196) := ⟨h7_⟩
               have n8_ : Aside0 (gb197 ≠ gb210) := ⟨h8_⟩
               have n9_ : Aside0 (gb210 ≠ gb197) := ⟨h9_⟩
               have n10_ : Aside0 (gb211 ≠ gb210) := ⟨h10_⟩
               have n11_ : Aside0 (gb210 ≠ gb211) := ⟨h11_⟩
               have n12_ : Aside0 (w.heap.size ≤ gb211) := ⟨h12_⟩
               have n13_ : Aside0 (w.heap.size ≤ gb211) := ⟨h13_⟩
               have n14_ : Aside0 (gb196 ≠ gb211) := ⟨h14_⟩
               have n15_ : Aside0 (gb211 ≠ gb196) := ⟨h15_⟩
               have n16_ : Aside0 (gb197 ≠ gb211) := ⟨h16_⟩
               have n17_ : Aside0 (gb211 ≠ gb197) := ⟨h17_⟩
               have n18_ : Aside0 (Below w.heap.size w w18) := ⟨h18_⟩
               clear BK196 BK197 HB; clear h0_ h1_ h2_ h3_ h4_ h5_ h6_ h7_ h8_ h9_ h10_ h11_ h12_ h13_ h14_ h15_ h16_ h17_ h18_; have BK196 := n0_; have BK197 := n1_; have BK210 := n2_; have BK211 := n3_; have GW210 := n4_; have GE210 := n5_; have NB196_210 := n6_; have NB210_196 := n7_; have NB197_210 := n8_; have NB210_197 := n9_; have NB211_210 := n10_; have NB210_211 := n11_; have GW211 := n12_; have GE211 := n13_; have NB196_211 := n14_; have NB211_196 := n15_; have NB197_211 := n16_; have NB211_197 := n17_; have HB := n18_; clear n0_ n1_ n2_ n3_ n4_ n5_ n6_ n7_ n8_ n9_ n10_ n11_ n12_ n13_ n14_ n15_ n16_ n17_ n18_
               have hHeld : w18.cell? ⟨gb196, 0, none⟩ = some (.int .i64 a0_0) ∧ w18.cell? ⟨gb196, 1, none⟩ = some (.int .i64 a0_1) ∧ w18.cell? ⟨gb196, 2, none⟩ = some (.int .i64 a0_2) ∧ w18.cell? ⟨gb197, 0, none⟩ = some (.int .i64 a1_0) ∧ w18.cell? ⟨gb197, 1, none⟩ = some (.int .i64 a1_1) ∧ w18.cell? ⟨gb197, 2, none⟩ = some (.int .i64 a1_2) := hS_
               refine norm_ (a' := ?_) ?_ ?_
               rotate_left
               ·simp only [putAll, Act.put, List.setIfInBounds_toArray, List.set_cons_zero, List.set_cons_succ]
                rfl
               refine one_ (i := 1) (N := some 11) #[true, true, true, false, false, false, false, false, true, true, false, false] rfl rfl (one_of HT_.out (by kernel_rfl)) (by decide) (fun K hK => ?_)
               refine goes_ Try.func16 (by kernel_rfl) rfl #[.agg #[.int .i64 a0_0, .int .i64 a0_1, .int .i64 a0_2]] (by rfl) rfl rfl (by (try simp only [List.map_toArray, List.map_cons, List.map_nil]); first | done | rfl | (simp only [List.length_drop, List.length_take]; rfl)) ?_
               with_reducible refine (laws_toVec.calls a0_0 a0_1 a0_2 t198 t199 t200 _ A3.out).mono ?_
               rintro e w19 ⟨rfl, hb⟩
               refine ⟨_, rfl, ?_⟩
               have n0_ := Gv.a0 (blk_below BK196.out hb)
               have n1_ := Gv.a0 (blk_below BK197.out hb)
               have n2_ := Gv.a0 (blk_below BK210.out hb)
               have n3_ := Gv.a0 (blk_below BK211.out hb)
               have n4_ := Gv.a0 (below_step HB.out hb)
               clear BK196 BK197 BK210 BK211 HB; have BK196 := n0_; have BK197 := n1_; have BK210 := n2_; have BK211 := n3_; have HB := n4_; clear n0_ n1_ n2_ n3_ n4_; (try clear hb); (try clear hb2); (try clear hk); (try clear hi)
               refine hK.out _ _ ⟨(blk_cell BK196.out 0).trans rfl, (blk_cell BK196.out 1).trans rfl, (blk_cell BK196.out 2).trans rfl, (blk_cell BK197.out 0).trans rfl, (blk_cell BK197.out 1).trans rfl, (blk_cell BK197.out 2).trans rfl⟩ (fun hHeld => ?_)
               clear hK K
               refine norm_ (a' := ?_) ?_ ?_
               rotate_left
               ·show Act.put _ (some 11) _ = _
                simp only [Act.put, List.setIfInBounds_toArray, List.set_cons_zero, List.set_cons_succ, i64_w, i32_w]
                rfl
               exact Gv.nm (hJ1_8_9 (gb210, gb211) _ ⟨hHeld, BK196.out, BK197.out, BK210.out, BK211.out, GW210.out, GE210.out, NB196_210.out, NB210_196.out, NB197_210.out, NB210_197.out, NB211_210.out, NB210_211.out, GW211.out, GE211.out, NB196_211.out, NB211_196.out, NB197_211.out, NB211_197.out, HB.out⟩)
             ·skip
              rintro gb211 w18 ⟨hS_, h0_, h1_, h2_, h3_, h4_, h5_, h6_, h7_, h8_, h9_⟩
              have n0_ : Aside0 (w18.heap[gb196]? = some (.cells #[.int .i64 a0_0, .int .i64 a0_1, .int .i64 a0_2] 23 (0, 0))) := ⟨h0_⟩
              have n1_ : Aside0 (w18.heap[gb197]? = some (.cells #[.int .i64 a1_0, .int .i64 a1_1, .int .i64 a1_2] 23 (0, 0))) := ⟨h1_⟩
              have n2_ : Aside0 (w18.heap[gb211]? = some (.cells #[.int .i64 0, .int .i64 0, .int .i64 0] 26 (0, 0))) := ⟨h2_⟩
              have n3_ : Aside0 (w.heap.size ≤ gb211) := ⟨h3_⟩
              have n4_ : Aside0 (w.heap.size ≤ gb211) := ⟨h4_⟩
              have n5_ : Aside0 (gb196 ≠ gb211) := ⟨h5_⟩
              have n6_ : Aside0 (gb211 ≠ gb196) := ⟨h6_⟩
              have n7_ : Aside0 (gb197 ≠ gb211) := ⟨h7_⟩
              have n8_ : Aside0 (gb211 ≠ gb197) := ⟨h8_⟩
              have n9_ : Aside0 (Below w.heap.size w w18) := ⟨h9_⟩
              clear BK196 BK197 HB; clear h0_ h1_ h2_ h3_ h4_ h5_ h6_ h7_ h8_ h9_; have BK196 := n0_; have BK197 := n1_; have BK211 := n2_; have GW211 := n3_; have GE211 := n4_; have NB196_211 := n5_; have NB211_196 := n6_; have NB197_211 := n7_; have NB211_197 := n8_; have HB := n9_; clear n0_ n1_ n2_ n3_ n4_ n5_ n6_ n7_ n8_ n9_
              have hHeld : w18.cell? ⟨gb196, 0, none⟩ = some (.int .i64 a0_0) ∧ w18.cell? ⟨gb196, 1, none⟩ = some (.int .i64 a0_1) ∧ w18.cell? ⟨gb196, 2, none⟩ = some (.int .i64 a0_2) ∧ w18.cell? ⟨gb197, 0, none⟩ = some (.int .i64 a1_0) ∧ w18.cell? ⟨gb197, 1, none⟩ = some (.int .i64 a1_1) ∧ w18.cell? ⟨gb197, 2, none⟩ = some (.int .i64 a1_2) := hS_
              refine norm_ (a' := ?_) ?_ ?_
              rotate_left
              ·simp only [putAll, Act.put, List.setIfInBounds_toArray, List.set_cons_zero, List.set_cons_succ]
               rfl
              refine two_ (i := 3) (j := 8) (Ni := some 13) (Nj := some 5) #[true, true, true, true, false, false, false, false, false, true, false, false] #[true, true, true, false, false, false, false, false, true, true, false, false] rfl rfl rfl rfl (two_of HT_.out (by kernel_rfl)) (by decide) (by decide) (fun K hK => ?_) (fun K hK => ?_)
              ·skip
               refine goes_ Try.func16 (by kernel_rfl) rfl #[.agg #[.int .i64 a1_0, .int .i64 a1_1, .int .i64 a1_2]] (by rfl) rfl rfl (by (try simp only [List.map_toArray, List.map_cons, List.map_nil]); first | done | rfl | (simp only [List.length_drop, List.length_take]; rfl)) ?_
               with_reducible refine (laws_toVec.calls a1_0 a1_1 a1_2 t201 t202 t203 _ A4.out).mono ?_
               rintro e w19 ⟨rfl, hb⟩
               refine ⟨_, rfl, ?_⟩
               have n0_ := Gv.a0 (blk_below BK196.out hb)
               have n1_ := Gv.a0 (blk_below BK197.out hb)
               have n2_ := Gv.a0 (blk_below BK211.out hb)
               have n3_ := Gv.a0 (below_step HB.out hb)
               clear BK196 BK197 BK211 HB; have BK196 := n0_; have BK197 := n1_; have BK211 := n2_; have HB := n3_; clear n0_ n1_ n2_ n3_; (try clear hb); (try clear hb2); (try clear hk); (try clear hi)
               refine hK.out _ _ ⟨(blk_cell BK196.out 0).trans rfl, (blk_cell BK196.out 1).trans rfl, (blk_cell BK196.out 2).trans rfl, (blk_cell BK197.out 0).trans rfl, (blk_cell BK197.out 1).trans rfl, (blk_cell BK197.out 2).trans rfl⟩ (fun hHeld => ?_)
               clear hK K
               refine norm_ (a' := ?_) ?_ ?_
               rotate_left
               ·show Act.put _ (some 13) _ = _
                simp only [Act.put, List.setIfInBounds_toArray, List.set_cons_zero, List.set_cons_succ, i64_w, i32_w]
                rfl
               exact Gv.nm (hJ1_3_9 (gb211) _ ⟨hHeld, BK196.out, BK197.out, BK211.out, GW211.out, GE211.out, NB196_211.out, NB211_196.out, NB197_211.out, NB211_197.out, HB.out⟩)
              ·skip
               refine box_step ?hg (N := 5) ?hd (cs := #[.int .i64 0, .int .i64 0, .int .i64 0]) (t := 26) ?hr ?_; (case hd => rfl); (case hg => rfl); (case hr => first | (go_simp; done) | (go_simp; rfl))
               intro gb210 hg w19 hbox hb
               have n0_ := Gv.a0 (blk_below BK196.out hb)
               have n1_ := Gv.a0 (blk_below BK197.out hb)
               have n2_ := Gv.a0 (blk_below BK211.out hb)
               have n3_ := Gv.a0 (below_step HB.out hb)
               have n4_ := Gv.a0 (hbox)
               have n5_ := Gv.a0 (Gv.ble hg HB.out : w.heap.size ≤ gb210)
               have n6_ := Gv.a0 (Gv.ble hg HB.out : w.heap.size ≤ gb210)
               have n7_ := Gv.a0 (Gv.nlt hg BK196.out : gb196 ≠ gb210)
               have n8_ := Gv.a0 (Gv.ngt hg BK196.out : gb210 ≠ gb196)
               have n9_ := Gv.a0 (Gv.nlt hg BK197.out : gb197 ≠ gb210)
               have n10_ := Gv.a0 (Gv.ngt hg BK197.out : gb210 ≠ gb197)
               have n11_ := Gv.a0 (Gv.nlt hg BK211.out : gb211 ≠ gb210)
               have n12_ := Gv.a0 (Gv.ngt hg BK211.out : gb210 ≠ gb211)
               clear BK196 BK197 BK211 HB; have BK196 := n0_; have BK197 := n1_; have BK211 := n2_; have HB := n3_; have BK210 := n4_; have GW210 := n5_; have GE210 := n6_; have NB196_210 := n7_; have NB210_196 := n8_; have NB197_210 := n9_; have NB210_197 := n10_; have NB211_210 := n11_; have NB210_211 := n12_; clear n0_ n1_ n2_ n3_ n4_ n5_ n6_ n7_ n8_ n9_ n10_ n11_ n12_; clear hb hbox hg
               refine hK.out _ _ ⟨(blk_cell BK196.out 0).trans rfl, (blk_cell BK196.out 1).trans rfl, (blk_cell BK196.out 2).trans rfl, (blk_cell BK197.out 0).trans rfl, (blk_cell BK197.out 1).trans rfl, (blk_cell BK197.out 2).trans rfl⟩ (fun hHeld => ?_)
               clear hK K
               refine norm_ (a' := ?_) ?_ ?_
               rotate_left
               ·show Act.put _ (some 5) _ = _
                simp only [Act.put, List.setIfInBounds_toArray, List.set_cons_zero, List.set_cons_succ, i64_w, i32_w]
                rfl
               exact Gv.nm (hJ1_8_9 (gb210, gb211) _ ⟨hHeld, BK196.out, BK197.out, BK210.out, BK211.out, GW210.out, GE210.out, NB196_210.out, NB210_196.out, NB197_210.out, NB210_197.out, NB211_210.out, NB210_211.out, GW211.out, GE211.out, NB196_211.out, NB211_196.out, NB197_211.out, NB211_197.out, HB.out⟩)
            ·skip
             rintro gb210 w18 ⟨hS_, h0_, h1_, h2_, h3_, h4_, h5_, h6_, h7_, h8_, h9_⟩
             have n0_ : Aside0 (w18.heap[gb196]? = some (.cells #[.int .i64 a0_0, .int .i64 a0_1, .int .i64 a0_2] 23 (0, 0))) := ⟨h0_⟩
             have n1_ : Aside0 (w18.heap[gb197]? = some (.cells #[.int .i64 a1_0, .int .i64 a1_1, .int .i64 a1_2] 23 (0, 0))) := ⟨h1_⟩
             have n2_ : Aside0 (w18.heap[gb210]? = some (.cells #[.int .i64 0, .int .i64 0, .int .i64 0] 26 (0, 0))) := ⟨h2_⟩
             have n3_ : Aside0 (w.heap.size ≤ gb210) := ⟨h3_⟩
             have n4_ : Aside0 (w.heap.size ≤ gb210) := ⟨h4_⟩
             have n5_ : Aside0 (gb196 ≠ gb210) := ⟨h5_⟩
             have n6_ : Aside0 (gb210 ≠ gb196) := ⟨h6_⟩
             have n7_ : Aside0 (gb197 ≠ gb210) := ⟨h7_⟩
             have n8_ : Aside0 (gb210 ≠ gb197) := ⟨h8_⟩
             have n9_ : Aside0 (Below w.heap.size w w18) := ⟨h9_⟩
             clear BK196 BK197 HB; clear h0_ h1_ h2_ h3_ h4_ h5_ h6_ h7_ h8_ h9_; have BK196 := n0_; have BK197 := n1_; have BK210 := n2_; have GW210 := n3_; have GE210 := n4_; have NB196_210 := n5_; have NB210_196 := n6_; have NB197_210 := n7_; have NB210_197 := n8_; have HB := n9_; clear n0_ n1_ n2_ n3_ n4_ n5_ n6_ n7_ n8_ n9_
             have hHeld : w18.cell? ⟨gb196, 0, none⟩ = some (.int .i64 a0_0) ∧ w18.cell? ⟨gb196, 1, none⟩ = some (.int .i64 a0_1) ∧ w18.cell? ⟨gb196, 2, none⟩ = some (.int .i64 a0_2) ∧ w18.cell? ⟨gb197, 0, none⟩ = some (.int .i64 a1_0) ∧ w18.cell? ⟨gb197, 1, none⟩ = some (.int .i64 a1_1) ∧ w18.cell? ⟨gb197, 2, none⟩ = some (.int .i64 a1_2) := hS_
             refine norm_ (a' := ?_) ?_ ?_
             rotate_left
             ·simp only [putAll, Act.put, List.setIfInBounds_toArray, List.set_cons_zero, List.set_cons_succ]
              rfl
             refine two_ (i := 3) (j := 9) (Ni := some 13) (Nj := some 6) #[true, true, true, true, false, false, false, false, true, false, false, false] #[true, true, true, false, false, false, false, false, true, true, false, false] rfl rfl rfl rfl (two_of HT_.out (by kernel_rfl)) (by decide) (by decide) (fun K hK => ?_) (fun K hK => ?_)
             ·skip
              refine goes_ Try.func16 (by kernel_rfl) rfl #[.agg #[.int .i64 a1_0, .int .i64 a1_1, .int .i64 a1_2]] (by rfl) rfl rfl (by (try simp only [List.map_toArray, List.map_cons, List.map_nil]); first | done | rfl | (simp only [List.length_drop, List.length_take]; rfl)) ?_
              with_reducible refine (laws_toVec.calls a1_0 a1_1 a1_2 t201 t202 t203 _ A4.out).mono ?_
              rintro e w19 ⟨rfl, hb⟩
              refine ⟨_, rfl, ?_⟩
              have n0_ := Gv.a0 (blk_below BK196.out hb)
              have n1_ := Gv.a0 (blk_below BK197.out hb)
              have n2_ := Gv.a0 (blk_below BK210.out hb)
              have n3_ := Gv.a0 (below_step HB.out hb)
              clear BK196 BK197 BK210 HB; have BK196 := n0_; have BK197 := n1_; have BK210 := n2_; have HB := n3_; clear n0_ n1_ n2_ n3_; (try clear hb); (try clear hb2); (try clear hk); (try clear hi)
              refine hK.out _ _ ⟨(blk_cell BK196.out 0).trans rfl, (blk_cell BK196.out 1).trans rfl, (blk_cell BK196.out 2).trans rfl, (blk_cell BK197.out 0).trans rfl, (blk_cell BK197.out 1).trans rfl, (blk_cell BK197.out 2).trans rfl⟩ (fun hHeld => ?_)
              clear hK K
              refine norm_ (a' := ?_) ?_ ?_
              rotate_left
              ·show Act.put _ (some 13) _ = _
               simp only [Act.put, List.setIfInBounds_toArray, List.set_cons_zero, List.set_cons_succ, i64_w, i32_w]
               rfl
              exact Gv.nm (hJ1_3_8 (gb210) _ ⟨hHeld, BK196.out, BK197.out, BK210.out, GW210.out, GE210.out, NB196_210.out, NB210_196.out, NB197_210.out, NB210_197.out, HB.out⟩)
             ·skip
              refine box_step ?hg (N := 6) ?hd (cs := #[.int .i64 0, .int .i64 0, .int .i64 0]) (t := 26) ?hr ?_; (case hd => rfl); (case hg => rfl); (case hr => first | (go_simp; done) | (go_simp; rfl))
              intro gb211 hg w19 hbox hb
              have n0_ := Gv.a0 (blk_below BK196.out hb)
              have n1_ := Gv.a0 (blk_below BK197.out hb)
              have n2_ := Gv.a0 (blk_below BK210.out hb)
              have n3_ := Gv.a0 (below_step HB.out hb)
              have n4_ := Gv.a0 (hbox)
              have n5_ := Gv.a0 (Gv.ble hg HB.out : w.heap.size ≤ gb211)
              have n6_ := Gv.a0 (Gv.ble hg HB.out : w.heap.size ≤ gb211)
              have n7_ := Gv.a0 (Gv.nlt hg BK196.out : gb196 ≠ gb211)
              have n8_ := Gv.a0 (Gv.ngt hg BK196.out : gb211 ≠ gb196)
              have n9_ := Gv.a0 (Gv.nlt hg BK197.out : gb197 ≠ gb211)
              have n10_ := Gv.a0 (Gv.ngt hg BK197.out : gb211 ≠ gb197)
              have n11_ := Gv.a0 (Gv.nlt hg BK210.out : gb210 ≠ gb211)
              have n12_ := Gv.a0 (Gv.ngt hg BK210.out : gb211 ≠ gb210)
              clear BK196 BK197 BK210 HB; have BK196 := n0_; have BK197 := n1_; have BK210 := n2_; have HB := n3_; have BK211 := n4_; have GW211 := n5_; have GE211 := n6_; have NB196_211 := n7_; have NB211_196 := n8_; have NB197_211 := n9_; have NB211_197 := n10_; have NB210_211 := n11_; have NB211_210 := n12_; clear n0_ n1_ n2_ n3_ n4_ n5_ n6_ n7_ n8_ n9_ n10_ n11_ n12_; clear hb hbox hg
              refine hK.out _ _ ⟨(blk_cell BK196.out 0).trans rfl, (blk_cell BK196.out 1).trans rfl, (blk_cell BK196.out 2).trans rfl, (blk_cell BK197.out 0).trans rfl, (blk_cell BK197.out 1).trans rfl, (blk_cell BK197.out 2).trans rfl⟩ (fun hHeld => ?_)
              clear hK K
              refine norm_ (a' := ?_) ?_ ?_
              rotate_left
              ·show Act.put _ (some 6) _ = _
               simp only [Act.put, List.setIfInBounds_toArray, List.set_cons_zero, List.set_cons_succ, i64_w, i32_w]
               rfl
              exact Gv.nm (hJ1_8_9 (gb210, gb211) _ ⟨hHeld, BK196.out, BK197.out, BK210.out, BK211.out, GW210.out, GE210.out, NB196_210.out, NB210_196.out, NB197_210.out, NB210_197.out, NB211_210.out, NB210_211.out, GW211.out, GE211.out, NB196_211.out, NB211_196.out, NB197_211.out, NB211_197.out, HB.out⟩)
           ·skip
            rintro _ w18 ⟨hS_, h0_, h1_, h2_⟩
            have n0_ : Aside0 (w18.heap[gb196]? = some (.cells #[.int .i64 a0_0, .int .i64 a0_1, .int .i64 a0_2] 23 (0, 0))) := ⟨h0_⟩
            have n1_ : Aside0 (w18.heap[gb197]? = some (.cells #[.int .i64 a1_0, .int .i64 a1_1, .int .i64 a1_2] 23 (0, 0))) := ⟨h1_⟩
            have n2_ : Aside0 (Below w.heap.size w w18) := ⟨h2_⟩
            clear BK196 BK197 HB; clear h0_ h1_ h2_; have BK196 := n0_; have BK197 := n1_; have HB := n2_; clear n0_ n1_ n2_
            have hHeld : w18.cell? ⟨gb196, 0, none⟩ = some (.int .i64 a0_0) ∧ w18.cell? ⟨gb196, 1, none⟩ = some (.int .i64 a0_1) ∧ w18.cell? ⟨gb196, 2, none⟩ = some (.int .i64 a0_2) ∧ w18.cell? ⟨gb197, 0, none⟩ = some (.int .i64 a1_0) ∧ w18.cell? ⟨gb197, 1, none⟩ = some (.int .i64 a1_1) ∧ w18.cell? ⟨gb197, 2, none⟩ = some (.int .i64 a1_2) := hS_
            refine norm_ (a' := ?_) ?_ ?_
            rotate_left
            ·simp only [putAll, Act.put, List.setIfInBounds_toArray, List.set_cons_zero, List.set_cons_succ]
             rfl
            refine three_ (i := 4) (j := 8) (k := 9) (Ni := some 14) (Nj := some 5) (Nk := some 6) #[true, true, true, true, true, false, false, false, false, false, false, false] #[true, true, true, true, false, false, false, false, true, false, false, false] #[true, true, true, true, false, false, false, false, false, true, false, false] rfl rfl rfl rfl rfl rfl (three_of HT_.out (by kernel_rfl)) (by decide) (by decide) (by decide) (fun K hK => ?_) (fun K hK => ?_) (fun K hK => ?_)
            ·skip
             refine goes_ Try.func25 (by kernel_rfl) rfl #[.agg #[.int .i64 t198, .int .i64 t199, .int .i64 t200], .agg #[.int .i64 t201, .int .i64 t202, .int .i64 t203]] (by rfl) rfl rfl (by (try simp only [List.map_toArray, List.map_cons, List.map_nil]); first | done | rfl | (simp only [List.length_drop, List.length_take]; rfl)) ?_
             with_reducible refine (spec_Charge.calls k t198 t199 t200 t201 t202 t203 t204 t205 t206 t207 t208 t209 _ A5.out).mono ?_
             rintro e w19 ⟨rfl, hb⟩
             refine ⟨_, rfl, ?_⟩
             have n0_ := Gv.a0 (blk_below BK196.out hb)
             have n1_ := Gv.a0 (blk_below BK197.out hb)
             have n2_ := Gv.a0 (below_step HB.out hb)
             clear BK196 BK197 HB; have BK196 := n0_; have BK197 := n1_; have HB := n2_; clear n0_ n1_ n2_; (try clear hb); (try clear hb2); (try clear hk); (try clear hi)
             refine hK.out _ _ ⟨(blk_cell BK196.out 0).trans rfl, (blk_cell BK196.out 1).trans rfl, (blk_cell BK196.out 2).trans rfl, (blk_cell BK197.out 0).trans rfl, (blk_cell BK197.out 1).trans rfl, (blk_cell BK197.out 2).trans rfl⟩ (fun hHeld => ?_)
             clear hK K
             refine norm_ (a' := ?_) ?_ ?_
             rotate_left
             ·show Act.put _ (some 14) _ = _
              simp only [Act.put, List.setIfInBounds_toArray, List.set_cons_zero, List.set_cons_succ, i64_w, i32_w]
              rfl
             refine pure_ (i := 5) (N := some 9) (v := ?_) (a' := ?_) #[true, true, true, true, true, true, false, false, false, false, false, false] rfl rfl (any_of HT_.out (by kernel_rfl)) (fun _ _ _ h => h) (Or.inl ⟨by rfl, ?_⟩) ?_ ?_
             rotate_left
             ·intro w'
              go_simp
              with_reducible rfl
             rotate_left
             ·simp only [Act.put, List.setIfInBounds_toArray, List.set_cons_zero, List.set_cons_succ, i64_w, i32_w]
              rfl
             refine pure_ (i := 6) (N := some 15) (v := ?_) (a' := ?_) #[true, true, true, true, true, true, true, false, false, false, false, false] rfl rfl (any_of HT_.out (by kernel_rfl)) (fun _ _ _ h => h) (Or.inl ⟨by rfl, ?_⟩) ?_ ?_
             rotate_left
             ·intro w'
              go_simp
              with_reducible rfl
             rotate_left
             ·simp only [Act.put, List.setIfInBounds_toArray, List.set_cons_zero, List.set_cons_succ, i64_w, i32_w]
              rfl
             refine pure_ (i := 7) (N := some 16) (v := ?_) (a' := ?_) #[true, true, true, true, true, true, true, true, false, false, false, false] rfl rfl (any_of HT_.out (by kernel_rfl)) (fun _ _ _ h => h) (Or.inl ⟨by rfl, ?_⟩) ?_ ?_
             rotate_left
             ·intro w'
              go_simp
              with_reducible rfl
             rotate_left
             ·simp only [Act.put, List.setIfInBounds_toArray, List.set_cons_zero, List.set_cons_succ, i64_w, i32_w]
              rfl
             exact Gv.nm (hJ1_3_4 () _ ⟨hHeld, BK196.out, BK197.out, HB.out⟩)
            ·skip
             refine box_step ?hg (N := 5) ?hd (cs := #[.int .i64 0, .int .i64 0, .int .i64 0]) (t := 26) ?hr ?_; (case hd => rfl); (case hg => rfl); (case hr => first | (go_simp; done) | (go_simp; rfl))
             intro gb210 hg w19 hbox hb
             have n0_ := Gv.a0 (blk_below BK196.out hb)
             have n1_ := Gv.a0 (blk_below BK197.out hb)
             have n2_ := Gv.a0 (below_step HB.out hb)
             have n3_ := Gv.a0 (hbox)
             have n4_ := Gv.a0 (Gv.ble hg HB.out : w.heap.size ≤ gb210)
             have n5_ := Gv.a0 (Gv.ble hg HB.out : w.heap.size ≤ gb210)
             have n6_ := Gv.a0 (Gv.nlt hg BK196.out : gb196 ≠ gb210)
             have n7_ := Gv.a0 (Gv.ngt hg BK196.out : gb210 ≠ gb196)
             have n8_ := Gv.a0 (Gv.nlt hg BK197.out : gb197 ≠ gb210)
             have n9_ := Gv.a0 (Gv.ngt hg BK197.out : gb210 ≠ gb197)
             clear BK196 BK197 HB; have BK196 := n0_; have BK197 := n1_; have HB := n2_; have BK210 := n3_; have GW210 := n4_; have GE210 := n5_; have NB196_210 := n6_; have NB210_196 := n7_; have NB197_210 := n8_; have NB210_197 := n9_; clear n0_ n1_ n2_ n3_ n4_ n5_ n6_ n7_ n8_ n9_; clear hb hbox hg
             refine hK.out _ _ ⟨(blk_cell BK196.out 0).trans rfl, (blk_cell BK196.out 1).trans rfl, (blk_cell BK196.out 2).trans rfl, (blk_cell BK197.out 0).trans rfl, (blk_cell BK197.out 1).trans rfl, (blk_cell BK197.out 2).trans rfl⟩ (fun hHeld => ?_)
             clear hK K
             refine norm_ (a' := ?_) ?_ ?_
             rotate_left
             ·show Act.put _ (some 5) _ = _
              simp only [Act.put, List.setIfInBounds_toArray, List.set_cons_zero, List.set_cons_succ, i64_w, i32_w]
              rfl
             exact Gv.nm (hJ1_3_8 (gb210) _ ⟨hHeld, BK196.out, BK197.out, BK210.out, GW210.out, GE210.out, NB196_210.out, NB210_196.out, NB197_210.out, NB210_197.out, HB.out⟩)
            ·skip
             refine box_step ?hg (N := 6) ?hd (cs := #[.int .i64 0, .int .i64 0, .int .i64 0]) (t := 26) ?hr ?_; (case hd => rfl); (case hg => rfl); (case hr => first | (go_simp; done) | (go_simp; rfl))
             intro gb211 hg w19 hbox hb
             have n0_ := Gv.a0 (blk_below BK196.out hb)
             have n1_ := Gv.a0 (blk_below BK197.out hb)
             have n2_ := Gv.a0 (below_step HB.out hb)
             have n3_ := Gv.a0 (hbox)
             have n4_ := Gv.a0 (Gv.ble hg HB.out : w.heap.size ≤ gb211)
             have n5_ := Gv.a0 (Gv.ble hg HB.out : w.heap.size ≤ gb211)
             have n6_ := Gv.a0 (Gv.nlt hg BK196.out : gb196 ≠ gb211)
             have n7_ := Gv.a0 (Gv.ngt hg BK196.out : gb211 ≠ gb196)
             have n8_ := Gv.a0 (Gv.nlt hg BK197.out : gb197 ≠ gb211)
             have n9_ := Gv.a0 (Gv.ngt hg BK197.out : gb211 ≠ gb197)
             clear BK196 BK197 HB; have BK196 := n0_; have BK197 := n1_; have HB := n2_; have BK211 := n3_; have GW211 := n4_; have GE211 := n5_; have NB196_211 := n6_; have NB211_196 := n7_; have NB197_211 := n8_; have NB211_197 := n9_; clear n0_ n1_ n2_ n3_ n4_ n5_ n6_ n7_ n8_ n9_; clear hb hbox hg
             refine hK.out _ _ ⟨(blk_cell BK196.out 0).trans rfl, (blk_cell BK196.out 1).trans rfl, (blk_cell BK196.out 2).trans rfl, (blk_cell BK197.out 0).trans rfl, (blk_cell BK197.out 1).trans rfl, (blk_cell BK197.out 2).trans rfl⟩ (fun hHeld => ?_)
             clear hK K
             refine norm_ (a' := ?_) ?_ ?_
             rotate_left
             ·show Act.put _ (some 6) _ = _
              simp only [Act.put, List.setIfInBounds_toArray, List.set_cons_zero, List.set_cons_succ, i64_w, i32_w]
              rfl
             exact Gv.nm (hJ1_3_9 (gb211) _ ⟨hHeld, BK196.out, BK197.out, BK211.out, GW211.out, GE211.out, NB196_211.out, NB211_196.out, NB197_211.out, NB211_197.out, HB.out⟩)
          ·skip
           rintro ⟨gb210, gb211⟩ w19 ⟨hS_, h0_, h1_, h2_, h3_, h4_, h5_, h6_, h7_, h8_, h9_, h10_, h11_, h12_, h13_, h14_, h15_, h16_, h17_, h18_⟩
           have n0_ : Aside0 (w19.heap[gb196]? = some (.cells #[.int .i64 a0_0, .int .i64 a0_1, .int .i64 a0_2] 23 (0, 0))) := ⟨h0_⟩
           have n1_ : Aside0 (w19.heap[gb197]? = some (.cells #[.int .i64 a1_0, .int .i64 a1_1, .int .i64 a1_2] 23 (0, 0))) := ⟨h1_⟩
           have n2_ : Aside0 (w19.heap[gb210]? = some (.cells #[.int .i64 0, .int .i64 0, .int .i64 0] 26 (0, 0))) := ⟨h2_⟩
           have n3_ : Aside0 (w19.heap[gb211]? = some (.cells #[.int .i64 0, .int .i64 0, .int .i64 0] 26 (0, 0))) := ⟨h3_⟩
           have n4_ : Aside0 (w.heap.size ≤ gb210) := ⟨h4_⟩
           have n5_ : Aside0 (w.heap.size ≤ gb210) := ⟨h5_⟩
           have n6_ : Aside0 (gb196 ≠ gb210) := ⟨h6_⟩
           have n7_ : Aside0 (gb210 ≠ gb196) := ⟨h7_⟩
           have n8_ : Aside0 (gb197 ≠ gb210) := ⟨h8_⟩
           have n9_ : Aside0 (gb210 ≠ gb197) := ⟨h9_⟩
           have n10_ : Aside0 (gb211 ≠ gb210) := ⟨h10_⟩
           have n11_ : Aside0 (gb210 ≠ gb211) := ⟨h11_⟩
           have n12_ : Aside0 (w.heap.size ≤ gb211) := ⟨h12_⟩
           have n13_ : Aside0 (w.heap.size ≤ gb211) := ⟨h13_⟩
           have n14_ : Aside0 (gb196 ≠ gb211) := ⟨h14_⟩
           have n15_ : Aside0 (gb211 ≠ gb196) := ⟨h15_⟩
           have n16_ : Aside0 (gb197 ≠ gb211) := ⟨h16_⟩
           have n17_ : Aside0 (gb211 ≠ gb197) := ⟨h17_⟩
           have n18_ : Aside0 (Below w.heap.size w w19) := ⟨h18_⟩
           clear BK196 BK197 HB; clear h0_ h1_ h2_ h3_ h4_ h5_ h6_ h7_ h8_ h9_ h10_ h11_ h12_ h13_ h14_ h15_ h16_ h17_ h18_; have BK196 := n0_; have BK197 := n1_; have BK210 := n2_; have BK211 := n3_; have GW210 := n4_; have GE210 := n5_; have NB196_210 := n6_; have NB210_196 := n7_; have NB197_210 := n8_; have NB210_197 := n9_; have NB211_210 := n10_; have NB210_211 := n11_; have GW211 := n12_; have GE211 := n13_; have NB196_211 := n14_; have NB211_196 := n15_; have NB197_211 := n16_; have NB211_197 := n17_; have HB := n18_; clear n0_ n1_ n2_ n3_ n4_ n5_ n6_ n7_ n8_ n9_ n10_ n11_ n12_ n13_ n14_ n15_ n16_ n17_ n18_
           have hHeld : w19.cell? ⟨gb196, 0, none⟩ = some (.int .i64 a0_0) ∧ w19.cell? ⟨gb196, 1, none⟩ = some (.int .i64 a0_1) ∧ w19.cell? ⟨gb196, 2, none⟩ = some (.int .i64 a0_2) ∧ w19.cell? ⟨gb197, 0, none⟩ = some (.int .i64 a1_0) ∧ w19.cell? ⟨gb197, 1, none⟩ = some (.int .i64 a1_1) ∧ w19.cell? ⟨gb197, 2, none⟩ = some (.int .i64 a1_2) := hS_
           refine norm_ (a' := ?_) ?_ ?_
           rotate_left
           ·simp only [putAll, Act.put, List.setIfInBounds_toArray, List.set_cons_zero, List.set_cons_succ]
            rfl
           refine one_ (i := 3) (N := some 13) #[true, true, true, true, false, false, false, false, true, true, false, false] rfl rfl (one_of HT_.out (by kernel_rfl)) (by decide) (fun K hK => ?_)
           refine goes_ Try.func16 (by kernel_rfl) rfl #[.agg #[.int .i64 a1_0, .int .i64 a1_1, .int .i64 a1_2]] (by rfl) rfl rfl (by (try simp only [List.map_toArray, List.map_cons, List.map_nil]); first | done | rfl | (simp only [List.length_drop, List.length_take]; rfl)) ?_
           with_reducible refine (laws_toVec.calls a1_0 a1_1 a1_2 t201 t202 t203 _ A4.out).mono ?_
           rintro e w20 ⟨rfl, hb⟩
           refine ⟨_, rfl, ?_⟩
           have n0_ := Gv.a0 (blk_below BK196.out hb)
           have n1_ := Gv.a0 (blk_below BK197.out hb)
           have n2_ := Gv.a0 (blk_below BK210.out hb)
           have n3_ := Gv.a0 (blk_below BK211.out hb)
           have n4_ := Gv.a0 (below_step HB.out hb)
           clear BK196 BK197 BK210 BK211 HB; have BK196 := n0_; have BK197 := n1_; have BK210 := n2_; have BK211 := n3_; have HB := n4_; clear n0_ n1_ n2_ n3_ n4_; (try clear hb); (try clear hb2); (try clear hk); (try clear hi)
           refine hK.out _ _ ⟨(blk_cell BK196.out 0).trans rfl, (blk_cell BK196.out 1).trans rfl, (blk_cell BK196.out 2).trans rfl, (blk_cell BK197.out 0).trans rfl, (blk_cell BK197.out 1).trans rfl, (blk_cell BK197.out 2).trans rfl⟩ (fun hHeld => ?_)
           clear hK K
           refine norm_ (a' := ?_) ?_ ?_
           rotate_left
           ·show Act.put _ (some 13) _ = _
            simp only [Act.put, List.setIfInBounds_toArray, List.set_cons_zero, List.set_cons_succ, i64_w, i32_w]
            rfl
           exact Gv.nm (hJ1_3_8_9 (gb210, gb211) _ ⟨hHeld, BK196.out, BK197.out, BK210.out, BK211.out, GW210.out, GE210.out, NB196_210.out, NB210_196.out, NB197_210.out, NB210_197.out, NB211_210.out, NB210_211.out, GW211.out, GE211.out, NB196_211.out, NB211_196.out, NB197_211.out, NB211_197.out, HB.out⟩)
         ·skip
          rintro gb211 w19 ⟨hS_, h0_, h1_, h2_, h3_, h4_, h5_, h6_, h7_, h8_, h9_⟩
          have n0_ : Aside0 (w19.heap[gb196]? = some (.cells #[.int .i64 a0_0, .int .i64 a0_1, .int .i64 a0_2] 23 (0, 0))) := ⟨h0_⟩
          have n1_ : Aside0 (w19.heap[gb197]? = some (.cells #[.int .i64 a1_0, .int .i64 a1_1, .int .i64 a1_2] 23 (0, 0))) := ⟨h1_⟩
          have n2_ : Aside0 (w19.heap[gb211]? = some (.cells #[.int .i64 0, .int .i64 0, .int .i64 0] 26 (0, 0))) := ⟨h2_⟩
          have n3_ : Aside0 (w.heap.size ≤ gb211) := ⟨h3_⟩
          have n4_ : Aside0 (w.heap.size ≤ gb211) := ⟨h4_⟩
          have n5_ : Aside0 (gb196 ≠ gb211) := ⟨h5_⟩
          have n6_ : Aside0 (gb211 ≠ gb196) := ⟨h6_⟩
          have n7_ : Aside0 (gb197 ≠ gb211) := ⟨h7_⟩
          have n8_ : Aside0 (gb211 ≠ gb197) := ⟨h8_⟩
          have n9_ : Aside0 (Below w.heap.size w w19) := ⟨h9_⟩
          clear BK196 BK197 HB; clear h0_ h1_ h2_ h3_ h4_ h5_ h6_ h7_ h8_ h9_; have BK196 := n0_; have BK197 := n1_; have BK211 := n2_; have GW211 := n3_; have GE211 := n4_; have NB196_211 := n5_; have NB211_196 := n6_; have NB197_211 := n7_; have NB211_197 := n8_; have HB := n9_; clear n0_ n1_ n2_ n3_ n4_ n5_ n6_ n7_ n8_ n9_
          have hHeld : w19.cell? ⟨gb196, 0, none⟩ = some (.int .i64 a0_0) ∧ w19.cell? ⟨gb196, 1, none⟩ = some (.int .i64 a0_1) ∧ w19.cell? ⟨gb196, 2, none⟩ = some (.int .i64 a0_2) ∧ w19.cell? ⟨gb197, 0, none⟩ = some (.int .i64 a1_0) ∧ w19.cell? ⟨gb197, 1, none⟩ = some (.int .i64 a1_1) ∧ w19.cell? ⟨gb197, 2, none⟩ = some (.int .i64 a1_2) := hS_
          refine norm_ (a' := ?_) ?_ ?_
          rotate_left
          ·simp only [putAll, Act.put, List.setIfInBounds_toArray, List.set_cons_zero, List.set_cons_succ]
           rfl
          refine two_ (i := 4) (j := 8) (Ni := some 14) (Nj := some 5) #[true, true, true, true, true, false, false, false, false, true, false, false] #[true, true, true, true, false, false, false, false, true, true, false, false] rfl rfl rfl rfl (two_of HT_.out (by kernel_rfl)) (by decide) (by decide) (fun K hK => ?_) (fun K hK => ?_)
          ·skip
           refine goes_ Try.func25 (by kernel_rfl) rfl #[.agg #[.int .i64 t198, .int .i64 t199, .int .i64 t200], .agg #[.int .i64 t201, .int .i64 t202, .int .i64 t203]] (by rfl) rfl rfl (by (try simp only [List.map_toArray, List.map_cons, List.map_nil]); first | done | rfl | (simp only [List.length_drop, List.length_take]; rfl)) ?_
           with_reducible refine (spec_Charge.calls k t198 t199 t200 t201 t202 t203 t204 t205 t206 t207 t208 t209 _ A5.out).mono ?_
           rintro e w20 ⟨rfl, hb⟩
           refine ⟨_, rfl, ?_⟩
           have n0_ := Gv.a0 (blk_below BK196.out hb)
           have n1_ := Gv.a0 (blk_below BK197.out hb)
           have n2_ := Gv.a0 (blk_below BK211.out hb)
           have n3_ := Gv.a0 (below_step HB.out hb)
           clear BK196 BK197 BK211 HB; have BK196 := n0_; have BK197 := n1_; have BK211 := n2_; have HB := n3_; clear n0_ n1_ n2_ n3_; (try clear hb); (try clear hb2); (try clear hk); (try clear hi)
           refine hK.out _ _ ⟨(blk_cell BK196.out 0).trans rfl, (blk_cell BK196.out 1).trans rfl, (blk_cell BK196.out 2).trans rfl, (blk_cell BK197.out 0).trans rfl, (blk_cell BK197.out 1).trans rfl, (blk_cell BK197.out 2).trans rfl⟩ (fun hHeld => ?_)
           clear hK K
           refine norm_ (a' := ?_) ?_ ?_
           rotate_left
           ·show Act.put _ (some 14) _ = _
            simp only [Act.put, List.setIfInBounds_toArray, List.set_cons_zero, List.set_cons_succ, i64_w, i32_w]
            rfl
           refine pure_ (i := 5) (N := some 9) (v := ?_) (a' := ?_) #[true, true, true, true, true, true, false, false, false, true, false, false] rfl rfl (any_of HT_.out (by kernel_rfl)) (fun _ _ _ h => h) (Or.inl ⟨by rfl, ?_⟩) ?_ ?_
           rotate_left
           ·intro w'
            go_simp
            with_reducible rfl
           rotate_left
           ·simp only [Act.put, List.setIfInBounds_toArray, List.set_cons_zero, List.set_cons_succ, i64_w, i32_w]
            rfl
           refine pure_ (i := 6) (N := some 15) (v := ?_) (a' := ?_) #[true, true, true, true, true, true, true, false, false, true, false, false] rfl rfl (any_of HT_.out (by kernel_rfl)) (fun _ _ _ h => h) (Or.inl ⟨by rfl, ?_⟩) ?_ ?_
           rotate_left
           ·intro w'
            go_simp
            with_reducible rfl
           rotate_left
           ·simp only [Act.put, List.setIfInBounds_toArray, List.set_cons_zero, List.set_cons_succ, i64_w, i32_w]
            rfl
           refine pure_ (i := 7) (N := some 16) (v := ?_) (a' := ?_) #[true, true, true, true, true, true, true, true, false, true, false, false] rfl rfl (any_of HT_.out (by kernel_rfl)) (fun _ _ _ h => h) (Or.inl ⟨by rfl, ?_⟩) ?_ ?_
           rotate_left
           ·intro w'
            go_simp
            with_reducible rfl
           rotate_left
           ·simp only [Act.put, List.setIfInBounds_toArray, List.set_cons_zero, List.set_cons_succ, i64_w, i32_w]
            rfl
           exact Gv.nm (hJ1_3_4_9 (gb211) _ ⟨hHeld, BK196.out, BK197.out, BK211.out, GW211.out, GE211.out, NB196_211.out, NB211_196.out, NB197_211.out, NB211_197.out, HB.out⟩)
          ·skip
           refine box_step ?hg (N := 5) ?hd (cs := #[.int .i64 0, .int .i64 0, .int .i64 0]) (t := 26) ?hr ?_; (case hd => rfl); (case hg => rfl); (case hr => first | (go_simp; done) | (go_simp; rfl))
           intro gb210 hg w20 hbox hb
           have n0_ := Gv.a0 (blk_below BK196.out hb)
           have n1_ := Gv.a0 (blk_below BK197.out hb)
           have n2_ := Gv.a0 (blk_below BK211.out hb)
           have n3_ := Gv.a0 (below_step HB.out hb)
           have n4_ := Gv.a0 (hbox)
           have n5_ := Gv.a0 (Gv.ble hg HB.out : w.heap.size ≤ gb210)
           have n6_ := Gv.a0 (Gv.ble hg HB.out : w.heap.size ≤ gb210)
           have n7_ := Gv.a0 (Gv.nlt hg BK196.out : gb196 ≠ gb210)
           have n8_ := Gv.a0 (Gv.ngt hg BK196.out : gb210 ≠ gb196)
           have n9_ := Gv.a0 (Gv.nlt hg BK197.out : gb197 ≠ gb210)
           have n10_ := Gv.a0 (Gv.ngt hg BK197.out : gb210 ≠ gb197)
           have n11_ := Gv.a0 (Gv.nlt hg BK211.out : gb211 ≠ gb210)
           have n12_ := Gv.a0 (Gv.ngt hg BK211.out : gb210 ≠ gb211)
           clear BK196 BK197 BK211 HB; have BK196 := n0_; have BK197 := n1_; have BK211 := n2_; have HB := n3_; have BK210 := n4_; have GW210 := n5_; have GE210 := n6_; have NB196_210 := n7_; have NB210_196 := n8_; have NB197_210 := n9_; have NB210_197 := n10_; have NB211_210 := n11_; have NB210_211 := n12_; clear n0_ n1_ n2_ n3_ n4_ n5_ n6_ n7_ n8_ n9_ n10_ n11_ n12_; clear hb hbox hg
           refine hK.out _ _ ⟨(blk_cell BK196.out 0).trans rfl, (blk_cell BK196.out 1).trans rfl, (blk_cell BK196.out 2).trans rfl, (blk_cell BK197.out 0).trans rfl, (blk_cell BK197.out 1).trans rfl, (blk_cell BK197.out 2).trans rfl⟩ (fun hHeld => ?_)
           clear hK K
           refine norm_ (a' := ?_) ?_ ?_
           rotate_left
           ·show Act.put _ (some 5) _ = _
            simp only [Act.put, List.setIfInBounds_toArray, List.set_cons_zero, List.set_cons_succ, i64_w, i32_w]
            rfl
           exact Gv.nm (hJ1_3_8_9 (gb210, gb211) _ ⟨hHeld, BK196.out, BK197.out, BK210.out, BK211.out, GW210.out, GE210.out, NB196_210.out, NB210_196.out, NB197_210.out, NB210_197.out, NB211_210.out, NB210_211.out, GW211.out, GE211.out, NB196_211.out, NB211_196.out, NB197_211.out, NB211_197.out, HB.out⟩)
        ·skip
         rintro gb210 w19 ⟨hS_, h0_, h1_, h2_, h3_, h4_, h5_, h6_, h7_, h8_, h9_⟩
         have n0_ : Aside0 (w19.heap[gb196]? = some (.cells #[.int .i64 a0_0, .int .i64 a0_1, .int .i64 a0_2] 23 (0, 0))) := ⟨h0_⟩
         have n1_ : Aside0 (w19.heap[gb197]? = some (.cells #[.int .i64 a1_0, .int .i64 a1_1, .int .i64 a1_2] 23 (0, 0))) := ⟨h1_⟩
         have n2_ : Aside0 (w19.heap[gb210]? = some (.cells #[.int .i64 0, .int .i64 0, .int .i64 0] 26 (0, 0))) := ⟨h2_⟩
         have n3_ : Aside0 (w.heap.size ≤ gb210) := ⟨h3_⟩
         have n4_ : Aside0 (w.heap.size ≤ gb210) := ⟨h4_⟩
         have n5_ : Aside0 (gb196 ≠ gb210) := ⟨h5_⟩
         have n6_ : Aside0 (gb210 ≠ gb196) := ⟨h6_⟩
         have n7_ : Aside0 (gb197 ≠ gb210) := ⟨h7_⟩
         have n8_ : Aside0 (gb210 ≠ gb197) := ⟨h8_⟩
         have n9_ : Aside0 (Below w.heap.size w w19) := ⟨h9_⟩
         clear BK196 BK197 HB; clear h0_ h1_ h2_ h3_ h4_ h5_ h6_ h7_ h8_ h9_; have BK196 := n0_; have BK197 := n1_; have BK210 := n2_; have GW210 := n3_; have GE210 := n4_; have NB196_210 := n5_; have NB210_196 := n6_; have NB197_210 := n7_; have NB210_197 := n8_; have HB := n9_; clear n0_ n1_ n2_ n3_ n4_ n5_ n6_ n7_ n8_ n9_
         have hHeld : w19.cell? ⟨gb196, 0, none⟩ = some (.int .i64 a0_0) ∧ w19.cell? ⟨gb196, 1, none⟩ = some (.int .i64 a0_1) ∧ w19.cell? ⟨gb196, 2, none⟩ = some (.int .i64 a0_2) ∧ w19.cell? ⟨gb197, 0, none⟩ = some (.int .i64 a1_0) ∧ w19.cell? ⟨gb197, 1, none⟩ = some (.int .i64 a1_1) ∧ w19.cell? ⟨gb197, 2, none⟩ = some (.int .i64 a1_2) := hS_
         refine norm_ (a' := ?_) ?_ ?_
         rotate_left
         ·simp only [putAll, Act.put, List.setIfInBounds_toArray, List.set_cons_zero, List.set_cons_succ]
          rfl
         refine two_ (i := 4) (j := 9) (Ni := some 14) (Nj := some 6) #[true, true, true, true, true, false, false, false, true, false, false, false] #[true, true, true, true, false, false, false, false, true, true, false, false] rfl rfl rfl rfl (two_of HT_.out (by kernel_rfl)) (by decide) (by decide) (fun K hK => ?_) (fun K hK => ?_)
         ·skip
          refine goes_ Try.func25 (by kernel_rfl) rfl #[.agg #[.int .i64 t198, .int .i64 t199, .int .i64 t200], .agg #[.int .i64 t201, .int .i64 t202, .int .i64 t203]] (by rfl) rfl rfl (by (try simp only [List.map_toArray, List.map_cons, List.map_nil]); first | done | rfl | (simp only [List.length_drop, List.length_take]; rfl)) ?_
          with_reducible refine (spec_Charge.calls k t198 t199 t200 t201 t202 t203 t204 t205 t206 t207 t208 t209 _ A5.out).mono ?_
          rintro e w20 ⟨rfl, hb⟩
          refine ⟨_, rfl, ?_⟩
          have n0_ := Gv.a0 (blk_below BK196.out hb)
          have n1_ := Gv.a0 (blk_below BK197.out hb)
          have n2_ := Gv.a0 (blk_below BK210.out hb)
          have n3_ := Gv.a0 (below_step HB.out hb)
          clear BK196 BK197 BK210 HB; have BK196 := n0_; have BK197 := n1_; have BK210 := n2_; have HB := n3_; clear n0_ n1_ n2_ n3_; (try clear hb); (try clear hb2); (try clear hk); (try clear hi)
          refine hK.out _ _ ⟨(blk_cell BK196.out 0).trans rfl, (blk_cell BK196.out 1).trans rfl, (blk_cell BK196.out 2).trans rfl, (blk_cell BK197.out 0).trans rfl, (blk_cell BK197.out 1).trans rfl, (blk_cell BK197.out 2).trans rfl⟩ (fun hHeld => ?_)
          clear hK K
          refine norm_ (a' := ?_) ?_ ?_
          rotate_left
          ·show Act.put _ (some 14) _ = _
           simp only [Act.put, List.setIfInBounds_toArray, List.set_cons_zero, List.set_cons_succ, i64_w, i32_w]
           rfl
          refine pure_ (i := 5) (N := some 9) (v := ?_) (a' := ?_) #[true, true, true, true, true, true, false, false, true, false, false, false] rfl rfl (any_of HT_.out (by kernel_rfl)) (fun _ _ _ h => h) (Or.inl ⟨by rfl, ?_⟩) ?_ ?_
          rotate_left
          ·intro w'
           go_simp
           with_reducible rfl
          rotate_left
          ·simp only [Act.put, List.setIfInBounds_toArray, List.set_cons_zero, List.set_cons_succ, i64_w, i32_w]
           rfl
          refine pure_ (i := 6) (N := some 15) (v := ?_) (a' := ?_) #[true, true, true, true, true, true, true, false, true, false, false, false] rfl rfl (any_of HT_.out (by kernel_rfl)) (fun _ _ _ h => h) (Or.inl ⟨by rfl, ?_⟩) ?_ ?_
          rotate_left
          ·intro w'
           go_simp
           with_reducible rfl
          rotate_left
          ·simp only [Act.put, List.setIfInBounds_toArray, List.set_cons_zero, List.set_cons_succ, i64_w, i32_w]
           rfl
          refine pure_ (i := 7) (N := some 16) (v := ?_) (a' := ?_) #[true, true, true, true, true, true, true, true, true, false, false, false] rfl rfl (any_of HT_.out (by kernel_rfl)) (fun _ _ _ h => h) (Or.inl ⟨by rfl, ?_⟩) ?_ ?_
          rotate_left
          ·intro w'
           go_simp
           with_reducible rfl
          rotate_left
          ·simp only [Act.put, List.setIfInBounds_toArray, List.set_cons_zero, List.set_cons_succ, i64_w, i32_w]
           rfl
          exact Gv.nm (hJ1_3_4_8 (gb210) _ ⟨hHeld, BK196.out, BK197.out, BK210.out, GW210.out, GE210.out, NB196_210.out, NB210_196.out, NB197_210.out, NB210_197.out, HB.out⟩)
         ·skip
          refine box_step ?hg (N := 6) ?hd (cs := #[.int .i64 0, .int .i64 0, .int .i64 0]) (t := 26) ?hr ?_; (case hd => rfl); (case hg => rfl); (case hr => first | (go_simp; done) | (go_simp; rfl))
          intro gb211 hg w20 hbox hb
          have n0_ := Gv.a0 (blk_below BK196.out hb)
          have n1_ := Gv.a0 (blk_below BK197.out hb)
          have n2_ := Gv.a0 (blk_below BK210.out hb)
          have n3_ := Gv.a0 (below_step HB.out hb)
          have n4_ := Gv.a0 (hbox)
          have n5_ := Gv.a0 (Gv.ble hg HB.out : w.heap.size ≤ gb211)
          have n6_ := Gv.a0 (Gv.ble hg HB.out : w.heap.size ≤ gb211)
          have n7_ := Gv.a0 (Gv.nlt hg BK196.out : gb196 ≠ gb211)
          have n8_ := Gv.a0 (Gv.ngt hg BK196.out : gb211 ≠ gb196)
          have n9_ := Gv.a0 (Gv.nlt hg BK197.out : gb197 ≠ gb211)
          have n10_ := Gv.a0 (Gv.ngt hg BK197.out : gb211 ≠ gb197)
          have n11_ := Gv.a0 (Gv.nlt hg BK210.out : gb210 ≠ gb211)
          have n12_ := Gv.a0 (Gv.ngt hg BK210.out : gb211 ≠ gb210)
          clear BK196 BK197 BK210 HB; have BK196 := n0_; have BK197 := n1_; have BK210 := n2_; have HB := n3_; have BK211 := n4_; have GW211 := n5_; have GE211 := n6_; have NB196_211 := n7_; have NB211_196 := n8_; have NB197_211 := n9_; have NB211_197 := n10_; have NB210_211 := n11_; have NB211_210 := n12_; clear n0_ n1_ n2_ n3_ n4_ n5_ n6_ n7_ n8_ n9_ n10_ n11_ n12_; clear hb hbox hg
          refine hK.out _ _ ⟨(blk_cell BK196.out 0).trans rfl, (blk_cell BK196.out 1).trans rfl, (blk_cell BK196.out 2).trans rfl, (blk_cell BK197.out 0).trans rfl, (blk_cell BK197.out 1).trans rfl, (blk_cell BK197.out 2).trans rfl⟩ (fun hHeld => ?_)
          clear hK K
          refine norm_ (a' := ?_) ?_ ?_
          rotate_left
          ·show Act.put _ (some 6) _ = _
           simp only [Act.put, List.setIfInBounds_toArray, List.set_cons_zero, List.set_cons_succ, i64_w, i32_w]
           rfl
          exact Gv.nm (hJ1_3_8_9 (gb210, gb211) _ ⟨hHeld, BK196.out, BK197.out, BK210.out, BK211.out, GW210.out, GE210.out, NB196_210.out, NB210_196.out, NB197_210.out, NB210_197.out, NB211_210.out, NB210_211.out, GW211.out, GE211.out, NB196_211.out, NB211_196.out, NB197_211.out, NB211_197.out, HB.out⟩)
       ·skip
        rintro _ w19 ⟨hS_, h0_, h1_, h2_⟩
        have n0_ : Aside0 (w19.heap[gb196]? = some (.cells #[.int .i64 a0_0, .int .i64 a0_1, .int .i64 a0_2] 23 (0, 0))) := ⟨h0_⟩
        have n1_ : Aside0 (w19.heap[gb197]? = some (.cells #[.int .i64 a1_0, .int .i64 a1_1, .int .i64 a1_2] 23 (0, 0))) := ⟨h1_⟩
        have n2_ : Aside0 (Below w.heap.size w w19) := ⟨h2_⟩
        clear BK196 BK197 HB; clear h0_ h1_ h2_; have BK196 := n0_; have BK197 := n1_; have HB := n2_; clear n0_ n1_ n2_
        have hHeld : w19.cell? ⟨gb196, 0, none⟩ = some (.int .i64 a0_0) ∧ w19.cell? ⟨gb196, 1, none⟩ = some (.int .i64 a0_1) ∧ w19.cell? ⟨gb196, 2, none⟩ = some (.int .i64 a0_2) ∧ w19.cell? ⟨gb197, 0, none⟩ = some (.int .i64 a1_0) ∧ w19.cell? ⟨gb197, 1, none⟩ = some (.int .i64 a1_1) ∧ w19.cell? ⟨gb197, 2, none⟩ = some (.int .i64 a1_2) := hS_
        refine norm_ (a' := ?_) ?_ ?_
        rotate_left
        ·simp only [putAll, Act.put, List.setIfInBounds_toArray, List.set_cons_zero, List.set_cons_succ]
         rfl
        refine two_ (i := 8) (j := 9) (Ni := some 5) (Nj := some 6) #[true, true, true, true, true, true, true, true, true, false, false, false] #[true, true, true, true, true, true, true, true, false, true, false, false] rfl rfl rfl rfl (two_of HT_.out (by kernel_rfl)) (by decide) (by decide) (fun K hK => ?_) (fun K hK => ?_)
        ·skip
         refine box_step ?hg (N := 5) ?hd (cs := #[.int .i64 0, .int .i64 0, .int .i64 0]) (t := 26) ?hr ?_; (case hd => rfl); (case hg => rfl); (case hr => first | (go_simp; done) | (go_simp; rfl))
         intro gb210 hg w20 hbox hb
         have n0_ := Gv.a0 (blk_below BK196.out hb)
         have n1_ := Gv.a0 (blk_below BK197.out hb)
         have n2_ := Gv.a0 (below_step HB.out hb)
         have n3_ := Gv.a0 (hbox)
         have n4_ := Gv.a0 (Gv.ble hg HB.out : w.heap.size ≤ gb210)
         have n5_ := Gv.a0 (Gv.ble hg HB.out : w.heap.size ≤ gb210)
         have n6_ := Gv.a0 (Gv.nlt hg BK196.out : gb196 ≠ gb210)
         have n7_ := Gv.a0 (Gv.ngt hg BK196.out : gb210 ≠ gb196)
         have n8_ := Gv.a0 (Gv.nlt hg BK197.out : gb197 ≠ gb210)
         have n9_ := Gv.a0 (Gv.ngt hg BK197.out : gb210 ≠ gb197)
         clear BK196 BK197 HB; have BK196 := n0_; have BK197 := n1_; have HB := n2_; have BK210 := n3_; have GW210 := n4_; have GE210 := n5_; have NB196_210 := n6_; have NB210_196 := n7_; have NB197_210 := n8_; have NB210_197 := n9_; clear n0_ n1_ n2_ n3_ n4_ n5_ n6_ n7_ n8_ n9_; clear hb hbox hg
         refine hK.out _ _ ⟨(blk_cell BK196.out 0).trans rfl, (blk_cell BK196.out 1).trans rfl, (blk_cell BK196.out 2).trans rfl, (blk_cell BK197.out 0).trans rfl, (blk_cell BK197.out 1).trans rfl, (blk_cell BK197.out 2).trans rfl⟩ (fun hHeld => ?_)
         clear hK K
         refine norm_ (a' := ?_) ?_ ?_
         rotate_left
         ·show Act.put _ (some 5) _ = _
          simp only [Act.put, List.setIfInBounds_toArray, List.set_cons_zero, List.set_cons_succ, i64_w, i32_w]
          rfl
         exact Gv.nm (hJ1_3_4_8 (gb210) _ ⟨hHeld, BK196.out, BK197.out, BK210.out, GW210.out, GE210.out, NB196_210.out, NB210_196.out, NB197_210.out, NB210_197.out, HB.out⟩)
        ·skip
         refine box_step ?hg (N := 6) ?hd (cs := #[.int .i64 0, .int .i64 0, .int .i64 0]) (t := 26) ?hr ?_; (case hd => rfl); (case hg => rfl); (case hr => first | (go_simp; done) | (go_simp; rfl))
         intro gb211 hg w20 hbox hb
         have n0_ := Gv.a0 (blk_below BK196.out hb)
         have n1_ := Gv.a0 (blk_below BK197.out hb)
         have n2_ := Gv.a0 (below_step HB.out hb)
         have n3_ := Gv.a0 (hbox)
         have n4_ := Gv.a0 (Gv.ble hg HB.out : w.heap.size ≤ gb211)
         have n5_ := Gv.a0 (Gv.ble hg HB.out : w.heap.size ≤ gb211)
         have n6_ := Gv.a0 (Gv.nlt hg BK196.out : gb196 ≠ gb211)
         have n7_ := Gv.a0 (Gv.ngt hg BK196.out : gb211 ≠ gb196)
         have n8_ := Gv.a0 (Gv.nlt hg BK197.out : gb197 ≠ gb211)
         have n9_ := Gv.a0 (Gv.ngt hg BK197.out : gb211 ≠ gb197)
         clear BK196 BK197 HB; have BK196 := n0_; have BK197 := n1_; have HB := n2_; have BK211 := n3_; have GW211 := n4_; have GE211 := n5_; have NB196_211 := n6_; have NB211_196 := n7_; have NB197_211 := n8_; have NB211_197 := n9_; clear n0_ n1_ n2_ n3_ n4_ n5_ n6_ n7_ n8_ n9_; clear hb hbox hg
         refine hK.out _ _ ⟨(blk_cell BK196.out 0).trans rfl, (blk_cell BK196.out 1).trans rfl, (blk_cell BK196.out 2).trans rfl, (blk_cell BK197.out 0).trans rfl, (blk_cell BK197.out 1).trans rfl, (blk_cell BK197.out 2).trans rfl⟩ (fun hHeld => ?_)
         clear hK K
         refine norm_ (a' := ?_) ?_ ?_
         rotate_left
         ·show Act.put _ (some 6) _ = _
          simp only [Act.put, List.setIfInBounds_toArray, List.set_cons_zero, List.set_cons_succ, i64_w, i32_w]
          rfl
         exact Gv.nm (hJ1_3_4_9 (gb211) _ ⟨hHeld, BK196.out, BK197.out, BK211.out, GW211.out, GE211.out, NB196_211.out, NB211_196.out, NB197_211.out, NB211_197.out, HB.out⟩)
      ·skip
       rintro ⟨gb210, gb211⟩ w20 ⟨hS_, h0_, h1_, h2_, h3_, h4_, h5_, h6_, h7_, h8_, h9_, h10_, h11_, h12_, h13_, h14_, h15_, h16_, h17_, h18_⟩
       have n0_ : Aside0 (w20.heap[gb196]? = some (.cells #[.int .i64 a0_0, .int .i64 a0_1, .int .i64 a0_2] 23 (0, 0))) := ⟨h0_⟩
       have n1_ : Aside0 (w20.heap[gb197]? = some (.cells #[.int .i64 a1_0, .int .i64 a1_1, .int .i64 a1_2] 23 (0, 0))) := ⟨h1_⟩
       have n2_ : Aside0 (w20.heap[gb210]? = some (.cells #[.int .i64 0, .int .i64 0, .int .i64 0] 26 (0, 0))) := ⟨h2_⟩
       have n3_ : Aside0 (w20.heap[gb211]? = some (.cells #[.int .i64 0, .int .i64 0, .int .i64 0] 26 (0, 0))) := ⟨h3_⟩
       have n4_ : Aside0 (w.heap.size ≤ gb210) := ⟨h4_⟩
       have n5_ : Aside0 (w.heap.size ≤ gb210) := ⟨h5_⟩
       have n6_ : Aside0 (gb196 ≠ gb210) := ⟨h6_⟩
       have n7_ : Aside0 (gb210 ≠ gb196) := ⟨h7_⟩
       have n8_ : Aside0 (gb197 ≠ gb210) := ⟨h8_⟩
       have n9_ : Aside0 (gb210 ≠ gb197) := ⟨h9_⟩
       have n10_ : Aside0 (gb211 ≠ gb210) := ⟨h10_⟩
       have n11_ : Aside0 (gb210 ≠ gb211) := ⟨h11_⟩
       have n12_ : Aside0 (w.heap.size ≤ gb211) := ⟨h12_⟩
       have n13_ : Aside0 (w.heap.size ≤ gb211) := ⟨h13_⟩
       have n14_ : Aside0 (gb196 ≠ gb211) := ⟨h14_⟩
       have n15_ : Aside0 (gb211 ≠ gb196) := ⟨h15_⟩
       have n16_ : Aside0 (gb197 ≠ gb211) := ⟨h16_⟩
       have n17_ : Aside0 (gb211 ≠ gb197) := ⟨h17_⟩
       have n18_ : Aside0 (Below w.heap.size w w20) := ⟨h18_⟩
       clear BK196 BK197 HB; clear h0_ h1_ h2_ h3_ h4_ h5_ h6_ h7_ h8_ h9_ h10_ h11_ h12_ h13_ h14_ h15_ h16_ h17_ h18_; have BK196 := n0_; have BK197 := n1_; have BK210 := n2_; have BK211 := n3_; have GW210 := n4_; have GE210 := n5_; have NB196_210 := n6_; have NB210_196 := n7_; have NB197_210 := n8_; have NB210_197 := n9_; have NB211_210 := n10_; have NB210_211 := n11_; have GW211 := n12_; have GE211 := n13_; have NB196_211 := n14_; have NB211_196 := n15_; have NB197_211 := n16_; have NB211_197 := n17_; have HB := n18_; clear n0_ n1_ n2_ n3_ n4_ n5_ n6_ n7_ n8_ n9_ n10_ n11_ n12_ n13_ n14_ n15_ n16_ n17_ n18_
       have hHeld : w20.cell? ⟨gb196, 0, none⟩ = some (.int .i64 a0_0) ∧ w20.cell? ⟨gb196, 1, none⟩ = some (.int .i64 a0_1) ∧ w20.cell? ⟨gb196, 2, none⟩ = some (.int .i64 a0_2) ∧ w20.cell? ⟨gb197, 0, none⟩ = some (.int .i64 a1_0) ∧ w20.cell? ⟨gb197, 1, none⟩ = some (.int .i64 a1_1) ∧ w20.cell? ⟨gb197, 2, none⟩ = some (.int .i64 a1_2) := hS_
       refine norm_ (a' := ?_) ?_ ?_
       rotate_left
       ·simp only [putAll, Act.put, List.setIfInBounds_toArray, List.set_cons_zero, List.set_cons_succ]
        rfl
       refine one_ (i := 4) (N := some 14) #[true, true, true, true, true, false, false, false, true, true, false, false] rfl rfl (one_of HT_.out (by kernel_rfl)) (by decide) (fun K hK => ?_)
       refine goes_ Try.func25 (by kernel_rfl) rfl #[.agg #[.int .i64 t198, .int .i64 t199, .int .i64 t200], .agg #[.int .i64 t201, .int .i64 t202, .int .i64 t203]] (by rfl) rfl rfl (by (try simp only [List.map_toArray, List.map_cons, List.map_nil]); first | done | rfl | (simp only [List.length_drop, List.length_take]; rfl)) ?_
       with_reducible refine (spec_Charge.calls k t198 t199 t200 t201 t202 t203 t204 t205 t206 t207 t208 t209 _ A5.out).mono ?_
       rintro e w21 ⟨rfl, hb⟩
       refine ⟨_, rfl, ?_⟩
       have n0_ := Gv.a0 (blk_below BK196.out hb)
       have n1_ := Gv.a0 (blk_below BK197.out hb)
       have n2_ := Gv.a0 (blk_below BK210.out hb)
       have n3_ := Gv.a0 (blk_below BK211.out hb)
       have n4_ := Gv.a0 (below_step HB.out hb)
       clear BK196 BK197 BK210 BK211 HB; have BK196 := n0_; have BK197 := n1_; have BK210 := n2_; have BK211 := n3_; have HB := n4_; clear n0_ n1_ n2_ n3_ n4_; (try clear hb); (try clear hb2); (try clear hk); (try clear hi)
       refine hK.out _ _ ⟨(blk_cell BK196.out 0).trans rfl, (blk_cell BK196.out 1).trans rfl, (blk_cell BK196.out 2).trans rfl, (blk_cell BK197.out 0).trans rfl, (blk_cell BK197.out 1).trans rfl, (blk_cell BK197.out 2).trans rfl⟩ (fun hHeld => ?_)
       clear hK K
       refine norm_ (a' := ?_) ?_ ?_
       rotate_left
       ·show Act.put _ (some 14) _ = _
        simp only [Act.put, List.setIfInBounds_toArray, List.set_cons_zero, List.set_cons_succ, i64_w, i32_w]
        rfl
       refine pure_ (i := 5) (N := some 9) (v := ?_) (a' := ?_) #[true, true, true, true, true, true, false, false, true, true, false, false] rfl rfl (any_of HT_.out (by kernel_rfl)) (fun _ _ _ h => h) (Or.inl ⟨by rfl, ?_⟩) ?_ ?_
       rotate_left
       ·intro w'
        go_simp
        with_reducible rfl
       rotate_left
       ·simp only [Act.put, List.setIfInBounds_toArray, List.set_cons_zero, List.set_cons_succ, i64_w, i32_w]
        rfl
       refine pure_ (i := 6) (N := some 15) (v := ?_) (a' := ?_) #[true, true, true, true, true, true, true, false, true, true, false, false] rfl rfl (any_of HT_.out (by kernel_rfl)) (fun _ _ _ h => h) (Or.inl ⟨by rfl, ?_⟩) ?_ ?_
       rotate_left
       ·intro w'
        go_simp
        with_reducible rfl
       rotate_left
       ·simp only [Act.put, List.setIfInBounds_toArray, List.set_cons_zero, List.set_cons_succ, i64_w, i32_w]
        rfl
       refine pure_ (i := 7) (N := some 16) (v := ?_) (a' := ?_) #[true, true, true, true, true, true, true, true, true, true, false, false] rfl rfl (any_of HT_.out (by kernel_rfl)) (fun _ _ _ h => h) (Or.inl ⟨by rfl, ?_⟩) ?_ ?_
       rotate_left
       ·intro w'
        go_simp
        with_reducible rfl
       rotate_left
       ·simp only [Act.put, List.setIfInBounds_toArray, List.set_cons_zero, List.set_cons_succ, i64_w, i32_w]
        rfl
       exact Gv.nm (hJ1_3_4_8_9 (gb210, gb211) _ ⟨hHeld, BK196.out, BK197.out, BK210.out, BK211.out, GW210.out, GE210.out, NB196_210.out, NB210_196.out, NB197_210.out, NB210_197.out, NB211_210.out, NB210_211.out, GW211.out, GE211.out, NB196_211.out, NB211_196.out, NB197_211.out, NB211_197.out, HB.out⟩)
     ·skip
      rintro gb211 w20 ⟨hS_, h0_, h1_, h2_, h3_, h4_, h5_, h6_, h7_, h8_, h9_⟩
      have n0_ : Aside0 (w20.heap[gb196]? = some (.cells #[.int .i64 a0_0, .int .i64 a0_1, .int .i64 a0_2] 23 (0, 0))) := ⟨h0_⟩
      have n1_ : Aside0 (w20.heap[gb197]? = some (.cells #[.int .i64 a1_0, .int .i64 a1_1, .int .i64 a1_2] 23 (0, 0))) := ⟨h1_⟩
      have n2_ : Aside0 (w20.heap[gb211]? = some (.cells #[.int .i64 0, .int .i64 0, .int .i64 0] 26 (0, 0))) := ⟨h2_⟩
      have n3_ : Aside0 (w.heap.size ≤ gb211) := ⟨h3_⟩
      have n4_ : Aside0 (w.heap.size ≤ gb211) := ⟨h4_⟩
      have n5_ : Aside0 (gb196 ≠ gb211) := ⟨h5_⟩
      have n6_ : Aside0 (gb211 ≠ gb196) := ⟨h6_⟩
      have n7_ : Aside0 (gb197 ≠ gb211) := ⟨h7_⟩
      have n8_ : Aside0 (gb211 ≠ gb197) := ⟨h8_⟩
      have n9_ : Aside0 (Below w.heap.size w w20) := ⟨h9_⟩
      clear BK196 BK197 HB; clear h0_ h1_ h2_ h3_ h4_ h5_ h6_ h7_ h8_ h9_; have BK196 := n0_; have BK197 := n1_; have BK211 := n2_; have GW211 := n3_; have GE211 := n4_; have NB196_211 := n5_; have NB211_196 := n6_; have NB197_211 := n7_; have NB211_197 := n8_; have HB := n9_; clear n0_ n1_ n2_ n3_ n4_ n5_ n6_ n7_ n8_ n9_
      have hHeld : w20.cell? ⟨gb196, 0, none⟩ = some (.int .i64 a0_0) ∧ w20.cell? ⟨gb196, 1, none⟩ = some (.int .i64 a0_1) ∧ w20.cell? ⟨gb196, 2, none⟩ = some (.int .i64 a0_2) ∧ w20.cell? ⟨gb197, 0, none⟩ = some (.int .i64 a1_0) ∧ w20.cell? ⟨gb197, 1, none⟩ = some (.int .i64 a1_1) ∧ w20.cell? ⟨gb197, 2, none⟩ = some (.int .i64 a1_2) := hS_
      refine norm_ (a' := ?_) ?_ ?_
      rotate_left
      ·simp only [putAll, Act.put, List.setIfInBounds_toArray, List.set_cons_zero, List.set_cons_succ]
       rfl
      refine one_ (i := 8) (N := some 5) #[true, true, true, true, true, true, true, true, true, true, false, false] rfl rfl (one_of HT_.out (by kernel_rfl)) (by decide) (fun K hK => ?_)
      refine box_step ?hg (N := 5) ?hd (cs := #[.int .i64 0, .int .i64 0, .int .i64 0]) (t := 26) ?hr ?_; (case hd => rfl); (case hg => rfl); (case hr => first | (go_simp; done) | (go_simp; rfl))
      intro gb210 hg w21 hbox hb
      have n0_ := Gv.a0 (blk_below BK196.out hb)
      have n1_ := Gv.a0 (blk_below BK197.out hb)
      have n2_ := Gv.a0 (blk_below BK211.out hb)
      have n3_ := Gv.a0 (below_step HB.out hb)
      have n4_ := Gv.a0 (hbox)
      have n5_ := Gv.a0 (Gv.ble hg HB.out : w.heap.size ≤ gb210)
      have n6_ := Gv.a0 (Gv.ble hg HB.out : w.heap.size ≤ gb210)
      have n7_ := Gv.a0 (Gv.nlt hg BK196.out : gb196 ≠ gb210)
      have n8_ := Gv.a0 (Gv.ngt hg BK196.out : gb210 ≠ gb196)
      have n9_ := Gv.a0 (Gv.nlt hg BK197.out : gb197 ≠ gb210)
      have n10_ := Gv.a0 (Gv.ngt hg BK197.out : gb210 ≠ gb197)
      have n11_ := Gv.a0 (Gv.nlt hg BK211.out : gb211 ≠ gb210)
      have n12_ := Gv.a0 (Gv.ngt hg BK211.out : gb210 ≠ gb211)
      clear BK196 BK197 BK211 HB; have BK196 := n0_; have BK197 := n1_; have BK211 := n2_; have HB := n3_; have BK210 := n4_; have GW210 := n5_; have GE210 := n6_; have NB196_210 := n7_; have NB210_196 := n8_; have NB197_210 := n9_; have NB210_197 := n10_; have NB211_210 := n11_; have NB210_211 := n12_; clear n0_ n1_ n2_ n3_ n4_ n5_ n6_ n7_ n8_ n9_ n10_ n11_ n12_; clear hb hbox hg
      refine hK.out _ _ ⟨(blk_cell BK196.out 0).trans rfl, (blk_cell BK196.out 1).trans rfl, (blk_cell BK196.out 2).trans rfl, (blk_cell BK197.out 0).trans rfl, (blk_cell BK197.out 1).trans rfl, (blk_cell BK197.out 2).trans rfl⟩ (fun hHeld => ?_)
      clear hK K
      refine norm_ (a' := ?_) ?_ ?_
      rotate_left
      ·show Act.put _ (some 5) _ = _
       simp only [Act.put, List.setIfInBounds_toArray, List.set_cons_zero, List.set_cons_succ, i64_w, i32_w]
       rfl
      exact Gv.nm (hJ1_3_4_8_9 (gb210, gb211) _ ⟨hHeld, BK196.out, BK197.out, BK210.out, BK211.out, GW210.out, GE210.out, NB196_210.out, NB210_196.out, NB197_210.out, NB210_197.out, NB211_210.out, NB210_211.out, GW211.out, GE211.out, NB196_211.out, NB211_196.out, NB197_211.out, NB211_197.out, HB.out⟩)
    ·skip
     rintro gb210 w20 ⟨hS_, h0_, h1_, h2_, h3_, h4_, h5_, h6_, h7_, h8_, h9_⟩
     have n0_ : Aside0 (w20.heap[gb196]? = some (.cells #[.int .i64 a0_0, .int .i64 a0_1, .int .i64 a0_2] 23 (0, 0))) := ⟨h0_⟩
     have n1_ : Aside0 (w20.heap[gb197]? = some (.cells #[.int .i64 a1_0, .int .i64 a1_1, .int .i64 a1_2] 23 (0, 0))) := ⟨h1_⟩
     have n2_ : Aside0 (w20.heap[gb210]? = some (.cells #[.int .i64 0, .int .i64 0, .int .i64 0] 26 (0, 0))) := ⟨h2_⟩
     have n3_ : Aside0 (w.heap.size ≤ gb210) := ⟨h3_⟩
     have n4_ : Aside0 (w.heap.size ≤ gb210) := ⟨h4_⟩
     have n5_ : Aside0 (gb196 ≠ gb210) := ⟨h5_⟩
     have n6_ : Aside0 (gb210 ≠ gb196) := ⟨h6_⟩
     have n7_ : Aside0 (gb197 ≠ gb210) := ⟨h7_⟩
     have n8_ : Aside0 (gb210 ≠ gb197) := ⟨h8_⟩
     have n9_ : Aside0 (Below w.heap.size w w20) := ⟨h9_⟩
     clear BK196 BK197 HB; clear h0_ h1_ h2_ h3_ h4_ h5_ h6_ h7_ h8_ h9_; have BK196 := n0_; have BK197 := n1_; have BK210 := n2_; have GW210 := n3_; have GE210 := n4_; have NB196_210 := n5_; have NB210_196 := n6_; have NB197_210 := n7_; have NB210_197 := n8_; have HB := n9_; clear n0_ n1_ n2_ n3_ n4_ n5_ n6_ n7_ n8_ n9_
     have hHeld : w20.cell? ⟨gb196, 0, none⟩ = some (.int .i64 a0_0) ∧ w20.cell? ⟨gb196, 1, none⟩ = some (.int .i64 a0_1) ∧ w20.cell? ⟨gb196, 2, none⟩ = some (.int .i64 a0_2) ∧ w20.cell? ⟨gb197, 0, none⟩ = some (.int .i64 a1_0) ∧ w20.cell? ⟨gb197, 1, none⟩ = some (.int .i64 a1_1) ∧ w20.cell? ⟨gb197, 2, none⟩ = some (.int .i64 a1_2) := hS_
     refine norm_ (a' := ?_) ?_ ?_
     rotate_left
     ·simp only [putAll, Act.put, List.setIfInBounds_toArray, List.set_cons_zero, List.set_cons_succ]
      rfl
     refine one_ (i := 9) (N := some 6) #[true, true, true, true, true, true, true, true, true, true, false, false] rfl rfl (one_of HT_.out (by kernel_rfl)) (by decide) (fun K hK => ?_)
     refine box_step ?hg (N := 6) ?hd (cs := #[.int .i64 0, .int .i64 0, .int .i64 0]) (t := 26) ?hr ?_; (case hd => rfl); (case hg => rfl); (case hr => first | (go_simp; done) | (go_simp; rfl))
     intro gb211 hg w21 hbox hb
     have n0_ := Gv.a0 (blk_below BK196.out hb)
     have n1_ := Gv.a0 (blk_below BK197.out hb)
     have n2_ := Gv.a0 (blk_below BK210.out hb)
     have n3_ := Gv.a0 (below_step HB.out hb)
     have n4_ := Gv.a0 (hbox)
     have n5_ := Gv.a0 (Gv.ble hg HB.out : w.heap.size ≤ gb211)
     have n6_ := Gv.a0 (Gv.ble hg HB.out : w.heap.size ≤ gb211)
     have n7_ := Gv.a0 (Gv.nlt hg BK196.out : gb196 ≠ gb211)
     have n8_ := Gv.a0 (Gv.ngt hg BK196.out : gb211 ≠ gb196)
     have n9_ := Gv.a0 (Gv.nlt hg BK197.out : gb197 ≠ gb211)
     have n10_ := Gv.a0 (Gv.ngt hg BK197.out : gb211 ≠ gb197)
     have n11_ := Gv.a0 (Gv.nlt hg BK210.out : gb210 ≠ gb211)
     have n12_ := Gv.a0 (Gv.ngt hg BK210.out : gb211 ≠ gb210)
     clear BK196 BK197 BK210 HB; have BK196 := n0_; have BK197 := n1_; have BK210 := n2_; have HB := n3_; have BK211 := n4_; have GW211 := n5_; have GE211 := n6_; have NB196_211 := n7_; have NB211_196 := n8_; have NB197_211 := n9_; have NB211_197 := n10_; have NB210_211 := n11_; have NB211_210 := n12_; clear n0_ n1_ n2_ n3_ n4_ n5_ n6_ n7_ n8_ n9_ n10_ n11_ n12_; clear hb hbox hg
     refine hK.out _ _ ⟨(blk_cell BK196.out 0).trans rfl, (blk_cell BK196.out 1).trans rfl, (blk_cell BK196.out 2).trans rfl, (blk_cell BK197.out 0).trans rfl, (blk_cell BK197.out 1).trans rfl, (blk_cell BK197.out 2).trans rfl⟩ (fun hHeld => ?_)
     clear hK K
     refine norm_ (a' := ?_) ?_ ?_
     rotate_left
     ·show Act.put _ (some 6) _ = _
      simp only [Act.put, List.setIfInBounds_toArray, List.set_cons_zero, List.set_cons_succ, i64_w, i32_w]
      rfl
     exact Gv.nm (hJ1_3_4_8_9 (gb210, gb211) _ ⟨hHeld, BK196.out, BK197.out, BK210.out, BK211.out, GW210.out, GE210.out, NB196_210.out, NB210_196.out, NB197_210.out, NB210_197.out, NB211_210.out, NB210_211.out, GW211.out, GE211.out, NB196_211.out, NB211_196.out, NB197_211.out, NB211_197.out, HB.out⟩)
   rintro ⟨gb210, gb211⟩ w21 ⟨hS_, h0_, h1_, h2_, h3_, h4_, h5_, h6_, h7_, h8_, h9_, h10_, h11_, h12_, h13_, h14_, h15_, h16_, h17_, h18_⟩
   have n0_ : Aside0 (w21.heap[gb196]? = some (.cells #[.int .i64 a0_0, .int .i64 a0_1, .int .i64 a0_2] 23 (0, 0))) := ⟨h0_⟩
   have n1_ : Aside0 (w21.heap[gb197]? = some (.cells #[.int .i64 a1_0, .int .i64 a1_1, .int .i64 a1_2] 23 (0, 0))) := ⟨h1_⟩
   have n2_ : Aside0 (w21.heap[gb210]? = some (.cells #[.int .i64 0, .int .i64 0, .int .i64 0] 26 (0, 0))) := ⟨h2_⟩
   have n3_ : Aside0 (w21.heap[gb211]? = some (.cells #[.int .i64 0, .int .i64 0, .int .i64 0] 26 (0, 0))) := ⟨h3_⟩
   have n4_ : Aside0 (w.heap.size ≤ gb210) := ⟨h4_⟩
   have n5_ : Aside0 (w.heap.size ≤ gb210) := ⟨h5_⟩
   have n6_ : Aside0 (gb196 ≠ gb210) := ⟨h6_⟩
   have n7_ : Aside0 (gb210 ≠ gb196) := ⟨h7_⟩
   have n8_ : Aside0 (gb197 ≠ gb210) := ⟨h8_⟩
   have n9_ : Aside0 (gb210 ≠ gb197) := ⟨h9_⟩
   have n10_ : Aside0 (gb211 ≠ gb210) := ⟨h10_⟩
   have n11_ : Aside0 (gb210 ≠ gb211) := ⟨h11_⟩
   have n12_ : Aside0 (w.heap.size ≤ gb211) := ⟨h12_⟩
   have n13_ : Aside0 (w.heap.size ≤ gb211) := ⟨h13_⟩
   have n14_ : Aside0 (gb196 ≠ gb211) := ⟨h14_⟩
   have n15_ : Aside0 (gb211 ≠ gb196) := ⟨h15_⟩
   have n16_ : Aside0 (gb197 ≠ gb211) := ⟨h16_⟩
   have n17_ : Aside0 (gb211 ≠ gb197) := ⟨h17_⟩
   have n18_ : Aside0 (Below w.heap.size w w21) := ⟨h18_⟩
   clear BK196 BK197 HB; clear h0_ h1_ h2_ h3_ h4_ h5_ h6_ h7_ h8_ h9_ h10_ h11_ h12_ h13_ h14_ h15_ h16_ h17_ h18_; have BK196 := n0_; have BK197 := n1_; have BK210 := n2_; have BK211 := n3_; have GW210 := n4_; have GE210 := n5_; have NB196_210 := n6_; have NB210_196 := n7_; have NB197_210 := n8_; have NB210_197 := n9_; have NB211_210 := n10_; have NB210_211 := n11_; have GW211 := n12_; have GE211 := n13_; have NB196_211 := n14_; have NB211_196 := n15_; have NB197_211 := n16_; have NB211_197 := n17_; have HB := n18_; clear n0_ n1_ n2_ n3_ n4_ n5_ n6_ n7_ n8_ n9_ n10_ n11_ n12_ n13_ n14_ n15_ n16_ n17_ n18_
   have hHeld : w21.cell? ⟨gb196, 0, none⟩ = some (.int .i64 a0_0) ∧ w21.cell? ⟨gb196, 1, none⟩ = some (.int .i64 a0_1) ∧ w21.cell? ⟨gb196, 2, none⟩ = some (.int .i64 a0_2) ∧ w21.cell? ⟨gb197, 0, none⟩ = some (.int .i64 a1_0) ∧ w21.cell? ⟨gb197, 1, none⟩ = some (.int .i64 a1_1) ∧ w21.cell? ⟨gb197, 2, none⟩ = some (.int .i64 a1_2) := hS_
   refine norm_ (a' := ?_) ?_ ?_
   rotate_left
   ·simp only [putAll, Act.put, List.setIfInBounds_toArray, List.set_cons_zero, List.set_cons_succ]
    rfl
   refine one_ (i := 10) (N := none) #[true, true, true, true, true, true, true, true, true, true, true, false] rfl rfl (one_of HT_.out (by kernel_rfl)) (by decide) (fun K hK => ?_)
   have hs22 : w21.cell? ⟨gb210, 0, none⟩ = some (.int .i64 0) := (blk_cell BK210.out 0).trans rfl
   have hfs22 := blk_frozen BK210.out 0
   have hns22_0 := NB196_210.out
   have hns22_1 := NB197_210.out
   have hns22_3 := NB211_210.out
   have hms22_0 := NB210_196.out
   have hms22_1 := NB210_197.out
   have hms22_3 := NB210_211.out
   have hs23 : w21.cell? ⟨gb210, 1, none⟩ = some (.int .i64 0) := (blk_cell BK210.out 1).trans rfl
   have hfs23 := blk_frozen BK210.out 1
   have hns23_0 := NB196_210.out
   have hns23_1 := NB197_210.out
   have hns23_3 := NB211_210.out
   have hms23_0 := NB210_196.out
   have hms23_1 := NB210_197.out
   have hms23_3 := NB210_211.out
   have hs24 : w21.cell? ⟨gb210, 2, none⟩ = some (.int .i64 0) := (blk_cell BK210.out 2).trans rfl
   have hfs24 := blk_frozen BK210.out 2
   have hns24_0 := NB196_210.out
   have hns24_1 := NB197_210.out
   have hns24_3 := NB211_210.out
   have hms24_0 := NB210_196.out
   have hms24_1 := NB210_197.out
   have hms24_3 := NB210_211.out
   refine skip_ (w1 := ?_) (by rfl) rfl ?_ ?_
   rotate_left
   ·go_simp
    rfl
   refine hK.out _ _ ⟨((cell_far (p := ⟨gb210, _, none⟩) NB196_210.out _).trans (((cell_far (p := ⟨gb210, _, none⟩) NB196_210.out _).trans (((cell_far (p := ⟨gb210, _, none⟩) NB196_210.out _).trans (hHeld.1)))))), ((cell_far (p := ⟨gb210, _, none⟩) NB196_210.out _).trans (((cell_far (p := ⟨gb210, _, none⟩) NB196_210.out _).trans (((cell_far (p := ⟨gb210, _, none⟩) NB196_210.out _).trans (hHeld.2.1)))))), ((cell_far (p := ⟨gb210, _, none⟩) NB196_210.out _).trans (((cell_far (p := ⟨gb210, _, none⟩) NB196_210.out _).trans (((cell_far (p := ⟨gb210, _, none⟩) NB196_210.out _).trans (hHeld.2.2.1)))))), ((cell_far (p := ⟨gb210, _, none⟩) NB197_210.out _).trans (((cell_far (p := ⟨gb210, _, none⟩) NB197_210.out _).trans (((cell_far (p := ⟨gb210, _, none⟩) NB197_210.out _).trans (hHeld.2.2.2.1)))))), ((cell_far (p := ⟨gb210, _, none⟩) NB197_210.out _).trans (((cell_far (p := ⟨gb210, _, none⟩) NB197_210.out _).trans (((cell_far (p := ⟨gb210, _, none⟩) NB197_210.out _).trans (hHeld.2.2.2.2.1)))))), ((cell_far (p := ⟨gb210, _, none⟩) NB197_210.out _).trans (((cell_far (p := ⟨gb210, _, none⟩) NB197_210.out _).trans (((cell_far (p := ⟨gb210, _, none⟩) NB197_210.out _).trans (hHeld.2.2.2.2.2))))))⟩ (fun hHeld => ?_)
   clear hK K
   refine one_ (i := 11) (N := none) #[true, true, true, true, true, true, true, true, true, true, true, true] rfl rfl (one_of HT_.out (by kernel_rfl)) (by decide) (fun K hK => ?_)
   have hs25 : w21.cell? ⟨gb211, 0, none⟩ = some (.int .i64 0) := (blk_cell BK211.out 0).trans rfl
   have hfs25 := blk_frozen BK211.out 0
   have hns25_0 := NB196_211.out
   have hns25_1 := NB197_211.out
   have hns25_2 := NB210_211.out
   have hms25_0 := NB211_196.out
   have hms25_1 := NB211_197.out
   have hms25_2 := NB211_210.out
   have hs26 : w21.cell? ⟨gb211, 1, none⟩ = some (.int .i64 0) := (blk_cell BK211.out 1).trans rfl
   have hfs26 := blk_frozen BK211.out 1
   have hns26_0 := NB196_211.out
   have hns26_1 := NB197_211.out
   have hns26_2 := NB210_211.out
   have hms26_0 := NB211_196.out
   have hms26_1 := NB211_197.out
   have hms26_2 := NB211_210.out
   have hs27 : w21.cell? ⟨gb211, 2, none⟩ = some (.int .i64 0) := (blk_cell BK211.out 2).trans rfl
   have hfs27 := blk_frozen BK211.out 2
   have hns27_0 := NB196_211.out
   have hns27_1 := NB197_211.out
   have hns27_2 := NB210_211.out
   have hms27_0 := NB211_196.out
   have hms27_1 := NB211_197.out
   have hms27_2 := NB211_210.out
   refine skip_ (w1 := ?_) (by rfl) rfl ?_ ?_
   rotate_left
   ·go_simp
    rfl
   refine hK.out _ _ ⟨((cell_far (p := ⟨gb211, _, none⟩) NB196_211.out _).trans (((cell_far (p := ⟨gb211, _, none⟩) NB196_211.out _).trans (((cell_far (p := ⟨gb211, _, none⟩) NB196_211.out _).trans (hHeld.1)))))), ((cell_far (p := ⟨gb211, _, none⟩) NB196_211.out _).trans (((cell_far (p := ⟨gb211, _, none⟩) NB196_211.out _).trans (((cell_far (p := ⟨gb211, _, none⟩) NB196_211.out _).trans (hHeld.2.1)))))), ((cell_far (p := ⟨gb211, _, none⟩) NB196_211.out _).trans (((cell_far (p := ⟨gb211, _, none⟩) NB196_211.out _).trans (((cell_far (p := ⟨gb211, _, none⟩) NB196_211.out _).trans (hHeld.2.2.1)))))), ((cell_far (p := ⟨gb211, _, none⟩) NB197_211.out _).trans (((cell_far (p := ⟨gb211, _, none⟩) NB197_211.out _).trans (((cell_far (p := ⟨gb211, _, none⟩) NB197_211.out _).trans (hHeld.2.2.2.1)))))), ((cell_far (p := ⟨gb211, _, none⟩) NB197_211.out _).trans (((cell_far (p := ⟨gb211, _, none⟩) NB197_211.out _).trans (((cell_far (p := ⟨gb211, _, none⟩) NB197_211.out _).trans (hHeld.2.2.2.2.1)))))), ((cell_far (p := ⟨gb211, _, none⟩) NB197_211.out _).trans (((cell_far (p := ⟨gb211, _, none⟩) NB197_211.out _).trans (((cell_far (p := ⟨gb211, _, none⟩) NB197_211.out _).trans (hHeld.2.2.2.2.2))))))⟩ (fun hHeld => ?_)
   clear hK K
   refine done_ (done_of HT_.out (by kernel_rfl)) ?_
   try go_wp2
   have n0_ : Aside0 (((((((w21.setCell ⟨gb210, 0, none⟩ (.int .i64 t204)).setCell ⟨gb210, 1, none⟩ (.int .i64 t205)).setCell ⟨gb210, 2, none⟩ (.int .i64 t206)).setCell ⟨gb211, 0, none⟩ (.int .i64 t207)).setCell ⟨gb211, 1, none⟩ (.int .i64 t208)).setCell ⟨gb211, 2, none⟩ (.int .i64 t209)).heap[gb196]? = some (.cells #[.int .i64 a0_0, .int .i64 a0_1, .int .i64 a0_2] 23 (0, 0))) := ⟨by (with_reducible repeat (first | refine blk_drewN ?_ _ | refine blk_drew ?_ | refine blk_alloc ?_ _)); refine blk_far ?_ NB196_211.out _; (with_reducible repeat (first | refine blk_drewN ?_ _ | refine blk_drew ?_ | refine blk_alloc ?_ _)); refine blk_far ?_ NB196_211.out _; (with_reducible repeat (first | refine blk_drewN ?_ _ | refine blk_drew ?_ | refine blk_alloc ?_ _)); refine blk_far ?_ NB196_211.out _; (with_reducible repeat (first | refine blk_drewN ?_ _ | refine blk_drew ?_ | refine blk_alloc ?_ _)); refine blk_far ?_ NB196_210.out _; (with_reducible repeat (first | refine blk_drewN ?_ _ | refine blk_drew ?_ | refine blk_alloc ?_ _)); refine blk_far ?_ NB196_210.out _; (with_reducible repeat (first | refine blk_drewN ?_ _ | refine blk_drew ?_ | refine blk_alloc ?_ _)); refine blk_far ?_ NB196_210.out _; (with_reducible repeat (first | refine blk_drewN ?_ _ | refine blk_drew ?_ | refine blk_alloc ?_ _)); exact BK196.out⟩
   have n1_ : Aside0 (((((((w21.setCell ⟨gb210, 0, none⟩ (.int .i64 t204)).setCell ⟨gb210, 1, none⟩ (.int .i64 t205)).setCell ⟨gb210, 2, none⟩ (.int .i64 t206)).setCell ⟨gb211, 0, none⟩ (.int .i64 t207)).setCell ⟨gb211, 1, none⟩ (.int .i64 t208)).setCell ⟨gb211, 2, none⟩ (.int .i64 t209)).heap[gb197]? = some (.cells #[.int .i64 a1_0, .int .i64 a1_1, .int .i64 a1_2] 23 (0, 0))) := ⟨by (with_reducible repeat (first | refine blk_drewN ?_ _ | refine blk_drew ?_ | refine blk_alloc ?_ _)); refine blk_far ?_ NB197_211.out _; (with_reducible repeat (first | refine blk_drewN ?_ _ | refine blk_drew ?_ | refine blk_alloc ?_ _)); refine blk_far ?_ NB197_211.out _; (with_reducible repeat (first | refine blk_drewN ?_ _ | refine blk_drew ?_ | refine blk_alloc ?_ _)); refine blk_far ?_ NB197_211.out _; (with_reducible repeat (first | refine blk_drewN ?_ _ | refine blk_drew ?_ | refine blk_alloc ?_ _)); refine blk_far ?_ NB197_210.out _; (with_reducible repeat (first | refine blk_drewN ?_ _ | refine blk_drew ?_ | refine blk_alloc ?_ _)); refine blk_far ?_ NB197_210.out _; (with_reducible repeat (first | refine blk_drewN ?_ _ | refine blk_drew ?_ | refine blk_alloc ?_ _)); refine blk_far ?_ NB197_210.out _; (with_reducible repeat (first | refine blk_drewN ?_ _ | refine blk_drew ?_ | refine blk_alloc ?_ _)); exact BK197.out⟩
   have n2_ : Aside0 (((((((w21.setCell ⟨gb210, 0, none⟩ (.int .i64 t204)).setCell ⟨gb210, 1, none⟩ (.int .i64 t205)).setCell ⟨gb210, 2, none⟩ (.int .i64 t206)).setCell ⟨gb211, 0, none⟩ (.int .i64 t207)).setCell ⟨gb211, 1, none⟩ (.int .i64 t208)).setCell ⟨gb211, 2, none⟩ (.int .i64 t209)).heap[gb210]? = some (.cells #[.int .i64 t204, .int .i64 t205, .int .i64 t206] 26 (0, 0))) := ⟨by (with_reducible repeat (first | refine blk_drewN ?_ _ | refine blk_drew ?_ | refine blk_alloc ?_ _)); refine blk_far ?_ NB210_211.out _; (with_reducible repeat (first | refine blk_drewN ?_ _ | refine blk_drew ?_ | refine blk_alloc ?_ _)); refine blk_far ?_ NB210_211.out _; (with_reducible repeat (first | refine blk_drewN ?_ _ | refine blk_drew ?_ | refine blk_alloc ?_ _)); refine blk_far ?_ NB210_211.out _; (with_reducible repeat (first | refine blk_drewN ?_ _ | refine blk_drew ?_ | refine blk_alloc ?_ _)); refine blk_put (cs := #[.int .i64 t204, .int .i64 t205, .int .i64 0]) ?_ 2 _ rfl; (with_reducible repeat (first | refine blk_drewN ?_ _ | refine blk_drew ?_ | refine blk_alloc ?_ _)); refine blk_put (cs := #[.int .i64 t204, .int .i64 0, .int .i64 0]) ?_ 1 _ rfl; (with_reducible repeat (first | refine blk_drewN ?_ _ | refine blk_drew ?_ | refine blk_alloc ?_ _)); refine blk_put (cs := #[.int .i64 0, .int .i64 0, .int .i64 0]) ?_ 0 _ rfl; (with_reducible repeat (first | refine blk_drewN ?_ _ | refine blk_drew ?_ | refine blk_alloc ?_ _)); exact BK210.out⟩
   have n3_ : Aside0 (((((((w21.setCell ⟨gb210, 0, none⟩ (.int .i64 t204)).setCell ⟨gb210, 1, none⟩ (.int .i64 t205)).setCell ⟨gb210, 2, none⟩ (.int .i64 t206)).setCell ⟨gb211, 0, none⟩ (.int .i64 t207)).setCell ⟨gb211, 1, none⟩ (.int .i64 t208)).setCell ⟨gb211, 2, none⟩ (.int .i64 t209)).heap[gb211]? = some (.cells #[.int .i64 t207, .int .i64 t208, .int .i64 t209] 26 (0, 0))) := ⟨by (with_reducible repeat (first | refine blk_drewN ?_ _ | refine blk_drew ?_ | refine blk_alloc ?_ _)); refine blk_put (cs := #[.int .i64 t207, .int .i64 t208, .int .i64 0]) ?_ 2 _ rfl; (with_reducible repeat (first | refine blk_drewN ?_ _ | refine blk_drew ?_ | refine blk_alloc ?_ _)); refine blk_put (cs := #[.int .i64 t207, .int .i64 0, .int .i64 0]) ?_ 1 _ rfl; (with_reducible repeat (first | refine blk_drewN ?_ _ | refine blk_drew ?_ | refine blk_alloc ?_ _)); refine blk_put (cs := #[.int .i64 0, .int .i64 0, .int .i64 0]) ?_ 0 _ rfl; (with_reducible repeat (first | refine blk_drewN ?_ _ | refine blk_drew ?_ | refine blk_alloc ?_ _)); refine blk_far ?_ NB211_210.out _; (with_reducible repeat (first | refine blk_drewN ?_ _ | refine blk_drew ?_ | refine blk_alloc ?_ _)); refine blk_far ?_ NB211_210.out _; (with_reducible repeat (first | refine blk_drewN ?_ _ | refine blk_drew ?_ | refine blk_alloc ?_ _)); refine blk_far ?_ NB211_210.out _; (with_reducible repeat (first | refine blk_drewN ?_ _ | refine blk_drew ?_ | refine blk_alloc ?_ _)); exact BK211.out⟩
   have n4_ : Aside0 (Below w.heap.size w ((((((w21.setCell ⟨gb210, 0, none⟩ (.int .i64 t204)).setCell ⟨gb210, 1, none⟩ (.int .i64 t205)).setCell ⟨gb210, 2, none⟩ (.int .i64 t206)).setCell ⟨gb211, 0, none⟩ (.int .i64 t207)).setCell ⟨gb211, 1, none⟩ (.int .i64 t208)).setCell ⟨gb211, 2, none⟩ (.int .i64 t209))) := ⟨by repeat (first | (with_reducible first | exact HB.out | apply below_alloc | apply pw_below_drewN | apply below_drew1 | refine below_set ?_ GE196.out | refine below_set ?_ GE197.out | refine below_set ?_ GE210.out | refine below_set ?_ GE211.out) | exact HB.out)⟩
   (try clear BK196); (try clear BK197); (try clear BK210); (try clear BK211); (try clear HB)
   generalize ((((((w21.setCell ⟨gb210, 0, none⟩ (.int .i64 t204)).setCell ⟨gb210, 1, none⟩ (.int .i64 t205)).setCell ⟨gb210, 2, none⟩ (.int .i64 t206)).setCell ⟨gb211, 0, none⟩ (.int .i64 t207)).setCell ⟨gb211, 1, none⟩ (.int .i64 t208)).setCell ⟨gb211, 2, none⟩ (.int .i64 t209)) = w28 at n0_ n1_ n2_ n3_ n4_ ⊢
   have BK196 := n0_; have BK197 := n1_; have BK210 := n2_; have BK211 := n3_; have HB := n4_; clear n0_ n1_ n2_ n3_ n4_
   have n0_ := Gv.a0 (blk_drew BK196.out)
   have n1_ := Gv.a0 (blk_drew BK197.out)
   have n2_ := Gv.a0 (blk_drew BK210.out)
   have n3_ := Gv.a0 (blk_drew BK211.out)
   have n4_ := Gv.a0 (below_drew1 HB.out)
   clear BK196 BK197 BK210 BK211 HB; have BK196 := n0_; have BK197 := n1_; have BK210 := n2_; have BK211 := n3_; have HB := n4_; clear n0_ n1_ n2_ n3_ n4_
   refine start_ (n := 12) (S := fun w' => w'.cell? ⟨gb196, 0, none⟩ = some (.int .i64 a0_0) ∧ w'.cell? ⟨gb196, 1, none⟩ = some (.int .i64 a0_1) ∧ w'.cell? ⟨gb196, 2, none⟩ = some (.int .i64 a0_2) ∧ w'.cell? ⟨gb197, 0, none⟩ = some (.int .i64 a1_0) ∧ w'.cell? ⟨gb197, 1, none⟩ = some (.int .i64 a1_1) ∧ w'.cell? ⟨gb197, 2, none⟩ = some (.int .i64 a1_2)) (ds := []) #[false, false, false, false, false, false, false, false, false, false, false, false] (by kernel_rfl) rfl rfl ⟨(blk_cell BK196.out 0).trans rfl, (blk_cell BK196.out 1).trans rfl, (blk_cell BK196.out 2).trans rfl, (blk_cell BK197.out 0).trans rfl, (blk_cell BK197.out 1).trans rfl, (blk_cell BK197.out 2).trans rfl⟩ (fun hHeld => ?_); refine with_tabW laws_FnExactCharge.tab2 laws_FnExactCharge.bits2 (fun HT_ HW_ => ?_)
   generalize w28.drew = w29 at BK196 BK197 BK210 BK211 HB hHeld ⊢
   refine take_ (i := 0) (N := some 18) (v := ?_) (a' := ?_) #[true, false, false, false, false, false, false, false, false, false, false, false] rfl rfl (take_ofW HT_.out HW_.out (by kernel_rfl)) (fun _ _ _ h => h) (Or.inl ⟨by rfl, ?_⟩) hHeld ?_ ?_
   rotate_left
   ·rintro w' ⟨s0, s1, s2, s3, s4, s5⟩
    go_simp
    with_reducible rfl
   rotate_left
   ·simp only [Act.put, List.setIfInBounds_toArray, List.set_cons_zero, List.set_cons_succ, i64_w, i32_w]
    rfl
   refine take_ (i := 2) (N := some 20) (v := ?_) (a' := ?_) #[true, false, true, false, false, false, false, false, false, false, false, false] rfl rfl (take_ofW HT_.out HW_.out (by kernel_rfl)) (fun _ _ _ h => h) (Or.inl ⟨by rfl, ?_⟩) hHeld ?_ ?_
   rotate_left
   ·rintro w' ⟨s0, s1, s2, s3, s4, s5⟩
    go_simp
    with_reducible rfl
   rotate_left
   ·simp only [Act.put, List.setIfInBounds_toArray, List.set_cons_zero, List.set_cons_succ, i64_w, i32_w]
    rfl
   refine join_ (σ := Nat × Nat) 2 #[true, true, true, true, true, true, true, true, true, true, false, false] (fun s_ => [(19, .agg #[.int .i64 t212, .int .i64 t213, .int .i64 t214]), (21, .agg #[.int .i64 t215, .int .i64 t216, .int .i64 t217]), (22, .tuple #[.agg #[.int .i64 t218, .int .i64 t219, .int .i64 t220], .agg #[.int .i64 t221, .int .i64 t222, .int .i64 t223]]), (7, .pointer (some ⟨s_.1, 0, none⟩)), (8, .pointer (some ⟨s_.2, 0, none⟩)), (17, .tuple #[.agg #[.int .i64 t218, .int .i64 t219, .int .i64 t220], .agg #[.int .i64 t221, .int .i64 t222, .int .i64 t223]]), (23, .agg #[.int .i64 t218, .int .i64 t219, .int .i64 t220]), (24, .agg #[.int .i64 t221, .int .i64 t222, .int .i64 t223])]) (fun s_ w' => (w'.cell? ⟨gb196, 0, none⟩ = some (.int .i64 a0_0) ∧ w'.cell? ⟨gb196, 1, none⟩ = some (.int .i64 a0_1) ∧ w'.cell? ⟨gb196, 2, none⟩ = some (.int .i64 a0_2) ∧ w'.cell? ⟨gb197, 0, none⟩ = some (.int .i64 a1_0) ∧ w'.cell? ⟨gb197, 1, none⟩ = some (.int .i64 a1_1) ∧ w'.cell? ⟨gb197, 2, none⟩ = some (.int .i64 a1_2)) ∧ (w'.heap[gb196]? = some (.cells #[.int .i64 a0_0, .int .i64 a0_1, .int .i64 a0_2] 23 (0, 0))) ∧ (w'.heap[gb197]? = some (.cells #[.int .i64 a1_0, .int .i64 a1_1, .int .i64 a1_2] 23 (0, 0))) ∧ (w'.heap[gb210]? = some (.cells #[.int .i64 t204, .int .i64 t205, .int .i64 t206] 26 (0, 0))) ∧ (w'.heap[gb211]? = some (.cells #[.int .i64 t207, .int .i64 t208, .int .i64 t209] 26 (0, 0))) ∧ (w'.heap[s_.1]? = some (.cells #[.int .i64 0, .int .i64 0, .int .i64 0] 26 (0, 0))) ∧ (w'.heap[s_.2]? = some (.cells #[.int .i64 0, .int .i64 0, .int .i64 0] 26 (0, 0))) ∧ (w.heap.size ≤ s_.1) ∧ (w.heap.size ≤ s_.1) ∧ (gb196 ≠ s_.1) ∧ (s_.1 ≠ gb196) ∧ (gb197 ≠ s_.1) ∧ (s_.1 ≠ gb197) ∧ (gb210 ≠ s_.1) ∧ (s_.1 ≠ gb210) ∧ (gb211 ≠ s_.1) ∧ (s_.1 ≠ gb211) ∧ (s_.2 ≠ s_.1) ∧ (s_.1 ≠ s_.2) ∧ (w.heap.size ≤ s_.2) ∧ (w.heap.size ≤ s_.2) ∧ (gb196 ≠ s_.2) ∧ (s_.2 ≠ gb196) ∧ (gb197 ≠ s_.2) ∧ (s_.2 ≠ gb197) ∧ (gb210 ≠ s_.2) ∧ (s_.2 ≠ gb210) ∧ (gb211 ≠ s_.2) ∧ (s_.2 ≠ gb211) ∧ (Below w.heap.size w w')) ?_ ?_
   rotate_left
   ·intro hJ1_3_4_8_9
    refine join_ (σ := Nat) 3 #[true, true, true, true, true, true, true, true, true, false, false, false] (fun s_ => [(19, .agg #[.int .i64 t212, .int .i64 t213, .int .i64 t214]), (21, .agg #[.int .i64 t215, .int .i64 t216, .int .i64 t217]), (22, .tuple #[.agg #[.int .i64 t218, .int .i64 t219, .int .i64 t220], .agg #[.int .i64 t221, .int .i64 t222, .int .i64 t223]]), (7, .pointer (some ⟨s_, 0, none⟩)), (17, .tuple #[.agg #[.int .i64 t218, .int .i64 t219, .int .i64 t220], .agg #[.int .i64 t221, .int .i64 t222, .int .i64 t223]]), (23, .agg #[.int .i64 t218, .int .i64 t219, .int .i64 t220]), (24, .agg #[.int .i64 t221, .int .i64 t222, .int .i64 t223])]) (fun s_ w' => (w'.cell? ⟨gb196, 0, none⟩ = some (.int .i64 a0_0) ∧ w'.cell? ⟨gb196, 1, none⟩ = some (.int .i64 a0_1) ∧ w'.cell? ⟨gb196, 2, none⟩ = some (.int .i64 a0_2) ∧ w'.cell? ⟨gb197, 0, none⟩ = some (.int .i64 a1_0) ∧ w'.cell? ⟨gb197, 1, none⟩ = some (.int .i64 a1_1) ∧ w'.cell? ⟨gb197, 2, none⟩ = some (.int .i64 a1_2)) ∧ (w'.heap[gb196]? = some (.cells #[.int .i64 a0_0, .int .i64 a0_1, .int .i64 a0_2] 23 (0, 0))) ∧ (w'.heap[gb197]? = some (.cells #[.int .i64 a1_0, .int .i64 a1_1, .int .i64 a1_2] 23 (0, 0))) ∧ (w'.heap[gb210]? = some (.cells #[.int .i64 t204, .int .i64 t205, .int .i64 t206] 26 (0, 0))) ∧ (w'.heap[gb211]? = some (.cells #[.int .i64 t207, .int .i64 t208, .int .i64 t209] 26 (0, 0))) ∧ (w'.heap[s_]? = some (.cells #[.int .i64 0, .int .i64 0, .int .i64 0] 26 (0, 0))) ∧ (w.heap.size ≤ s_) ∧ (w.heap.size ≤ s_) ∧ (gb196 ≠ s_) ∧ (s_ ≠ gb196) ∧ (gb197 ≠ s_) ∧ (s_ ≠ gb197) ∧ (gb210 ≠ s_) ∧ (s_ ≠ gb210) ∧ (gb211 ≠ s_) ∧ (s_ ≠ gb211) ∧ (Below w.heap.size w w')) ?_ ?_
    rotate_left
    ·intro hJ1_3_4_8
     refine join_ (σ := Nat) 3 #[true, true, true, true, true, true, true, true, false, true, false, false] (fun s_ => [(19, .agg #[.int .i64 t212, .int .i64 t213, .int .i64 t214]), (21, .agg #[.int .i64 t215, .int .i64 t216, .int .i64 t217]), (22, .tuple #[.agg #[.int .i64 t218, .int .i64 t219, .int .i64 t220], .agg #[.int .i64 t221, .int .i64 t222, .int .i64 t223]]), (8, .pointer (some ⟨s_, 0, none⟩)), (17, .tuple #[.agg #[.int .i64 t218, .int .i64 t219, .int .i64 t220], .agg #[.int .i64 t221, .int .i64 t222, .int .i64 t223]]), (23, .agg #[.int .i64 t218, .int .i64 t219, .int .i64 t220]), (24, .agg #[.int .i64 t221, .int .i64 t222, .int .i64 t223])]) (fun s_ w' => (w'.cell? ⟨gb196, 0, none⟩ = some (.int .i64 a0_0) ∧ w'.cell? ⟨gb196, 1, none⟩ = some (.int .i64 a0_1) ∧ w'.cell? ⟨gb196, 2, none⟩ = some (.int .i64 a0_2) ∧ w'.cell? ⟨gb197, 0, none⟩ = some (.int .i64 a1_0) ∧ w'.cell? ⟨gb197, 1, none⟩ = some (.int .i64 a1_1) ∧ w'.cell? ⟨gb197, 2, none⟩ = some (.int .i64 a1_2)) ∧ (w'.heap[gb196]? = some (.cells #[.int .i64 a0_0, .int .i64 a0_1, .int .i64 a0_2] 23 (0, 0))) ∧ (w'.heap[gb197]? = some (.cells #[.int .i64 a1_0, .int .i64 a1_1, .int .i64 a1_2] 23 (0, 0))) ∧ (w'.heap[gb210]? = some (.cells #[.int .i64 t204, .int .i64 t205, .int .i64 t206] 26 (0, 0))) ∧ (w'.heap[gb211]? = some (.cells #[.int .i64 t207, .int .i64 t208, .int .i64 t209] 26 (0, 0))) ∧ (w'.heap[s_]? = some (.cells #[.int .i64 0, .int .i64 0, .int .i64 0] 26 (0, 0))) ∧ (w.heap.size ≤ s_) ∧ (w.heap.size ≤ s_) ∧ (gb196 ≠ s_) ∧ (s_ ≠ gb196) ∧ (gb197 ≠ s_) ∧ (s_ ≠ gb197) ∧ (gb210 ≠ s_) ∧ (s_ ≠ gb210) ∧ (gb211 ≠ s_) ∧ (s_ ≠ gb211) ∧ (Below w.heap.size w w')) ?_ ?_
     rotate_left
     ·intro hJ1_3_4_9
      refine join_ (σ := Nat × Nat) 6 #[true, true, true, true, false, false, false, false, true, true, false, false] (fun s_ => [(19, .agg #[.int .i64 t212, .int .i64 t213, .int .i64 t214]), (21, .agg #[.int .i64 t215, .int .i64 t216, .int .i64 t217]), (7, .pointer (some ⟨s_.1, 0, none⟩)), (8, .pointer (some ⟨s_.2, 0, none⟩))]) (fun s_ w' => (w'.cell? ⟨gb196, 0, none⟩ = some (.int .i64 a0_0) ∧ w'.cell? ⟨gb196, 1, none⟩ = some (.int .i64 a0_1) ∧ w'.cell? ⟨gb196, 2, none⟩ = some (.int .i64 a0_2) ∧ w'.cell? ⟨gb197, 0, none⟩ = some (.int .i64 a1_0) ∧ w'.cell? ⟨gb197, 1, none⟩ = some (.int .i64 a1_1) ∧ w'.cell? ⟨gb197, 2, none⟩ = some (.int .i64 a1_2)) ∧ (w'.heap[gb196]? = some (.cells #[.int .i64 a0_0, .int .i64 a0_1, .int .i64 a0_2] 23 (0, 0))) ∧ (w'.heap[gb197]? = some (.cells #[.int .i64 a1_0, .int .i64 a1_1, .int .i64 a1_2] 23 (0, 0))) ∧ (w'.heap[gb210]? = some (.cells #[.int .i64 t204, .int .i64 t205, .int .i64 t206] 26 (0, 0))) ∧ (w'.heap[gb211]? = some (.cells #[.int .i64 t207, .int .i64 t208, .int .i64 t209] 26 (0, 0))) ∧ (w'.heap[s_.1]? = some (.cells #[.int .i64 0, .int .i64 0, .int .i64 0] 26 (0, 0))) ∧ (w'.heap[s_.2]? = some (.cells #[.int .i64 0, .int .i64 0, .int .i64 0] 26 (0, 0))) ∧ (w.heap.size ≤ s_.1) ∧ (w.heap.size ≤ s_.1) ∧ (gb196 ≠ s_.1) ∧ (s_.1 ≠ gb196) ∧ (gb197 ≠ s_.1) ∧ (s_.1 ≠ gb197) ∧ (gb210 ≠ s_.1) ∧ (s_.1 ≠ gb210) ∧ (gb211 ≠ s_.1) ∧ (s_.1 ≠ gb211) ∧ (s_.2 ≠ s_.1) ∧ (s_.1 ≠ s_.2) ∧ (w.heap.size ≤ s_.2) ∧ (w.heap.size ≤ s_.2) ∧ (gb196 ≠ s_.2) ∧ (s_.2 ≠ gb196) ∧ (gb197 ≠ s_.2) ∧ (s_.2 ≠ gb197) ∧ (gb210 ≠ s_.2) ∧ (s_.2 ≠ gb210) ∧ (gb211 ≠ s_.2) ∧ (s_.2 ≠ gb211) ∧ (Below w.heap.size w w')) ?_ ?_
      rotate_left
      ·intro hJ1_3_8_9
       refine join_ (σ := Unit) 4 #[true, true, true, true, true, true, true, true, false, false, false, false] (fun s_ => [(19, .agg #[.int .i64 t212, .int .i64 t213, .int .i64 t214]), (21, .agg #[.int .i64 t215, .int .i64 t216, .int .i64 t217]), (22, .tuple #[.agg #[.int .i64 t218, .int .i64 t219, .int .i64 t220], .agg #[.int .i64 t221, .int .i64 t222, .int .i64 t223]]), (17, .tuple #[.agg #[.int .i64 t218, .int .i64 t219, .int .i64 t220], .agg #[.int .i64 t221, .int .i64 t222, .int .i64 t223]]), (23, .agg #[.int .i64 t218, .int .i64 t219, .int .i64 t220]), (24, .agg #[.int .i64 t221, .int .i64 t222, .int .i64 t223])]) (fun s_ w' => (w'.cell? ⟨gb196, 0, none⟩ = some (.int .i64 a0_0) ∧ w'.cell? ⟨gb196, 1, none⟩ = some (.int .i64 a0_1) ∧ w'.cell? ⟨gb196, 2, none⟩ = some (.int .i64 a0_2) ∧ w'.cell? ⟨gb197, 0, none⟩ = some (.int .i64 a1_0) ∧ w'.cell? ⟨gb197, 1, none⟩ = some (.int .i64 a1_1) ∧ w'.cell? ⟨gb197, 2, none⟩ = some (.int .i64 a1_2)) ∧ (w'.heap[gb196]? = some (.cells #[.int .i64 a0_0, .int .i64 a0_1, .int .i64 a0_2] 23 (0, 0))) ∧ (w'.heap[gb197]? = some (.cells #[.int .i64 a1_0, .int .i64 a1_1, .int .i64 a1_2] 23 (0, 0))) ∧ (w'.heap[gb210]? = some (.cells #[.int .i64 t204, .int .i64 t205, .int .i64 t206] 26 (0, 0))) ∧ (w'.heap[gb211]? = some (.cells #[.int .i64 t207, .int .i64 t208, .int .i64 t209] 26 (0, 0))) ∧ (Below w.heap.size w w')) ?_ ?_
       rotate_left
       ·intro hJ1_3_4
        refine join_ (σ := Nat) 7 #[true, true, true, true, false, false, false, false, true, false, false, false] (fun s_ => [(19, .agg #[.int .i64 t212, .int .i64 t213, .int .i64 t214]), (21, .agg #[.int .i64 t215, .int .i64 t216, .int .i64 t217]), (7, .pointer (some ⟨s_, 0, none⟩))]) (fun s_ w' => (w'.cell? ⟨gb196, 0, none⟩ = some (.int .i64 a0_0) ∧ w'.cell? ⟨gb196, 1, none⟩ = some (.int .i64 a0_1) ∧ w'.cell? ⟨gb196, 2, none⟩ = some (.int .i64 a0_2) ∧ w'.cell? ⟨gb197, 0, none⟩ = some (.int .i64 a1_0) ∧ w'.cell? ⟨gb197, 1, none⟩ = some (.int .i64 a1_1) ∧ w'.cell? ⟨gb197, 2, none⟩ = some (.int .i64 a1_2)) ∧ (w'.heap[gb196]? = some (.cells #[.int .i64 a0_0, .int .i64 a0_1, .int .i64 a0_2] 23 (0, 0))) ∧ (w'.heap[gb197]? = some (.cells #[.int .i64 a1_0, .int .i64 a1_1, .int .i64 a1_2] 23 (0, 0))) ∧ (w'.heap[gb210]? = some (.cells #[.int .i64 t204, .int .i64 t205, .int .i64 t206] 26 (0, 0))) ∧ (w'.heap[gb211]? = some (.cells #[.int .i64 t207, .int .i64 t208, .int .i64 t209] 26 (0, 0))) ∧ (w'.heap[s_]? = some (.cells #[.int .i64 0, .int .i64 0, .int .i64 0] 26 (0, 0))) ∧ (w.heap.size ≤ s_) ∧ (w.heap.size ≤ s_) ∧ (gb196 ≠ s_) ∧ (s_ ≠ gb196) ∧ (gb197 ≠ s_) ∧ (s_ ≠ gb197) ∧ (gb210 ≠ s_) ∧ (s_ ≠ gb210) ∧ (gb211 ≠ s_) ∧ (s_ ≠ gb211) ∧ (Below w.heap.size w w')) ?_ ?_
        rotate_left
        ·intro hJ1_3_8
         refine join_ (σ := Nat) 7 #[true, true, true, true, false, false, false, false, false, true, false, false] (fun s_ => [(19, .agg #[.int .i64 t212, .int .i64 t213, .int .i64 t214]), (21, .agg #[.int .i64 t215, .int .i64 t216, .int .i64 t217]), (8, .pointer (some ⟨s_, 0, none⟩))]) (fun s_ w' => (w'.cell? ⟨gb196, 0, none⟩ = some (.int .i64 a0_0) ∧ w'.cell? ⟨gb196, 1, none⟩ = some (.int .i64 a0_1) ∧ w'.cell? ⟨gb196, 2, none⟩ = some (.int .i64 a0_2) ∧ w'.cell? ⟨gb197, 0, none⟩ = some (.int .i64 a1_0) ∧ w'.cell? ⟨gb197, 1, none⟩ = some (.int .i64 a1_1) ∧ w'.cell? ⟨gb197, 2, none⟩ = some (.int .i64 a1_2)) ∧ (w'.heap[gb196]? = some (.cells #[.int .i64 a0_0, .int .i64 a0_1, .int .i64 a0_2] 23 (0, 0))) ∧ (w'.heap[gb197]? = some (.cells #[.int .i64 a1_0, .int .i64 a1_1, .int .i64 a1_2] 23 (0, 0))) ∧ (w'.heap[gb210]? = some (.cells #[.int .i64 t204, .int .i64 t205, .int .i64 t206] 26 (0, 0))) ∧ (w'.heap[gb211]? = some (.cells #[.int .i64 t207, .int .i64 t208, .int .i64 t209] 26 (0, 0))) ∧ (w'.heap[s_]? = some (.cells #[.int .i64 0, .int .i64 0, .int .i64 0] 26 (0, 0))) ∧ (w.heap.size ≤ s_) ∧ (w.heap.size ≤ s_) ∧ (gb196 ≠ s_) ∧ (s_ ≠ gb196) ∧ (gb197 ≠ s_) ∧ (s_ ≠ gb197) ∧ (gb210 ≠ s_) ∧ (s_ ≠ gb210) ∧ (gb211 ≠ s_) ∧ (s_ ≠ gb211) ∧ (Below w.heap.size w w')) ?_ ?_
         rotate_left
         ·intro hJ1_3_9
          refine join_ (σ := Nat × Nat) 7 #[true, true, true, false, false, false, false, false, true, true, false, false] (fun s_ => [(19, .agg #[.int .i64 t212, .int .i64 t213, .int .i64 t214]), (7, .pointer (some ⟨s_.1, 0, none⟩)), (8, .pointer (some ⟨s_.2, 0, none⟩))]) (fun s_ w' => (w'.cell? ⟨gb196, 0, none⟩ = some (.int .i64 a0_0) ∧ w'.cell? ⟨gb196, 1, none⟩ = some (.int .i64 a0_1) ∧ w'.cell? ⟨gb196, 2, none⟩ = some (.int .i64 a0_2) ∧ w'.cell? ⟨gb197, 0, none⟩ = some (.int .i64 a1_0) ∧ w'.cell? ⟨gb197, 1, none⟩ = some (.int .i64 a1_1) ∧ w'.cell? ⟨gb197, 2, none⟩ = some (.int .i64 a1_2)) ∧ (w'.heap[gb196]? = some (.cells #[.int .i64 a0_0, .int .i64 a0_1, .int .i64 a0_2] 23 (0, 0))) ∧ (w'.heap[gb197]? = some (.cells #[.int .i64 a1_0, .int .i64 a1_1, .int .i64 a1_2] 23 (0, 0))) ∧ (w'.heap[gb210]? = some (.cells #[.int .i64 t204, .int .i64 t205, .int .i64 t206] 26 (0, 0))) ∧ (w'.heap[gb211]? = some (.cells #[.int .i64 t207, .int .i64 t208, .int .i64 t209] 26 (0, 0))) ∧ (w'.heap[s_.1]? = some (.cells #[.int .i64 0, .int .i64 0, .int .i64 0] 26 (0, 0))) ∧ (w'.heap[s_.2]? = some (.cells #[.int .i64 0, .int .i64 0, .int .i64 0] 26 (0, 0))) ∧ (w.heap.size ≤ s_.1) ∧ (w.heap.size ≤ s_.1) ∧ (gb196 ≠ s_.1) ∧ (s_.1 ≠ gb196) ∧ (gb197 ≠ s_.1) ∧ (s_.1 ≠ gb197) ∧ (gb210 ≠ s_.1) ∧ (s_.1 ≠ gb210) ∧ (gb211 ≠ s_.1) ∧ (s_.1 ≠ gb211) ∧ (s_.2 ≠ s_.1) ∧ (s_.1 ≠ s_.2) ∧ (w.heap.size ≤ s_.2) ∧ (w.heap.size ≤ s_.2) ∧ (gb196 ≠ s_.2) ∧ (s_.2 ≠ gb196) ∧ (gb197 ≠ s_.2) ∧ (s_.2 ≠ gb197) ∧ (gb210 ≠ s_.2) ∧ (s_.2 ≠ gb210) ∧ (gb211 ≠ s_.2) ∧ (s_.2 ≠ gb211) ∧ (Below w.heap.size w w')) ?_ ?_
          rotate_left
          ·intro hJ1_8_9
           refine join_ (σ := Unit) 8 #[true, true, true, true, false, false, false, false, false, false, false, false] (fun s_ => [(19, .agg #[.int .i64 t212, .int .i64 t213, .int .i64 t214]), (21, .agg #[.int .i64 t215, .int .i64 t216, .int .i64 t217])]) (fun s_ w' => (w'.cell? ⟨gb196, 0, none⟩ = some (.int .i64 a0_0) ∧ w'.cell? ⟨gb196, 1, none⟩ = some (.int .i64 a0_1) ∧ w'.cell? ⟨gb196, 2, none⟩ = some (.int .i64 a0_2) ∧ w'.cell? ⟨gb197, 0, none⟩ = some (.int .i64 a1_0) ∧ w'.cell? ⟨gb197, 1, none⟩ = some (.int .i64 a1_1) ∧ w'.cell? ⟨gb197, 2, none⟩ = some (.int .i64 a1_2)) ∧ (w'.heap[gb196]? = some (.cells #[.int .i64 a0_0, .int .i64 a0_1, .int .i64 a0_2] 23 (0, 0))) ∧ (w'.heap[gb197]? = some (.cells #[.int .i64 a1_0, .int .i64 a1_1, .int .i64 a1_2] 23 (0, 0))) ∧ (w'.heap[gb210]? = some (.cells #[.int .i64 t204, .int .i64 t205, .int .i64 t206] 26 (0, 0))) ∧ (w'.heap[gb211]? = some (.cells #[.int .i64 t207, .int .i64 t208, .int .i64 t209] 26 (0, 0))) ∧ (Below w.heap.size w w')) ?_ ?_
           rotate_left
           ·intro hJ1_3
            refine join_ (σ := Nat) 8 #[true, true, true, false, false, false, false, false, true, false, false, false] (fun s_ => [(19, .agg #[.int .i64 t212, .int .i64 t213, .int .i64 t214]), (7, .pointer (some ⟨s_, 0, none⟩))]) (fun s_ w' => (w'.cell? ⟨gb196, 0, none⟩ = some (.int .i64 a0_0) ∧ w'.cell? ⟨gb196, 1, none⟩ = some (.int .i64 a0_1) ∧ w'.cell? ⟨gb196, 2, none⟩ = some (.int .i64 a0_2) ∧ w'.cell? ⟨gb197, 0, none⟩ = some (.int .i64 a1_0) ∧ w'.cell? ⟨gb197, 1, none⟩ = some (.int .i64 a1_1) ∧ w'.cell? ⟨gb197, 2, none⟩ = some (.int .i64 a1_2)) ∧ (w'.heap[gb196]? = some (.cells #[.int .i64 a0_0, .int .i64 a0_1, .int .i64 a0_2] 23 (0, 0))) ∧ (w'.heap[gb197]? = some (.cells #[.int .i64 a1_0, .int .i64 a1_1, .int .i64 a1_2] 23 (0, 0))) ∧ (w'.heap[gb210]? = some (.cells #[.int .i64 t204, .int .i64 t205, .int .i64 t206] 26 (0, 0))) ∧ (w'.heap[gb211]? = some (.cells #[.int .i64 t207, .int .i64 t208, .int .i64 t209] 26 (0, 0))) ∧ (w'.heap[s_]? = some (.cells #[.int .i64 0, .int .i64 0, .int .i64 0] 26 (0, 0))) ∧ (w.heap.size ≤ s_) ∧ (w.heap.size ≤ s_) ∧ (gb196 ≠ s_) ∧ (s_ ≠ gb196) ∧ (gb197 ≠ s_) ∧ (s_ ≠ gb197) ∧ (gb210 ≠ s_) ∧ (s_ ≠ gb210) ∧ (gb211 ≠ s_) ∧ (s_ ≠ gb211) ∧ (Below w.heap.size w w')) ?_ ?_
            rotate_left
            ·intro hJ1_8
             refine join_ (σ := Nat) 8 #[true, true, true, false, false, false, false, false, false, true, false, false] (fun s_ => [(19, .agg #[.int .i64 t212, .int .i64 t213, .int .i64 t214]), (8, .pointer (some ⟨s_, 0, none⟩))]) (fun s_ w' => (w'.cell? ⟨gb196, 0, none⟩ = some (.int .i64 a0_0) ∧ w'.cell? ⟨gb196, 1, none⟩ = some (.int .i64 a0_1) ∧ w'.cell? ⟨gb196, 2, none⟩ = some (.int .i64 a0_2) ∧ w'.cell? ⟨gb197, 0, none⟩ = some (.int .i64 a1_0) ∧ w'.cell? ⟨gb197, 1, none⟩ = some (.int .i64 a1_1) ∧ w'.cell? ⟨gb197, 2, none⟩ = some (.int .i64 a1_2)) ∧ (w'.heap[gb196]? = some (.cells #[.int .i64 a0_0, .int .i64 a0_1, .int .i64 a0_2] 23 (0, 0))) ∧ (w'.heap[gb197]? = some (.cells #[.int .i64 a1_0, .int .i64 a1_1, .int .i64 a1_2] 23 (0, 0))) ∧ (w'.heap[gb210]? = some (.cells #[.int .i64 t204, .int .i64 t205, .int .i64 t206] 26 (0, 0))) ∧ (w'.heap[gb211]? = some (.cells #[.int .i64 t207, .int .i64 t208, .int .i64 t209] 26 (0, 0))) ∧ (w'.heap[s_]? = some (.cells #[.int .i64 0, .int .i64 0, .int .i64 0] 26 (0, 0))) ∧ (w.heap.size ≤ s_) ∧ (w.heap.size ≤ s_) ∧ (gb196 ≠ s_) ∧ (s_ ≠ gb196) ∧ (gb197 ≠ s_) ∧ (s_ ≠ gb197) ∧ (gb210 ≠ s_) ∧ (s_ ≠ gb210) ∧ (gb211 ≠ s_) ∧ (s_ ≠ gb211) ∧ (Below w.heap.size w w')) ?_ ?_
             rotate_left
             ·intro hJ1_9
              refine join_ (σ := Nat × Nat) 8 #[true, false, true, false, false, false, false, false, true, true, false, false] (fun s_ => [(7, .pointer (some ⟨s_.1, 0, none⟩)), (8, .pointer (some ⟨s_.2, 0, none⟩))]) (fun s_ w' => (w'.cell? ⟨gb196, 0, none⟩ = some (.int .i64 a0_0) ∧ w'.cell? ⟨gb196, 1, none⟩ = some (.int .i64 a0_1) ∧ w'.cell? ⟨gb196, 2, none⟩ = some (.int .i64 a0_2) ∧ w'.cell? ⟨gb197, 0, none⟩ = some (.int .i64 a1_0) ∧ w'.cell? ⟨gb197, 1, none⟩ = some (.int .i64 a1_1) ∧ w'.cell? ⟨gb197, 2, none⟩ = some (.int .i64 a1_2)) ∧ (w'.heap[gb196]? = some (.cells #[.int .i64 a0_0, .int .i64 a0_1, .int .i64 a0_2] 23 (0, 0))) ∧ (w'.heap[gb197]? = some (.cells #[.int .i64 a1_0, .int .i64 a1_1, .int .i64 a1_2] 23 (0, 0))) ∧ (w'.heap[gb210]? = some (.cells #[.int .i64 t204, .int .i64 t205, .int .i64 t206] 26 (0, 0))) ∧ (w'.heap[gb211]? = some (.cells #[.int .i64 t207, .int .i64 t208, .int .i64 t209] 26 (0, 0))) ∧ (w'.heap[s_.1]? = some (.cells #[.int .i64 0, .int .i64 0, .int .i64 0] 26 (0, 0))) ∧ (w'.heap[s_.2]? = some (.cells #[.int .i64 0, .int .i64 0, .int .i64 0] 26 (0, 0))) ∧ (w.heap.size ≤ s_.1) ∧ (w.heap.size ≤ s_.1) ∧ (gb196 ≠ s_.1) ∧ (s_.1 ≠ gb196) ∧ (gb197 ≠ s_.1) ∧ (s_.1 ≠ gb197) ∧ (gb210 ≠ s_.1) ∧ (s_.1 ≠ gb210) ∧ (gb211 ≠ s_.1) ∧ (s_.1 ≠ gb211) ∧ (s_.2 ≠ s_.1) ∧ (s_.1 ≠ s_.2) ∧ (w.heap.size ≤ s_.2) ∧ (w.heap.size ≤ s_.2) ∧ (gb196 ≠ s_.2) ∧ (s_.2 ≠ gb196) ∧ (gb197 ≠ s_.2) ∧ (s_.2 ≠ gb197) ∧ (gb210 ≠ s_.2) ∧ (s_.2 ≠ gb210) ∧ (gb211 ≠ s_.2) ∧ (s_.2 ≠ gb211) ∧ (Below w.heap.size w w')) ?_ ?_
              rotate_left
              ·intro hJ8_9
               refine join_ (σ := Unit) 9 #[true, true, true, false, false, false, false, false, false, false, false, false] (fun s_ => [(19, .agg #[.int .i64 t212, .int .i64 t213, .int .i64 t214])]) (fun s_ w' => (w'.cell? ⟨gb196, 0, none⟩ = some (.int .i64 a0_0) ∧ w'.cell? ⟨gb196, 1, none⟩ = some (.int .i64 a0_1) ∧ w'.cell? ⟨gb196, 2, none⟩ = some (.int .i64 a0_2) ∧ w'.cell? ⟨gb197, 0, none⟩ = some (.int .i64 a1_0) ∧ w'.cell? ⟨gb197, 1, none⟩ = some (.int .i64 a1_1) ∧ w'.cell? ⟨gb197, 2, none⟩ = some (.int .i64 a1_2)) ∧ (w'.heap[gb196]? = some (.cells #[.int .i64 a0_0, .int .i64 a0_1, .int .i64 a0_2] 23 (0, 0))) ∧ (w'.heap[gb197]? = some (.cells #[.int .i64 a1_0, .int .i64 a1_1, .int .i64 a1_2] 23 (0, 0))) ∧ (w'.heap[gb210]? = some (.cells #[.int .i64 t204, .int .i64 t205, .int .i64 t206] 26 (0, 0))) ∧ (w'.heap[gb211]? = some (.cells #[.int .i64 t207, .int .i64 t208, .int .i64 t209] 26 (0, 0))) ∧ (Below w.heap.size w w')) ?_ ?_
               rotate_left
               ·intro hJ1
                refine join_ (σ := Nat) 9 #[true, false, true, false, false, false, false, false, true, false, false, false] (fun s_ => [(7, .pointer (some ⟨s_, 0, none⟩))]) (fun s_ w' => (w'.cell? ⟨gb196, 0, none⟩ = some (.int .i64 a0_0) ∧ w'.cell? ⟨gb196, 1, none⟩ = some (.int .i64 a0_1) ∧ w'.cell? ⟨gb196, 2, none⟩ = some (.int .i64 a0_2) ∧ w'.cell? ⟨gb197, 0, none⟩ = some (.int .i64 a1_0) ∧ w'.cell? ⟨gb197, 1, none⟩ = some (.int .i64 a1_1) ∧ w'.cell? ⟨gb197, 2, none⟩ = some (.int .i64 a1_2)) ∧ (w'.heap[gb196]? = some (.cells #[.int .i64 a0_0, .int .i64 a0_1, .int .i64 a0_2] 23 (0, 0))) ∧ (w'.heap[gb197]? = some (.cells #[.int .i64 a1_0, .int .i64 a1_1, .int .i64 a1_2] 23 (0, 0))) ∧ (w'.heap[gb210]? = some (.cells #[.int .i64 t204, .int .i64 t205, .int .i64 t206] 26 (0, 0))) ∧ (w'.heap[gb211]? = some (.cells #[.int .i64 t207, .int .i64 t208, .int .i64 t209] 26 (0, 0))) ∧ (w'.heap[s_]? = some (.cells #[.int .i64 0, .int .i64 0, .int .i64 0] 26 (0, 0))) ∧ (w.heap.size ≤ s_) ∧ (w.heap.size ≤ s_) ∧ (gb196 ≠ s_) ∧ (s_ ≠ gb196) ∧ (gb197 ≠ s_) ∧ (s_ ≠ gb197) ∧ (gb210 ≠ s_) ∧ (s_ ≠ gb210) ∧ (gb211 ≠ s_) ∧ (s_ ≠ gb211) ∧ (Below w.heap.size w w')) ?_ ?_
                rotate_left
                ·intro hJ8
                 refine join_ (σ := Nat) 9 #[true, false, true, false, false, false, false, false, false, true, false, false] (fun s_ => [(8, .pointer (some ⟨s_, 0, none⟩))]) (fun s_ w' => (w'.cell? ⟨gb196, 0, none⟩ = some (.int .i64 a0_0) ∧ w'.cell? ⟨gb196, 1, none⟩ = some (.int .i64 a0_1) ∧ w'.cell? ⟨gb196, 2, none⟩ = some (.int .i64 a0_2) ∧ w'.cell? ⟨gb197, 0, none⟩ = some (.int .i64 a1_0) ∧ w'.cell? ⟨gb197, 1, none⟩ = some (.int .i64 a1_1) ∧ w'.cell? ⟨gb197, 2, none⟩ = some (.int .i64 a1_2)) ∧ (w'.heap[gb196]? = some (.cells #[.int .i64 a0_0, .int .i64 a0_1, .int .i64 a0_2] 23 (0, 0))) ∧ (w'.heap[gb197]? = some (.cells #[.int .i64 a1_0, .int .i64 a1_1, .int .i64 a1_2] 23 (0, 0))) ∧ (w'.heap[gb210]? = some (.cells #[.int .i64 t204, .int .i64 t205, .int .i64 t206] 26 (0, 0))) ∧ (w'.heap[gb211]? = some (.cells #[.int .i64 t207, .int .i64 t208, .int .i64 t209] 26 (0, 0))) ∧ (w'.heap[s_]? = some (.cells #[.int .i64 0, .int .i64 0, .int .i64 0] 26 (0, 0))) ∧ (w.heap.size ≤ s_) ∧ (w.heap.size ≤ s_) ∧ (gb196 ≠ s_) ∧ (s_ ≠ gb196) ∧ (gb197 ≠ s_) ∧ (s_ ≠ gb197) ∧ (gb210 ≠ s_) ∧ (s_ ≠ gb210) ∧ (gb211 ≠ s_) ∧ (s_ ≠ gb211) ∧ (Below w.heap.size w w')) ?_ ?_
                 rotate_left
                 ·intro hJ9
                  refine three_ (i := 1) (j := 8) (k := 9) (Ni := some 19) (Nj := some 7) (Nk := some 8) #[true, true, true, false, false, false, false, false, false, false, false, false] #[true, false, true, false, false, false, false, false, true, false, false, false] #[true, false, true, false, false, false, false, false, false, true, false, false] rfl rfl rfl rfl rfl rfl (three_of HT_.out (by kernel_rfl)) (by decide) (by decide) (by decide) (fun K hK => ?_) (fun K hK => ?_) (fun K hK => ?_)
                  ·skip
                   refine goes_ Try.func16 (by kernel_rfl) rfl #[.agg #[.int .i64 a0_0, .int .i64 a0_1, .int .i64 a0_2]] (by rfl) rfl rfl (by (try simp only [List.map_toArray, List.map_cons, List.map_nil]); first | done | rfl | (simp only [List.length_drop, List.length_take]; rfl)) ?_
                   with_reducible refine (laws_toVec.calls a0_0 a0_1 a0_2 t212 t213 t214 _ A6.out).mono ?_
                   rintro e w30 ⟨rfl, hb⟩
                   refine ⟨_, rfl, ?_⟩
                   have n0_ := Gv.a0 (blk_below BK196.out hb)
                   have n1_ := Gv.a0 (blk_below BK197.out hb)
                   have n2_ := Gv.a0 (blk_below BK210.out hb)
                   have n3_ := Gv.a0 (blk_below BK211.out hb)
                   have n4_ := Gv.a0 (below_step HB.out hb)
                   clear BK196 BK197 BK210 BK211 HB; have BK196 := n0_; have BK197 := n1_; have BK210 := n2_; have BK211 := n3_; have HB := n4_; clear n0_ n1_ n2_ n3_ n4_; (try clear hb); (try clear hb2); (try clear hk); (try clear hi)
                   refine hK.out _ _ ⟨(blk_cell BK196.out 0).trans rfl, (blk_cell BK196.out 1).trans rfl, (blk_cell BK196.out 2).trans rfl, (blk_cell BK197.out 0).trans rfl, (blk_cell BK197.out 1).trans rfl, (blk_cell BK197.out 2).trans rfl⟩ (fun hHeld => ?_)
                   clear hK K
                   refine norm_ (a' := ?_) ?_ ?_
                   rotate_left
                   ·show Act.put _ (some 19) _ = _
                    simp only [Act.put, List.setIfInBounds_toArray, List.set_cons_zero, List.set_cons_succ, i64_w, i32_w]
                    rfl
                   exact Gv.nm (hJ1 () _ ⟨hHeld, BK196.out, BK197.out, BK210.out, BK211.out, HB.out⟩)
                  ·skip
                   refine box_step ?hg (N := 7) ?hd (cs := #[.int .i64 0, .int .i64 0, .int .i64 0]) (t := 26) ?hr ?_; (case hd => rfl); (case hg => rfl); (case hr => first | (go_simp; done) | (go_simp; rfl))
                   intro gb224 hg w30 hbox hb
                   have n0_ := Gv.a0 (blk_below BK196.out hb)
                   have n1_ := Gv.a0 (blk_below BK197.out hb)
                   have n2_ := Gv.a0 (blk_below BK210.out hb)
                   have n3_ := Gv.a0 (blk_below BK211.out hb)
                   have n4_ := Gv.a0 (below_step HB.out hb)
                   have n5_ := Gv.a0 (hbox)
                   have n6_ := Gv.a0 (Gv.ble hg HB.out : w.heap.size ≤ gb224)
                   have n7_ := Gv.a0 (Gv.ble hg HB.out : w.heap.size ≤ gb224)
                   have n8_ := Gv.a0 (Gv.nlt hg BK196.out : gb196 ≠ gb224)
                   have n9_ := Gv.a0 (Gv.ngt hg BK196.out : gb224 ≠ gb196)
                   have n10_ := Gv.a0 (Gv.nlt hg BK197.out : gb197 ≠ gb224)
                   have n11_ := Gv.a0 (Gv.ngt hg BK197.out : gb224 ≠ gb197)
                   have n12_ := Gv.a0 (Gv.nlt hg BK210.out : gb210 ≠ gb224)
                   have n13_ := Gv.a0 (Gv.ngt hg BK210.out : gb224 ≠ gb210)
                   have n14_ := Gv.a0 (Gv.nlt hg BK211.out : gb211 ≠ gb224)
                   have n15_ := Gv.a0 (Gv.ngt hg BK211.out : gb224 ≠ gb211)
                   clear BK196 BK197 BK210 BK211 HB; have BK196 := n0_; have BK197 := n1_; have BK210 := n2_; have BK211 := n3_; have HB := n4_; have BK224 := n5_; have GW224 := n6_; have GE224 := n7_; have NB196_224 := n8_; have NB224_196 := n9_; have NB197_224 := n10_; have NB224_197 := n11_; have NB210_224 := n12_; have NB224_210 := n13_; have NB211_224 := n14_; have NB224_211 := n15_; clear n0_ n1_ n2_ n3_ n4_ n5_ n6_ n7_ n8_ n9_ n10_ n11_ n12_ n13_ n14_ n15_; clear hb hbox hg
                   refine hK.out _ _ ⟨(blk_cell BK196.out 0).trans rfl, (blk_cell BK196.out 1).trans rfl, (blk_cell BK196.out 2).trans rfl, (blk_cell BK197.out 0).trans rfl, (blk_cell BK197.out 1).trans rfl, (blk_cell BK197.out 2).trans rfl⟩ (fun hHeld => ?_)
                   clear hK K
                   refine norm_ (a' := ?_) ?_ ?_
                   rotate_left
                   ·show Act.put _ (some 7) _ = _
                    simp only [Act.put, List.setIfInBounds_toArray, List.set_cons_zero, List.set_cons_succ, i64_w, i32_w]
                    rfl
                   exact Gv.nm (hJ8 (gb224) _ ⟨hHeld, BK196.out, BK197.out, BK210.out, BK211.out, BK224.out, GW224.out, GE224.out, NB196_224.out, NB224_196.out, NB197_224.out, NB224_197.out, NB210_224.out, NB224_210.out, NB211_224.out, NB224_211.out, HB.out⟩)
                  ·skip
                   refine box_step ?hg (N := 8) ?hd (cs := #[.int .i64 0, .int .i64 0, .int .i64 0]) (t := 26) ?hr ?_; (case hd => rfl); (case hg => rfl); (case hr => first | (go_simp; done) | (go_simp; rfl))
                   intro gb225 hg w30 hbox hb
                   have n0_ := Gv.a0 (blk_below BK196.out hb)
                   have n1_ := Gv.a0 (blk_below BK197.out hb)
                   have n2_ := Gv.a0 (blk_below BK210.out hb)
                   have n3_ := Gv.a0 (blk_below BK211.out hb)
                   have n4_ := Gv.a0 (below_step HB.out hb)
                   have n5_ := Gv.a0 (hbox)
                   have n6_ := Gv.a0 (Gv.ble hg HB.out : w.heap.size ≤ gb225)
                   have n7_ := Gv.a0 (Gv.ble hg HB.out : w.heap.size ≤ gb225)
                   have n8_ := Gv.a0 (Gv.nlt hg BK196.out : gb196 ≠ gb225)
                   have n9_ := Gv.a0 (Gv.ngt hg BK196.out : gb225 ≠ gb196)
                   have n10_ := Gv.a0 (Gv.nlt hg BK197.out : gb197 ≠ gb225)
                   have n11_ := Gv.a0 (Gv.ngt hg BK197.out : gb225 ≠ gb197)
                   have n12_ := Gv.a0 (Gv.nlt hg BK210.out : gb210 ≠ gb225)
                   have n13_ := Gv.a0 (Gv.ngt hg BK210.out : gb225 ≠ gb210)
                   have n14_ := Gv.a0 (Gv.nlt hg BK211.out : gb211 ≠ gb225)
                   have n15_ := Gv.a0 (Gv.ngt hg BK211.out : gb225 ≠ gb211)
                   clear BK196 BK197 BK210 BK211 HB; have BK196 := n0_; have BK197 := n1_; have BK210 := n2_; have BK211 := n3_; have HB := n4_; have BK225 := n5_; have GW225 := n6_; have GE225 := n7_; have NB196_225 := n8_; have NB225_196 := n9_; have NB197_225 := n10_; have NB225_197 := n11_; have NB210_225 := n12_; have NB225_210 := n13_; have NB211_225 := n14_; have NB225_211 := n15_; clear n0_ n1_ n2_ n3_ n4_ n5_ n6_ n7_ n8_ n9_ n10_ n11_ n12_ n13_ n14_ n15_; clear hb hbox hg
                   refine hK.out _ _ ⟨(blk_cell BK196.out 0).trans rfl, (blk_cell BK196.out 1).trans rfl, (blk_cell BK196.out 2).trans rfl, (blk_cell BK197.out 0).trans rfl, (blk_cell BK197.out 1).trans rfl, (blk_cell BK197.out 2).trans rfl⟩ (fun hHeld => ?_)
                   clear hK K
                   refine norm_ (a' := ?_) ?_ ?_
                   rotate_left
                   ·show Act.put _ (some 8) _ = _
                    simp only [Act.put, List.setIfInBounds_toArray, List.set_cons_zero, List.set_cons_succ, i64_w, i32_w]
                    rfl
                   exact Gv.nm (hJ9 (gb225) _ ⟨hHeld, BK196.out, BK197.out, BK210.out, BK211.out, BK225.out, GW225.out, GE225.out, NB196_225.out, NB225_196.out, NB197_225.out, NB225_197.out, NB210_225.out, NB225_210.out, NB211_225.out, NB225_211.out, HB.out⟩)
                 ·skip
                  rintro gb225 w31 ⟨hS_, h0_, h1_, h2_, h3_, h4_, h5_, h6_, h7_, h8_, h9_, h10_, h11_, h12_, h13_, h14_, h15_⟩
                  have n0_ : Aside0 (w31.heap[gb196]? = some (.cells #[.int .i64 a0_0, .int .i64 a0_1, .int .i64 a0_2] 23 (0, 0))) := ⟨h0_⟩
                  have n1_ : Aside0 (w31.heap[gb197]? = some (.cells #[.int .i64 a1_0, .int .i64 a1_1, .int .i64 a1_2] 23 (0, 0))) := ⟨h1_⟩
                  have n2_ : Aside0 (w31.heap[gb210]? = some (.cells #[.int .i64 t204, .int .i64 t205, .int .i64 t206] 26 (0, 0))) := ⟨h2_⟩
                  have n3_ : Aside0 (w31.heap[gb211]? = some (.cells #[.int .i64 t207, .int .i64 t208, .int .i64 t209] 26 (0, 0))) := ⟨h3_⟩
                  have n4_ : Aside0 (w31.heap[gb225]? = some (.cells #[.int .i64 0, .int .i64 0, .int .i64 0] 26 (0, 0))) := ⟨h4_⟩
                  have n5_ : Aside0 (w.heap.size ≤ gb225) := ⟨h5_⟩
                  have n6_ : Aside0 (w.heap.size ≤ gb225) := ⟨h6_⟩
                  have n7_ : Aside0 (gb196 ≠ gb225) := ⟨h7_⟩
                  have n8_ : Aside0 (gb225 ≠ gb196) := ⟨h8_⟩
                  have n9_ : Aside0 (gb197 ≠ gb225) := ⟨h9_⟩
                  have n10_ : Aside0 (gb225 ≠ gb197) := ⟨h10_⟩
                  have n11_ : Aside0 (gb210 ≠ gb225) := ⟨h11_⟩
                  have n12_ : Aside0 (gb225 ≠ gb210) := ⟨h12_⟩
                  have n13_ : Aside0 (gb211 ≠ gb225) := ⟨h13_⟩
                  have n14_ : Aside0 (gb225 ≠ gb211) := ⟨h14_⟩
                  have n15_ : Aside0 (Below w.heap.size w w31) := ⟨h15_⟩
                  clear BK196 BK197 BK210 BK211 HB; clear h0_ h1_ h2_ h3_ h4_ h5_ h6_ h7_ h8_ h9_ h10_ h11_ h12_ h13_ h14_ h15_; have BK196 := n0_; have BK197 := n1_; have BK210 := n2_; have BK211 := n3_; have BK225 := n4_; have GW225 := n5_; have GE225 := n6_; have NB196_225 := n7_; have NB225_196 := n8_; have NB197_225 := n9_; have NB225_197 := n10_; have NB210_225 := n11_; have NB225_210 := n12_; have NB211_225 := n13_; have NB225_211 := n14_; have HB := n15_; clear n0_ n1_ n2_ n3_ n4_ n5_ n6_ n7_ n8_ n9_ n10_ n11_ n12_ n13_ n14_ n15_
                  have hHeld : w31.cell? ⟨gb196, 0, none⟩ = some (.int .i64 a0_0) ∧ w31.cell? ⟨gb196, 1, none⟩ = some (.int .i64 a0_1) ∧ w31.cell? ⟨gb196, 2, none⟩ = some (.int .i64 a0_2) ∧ w31.cell? ⟨gb197, 0, none⟩ = some (.int .i64 a1_0) ∧ w31.cell? ⟨gb197, 1, none⟩ = some (.int .i64 a1_1) ∧ w31.cell? ⟨gb197, 2, none⟩ = some (.int .i64 a1_2) := hS_
                  refine norm_ (a' := ?_) ?_ ?_
                  rotate_left
                  ·simp only [putAll, Act.put, List.setIfInBounds_toArray, List.set_cons_zero, List.set_cons_succ]
                   rfl
                  refine two_ (i := 1) (j := 8) (Ni := some 19) (Nj := some 7) #[true, true, true, false, false, false, false, false, false, true, false, false] #[true, false, true, false, false, false, false, false, true, true, false, false] rfl rfl rfl rfl (two_of HT_.out (by kernel_rfl)) (by decide) (by decide) (fun K hK => ?_) (fun K hK => ?_)
                  ·skip
                   refine goes_ Try.func16 (by kernel_rfl) rfl #[.agg #[.int .i64 a0_0, .int .i64 a0_1, .int .i64 a0_2]] (by rfl) rfl rfl (by (try simp only [List.map_toArray, List.map_cons, List.map_nil]); first | done | rfl | (simp only [List.length_drop, List.length_take]; rfl)) ?_
                   with_reducible refine (laws_toVec.calls a0_0 a0_1 a0_2 t212 t213 t214 _ A6.out).mono ?_
                   rintro e w32 ⟨rfl, hb⟩
                   refine ⟨_, rfl, ?_⟩
                   have n0_ := Gv.a0 (blk_below BK196.out hb)
                   have n1_ := Gv.a0 (blk_below BK197.out hb)
                   have n2_ := Gv.a0 (blk_below BK210.out hb)
                   have n3_ := Gv.a0 (blk_below BK211.out hb)
                   have n4_ := Gv.a0 (blk_below BK225.out hb)
                   have n5_ := Gv.a0 (below_step HB.out hb)
                   clear BK196 BK197 BK210 BK211 BK225 HB; have BK196 := n0_; have BK197 := n1_; have BK210 := n2_; have BK211 := n3_; have BK225 := n4_; have HB := n5_; clear n0_ n1_ n2_ n3_ n4_ n5_; (try clear hb); (try clear hb2); (try clear hk); (try clear hi)
                   refine hK.out _ _ ⟨(blk_cell BK196.out 0).trans rfl, (blk_cell BK196.out 1).trans rfl, (blk_cell BK196.out 2).trans rfl, (blk_cell BK197.out 0).trans rfl, (blk_cell BK197.out 1).trans rfl, (blk_cell BK197.out 2).trans rfl⟩ (fun hHeld => ?_)
                   clear hK K
                   refine norm_ (a' := ?_) ?_ ?_
                   rotate_left
                   ·show Act.put _ (some 19) _ = _
                    simp only [Act.put, List.setIfInBounds_toArray, List.set_cons_zero, List.set_cons_succ, i64_w, i32_w]
                    rfl
                   exact Gv.nm (hJ1_9 (gb225) _ ⟨hHeld, BK196.out, BK197.out, BK210.out, BK211.out, BK225.out, GW225.out, GE225.out, NB196_225.out, NB225_196.out, NB197_225.out, NB225_197.out, NB210_225.out, NB225_210.out, NB211_225.out, NB225_211.out, HB.out⟩)
                  ·skip
                   refine box_step ?hg (N := 7) ?hd (cs := #[.int .i64 0, .int .i64 0, .int .i64 0]) (t := 26) ?hr ?_; (case hd => rfl); (case hg => rfl); (case hr => first | (go_simp; done) | (go_simp; rfl))
                   intro gb224 hg w32 hbox hb
                   have n0_ := Gv.a0 (blk_below BK196.out hb)
                   have n1_ := Gv.a0 (blk_below BK197.out hb)
                   have n2_ := Gv.a0 (blk_below BK210.out hb)
                   have n3_ := Gv.a0 (blk_below BK211.out hb)
                   have n4_ := Gv.a0 (blk_below BK225.out hb)
                   have n5_ := Gv.a0 (below_step HB.out hb)
                   have n6_ := Gv.a0 (hbox)
                   have n7_ := Gv.a0 (Gv.ble hg HB.out : w.heap.size ≤ gb224)
                   have n8_ := Gv.a0 (Gv.ble hg HB.out : w.heap.size ≤ gb224)
                   have n9_ := Gv.a0 (Gv.nlt hg BK196.out : gb196 ≠ gb224)
                   have n10_ := Gv.a0 (Gv.ngt hg BK196.out : gb224 ≠ gb196)
                   have n11_ := Gv.a0 (Gv.nlt hg BK197.out : gb197 ≠ gb224)
                   have n12_ := Gv.a0 (Gv.ngt hg BK197.out : gb224 ≠ gb197)
                   have n13_ := Gv.a0 (Gv.nlt hg BK210.out : gb210 ≠ gb224)
                   have n14_ := Gv.a0 (Gv.ngt hg BK210.out : gb224 ≠ gb210)
                   have n15_ := Gv.a0 (Gv.nlt hg BK211.out : gb211 ≠ gb224)
                   have n16_ := Gv.a0 (Gv.ngt hg BK211.out : gb224 ≠ gb211)
                   have n17_ := Gv.a0 (Gv.nlt hg BK225.out : gb225 ≠ gb224)
                   have n18_ := Gv.a0 (Gv.ngt hg BK225.out : gb224 ≠ gb225)
                   clear BK196 BK197 BK210 BK211 BK225 HB; have BK196 := n0_; have BK197 := n1_; have BK210 := n2_; have BK211 := n3_; have BK225 := n4_; have HB := n5_; have BK224 := n6_; have GW224 := n7_; have GE224 := n8_; have NB196_224 := n9_; have NB224_196 := n10_; have NB197_224 := n11_; have NB224_197 := n12_; have NB210_224 := n13_; have NB224_210 := n14_; have NB211_224 := n15_; have NB224_211 := n16_; have NB225_224 := n17_; have NB224_225 := n18_; clear n0_ n1_ n2_ n3_ n4_ n5_ n6_ n7_ n8_ n9_ n10_ n11_ n12_ n13_ n14_ n15_ n16_ n17_ n18_; clear hb hbox hg
                   refine hK.out _ _ ⟨(blk_cell BK196.out 0).trans rfl, (blk_cell BK196.out 1).trans rfl, (blk_cell BK196.out 2).trans rfl, (blk_cell BK197.out 0).trans rfl, (blk_cell BK197.out 1).trans rfl, (blk_cell BK197.out 2).trans rfl⟩ (fun hHeld => ?_)
                   clear hK K
                   refine norm_ (a' := ?_) ?_ ?_
                   rotate_left
                   ·show Act.put _ (some 7) _ = _
                    simp only [Act.put, List.setIfInBounds_toArray, List.set_cons_zero, List.set_cons_succ, i64_w, i32_w]
                    rfl
                   exact Gv.nm (hJ8_9 (gb224, gb225) _ ⟨hHeld, BK196.out, BK197.out, BK210.out, BK211.out, BK224.out, BK225.out, GW224.out, GE224.out, NB196_224.out, NB224_196.out, NB197_224.out, NB224_197.out, NB210_224.out, NB224_210.out, NB211_224.out, NB224_211.out, NB225_224.out, NB224_225.out, GW225.out, GE225.out, NB196_225.out, NB225_196.out, NB197_225.out, NB225_197.out, NB210_225.out, NB225_210.out, NB211_225.out, NB225_211.out, HB.out⟩)
                ·skip
                 rintro gb224 w31 ⟨hS_, h0_, h1_, h2_, h3_, h4_, h5_, h6_, h7_, h8_, h9_, h10_, h11_, h12_, h13_, h14_, h15_⟩
                 have n0_ : Aside0 (w31.heap[gb196]? = some (.cells #[.int .i64 a0_0, .int .i64 a0_1, .int .i64 a0_2] 23 (0, 0))) := ⟨h0_⟩
                 have n1_ : Aside0 (w31.heap[gb197]? = some (.cells #[.int .i64 a1_0, .int .i64 a1_1, .int .i64 a1_2] 23 (0, 0))) := ⟨h1_⟩
                 have n2_ : Aside0 (w31.heap[gb210]? = some (.cells #[.int .i64 t204, .int .i64 t205, .int .i64 t206] 26 (0, 0))) := ⟨h2_⟩
                 have n3_ : Aside0 (w31.heap[gb211]? = some (.cells #[.int .i64 t207, .int .i64 t208, .int .i64 t209] 26 (0, 0))) := ⟨h3_⟩
                 have n4_ : Aside0 (w31.heap[gb224]? = some (.cells #[.int .i64 0, .int .i64 0, .int .i64 0] 26 (0, 0))) := ⟨h4_⟩
                 have n5_ : Aside0 (w.heap.size ≤ gb224) := ⟨h5_⟩
                 have n6_ : Aside0 (w.heap.size ≤ gb224) := ⟨h6_⟩
                 have n7_ : Aside0 (gb196 ≠ gb224) := ⟨h7_⟩
                 have n8_ : Aside0 (gb224 ≠ gb196) := ⟨h8_⟩
                 have n9_ : Aside0 (gb197 ≠ gb224) := ⟨h9_⟩
                 have n10_ : Aside0 (gb224 ≠ gb197) := ⟨h10_⟩
                 have n11_ : Aside0 (gb210 ≠ gb224) := ⟨h11_⟩
                 have n12_ : Aside0 (gb224 ≠ gb210) := ⟨h12_⟩
                 have n13_ : Aside0 (gb211 ≠ gb224) := ⟨h13_⟩
                 have n14_ : Aside0 (gb224 ≠ gb211) := ⟨h14_⟩
                 have n15_ : Aside0 (Below w.heap.size w w31) := ⟨h15_⟩
                 clear BK196 BK197 BK210 BK211 HB; clear h0_ h1_ h2_ h3_ h4_ h5_ h6_ h7_ h8_ h9_ h10_ h11_ h12_ h13_ h14_ h15_; have BK196 := n0_; have BK197 := n1_; have BK210 := n2_; have BK211 := n3_; have BK224 := n4_; have GW224 := n5_; have GE224 := n6_; have NB196_224 := n7_; have NB224_196 := n8_; have NB197_224 := n9_; have NB224_197 := n10_; have NB210_224 := n11_; have NB224_210 := n12_; have NB211_224 := n13_; have NB224_211 := n14_; have HB := n15_; clear n0_ n1_ n2_ n3_ n4_ n5_ n6_ n7_ n8_ n9_ n10_ n11_ n12_ n13_ n14_ n15_
                 have hHeld : w31.cell? ⟨gb196, 0, none⟩ = some (.int .i64 a0_0) ∧ w31.cell? ⟨gb196, 1, none⟩ = some (.int .i64 a0_1) ∧ w31.cell? ⟨gb196, 2, none⟩ = some (.int .i64 a0_2) ∧ w31.cell? ⟨gb197, 0, none⟩ = some (.int .i64 a1_0) ∧ w31.cell? ⟨gb197, 1, none⟩ = some (.int .i64 a1_1) ∧ w31.cell? ⟨gb197, 2, none⟩ = some (.int .i64 a1_2) := hS_
                 refine norm_ (a' := ?_) ?_ ?_
                 rotate_left
                 ·simp only [putAll, Act.put, List.setIfInBounds_toArray, List.set_cons_zero, List.set_cons_succ]
                  rfl
                 refine two_ (i := 1) (j := 9) (Ni := some 19) (Nj := some 8) #[true, true, true, false, false, false, false, false, true, false, false, false] #[true, false, true, false, false, false, false, false, true, true, false, false] rfl rfl rfl rfl (two_of HT_.out (by kernel_rfl)) (by decide) (by decide) (fun K hK => ?_) (fun K hK => ?_)
                 ·skip
                  refine goes_ Try.func16 (by kernel_rfl) rfl #[.agg #[.int .i64 a0_0, .int .i64 a0_1, .int .i64 a0_2]] (by rfl) rfl rfl (by (try simp only [List.map_toArray, List.map_cons, List.map_nil]); first | done | rfl | (simp only [List.length_drop, List.length_take]; rfl)) ?_
                  with_reducible refine (laws_toVec.calls a0_0 a0_1 a0_2 t212 t213 t214 _ A6.out).mono ?_
                  rintro e w32 ⟨rfl, hb⟩
                  refine ⟨_, rfl, ?_⟩
                  have n0_ := Gv.a0 (blk_below BK196.out hb)
                  have n1_ := Gv.a0 (blk_below BK197.out hb)
                  have n2_ := Gv.a0 (blk_below BK210.out hb)
                  have n3_ := Gv.a0 (blk_below BK211.out hb)
                  have n4_ := Gv.a0 (blk_below BK224.out hb)
                  have n5_ := Gv.a0 (below_step HB.out hb)
                  clear BK196 BK197 BK210 BK211 BK224 HB; have BK196 := n0_; have BK197 := n1_; have BK210 := n2_; have BK211 := n3_; have BK224 := n4_; have HB := n5_; clear n0_ n1_ n2_ n3_ n4_ n5_; (try clear hb); (try clear hb2); (try clear hk); (try clear hi)
                  refine hK.out _ _ ⟨(blk_cell BK196.out 0).trans rfl, (blk_cell BK196.out 1).trans rfl, (blk_cell BK196.out 2).trans rfl, (blk_cell BK197.out 0).trans rfl, (blk_cell BK197.out 1).trans rfl, (blk_cell BK197.out 2).trans rfl⟩ (fun hHeld => ?_)
                  clear hK K
                  refine norm_ (a' := ?_) ?_ ?_
                  rotate_left
                  ·show Act.put _ (some 19) _ = _
                   simp only [Act.put, List.setIfInBounds_toArray, List.set_cons_zero, List.set_cons_succ, i64_w, i32_w]
                   rfl
                  exact Gv.nm (hJ1_8 (gb224) _ ⟨hHeld, BK196.out, BK197.out, BK210.out, BK211.out, BK224.out, GW224.out, GE224.out, NB196_224.out, NB224_196.out, NB197_224.out, NB224_197.out, NB210_224.out, NB224_210.out, NB211_224.out, NB224_211.out, HB.out⟩)
                 ·skip
                  refine box_step ?hg (N := 8) ?hd (cs := #[.int .i64 0, .int .i64 0, .int .i64 0]) (t := 26) ?hr ?_; (case hd => rfl); (case hg => rfl); (case hr => first | (go_simp; done) | (go_simp; rfl))
                  intro gb225 hg w32 hbox hb
                  have n0_ := Gv.a0 (blk_below BK196.out hb)
                  have n1_ := Gv.a0 (blk_below BK197.out hb)
                  have n2_ := Gv.a0 (blk_below BK210.out hb)
                  have n3_ := Gv.a0 (blk_below BK211.out hb)
                  have n4_ := Gv.a0 (blk_below BK224.out hb)
                  have n5_ := Gv.a0 (below_step HB.out hb)
                  have n6_ := Gv.a0 (hbox)
                  have n7_ := Gv.a0 (Gv.ble hg HB.out : w.heap.size ≤ gb225)
                  have n8_ := Gv.a0 (Gv.ble hg HB.out : w.heap.size ≤ gb225)
                  have n9_ := Gv.a0 (Gv.nlt hg BK196.out : gb196 ≠ gb225)
                  have n10_ := Gv.a0 (Gv.ngt hg BK196.out : gb225 ≠ gb196)
                  have n11_ := Gv.a0 (Gv.nlt hg BK197.out : gb197 ≠ gb225)
                  have n12_ := Gv.a0 (Gv.ngt hg BK197.out : gb225 ≠ gb197)
                  have n13_ := Gv.a0 (Gv.nlt hg BK210.out : gb210 ≠ gb225)
                  have n14_ := Gv.a0 (Gv.ngt hg BK210.out : gb225 ≠ gb210)
                  have n15_ := Gv.a0 (Gv.nlt hg BK211.out : gb211 ≠ gb225)
                  have n16_ := Gv.a0 (Gv.ngt hg BK211.out : gb225 ≠ gb211)
                  have n17_ := Gv.a0 (Gv.nlt hg BK224.out : gb224 ≠ gb225)
                  have n18_ := Gv.a0 (Gv.ngt hg BK224.out : gb225 ≠ gb224)
                  clear BK196 BK197 BK210 BK211 BK224 HB; have BK196 := n0_; have BK197 := n1_; have BK210 := n2_; have BK211 := n3_; have BK224 := n4_; have HB := n5_; have BK225 := n6_; have GW225 := n7_; have GE225 := n8_; have NB196_225 := n9_; have NB225_196 := n10_; have NB197_225 := n11_; have NB225_197 := n12_; have NB210_225 := n13_; have NB225_210 := n14_; have NB211_225 := n15_; have NB225_211 := n16_; have NB224_225 := n17_; have NB225_224 := n18_; clear n0_ n1_ n2_ n3_ n4_ n5_ n6_ n7_ n8_ n9_ n10_ n11_ n12_ n13_ n14_ n15_ n16_ n17_ n18_; clear hb hbox hg
                  refine hK.out _ _ ⟨(blk_cell BK196.out 0).trans rfl, (blk_cell BK196.out 1).trans rfl, (blk_cell BK196.out 2).trans rfl, (blk_cell BK197.out 0).trans rfl, (blk_cell BK197.out 1).trans rfl, (blk_cell BK197.out 2).trans rfl⟩ (fun hHeld => ?_)
                  clear hK K
                  refine norm_ (a' := ?_) ?_ ?_
                  rotate_left
                  ·show Act.put _ (some 8) _ = _
                   simp only [Act.put, List.setIfInBounds_toArray, List.set_cons_zero, List.set_cons_succ, i64_w, i32_w]
                   rfl
                  exact Gv.nm (hJ8_9 (gb224, gb225) _ ⟨hHeld, BK196.out, BK197.out, BK210.out, BK211.out, BK224.out, BK225.out, GW224.out, GE224.out, NB196_224.out, NB224_196.out, NB197_224.out, NB224_197.out, NB210_224.out, NB224_210.out, NB211_224.out, NB224_211.out, NB225_224.out, NB224_225.out, GW225.out, GE225.out, NB196_225.out, NB225_196.out, NB197_225.out, NB225_197.out, NB210_225.out, NB225_210.out, NB211_225.out, NB225_211.out, HB.out⟩)
               ·skip
                rintro _ w31 ⟨hS_, h0_, h1_, h2_, h3_, h4_⟩
                have n0_ : Aside0 (w31.heap[gb196]? = some (.cells #[.int .i64 a0_0, .int .i64 a0_1, .int .i64 a0_2] 23 (0, 0))) := ⟨h0_⟩
                have n1_ : Aside0 (w31.heap[gb197]? = some (.cells #[.int .i64 a1_0, .int .i64 a1_1, .int .i64 a1_2] 23 (0, 0))) := ⟨h1_⟩
                have n2_ : Aside0 (w31.heap[gb210]? = some (.cells #[.int .i64 t204, .int .i64 t205, .int .i64 t206] 26 (0, 0))) := ⟨h2_⟩
                have n3_ : Aside0 (w31.heap[gb211]? = some (.cells #[.int .i64 t207, .int .i64 t208, .int .i64 t209] 26 (0, 0))) := ⟨h3_⟩
                have n4_ : Aside0 (Below w.heap.size w w31) := ⟨h4_⟩
                clear BK196 BK197 BK210 BK211 HB; clear h0_ h1_ h2_ h3_ h4_; have BK196 := n0_; have BK197 := n1_; have BK210 := n2_; have BK211 := n3_; have HB := n4_; clear n0_ n1_ n2_ n3_ n4_
                have hHeld : w31.cell? ⟨gb196, 0, none⟩ = some (.int .i64 a0_0) ∧ w31.cell? ⟨gb196, 1, none⟩ = some (.int .i64 a0_1) ∧ w31.cell? ⟨gb196, 2, none⟩ = some (.int .i64 a0_2) ∧ w31.cell? ⟨gb197, 0, none⟩ = some (.int .i64 a1_0) ∧ w31.cell? ⟨gb197, 1, none⟩ = some (.int .i64 a1_1) ∧ w31.cell? ⟨gb197, 2, none⟩ = some (.int .i64 a1_2) := hS_
                refine norm_ (a' := ?_) ?_ ?_
                rotate_left
                ·simp only [putAll, Act.put, List.setIfInBounds_toArray, List.set_cons_zero, List.set_cons_succ]
                 rfl
                refine three_ (i := 3) (j := 8) (k := 9) (Ni := some 21) (Nj := some 7) (Nk := some 8) #[true, true, true, true, false, false, false, false, false, false, false, false] #[true, true, true, false, false, false, false, false, true, false, false, false] #[true, true, true, false, false, false, false, false, false, true, false, false] rfl rfl rfl rfl rfl rfl (three_of HT_.out (by kernel_rfl)) (by decide) (by decide) (by decide) (fun K hK => ?_) (fun K hK => ?_) (fun K hK => ?_)
                ·skip
                 refine goes_ Try.func16 (by kernel_rfl) rfl #[.agg #[.int .i64 a1_0, .int .i64 a1_1, .int .i64 a1_2]] (by rfl) rfl rfl (by (try simp only [List.map_toArray, List.map_cons, List.map_nil]); first | done | rfl | (simp only [List.length_drop, List.length_take]; rfl)) ?_
                 with_reducible refine (laws_toVec.calls a1_0 a1_1 a1_2 t215 t216 t217 _ A7.out).mono ?_
                 rintro e w32 ⟨rfl, hb⟩
                 refine ⟨_, rfl, ?_⟩
                 have n0_ := Gv.a0 (blk_below BK196.out hb)
                 have n1_ := Gv.a0 (blk_below BK197.out hb)
                 have n2_ := Gv.a0 (blk_below BK210.out hb)
                 have n3_ := Gv.a0 (blk_below BK211.out hb)
                 have n4_ := Gv.a0 (below_step HB.out hb)
                 clear BK196 BK197 BK210 BK211 HB; have BK196 := n0_; have BK197 := n1_; have BK210 := n2_; have BK211 := n3_; have HB := n4_; clear n0_ n1_ n2_ n3_ n4_; (try clear hb); (try clear hb2); (try clear hk); (try clear hi)
                 refine hK.out _ _ ⟨(blk_cell BK196.out 0).trans rfl, (blk_cell BK196.out 1).trans rfl, (blk_cell BK196.out 2).trans rfl, (blk_cell BK197.out 0).trans rfl, (blk_cell BK197.out 1).trans rfl, (blk_cell BK197.out 2).trans rfl⟩ (fun hHeld => ?_)
                 clear hK K
                 refine norm_ (a' := ?_) ?_ ?_
                 rotate_left
                 ·show Act.put _ (some 21) _ = _
                  simp only [Act.put, List.setIfInBounds_toArray, List.set_cons_zero, List.set_cons_succ, i64_w, i32_w]
                  rfl
                 exact Gv.nm (hJ1_3 () _ ⟨hHeld, BK196.out, BK197.out, BK210.out, BK211.out, HB.out⟩)
                ·skip
                 refine box_step ?hg (N := 7) ?hd (cs := #[.int .i64 0, .int .i64 0, .int .i64 0]) (t := 26) ?hr ?_; (case hd => rfl); (case hg => rfl); (case hr => first | (go_simp; done) | (go_simp; rfl))
                 intro gb224 hg w32 hbox hb
                 have n0_ := Gv.a0 (blk_below BK196.out hb)
                 have n1_ := Gv.a0 (blk_below BK197.out hb)
                 have n2_ := Gv.a0 (blk_below BK210.out hb)
                 have n3_ := Gv.a0 (blk_below BK211.out hb)
                 have n4_ := Gv.a0 (below_step HB.out hb)
                 have n5_ := Gv.a0 (hbox)
                 have n6_ := Gv.a0 (Gv.ble hg HB.out : w.heap.size ≤ gb224)
                 have n7_ := Gv.a0 (Gv.ble hg HB.out : w.heap.size ≤ gb224)
                 have n8_ := Gv.a0 (Gv.nlt hg BK196.out : gb196 ≠ gb224)
                 have n9_ := Gv.a0 (Gv.ngt hg BK196.out : gb224 ≠ gb196)
                 have n10_ := Gv.a0 (Gv.nlt hg BK197.out : gb197 ≠ gb224)
                 have n11_ := Gv.a0 (Gv.ngt hg BK197.out : gb224 ≠ gb197)
                 have n12_ := Gv.a0 (Gv.nlt hg BK210.out : gb210 ≠ gb224)
                 have n13_ := Gv.a0 (Gv.ngt hg BK210.out : gb224 ≠ gb210)
                 have n14_ := Gv.a0 (Gv.nlt hg BK211.out : gb211 ≠ gb224)
                 have n15_ := Gv.a0 (Gv.ngt hg BK211.out : gb224 ≠ gb211)
                 clear BK196 BK197 BK210 BK211 HB; have BK196 := n0_; have BK197 := n1_; have BK210 := n2_; have BK211 := n3_; have HB := n4_; have BK224 := n5_; have GW224 := n6_; have GE224 := n7_; have NB196_224 := n8_; have NB224_196 := n9_; have NB197_224 := n10_; have NB224_197 := n11_; have NB210_224 := n12_; have NB224_210 := n13_; have NB211_224 := n14_; have NB224_211 := n15_; clear n0_ n1_ n2_ n3_ n4_ n5_ n6_ n7_ n8_ n9_ n10_ n11_ n12_ n13_ n14_ n15_; clear hb hbox hg
                 refine hK.out _ _ ⟨(blk_cell BK196.out 0).trans rfl, (blk_cell BK196.out 1).trans rfl, (blk_cell BK196.out 2).trans rfl, (blk_cell BK197.out 0).trans rfl, (blk_cell BK197.out 1).trans rfl, (blk_cell BK197.out 2).trans rfl⟩ (fun hHeld => ?_)
                 clear hK K
                 refine norm_ (a' := ?_) ?_ ?_
                 rotate_left
                 ·show Act.put _ (some 7) _ = _
                  simp only [Act.put, List.setIfInBounds_toArray, List.set_cons_zero, List.set_cons_succ, i64_w, i32_w]
                  rfl
                 exact Gv.nm (hJ1_8 (gb224) _ ⟨hHeld, BK196.out, BK197.out, BK210.out, BK211.out, BK224.out, GW224.out, GE224.out, NB196_224.out, NB224_196.out, NB197_224.out, NB224_197.out, NB210_224.out, NB224_210.out, NB211_224.out, NB224_211.out, HB.out⟩)
                ·skip
                 refine box_step ?hg (N := 8) ?hd (cs := #[.int .i64 0, .int .i64 0, .int .i64 0]) (t := 26) ?hr ?_; (case hd => rfl); (case hg => rfl); (case hr => first | (go_simp; done) | (go_simp; rfl))
                 intro gb225 hg w32 hbox hb
                 have n0_ := Gv.a0 (blk_below BK196.out hb)
                 have n1_ := Gv.a0 (blk_below BK197.out hb)
                 have n2_ := Gv.a0 (blk_below BK210.out hb)
                 have n3_ := Gv.a0 (blk_below BK211.out hb)
                 have n4_ := Gv.a0 (below_step HB.out hb)
                 have n5_ := Gv.a0 (hbox)
                 have n6_ := Gv.a0 (Gv.ble hg HB.out : w.heap.size ≤ gb225)
                 have n7_ := Gv.a0 (Gv.ble hg HB.out : w.heap.size ≤ gb225)
                 have n8_ := Gv.a0 (Gv.nlt hg BK196.out : gb196 ≠ gb225)
                 have n9_ := Gv.a0 (Gv.ngt hg BK196.out : gb225 ≠ gb196)
                 have n10_ := Gv.a0 (Gv.nlt hg BK197.out : gb197 ≠ gb225)
                 have n11_ := Gv.a0 (Gv.ngt hg BK197.out : gb225 ≠ gb197)
                 have n12_ := Gv.a0 (Gv.nlt hg BK210.out : gb210 ≠ gb225)
                 have n13_ := Gv.a0 (Gv.ngt hg BK210.out : gb225 ≠ gb210)
                 have n14_ := Gv.a0 (Gv.nlt hg BK211.out : gb211 ≠ gb225)
                 have n15_ := Gv.a0 (Gv.ngt hg BK211.out : gb225 ≠ gb211)
                 clear BK196 BK197 BK210 BK211 HB; have BK196 := n0_; have BK197 := n1_; have BK210 := n2_; have BK211 := n3_; have HB := n4_; have BK225 := n5_; have GW225 := n6_; have GE225 := n7_; have NB196_225 := n8_; have NB225_196 := n9_; have NB197_225 := n10_; have NB225_197 := n11_; have NB210_225 := n12_; have NB225_210 := n13_; have NB211_225 := n14_; have NB225_211 := n15_; clear n0_ n1_ n2_ n3_ n4_ n5_ n6_ n7_ n8_ n9_ n10_ n11_ n12_ n13_ n14_ n15_; clear hb hbox hg
                 refine hK.out _ _ ⟨(blk_cell BK196.out 0).trans rfl, (blk_cell BK196.out 1).trans rfl, (blk_cell BK196.out 2).trans rfl, (blk_cell BK197.out 0).trans rfl, (blk_cell BK197.out 1).trans rfl, (blk_cell BK197.out 2).trans rfl⟩ (fun hHeld => ?_)
                 clear hK K
                 refine norm_ (a' := ?_) ?_ ?_
                 rotate_left
                 ·show Act.put _ (some 8) _ = _
                  simp only [Act.put, List.setIfInBounds_toArray, List.set_cons_zero, List.set_cons_succ, i64_w, i32_w]
                  rfl
                 exact Gv.nm (hJ1_9 (gb225) _ ⟨hHeld, BK196.out, BK197.out, BK210.out, BK211.out, BK225.out, GW225.out, GE225.out, NB196_225.out, NB225_196.out, NB197_225.out, NB225_197.out, NB210_225.out, NB225_210.out, NB211_225.out, NB225_211.out, HB.out⟩)
              ·skip
               rintro ⟨gb224, gb225⟩ w32 ⟨hS_, h0_, h1_, h2_, h3_, h4_, h5_, h6_, h7_, h8_, h9_, h10_, h11_, h12_, h13_, h14_, h15_, h16_, h17_, h18_, h19_, h20_, h21_, h22_, h23_, h24_, h25_, h26_, h27_, h28_⟩
               have n0_ : Aside0 (w32.heap[gb196]? = some (.cells #[.int .i64 a0_0, .int .i64 a0_1, .int .i64 a0_2] 23 (0, 0))) := ⟨h0_⟩
               have n1_ : Aside0 (w32.heap[gb197]? = some (.cells #[.int .i64 a1_0, .int .i64 a1_1, .int .i64 a1_2] 23 (0, 0))) := ⟨h1_⟩
               have n2_ : Aside0 (w32.heap[gb210]? = some (.cells #[.int .i64 t204, .int .i64 t205, .int .i64 t206] 26 (0, 0))) := ⟨h2_⟩
               have n3_ : Aside0 (w32.heap[gb211]? = some (.cells #[.int .i64 t207, .int .i64 t208, .int .i64 t209] 26 (0, 0))) := ⟨h3_⟩
               have n4_ : Aside0 (w32.heap[gb224]? = some (.cells #[.int .i64 0, .int .i64 0, .int .i64 0] 26 (0, 0))) := ⟨h4_⟩
               have n5_ : Aside0 (w32.heap[gb225]? = some (.cells #[.int .i64 0, .int .i64 0, .int .i64 0] 26 (0, 0))) := ⟨h5_⟩
               have n6_ : Aside0 (w.heap.size ≤ gb224) := ⟨h6_⟩
               have n7_ : Aside0 (w.heap.size ≤ gb224) := ⟨h7_⟩
               have n8_ : Aside0 (gb196 ≠ gb224) := ⟨h8_⟩
               have n9_ : Aside0 (gb224 ≠ gb196) := ⟨h9_⟩
               have n10_ : Aside0 (gb197 ≠ gb224) := ⟨h10_⟩
               have n11_ : Aside0 (gb224 ≠ gb197) := ⟨h11_⟩
               have n12_ : Aside0 (gb210 ≠ gb224) := ⟨h12_⟩
               have n13_ : Aside0 (gb224 ≠ gb210) := ⟨h13_⟩
               have n14_ : Aside0 (gb211 ≠ gb224) := ⟨h14_⟩
               have n15_ : Aside0 (gb224 ≠ gb211) := ⟨h15_⟩
               have n16_ : Aside0 (gb225 ≠ gb224) := ⟨h16_⟩
               have n17_ : Aside0 (gb224 ≠ gb225) := ⟨h17_⟩
               have n18_ : Aside0 (w.heap.size ≤ gb225) := ⟨h18_⟩
               have n19_ : Aside0 (w.heap.size ≤ gb225) := ⟨h19_⟩
               have n20_ : Aside0 (gb196 ≠ gb225) := ⟨h20_⟩
               have n21_ : Aside0 (gb225 ≠ gb196) := ⟨h21_⟩
               have n22_ : Aside0 (gb197 ≠ gb225) := ⟨h22_⟩
               have n23_ : Aside0 (gb225 ≠ gb197) := ⟨h23_⟩
               have n24_ : Aside0 (gb210 ≠ gb225) := ⟨h24_⟩
               have n25_ : Aside0 (gb225 ≠ gb210) := ⟨h25_⟩
               have n26_ : Aside0 (gb211 ≠ gb225) := ⟨h26_⟩
               have n27_ : Aside0 (gb225 ≠ gb211) := ⟨h27_⟩
               have n28_ : Aside0 (Below w.heap.size w w32) := ⟨h28_⟩
               clear BK196 BK197 BK210 BK211 HB; clear h0_ h1_ h2_ h3_ h4_ h5_ h6_ h7_ h8_ h9_ h10_ h11_ h12_ h13_ h14_ h15_ h16_ h17_ h18_ h19_ h20_ h21_ h22_ h23_ h24_ h25_ h26_ h27_ h28_; have BK196 := n0_; have BK197 := n1_; have BK210 := n2_; have BK211 := n3_; have BK224 := n4_; have BK225 := n5_; have GW224 := n6_; have GE224 := n7_; have NB196_224 := n8_; have NB224_196 := n9_; have NB197_224 := n10_; have NB224_197 := n11_; have NB210_224 := n12_; have NB224_210 := n13_; have NB211_224 := n14_; have NB224_211 := n15_; have NB225_224 := n16_; have NB224_225 := n17_; have GW225 := n18_; have GE225 := n19_; have NB196_225 := n20_; have NB225_196 := n21_; have NB197_225 := n22_; have NB225_197 := n23_; have NB210_225 := n24_; have NB225_210 := n25_; have NB211_225 := n26_; have NB225_211 := n27_; have HB := n28_; clear n0_ n1_ n2_ n3_ n4_ n5_ n6_ n7_ n8_ n9_ n10_ n11_ n12_ n13_ n14_ n15_ n16_ n17_ n18_ n19_ n20_ n21_ n22_ n23_ n24_ n25_ n26_ n27_ n28_
               have hHeld : w32.cell? ⟨gb196, 0, none⟩ = some (.int .i64 a0_0) ∧ w32.cell? ⟨gb196, 1, none⟩ = some (.int .i64 a0_1) ∧ w32.cell? ⟨gb196, 2, none⟩ = some (.int .i64 a0_2) ∧ w32.cell? ⟨gb197, 0, none⟩ = some (.int .i64 a1_0) ∧ w32.cell? ⟨gb197, 1, none⟩ = some (.int .i64 a1_1) ∧ w32.cell? ⟨gb197, 2, none⟩ = some (.int .i64 a1_2) := hS_
               refine norm_ (a' := ?_) ?_ ?_
               rotate_left
               ·simp only [putAll, Act.put, List.setIfInBounds_toArray, List.set_cons_zero, List.set_cons_succ]
                rfl
               refine one_ (i := 1) (N := some 19) #[true, true, true, false, false, false, false, false, true, true, false, false] rfl rfl (one_of HT_.out (by kernel_rfl)) (by decide) (fun K hK => ?_)
               refine goes_ Try.func16 (by kernel_rfl) rfl #[.agg #[.int .i64 a0_0, .int .i64 a0_1, .int .i64 a0_2]] (by rfl) rfl rfl (by (try simp only [List.map_toArray, List.map_cons, List.map_nil]); first | done | rfl | (simp only [List.length_drop, List.length_take]; rfl)) ?_
               with_reducible refine (laws_toVec.calls a0_0 a0_1 a0_2 t212 t213 t214 _ A6.out).mono ?_
               rintro e w33 ⟨rfl, hb⟩
               refine ⟨_, rfl, ?_⟩
               have n0_ := Gv.a0 (blk_below BK196.out hb)
               have n1_ := Gv.a0 (blk_below BK197.out hb)
               have n2_ := Gv.a0 (blk_below BK210.out hb)
               have n3_ := Gv.a0 (blk_below BK211.out hb)
               have n4_ := Gv.a0 (blk_below BK224.out hb)
               have n5_ := Gv.a0 (blk_below BK225.out hb)
               have n6_ := Gv.a0 (below_step HB.out hb)
               clear BK196 BK197 BK210 BK211 BK224 BK225 HB; have BK196 := n0_; have BK197 := n1_; have BK210 := n2_; have BK211 := n3_; have BK224 := n4_; have BK225 := n5_; have HB := n6_; clear n0_ n1_ n2_ n3_ n4_ n5_ n6_; (try clear hb); (try clear hb2); (try clear hk); (try clear hi)
               refine hK.out _ _ ⟨(blk_cell BK196.out 0).trans rfl, (blk_cell BK196.out 1).trans rfl, (blk_cell BK196.out 2).trans rfl, (blk_cell BK197.out 0).trans rfl, (blk_cell BK197.out 1).trans rfl, (blk_cell BK197.out 2).trans rfl⟩ (fun hHeld => ?_)
               clear hK K
               refine norm_ (a' := ?_) ?_ ?_
               rotate_left
               ·show Act.put _ (some 19) _ = _
                simp only [Act.put, List.setIfInBounds_toArray, List.set_cons_zero, List.set_cons_succ, i64_w, i32_w]
                rfl
               exact Gv.nm (hJ1_8_9 (gb224, gb225) _ ⟨hHeld, BK196.out, BK197.out, BK210.out, BK211.out, BK224.out, BK225.out, GW224.out, GE224.out, NB196_224.out, NB224_196.out, NB197_224.out, NB224_197.out, NB210_224.out, NB224_210.out, NB211_224.out, NB224_211.out, NB225_224.out, NB224_225.out, GW225.out, GE225.out, NB196_225.out, NB225_196.out, NB197_225.out, NB225_197.out, NB210_225.out, NB225_210.out, NB211_225.out, NB225_211.out, HB.out⟩)
             ·skip
              rintro gb225 w32 ⟨hS_, h0_, h1_, h2_, h3_, h4_, h5_, h6_, h7_, h8_, h9_, h10_, h11_, h12_, h13_, h14_, h15_⟩
              have n0_ : Aside0 (w32.heap[gb196]? = some (.cells #[.int .i64 a0_0, .int .i64 a0_1, .int .i64 a0_2] 23 (0, 0))) := ⟨h0_⟩
              have n1_ : Aside0 (w32.heap[gb197]? = some (.cells #[.int .i64 a1_0, .int .i64 a1_1, .int .i64 a1_2] 23 (0, 0))) := ⟨h1_⟩
              have n2_ : Aside0 (w32.heap[gb210]? = some (.cells #[.int .i64 t204, .int .i64 t205, .int .i64 t206] 26 (0, 0))) := ⟨h2_⟩
              have n3_ : Aside0 (w32.heap[gb211]? = some (.cells #[.int .i64 t207, .int .i64 t208, .int .i64 t209] 26 (0, 0))) := ⟨h3_⟩
              have n4_ : Aside0 (w32.heap[gb225]? = some (.cells #[.int .i64 0, .int .i64 0, .int .i64 0] 26 (0, 0))) := ⟨h4_⟩
              have n5_ : Aside0 (w.heap.size ≤ gb225) := ⟨h5_⟩
              have n6_ : Aside0 (w.heap.size ≤ gb225) := ⟨h6_⟩
              have n7_ : Aside0 (gb196 ≠ gb225) := ⟨h7_⟩
              have n8_ : Aside0 (gb225 ≠ gb196) := ⟨h8_⟩
              have n9_ : Aside0 (gb197 ≠ gb225) := ⟨h9_⟩
              have n10_ : Aside0 (gb225 ≠ gb197) := ⟨h10_⟩
              have n11_ : Aside0 (gb210 ≠ gb225) := ⟨h11_⟩
              have n12_ : Aside0 (gb225 ≠ gb210) := ⟨h12_⟩
              have n13_ : Aside0 (gb211 ≠ gb225) := ⟨h13_⟩
              have n14_ : Aside0 (gb225 ≠ gb211) := ⟨h14_⟩
              have n15_ : Aside0 (Below w.heap.size w w32) := ⟨h15_⟩
              clear BK196 BK197 BK210 BK211 HB; clear h0_ h1_ h2_ h3_ h4_ h5_ h6_ h7_ h8_ h9_ h10_ h11_ h12_ h13_ h14_ h15_; have BK196 := n0_; have BK197 := n1_; have BK210 := n2_; have BK211 := n3_; have BK225 := n4_; have GW225 := n5_; have GE225 := n6_; have NB196_225 := n7_; have NB225_196 := n8_; have NB197_225 := n9_; have NB225_197 := n10_; have NB210_225 := n11_; have NB225_210 := n12_; have NB211_225 := n13_; have NB225_211 := n14_; have HB := n15_; clear n0_ n1_ n2_ n3_ n4_ n5_ n6_ n7_ n8_ n9_ n10_ n11_ n12_ n13_ n14_ n15_
              have hHeld : w32.cell? ⟨gb196, 0, none⟩ = some (.int .i64 a0_0) ∧ w32.cell? ⟨gb196, 1, none⟩ = some (.int .i64 a0_1) ∧ w32.cell? ⟨gb196, 2, none⟩ = some (.int .i64 a0_2) ∧ w32.cell? ⟨gb197, 0, none⟩ = some (.int .i64 a1_0) ∧ w32.cell? ⟨gb197, 1, none⟩ = some (.int .i64 a1_1) ∧ w32.cell? ⟨gb197, 2, none⟩ = some (.int .i64 a1_2) := hS_
              refine norm_ (a' := ?_) ?_ ?_
              rotate_left
              ·simp only [putAll, Act.put, List.setIfInBounds_toArray, List.set_cons_zero, List.set_cons_succ]
               rfl
              refine two_ (i := 3) (j := 8) (Ni := some 21) (Nj := some 7) #[true, true, true, true, false, false, false, false, false, true, false, false] #[true, true, true, false, false, false, false, false, true, true, false, false] rfl rfl rfl rfl (two_of HT_.out (by kernel_rfl)) (by decide) (by decide) (fun K hK => ?_) (fun K hK => ?_)
              ·skip
               refine goes_ Try.func16 (by kernel_rfl) rfl #[.agg #[.int .i64 a1_0, .int .i64 a1_1, .int .i64 a1_2]] (by rfl) rfl rfl (by (try simp only [List.map_toArray, List.map_cons, List.map_nil]); first | done | rfl | (simp only [List.length_drop, List.length_take]; rfl)) ?_
               with_reducible refine (laws_toVec.calls a1_0 a1_1 a1_2 t215 t216 t217 _ A7.out).mono ?_
               rintro e w33 ⟨rfl, hb⟩
               refine ⟨_, rfl, ?_⟩
               have n0_ := Gv.a0 (blk_below BK196.out hb)
               have n1_ := Gv.a0 (blk_below BK197.out hb)
               have n2_ := Gv.a0 (blk_below BK210.out hb)
               have n3_ := Gv.a0 (blk_below BK211.out hb)
               have n4_ := Gv.a0 (blk_below BK225.out hb)
               have n5_ := Gv.a0 (below_step HB.out hb)
               clear BK196 BK197 BK210 BK211 BK225 HB; have BK196 := n0_; have BK197 := n1_; have BK210 := n2_; have BK211 := n3_; have BK225 := n4_; have HB := n5_; clear n0_ n1_ n2_ n3_ n4_ n5_; (try clear hb); (try clear hb2); (try clear hk); (try clear hi)
               refine hK.out _ _ ⟨(blk_cell BK196.out 0).trans rfl, (blk_cell BK196.out 1).trans rfl, (blk_cell BK196.out 2).trans rfl, (blk_cell BK197.out 0).trans rfl, (blk_cell BK197.out 1).trans rfl, (blk_cell BK197.out 2).trans rfl⟩ (fun hHeld => ?_)
               clear hK K
               refine norm_ (a' := ?_) ?_ ?_
               rotate_left
               ·show Act.put _ (some 21) _ = _
                simp only [Act.put, List.setIfInBounds_toArray, List.set_cons_zero, List.set_cons_succ, i64_w, i32_w]
                rfl
               exact Gv.nm (hJ1_3_9 (gb225) _ ⟨hHeld, BK196.out, BK197.out, BK210.out, BK211.out, BK225.out, GW225.out, GE225.out, NB196_225.out, NB225_196.out, NB197_225.out, NB225_197.out, NB210_225.out, NB225_210.out, NB211_225.out, NB225_211.out, HB.out⟩)
              ·skip
               refine box_step ?hg (N := 7) ?hd (cs := #[.int .i64 0, .int .i64 0, .int .i64 0]) (t := 26) ?hr ?_; (case hd => rfl); (case hg => rfl); (case hr => first | (go_simp; done) | (go_simp; rfl))
               intro gb224 hg w33 hbox hb
               have n0_ := Gv.a0 (blk_below BK196.out hb)
               have n1_ := Gv.a0 (blk_below BK197.out hb)
               have n2_ := Gv.a0 (blk_below BK210.out hb)
               have n3_ := Gv.a0 (blk_below BK211.out hb)
               have n4_ := Gv.a0 (blk_below BK225.out hb)
               have n5_ := Gv.a0 (below_step HB.out hb)
               have n6_ := Gv.a0 (hbox)
               have n7_ := Gv.a0 (Gv.ble hg HB.out : w.heap.size ≤ gb224)
               have n8_ := Gv.a0 (Gv.ble hg HB.out : w.heap.size ≤ gb224)
               have n9_ := Gv.a0 (Gv.nlt hg BK196.out : gb196 ≠ gb224)
               have n10_ := Gv.a0 (Gv.ngt hg BK196.out : gb224 ≠ gb196)
               have n11_ := Gv.a0 (Gv.nlt hg BK197.out : gb197 ≠ gb224)
               have n12_ := Gv.a0 (Gv.ngt hg BK197.out : gb224 ≠ gb197)
               have n13_ := Gv.a0 (Gv.nlt hg BK210.out : gb210 ≠ gb224)
               have n14_ := Gv.a0 (Gv.ngt hg BK210.out : gb224 ≠ gb210)
               have n15_ := Gv.a0 (Gv.nlt hg BK211.out : gb211 ≠ gb224)
               have n16_ := Gv.a0 (Gv.ngt hg BK211.out : gb224 ≠ gb211)
               have n17_ := Gv.a0 (Gv.nlt hg BK225.out : gb225 ≠ gb224)
               have n18_ := Gv.a0 (Gv.ngt hg BK225.out : gb224 ≠ gb225)
               clear BK196 BK197 BK210 BK211 BK225 HB; have BK196 := n0_; have BK197 := n1_; have BK210 := n2_; have BK211 := n3_; have BK225 := n4_; have HB := n5_; have BK224 := n6_; have GW224 := n7_; have GE224 := n8_; have NB196_224 := n9_; have NB224_196 := n10_; have NB197_224 := n11_; have NB224_197 := n12_; have NB210_224 := n13_; have NB224_210 := n14_; have NB211_224 := n15_; have NB224_211 := n16_; have NB225_224 := n17_; have NB224_225 := n18_; clear n0_ n1_ n2_ n3_ n4_ n5_ n6_ n7_ n8_ n9_ n10_ n11_ n12_ n13_ n14_ n15_ n16_ n17_ n18_; clear hb hbox hg
               refine hK.out _ _ ⟨(blk_cell BK196.out 0).trans rfl, (blk_cell BK196.out 1).trans rfl, (blk_cell BK196.out 2).trans rfl, (blk_cell BK197.out 0).trans rfl, (blk_cell BK197.out 1).trans rfl, (blk_cell BK197.out 2).trans rfl⟩ (fun hHeld => ?_)
               clear hK K
               refine norm_ (a' := ?_) ?_ ?_
               rotate_left
               ·show Act.put _ (some 7) _ = _
                simp only [Act.put, List.setIfInBounds_toArray, List.set_cons_zero, List.set_cons_succ, i64_w, i32_w]
                rfl
               exact Gv.nm (hJ1_8_9 (gb224, gb225) _ ⟨hHeld, BK196.out, BK197.out, BK210.out, BK211.out, BK224.out, BK225.out, GW224.out, GE224.out, NB196_224.out, NB224_196.out, NB197_224.out, NB224_197.out, NB210_224.out, NB224_210.out, NB211_224.out, NB224_211.out, NB225_224.out, NB224_225.out, GW225.out, GE225.out, NB196_225.out, NB225_196.out, NB197_225.out, NB225_197.out, NB210_225.out, NB225_210.out, NB211_225.out, NB225_211.out, HB.out⟩)
            ·skip
             rintro gb224 w32 ⟨hS_, h0_, h1_, h2_, h3_, h4_, h5_, h6_, h7_, h8_, h9_, h10_, h11_, h12_, h13_, h14_, h15_⟩
             have n0_ : Aside0 (w32.heap[gb196]? = some (.cells #[.int .i64 a0_0, .int .i64 a0_1, .int .i64 a0_2] 23 (0, 0))) := ⟨h0_⟩
             have n1_ : Aside0 (w32.heap[gb197]? = some (.cells #[.int .i64 a1_0, .int .i64 a1_1, .int .i64 a1_2] 23 (0, 0))) := ⟨h1_⟩
             have n2_ : Aside0 (w32.heap[gb210]? = some (.cells #[.int .i64 t204, .int .i64 t205, .int .i64 t206] 26 (0, 0))) := ⟨h2_⟩
             have n3_ : Aside0 (w32.heap[gb211]? = some (.cells #[.int .i64 t207, .int .i64 t208, .int .i64 t209] 26 (0, 0))) := ⟨h3_⟩
             have n4_ : Aside0 (w32.heap[gb224]? = some (.cells #[.int .i64 0, .int .i64 0, .int .i64 0] 26 (0, 0))) := ⟨h4_⟩
             have n5_ : Aside0 (w.heap.size ≤ gb224) := ⟨h5_⟩
             have n6_ : Aside0 (w.heap.size ≤ gb224) := ⟨h6_⟩
             have n7_ : Aside0 (gb196 ≠ gb224) := ⟨h7_⟩
             have n8_ : Aside0 (gb224 ≠ gb196) := ⟨h8_⟩
             have n9_ : Aside0 (gb197 ≠ gb224) := ⟨h9_⟩
             have n10_ : Aside0 (gb224 ≠ gb197) := ⟨h10_⟩
             have n11_ : Aside0 (gb210 ≠ gb224) := ⟨h11_⟩
             have n12_ : Aside0 (gb224 ≠ gb210) := ⟨h12_⟩
             have n13_ : Aside0 (gb211 ≠ gb224) := ⟨h13_⟩
             have n14_ : Aside0 (gb224 ≠ gb211) := ⟨h14_⟩
             have n15_ : Aside0 (Below w.heap.size w w32) := ⟨h15_⟩
             clear BK196 BK197 BK210 BK211 HB; clear h0_ h1_ h2_ h3_ h4_ h5_ h6_ h7_ h8_ h9_ h10_ h11_ h12_ h13_ h14_ h15_; have BK196 := n0_; have BK197 := n1_; have BK210 := n2_; have BK211 := n3_; have BK224 := n4_; have GW224 := n5_; have GE224 := n6_; have NB196_224 := n7_; have NB224_196 := n8_; have NB197_224 := n9_; have NB224_197 := n10_; have NB210_224 := n11_; have NB224_210 := n12_; have NB211_224 := n13_; have NB224_211 := n14_; have HB := n15_; clear n0_ n1_ n2_ n3_ n4_ n5_ n6_ n7_ n8_ n9_ n10_ n11_ n12_ n13_ n14_ n15_
             have hHeld : w32.cell? ⟨gb196, 0, none⟩ = some (.int .i64 a0_0) ∧ w32.cell? ⟨gb196, 1, none⟩ = some (.int .i64 a0_1) ∧ w32.cell? ⟨gb196, 2, none⟩ = some (.int .i64 a0_2) ∧ w32.cell? ⟨gb197, 0, none⟩ = some (.int .i64 a1_0) ∧ w32.cell? ⟨gb197, 1, none⟩ = some (.int .i64 a1_1) ∧ w32.cell? ⟨gb197, 2, none⟩ = some (.int .i64 a1_2) := hS_
             refine norm_ (a' := ?_) ?_ ?_
             rotate_left
             ·simp only [putAll, Act.put, List.setIfInBounds_toArray, List.set_cons_zero, List.set_cons_succ]
              rfl
             refine two_ (i := 3) (j := 9) (Ni := some 21) (Nj := some 8) #[true, true, true, true, false, false, false, false, true, false, false, false] #[true, true, true, false, false, false, false, false, true, true, false, false] rfl rfl rfl rfl (two_of HT_.out (by kernel_rfl)) (by decide) (by decide) (fun K hK => ?_) (fun K hK => ?_)
             ·skip
              refine goes_ Try.func16 (by kernel_rfl) rfl #[.agg #[.int .i64 a1_0, .int .i64 a1_1, .int .i64 a1_2]] (by rfl) rfl rfl (by (try simp only [List.map_toArray, List.map_cons, List.map_nil]); first | done | rfl | (simp only [List.length_drop, List.length_take]; rfl)) ?_
              with_reducible refine (laws_toVec.calls a1_0 a1_1 a1_2 t215 t216 t217 _ A7.out).mono ?_
              rintro e w33 ⟨rfl, hb⟩
              refine ⟨_, rfl, ?_⟩
              have n0_ := Gv.a0 (blk_below BK196.out hb)
              have n1_ := Gv.a0 (blk_below BK197.out hb)
              have n2_ := Gv.a0 (blk_below BK210.out hb)
              have n3_ := Gv.a0 (blk_below BK211.out hb)
              have n4_ := Gv.a0 (blk_below BK224.out hb)
              have n5_ := Gv.a0 (below_step HB.out hb)
              clear BK196 BK197 BK210 BK211 BK224 HB; have BK196 := n0_; have BK197 := n1_; have BK210 := n2_; have BK211 := n3_; have BK224 := n4_; have HB := n5_; clear n0_ n1_ n2_ n3_ n4_ n5_; (try clear hb); (try clear hb2); (try clear hk); (try clear hi)
              refine hK.out _ _ ⟨(blk_cell BK196.out 0).trans rfl, (blk_cell BK196.out 1).trans rfl, (blk_cell BK196.out 2).trans rfl, (blk_cell BK197.out 0).trans rfl, (blk_cell BK197.out 1).trans rfl, (blk_cell BK197.out 2).trans rfl⟩ (fun hHeld => ?_)
              clear hK K
              refine norm_ (a' := ?_) ?_ ?_
              rotate_left
              ·show Act.put _ (some 21) _ = _
               simp only [Act.put, List.setIfInBounds_toArray, List.set_cons_zero, List.set_cons_succ, i64_w, i32_w]
               rfl
              exact Gv.nm (hJ1_3_8 (gb224) _ ⟨hHeld, BK196.out, BK197.out, BK210.out, BK211.out, BK224.out, GW224.out, GE224.out, NB196_224.out, NB224_196.out, NB197_224.out, NB224_197.out, NB210_224.out, NB224_210.out, NB211_224.out, NB224_211.out, HB.out⟩)
             ·skip
              refine box_step ?hg (N := 8) ?hd (cs := #[.int .i64 0, .int .i64 0, .int .i64 0]) (t := 26) ?hr ?_; (case hd => rfl); (case hg => rfl); (case hr => first | (go_simp; done) | (go_simp; rfl))
              intro gb225 hg w33 hbox hb
              have n0_ := Gv.a0 (blk_below BK196.out hb)
              have n1_ := Gv.a0 (blk_below BK197.out hb)
              have n2_ := Gv.a0 (blk_below BK210.out hb)
              have n3_ := Gv.a0 (blk_below BK211.out hb)
              have n4_ := Gv.a0 (blk_below BK224.out hb)
              have n5_ := Gv.a0 (below_step HB.out hb)
              have n6_ := Gv.a0 (hbox)
              have n7_ := Gv.a0 (Gv.ble hg HB.out : w.heap.size ≤ gb225)
              have n8_ := Gv.a0 (Gv.ble hg HB.out : w.heap.size ≤ gb225)
              have n9_ := Gv.a0 (Gv.nlt hg BK196.out : gb196 ≠ gb225)
              have n10_ := Gv.a0 (Gv.ngt hg BK196.out : gb225 ≠ gb196)
              have n11_ := Gv.a0 (Gv.nlt hg BK197.out : gb197 ≠ gb225)
              have n12_ := Gv.a0 (Gv.ngt hg BK197.out : gb225 ≠ gb197)
              have n13_ := Gv.a0 (Gv.nlt hg BK210.out : gb210 ≠ gb225)
              have n14_ := Gv.a0 (Gv.ngt hg BK210.out : gb225 ≠ gb210)
              have n15_ := Gv.a0 (Gv.nlt hg BK211.out : gb211 ≠ gb225)
              have n16_ := Gv.a0 (Gv.ngt hg BK211.out : gb225 ≠ gb211)
              have n17_ := Gv.a0 (Gv.nlt hg BK224.out : gb224 ≠ gb225)
              have n18_ := Gv.a0 (Gv.ngt hg BK224.out : gb225 ≠ gb224)
              clear BK196 BK197 BK210 BK211 BK224 HB; have BK196 := n0_; have BK197 := n1_; have BK210 := n2_; have BK211 := n3_; have BK224 := n4_; have HB := n5_; have BK225 := n6_; have GW225 := n7_; have GE225 := n8_; have NB196_225 := n9_; have NB225_196 := n10_; have NB197_225 := n11_; have NB225_197 := n12_; have NB210_225 := n13_; have NB225_210 := n14_; have NB211_225 := n15_; have NB225_211 := n16_; have NB224_225 := n17_; have NB225_224 := n18_; clear n0_ n1_ n2_ n3_ n4_ n5_ n6_ n7_ n8_ n9_ n10_ n11_ n12_ n13_ n14_ n15_ n16_ n17_ n18_; clear hb hbox hg
              refine hK.out _ _ ⟨(blk_cell BK196.out 0).trans rfl, (blk_cell BK196.out 1).trans rfl, (blk_cell BK196.out 2).trans rfl, (blk_cell BK197.out 0).trans rfl, (blk_cell BK197.out 1).trans rfl, (blk_cell BK197.out 2).trans rfl⟩ (fun hHeld => ?_)
              clear hK K
              refine norm_ (a' := ?_) ?_ ?_
              rotate_left
              ·show Act.put _ (some 8) _ = _
               simp only [Act.put, List.setIfInBounds_toArray, List.set_cons_zero, List.set_cons_succ, i64_w, i32_w]
               rfl
              exact Gv.nm (hJ1_8_9 (gb224, gb225) _ ⟨hHeld, BK196.out, BK197.out, BK210.out, BK211.out, BK224.out, BK225.out, GW224.out, GE224.out, NB196_224.out, NB224_196.out, NB197_224.out, NB224_197.out, NB210_224.out, NB224_210.out, NB211_224.out, NB224_211.out, NB225_224.out, NB224_225.out, GW225.out, GE225.out, NB196_225.out, NB225_196.out, NB197_225.out, NB225_197.out, NB210_225.out, NB225_210.out, NB211_225.out, NB225_211.out, HB.out⟩)
           ·skip
            rintro _ w32 ⟨hS_, h0_, h1_, h2_, h3_, h4_⟩
            have n0_ : Aside0 (w32.heap[gb196]? = some (.cells #[.int .i64 a0_0, .int .i64 a0_1, .int .i64 a0_2] 23 (0, 0))) := ⟨h0_⟩
            have n1_ : Aside0 (w32.heap[gb197]? = some (.cells #[.int .i64 a1_0, .int .i64 a1_1, .int .i64 a1_2] 23 (0, 0))) := ⟨h1_⟩
            have n2_ : Aside0 (w32.heap[gb210]? = some (.cells #[.int .i64 t204, .int .i64 t205, .int .i64 t206] 26 (0, 0))) := ⟨h2_⟩
            have n3_ : Aside0 (w32.heap[gb211]? = some (.cells #[.int .i64 t207, .int .i64 t208, .int .i64 t209] 26 (0, 0))) := ⟨h3_⟩
            have n4_ : Aside0 (Below w.heap.size w w32) := ⟨h4_⟩
            clear BK196 BK197 BK210 BK211 HB; clear h0_ h1_ h2_ h3_ h4_; have BK196 := n0_; have BK197 := n1_; have BK210 := n2_; have BK211 := n3_; have HB := n4_; clear n0_ n1_ n2_ n3_ n4_
            have hHeld : w32.cell? ⟨gb196, 0, none⟩ = some (.int .i64 a0_0) ∧ w32.cell? ⟨gb196, 1, none⟩ = some (.int .i64 a0_1) ∧ w32.cell? ⟨gb196, 2, none⟩ = some (.int .i64 a0_2) ∧ w32.cell? ⟨gb197, 0, none⟩ = some (.int .i64 a1_0) ∧ w32.cell? ⟨gb197, 1, none⟩ = some (.int .i64 a1_1) ∧ w32.cell? ⟨gb197, 2, none⟩ = some (.int .i64 a1_2) := hS_
            refine norm_ (a' := ?_) ?_ ?_
            rotate_left
            ·simp only [putAll, Act.put, List.setIfInBounds_toArray, List.set_cons_zero, List.set_cons_succ]
             rfl
            refine three_ (i := 4) (j := 8) (k := 9) (Ni := some 22) (Nj := some 7) (Nk := some 8) #[true, true, true, true, true, false, false, false, false, false, false, false] #[true, true, true, true, false, false, false, false, true, false, false, false] #[true, true, true, true, false, false, false, false, false, true, false, false] rfl rfl rfl rfl rfl rfl (three_of HT_.out (by kernel_rfl)) (by decide) (by decide) (by decide) (fun K hK => ?_) (fun K hK => ?_) (fun K hK => ?_)
            ·skip
             refine goes_ Try.func26 (by kernel_rfl) rfl #[.agg #[.int .i64 t212, .int .i64 t213, .int .i64 t214], .agg #[.int .i64 t215, .int .i64 t216, .int .i64 t217]] (by rfl) rfl rfl (by (try simp only [List.map_toArray, List.map_cons, List.map_nil]); first | done | rfl | (simp only [List.length_drop, List.length_take]; rfl)) ?_
             with_reducible refine (impl_Charge.calls k t212 t213 t214 t215 t216 t217 t218 t219 t220 t221 t222 t223 _ A8.out).mono ?_
             rintro e w33 ⟨rfl, hb⟩
             refine ⟨_, rfl, ?_⟩
             have n0_ := Gv.a0 (blk_below BK196.out hb)
             have n1_ := Gv.a0 (blk_below BK197.out hb)
             have n2_ := Gv.a0 (blk_below BK210.out hb)
             have n3_ := Gv.a0 (blk_below BK211.out hb)
             have n4_ := Gv.a0 (below_step HB.out hb)
             clear BK196 BK197 BK210 BK211 HB; have BK196 := n0_; have BK197 := n1_; have BK210 := n2_; have BK211 := n3_; have HB := n4_; clear n0_ n1_ n2_ n3_ n4_; (try clear hb); (try clear hb2); (try clear hk); (try clear hi)
             refine hK.out _ _ ⟨(blk_cell BK196.out 0).trans rfl, (blk_cell BK196.out 1).trans rfl, (blk_cell BK196.out 2).trans rfl, (blk_cell BK197.out 0).trans rfl, (blk_cell BK197.out 1).trans rfl, (blk_cell BK197.out 2).trans rfl⟩ (fun hHeld => ?_)
             clear hK K
             refine norm_ (a' := ?_) ?_ ?_
             rotate_left
             ·show Act.put _ (some 22) _ = _
              simp only [Act.put, List.setIfInBounds_toArray, List.set_cons_zero, List.set_cons_succ, i64_w, i32_w]
              rfl
             refine pure_ (i := 5) (N := some 17) (v := ?_) (a' := ?_) #[true, true, true, true, true, true, false, false, false, false, false, false] rfl rfl (any_of HT_.out (by kernel_rfl)) (fun _ _ _ h => h) (Or.inl ⟨by rfl, ?_⟩) ?_ ?_
             rotate_left
             ·intro w'
              go_simp
              with_reducible rfl
             rotate_left
             ·simp only [Act.put, List.setIfInBounds_toArray, List.set_cons_zero, List.set_cons_succ, i64_w, i32_w]
              rfl
             refine pure_ (i := 6) (N := some 23) (v := ?_) (a' := ?_) #[true, true, true, true, true, true, true, false, false, false, false, false] rfl rfl (any_of HT_.out (by kernel_rfl)) (fun _ _ _ h => h) (Or.inl ⟨by rfl, ?_⟩) ?_ ?_
             rotate_left
             ·intro w'
              go_simp
              with_reducible rfl
             rotate_left
             ·simp only [Act.put, List.setIfInBounds_toArray, List.set_cons_zero, List.set_cons_succ, i64_w, i32_w]
              rfl
             refine pure_ (i := 7) (N := some 24) (v := ?_) (a' := ?_) #[true, true, true, true, true, true, true, true, false, false, false, false] rfl rfl (any_of HT_.out (by kernel_rfl)) (fun _ _ _ h => h) (Or.inl ⟨by rfl, ?_⟩) ?_ ?_
             rotate_left
             ·intro w'
              go_simp
              with_reducible rfl
             rotate_left
             ·simp only [Act.put, List.setIfInBounds_toArray, List.set_cons_zero, List.set_cons_succ, i64_w, i32_w]
              rfl
             exact Gv.nm (hJ1_3_4 () _ ⟨hHeld, BK196.out, BK197.out, BK210.out, BK211.out, HB.out⟩)
            ·skip
             refine box_step ?hg (N := 7) ?hd (cs := #[.int .i64 0, .int .i64 0, .int .i64 0]) (t := 26) ?hr ?_; (case hd => rfl); (case hg => rfl); (case hr => first | (go_simp; done) | (go_simp; rfl))
             intro gb224 hg w33 hbox hb
             have n0_ := Gv.a0 (blk_below BK196.out hb)
             have n1_ := Gv.a0 (blk_below BK197.out hb)
             have n2_ := Gv.a0 (blk_below BK210.out hb)
             have n3_ := Gv.a0 (blk_below BK211.out hb)
             have n4_ := Gv.a0 (below_step HB.out hb)
             have n5_ := Gv.a0 (hbox)
             have n6_ := Gv.a0 (Gv.ble hg HB.out : w.heap.size ≤ gb224)
             have n7_ := Gv.a0 (Gv.ble hg HB.out : w.heap.size ≤ gb224)
             have n8_ := Gv.a0 (Gv.nlt hg BK196.out : gb196 ≠ gb224)
             have n9_ := Gv.a0 (Gv.ngt hg BK196.out : gb224 ≠ gb196)
             have n10_ := Gv.a0 (Gv.nlt hg BK197.out : gb197 ≠ gb224)
             have n11_ := Gv.a0 (Gv.ngt hg BK197.out : gb224 ≠ gb197)
             have n12_ := Gv.a0 (Gv.nlt hg BK210.out : gb210 ≠ gb224)
             have n13_ := Gv.a0 (Gv.ngt hg BK210.out : gb224 ≠ gb210)
             have n14_ := Gv.a0 (Gv.nlt hg BK211.out : gb211 ≠ gb224)
             have n15_ := Gv.a0 (Gv.ngt hg BK211.out : gb224 ≠ gb211)
             clear BK196 BK197 BK210 BK211 HB; have BK196 := n0_; have BK197 := n1_; have BK210 := n2_; have BK211 := n3_; have HB := n4_; have BK224 := n5_; have GW224 := n6_; have GE224 := n7_; have NB196_224 := n8_; have NB224_196 := n9_; have NB197_224 := n10_; have NB224_197 := n11_; have NB210_224 := n12_; have NB224_210 := n13_; have NB211_224 := n14_; have NB224_211 := n15_; clear n0_ n1_ n2_ n3_ n4_ n5_ n6_ n7_ n8_ n9_ n10_ n11_ n12_ n13_ n14_ n15_; clear hb hbox hg
             refine hK.out _ _ ⟨(blk_cell BK196.out 0).trans rfl, (blk_cell BK196.out 1).trans rfl, (blk_cell BK196.out 2).trans rfl, (blk_cell BK197.out 0).trans rfl, (blk_cell BK197.out 1).trans rfl, (blk_cell BK197.out 2).trans rfl⟩ (fun hHeld => ?_)
             clear hK K
             refine norm_ (a' := ?_) ?_ ?_
             rotate_left
             ·show Act.put _ (some 7) _ = _
              simp only [Act.put, List.setIfInBounds_toArray, List.set_cons_zero, List.set_cons_succ, i64_w, i32_w]
              rfl
             exact Gv.nm (hJ1_3_8 (gb224) _ ⟨hHeld, BK196.out, BK197.out, BK210.out, BK211.out, BK224.out, GW224.out, GE224.out, NB196_224.out, NB224_196.out, NB197_224.out, NB224_197.out, NB210_224.out, NB224_210.out, NB211_224.out, NB224_211.out, HB.out⟩)
            ·skip
             refine box_step ?hg (N := 8) ?hd (cs := #[.int .i64 0, .int .i64 0, .int .i64 0]) (t := 26) ?hr ?_; (case hd => rfl); (case hg => rfl); (case hr => first | (go_simp; done) | (go_simp; rfl))
             intro gb225 hg w33 hbox hb
             have n0_ := Gv.a0 (blk_below BK196.out hb)
             have n1_ := Gv.a0 (blk_below BK197.out hb)
             have n2_ := Gv.a0 (blk_below BK210.out hb)
             have n3_ := Gv.a0 (blk_below BK211.out hb)
             have n4_ := Gv.a0 (below_step HB.out hb)
             have n5_ := Gv.a0 (hbox)
             have n6_ := Gv.a0 (Gv.ble hg HB.out : w.heap.size ≤ gb225)
             have n7_ := Gv.a0 (Gv.ble hg HB.out : w.heap.size ≤ gb225)
             have n8_ := Gv.a0 (Gv.nlt hg BK196.out : gb196 ≠ gb225)
             have n9_ := Gv.a0 (Gv.ngt hg BK196.out : gb225 ≠ gb196)
             have n10_ := Gv.a0 (Gv.nlt hg BK197.out : gb197 ≠ gb225)
             have n11_ := Gv.a0 (Gv.ngt hg BK197.out : gb225 ≠ gb197)
             have n12_ := Gv.a0 (Gv.nlt hg BK210.out : gb210 ≠ gb225)
             have n13_ := Gv.a0 (Gv.ngt hg BK210.out : gb225 ≠ gb210)
             have n14_ := Gv.a0 (Gv.nlt hg BK211.out : gb211 ≠ gb225)
             have n15_ := Gv.a0 (Gv.ngt hg BK211.out : gb225 ≠ gb211)
             clear BK196 BK197 BK210 BK211 HB; have BK196 := n0_; have BK197 := n1_; have BK210 := n2_; have BK211 := n3_; have HB := n4_; have BK225 := n5_; have GW225 := n6_; have GE225 := n7_; have NB196_225 := n8_; have NB225_196 := n9_; have NB197_225 := n10_; have NB225_197 := n11_; have NB210_225 := n12_; have NB225_210 := n13_; have NB211_225 := n14_; have NB225_211 := n15_; clear n0_ n1_ n2_ n3_ n4_ n5_ n6_ n7_ n8_ n9_ n10_ n11_ n12_ n13_ n14_ n15_; clear hb hbox hg
             refine hK.out _ _ ⟨(blk_cell BK196.out 0).trans rfl, (blk_cell BK196.out 1).trans rfl, (blk_cell BK196.out 2).trans rfl, (blk_cell BK197.out 0).trans rfl, (blk_cell BK197.out 1).trans rfl, (blk_cell BK197.out 2).trans rfl⟩ (fun hHeld => ?_)
             clear hK K
             refine norm_ (a' := ?_) ?_ ?_
             rotate_left
             ·show Act.put _ (some 8) _ = _
              simp only [Act.put, List.setIfInBounds_toArray, List.set_cons_zero, List.set_cons_succ, i64_w, i32_w]
              rfl
             exact Gv.nm (hJ1_3_9 (gb225) _ ⟨hHeld, BK196.out, BK197.out, BK210.out, BK211.out, BK225.out, GW225.out, GE225.out, NB196_225.out, NB225_196.out, NB197_225.out, NB225_197.out, NB210_225.out, NB225_210.out, NB211_225.out, NB225_211.out, HB.out⟩)
          ·skip
           rintro ⟨gb224, gb225⟩ w33 ⟨hS_, h0_, h1_, h2_, h3_, h4_, h5_, h6_, h7_, h8_, h9_, h10_, h11_, h12_, h13_, h14_, h15_, h16_, h17_, h18_, h19_, h20_, h21_, h22_, h23_, h24_, h25_, h26_, h27_, h28_⟩
           have n0_ : Aside0 (w33.heap[gb196]? = some (.cells #[.int .i64 a0_0, .int .i64 a0_1, .int .i64 a0_2] 23 (0, 0))) := ⟨h0_⟩
           have n1_ : Aside0 (w33.heap[gb197]? = some (.cells #[.int .i64 a1_0, .int .i64 a1_1, .int .i64 a1_2] 23 (0, 0))) := ⟨h1_⟩
           have n2_ : Aside0 (w33.heap[gb210]? = some (.cells #[.int .i64 t204, .int .i64 t205, .int .i64 t206] 26 (0, 0))) := ⟨h2_⟩
           have n3_ : Aside0 (w33.heap[gb211]? = some (.cells #[.int .i64 t207, .int .i64 t208, .int .i64 t209] 26 (0, 0))) := ⟨h3_⟩
           have n4_ : Aside0 (w33.heap[gb224]? = some (.cells #[.int .i64 0, .int .i64 0, .int .i64 0] 26 (0, 0))) := ⟨h4_⟩
           have n5_ : Aside0 (w33.heap[gb225]? = some (.cells #[.int .i64 0, .int .i64 0, .int .i64 0] 26 (0, 0))) := ⟨h5_⟩
           have n6_ : Aside0 (w.heap.size ≤ gb224) := ⟨h6_⟩
           have n7_ : Aside0 (w.heap.size ≤ gb224) := ⟨h7_⟩
           have n8_ : Aside0 (gb196 ≠ gb224) := ⟨h8_⟩
           have n9_ : Aside0 (gb224 ≠ gb196) := ⟨h9_⟩
           have n10_ : Aside0 (gb197 ≠ gb224) := ⟨h10_⟩
           have n11_ : Aside0 (gb224 ≠ gb197) := ⟨h11_⟩
           have n12_ : Aside0 (gb210 ≠ gb224) := ⟨h12_⟩
           have n13_ : Aside0 (gb224 ≠ gb210) := ⟨h13_⟩
           have n14_ : Aside0 (gb211 ≠ gb224) := ⟨h14_⟩
           have n15_ : Aside0 (gb224 ≠ gb211) := ⟨h15_⟩
           have n16_ : Aside0 (gb225 ≠ gb224) := ⟨h16_⟩
           have n17_ : Aside0 (gb224 ≠ gb225) := ⟨h17_⟩
           have n18_ : Aside0 (w.heap.size ≤ gb225) := ⟨h18_⟩
           have n19_ : Aside0 (w.heap.size ≤ gb225) := ⟨h19_⟩
           have n20_ : Aside0 (gb196 ≠ gb225) := ⟨h20_⟩
           have n21_ : Aside0 (gb225 ≠ gb196) := ⟨h21_⟩
           have n22_ : Aside0 (gb197 ≠ gb225) := ⟨h22_⟩
           have n23_ : Aside0 (gb225 ≠ gb197) := ⟨h23_⟩
           have n24_ : Aside0 (gb210 ≠ gb225) := ⟨h24_⟩
           have n25_ : Aside0 (gb225 ≠ gb210) := ⟨h25_⟩
           have n26_ : Aside0 (gb211 ≠ gb225) := ⟨h26_⟩
           have n27_ : Aside0 (gb225 ≠ gb211) := ⟨h27_⟩
           have n28_ : Aside0 (Below w.heap.size w w33) := ⟨h28_⟩
           clear BK196 BK197 BK210 BK211 HB; clear h0_ h1_ h2_ h3_ h4_ h5_ h6_ h7_ h8_ h9_ h10_ h11_ h12_ h13_ h14_ h15_ h16_ h17_ h18_ h19_ h20_ h21_ h22_ h23_ h24_ h25_ h26_ h27_ h28_; have BK196 := n0_; have BK197 := n1_; have BK210 := n2_; have BK211 := n3_; have BK224 := n4_; have BK225 := n5_; have GW224 := n6_; have GE224 := n7_; have NB196_224 := n8_; have NB224_196 := n9_; have NB197_224 := n10_; have NB224_197 := n11_; have NB210_224 := n12_; have NB224_210 := n13_; have NB211_224 := n14_; have NB224_211 := n15_; have NB225_224 := n16_; have NB224_225 := n17_; have GW225 := n18_; have GE225 := n19_; have NB196_225 := n20_; have NB225_196 := n21_; have NB197_225 := n22_; have NB225_197 := n23_; have NB210_225 := n24_; have NB225_210 := n25_; have NB211_225 := n26_; have NB225_211 := n27_; have HB := n28_; clear n0_ n1_ n2_ n3_ n4_ n5_ n6_ n7_ n8_ n9_ n10_ n11_ n12_ n13_ n14_ n15_ n16_ n17_ n18_ n19_ n20_ n21_ n22_ n23_ n24_ n25_ n26_ n27_ n28_
           have hHeld : w33.cell? ⟨gb196, 0, none⟩ = some (.int .i64 a0_0) ∧ w33.cell? ⟨gb196, 1, none⟩ = some (.int .i64 a0_1) ∧ w33.cell? ⟨gb196, 2, none⟩ = some (.int .i64 a0_2) ∧ w33.cell? ⟨gb197, 0, none⟩ = some (.int .i64 a1_0) ∧ w33.cell? ⟨gb197, 1, none⟩ = some (.int .i64 a1_1) ∧ w33.cell? ⟨gb197, 2, none⟩ = some (.int .i64 a1_2) := hS_
           refine norm_ (a' := ?_) ?_ ?_
           rotate_left
           ·simp only [putAll, Act.put, List.setIfInBounds_toArray, List.set_cons_zero, List.set_cons_succ]
            rfl
           refine one_ (i := 3) (N := some 21) #[true, true, true, true, false, false, false, false, true, true, false, false] rfl rfl (one_of HT_.out (by kernel_rfl)) (by decide) (fun K hK => ?_)
           refine goes_ Try.func16 (by kernel_rfl) rfl #[.agg #[.int .i64 a1_0, .int .i64 a1_1, .int .i64 a1_2]] (by rfl) rfl rfl (by (try simp only [List.map_toArray, List.map_cons, List.map_nil]); first | done | rfl | (simp only [List.length_drop, List.length_take]; rfl)) ?_
           with_reducible refine (laws_toVec.calls a1_0 a1_1 a1_2 t215 t216 t217 _ A7.out).mono ?_
           rintro e w34 ⟨rfl, hb⟩
           refine ⟨_, rfl, ?_⟩
           have n0_ := Gv.a0 (blk_below BK196.out hb)
           have n1_ := Gv.a0 (blk_below BK197.out hb)
           have n2_ := Gv.a0 (blk_below BK210.out hb)
           have n3_ := Gv.a0 (blk_below BK211.out hb)
           have n4_ := Gv.a0 (blk_below BK224.out hb)
           have n5_ := Gv.a0 (blk_below BK225.out hb)
           have n6_ := Gv.a0 (below_step HB.out hb)
           clear BK196 BK197 BK210 BK211 BK224 BK225 HB; have BK196 := n0_; have BK197 := n1_; have BK210 := n2_; have BK211 := n3_; have BK224 := n4_; have BK225 := n5_; have HB := n6_; clear n0_ n1_ n2_ n3_ n4_ n5_ n6_; (try clear hb); (try clear hb2); (try clear hk); (try clear hi)
           refine hK.out _ _ ⟨(blk_cell BK196.out 0).trans rfl, (blk_cell BK196.out 1).trans rfl, (blk_cell BK196.out 2).trans rfl, (blk_cell BK197.out 0).trans rfl, (blk_cell BK197.out 1).trans rfl, (blk_cell BK197.out 2).trans rfl⟩ (fun hHeld => ?_)
           clear hK K
           refine norm_ (a' := ?_) ?_ ?_
           rotate_left
           ·show Act.put _ (some 21) _ = _
            simp only [Act.put, List.setIfInBounds_toArray, List.set_cons_zero, List.set_cons_succ, i64_w, i32_w]
            rfl
           exact Gv.nm (hJ1_3_8_9 (gb224, gb225) _ ⟨hHeld, BK196.out, BK197.out, BK210.out, BK211.out, BK224.out, BK225.out, GW224.out, GE224.out, NB196_224.out, NB224_196.out, NB197_224.out, NB224_197.out, NB210_224.out, NB224_210.out, NB211_224.out, NB224_211.out, NB225_224.out, NB224_225.out, GW225.out, GE225.out, NB196_225.out, NB225_196.out, NB197_225.out, NB225_197.out, NB210_225.out, NB225_210.out, NB211_225.out, NB225_211.out, HB.out⟩)
         ·skip
          rintro gb225 w33 ⟨hS_, h0_, h1_, h2_, h3_, h4_, h5_, h6_, h7_, h8_, h9_, h10_, h11_, h12_, h13_, h14_, h15_⟩
          have n0_ : Aside0 (w33.heap[gb196]? = some (.cells #[.int .i64 a0_0, .int .i64 a0_1, .int .i64 a0_2] 23 (0, 0))) := ⟨h0_⟩
          have n1_ : Aside0 (w33.heap[gb197]? = some (.cells #[.int .i64 a1_0, .int .i64 a1_1, .int .i64 a1_2] 23 (0, 0))) := ⟨h1_⟩
          have n2_ : Aside0 (w33.heap[gb210]? = some (.cells #[.int .i64 t204, .int .i64 t205, .int .i64 t206] 26 (0, 0))) := ⟨h2_⟩
          have n3_ : Aside0 (w33.heap[gb211]? = some (.cells #[.int .i64 t207, .int .i64 t208, .int .i64 t209] 26 (0, 0))) := ⟨h3_⟩
          have n4_ : Aside0 (w33.heap[gb225]? = some (.cells #[.int .i64 0, .int .i64 0, .int .i64 0] 26 (0, 0))) := ⟨h4_⟩
          have n5_ : Aside0 (w.heap.size ≤ gb225) := ⟨h5_⟩
          have n6_ : Aside0 (w.heap.size ≤ gb225) := ⟨h6_⟩
          have n7_ : Aside0 (gb196 ≠ gb225) := ⟨h7_⟩
          have n8_ : Aside0 (gb225 ≠ gb196) := ⟨h8_⟩
          have n9_ : Aside0 (gb197 ≠ gb225) := ⟨h9_⟩
          have n10_ : Aside0 (gb225 ≠ gb197) := ⟨h10_⟩
          have n11_ : Aside0 (gb210 ≠ gb225) := ⟨h11_⟩
          have n12_ : Aside0 (gb225 ≠ gb210) := ⟨h12_⟩
          have n13_ : Aside0 (gb211 ≠ gb225) := ⟨h13_⟩
          have n14_ : Aside0 (gb225 ≠ gb211) := ⟨h14_⟩
          have n15_ : Aside0 (Below w.heap.size w w33) := ⟨h15_⟩
          clear BK196 BK197 BK210 BK211 HB; clear h0_ h1_ h2_ h3_ h4_ h5_ h6_ h7_ h8_ h9_ h10_ h11_ h12_ h13_ h14_ h15_; have BK196 := n0_; have BK197 := n1_; have BK210 := n2_; have BK211 := n3_; have BK225 := n4_; have GW225 := n5_; have GE225 := n6_; have NB196_225 := n7_; have NB225_196 := n8_; have NB197_225 := n9_; have NB225_197 := n10_; have NB210_225 := n11_; have NB225_210 := n12_; have NB211_225 := n13_; have NB225_211 := n14_; have HB := n15_; clear n0_ n1_ n2_ n3_ n4_ n5_ n6_ n7_ n8_ n9_ n10_ n11_ n12_ n13_ n14_ n15_
          have hHeld : w33.cell? ⟨gb196, 0, none⟩ = some (.int .i64 a0_0) ∧ w33.cell? ⟨gb196, 1, none⟩ = some (.int .i64 a0_1) ∧ w33.cell? ⟨gb196, 2, none⟩ = some (.int .i64 a0_2) ∧ w33.cell? ⟨gb197, 0, none⟩ = some (.int .i64 a1_0) ∧ w33.cell? ⟨gb197, 1, none⟩ = some (.int .i64 a1_1) ∧ w33.cell? ⟨gb197, 2, none⟩ = some (.int .i64 a1_2) := hS_
          refine norm_ (a' := ?_) ?_ ?_
          rotate_left
          ·simp only [putAll, Act.put, List.setIfInBounds_toArray, List.set_cons_zero, List.set_cons_succ]
           rfl
          refine two_ (i := 4) (j := 8) (Ni := some 22) (Nj := some 7) #[true, true, true, true, true, false, false, false, false, true, false, false] #[true, true, true, true, false, false, false, false, true, true, false, false] rfl rfl rfl rfl (two_of HT_.out (by kernel_rfl)) (by decide) (by decide) (fun K hK => ?_) (fun K hK => ?_)
          ·skip
           refine goes_ Try.func26 (by kernel_rfl) rfl #[.agg #[.int .i64 t212, .int .i64 t213, .int .i64 t214], .agg #[.int .i64 t215, .int .i64 t216, .int .i64 t217]] (by rfl) rfl rfl (by (try simp only [List.map_toArray, List.map_cons, List.map_nil]); first | done | rfl | (simp only [List.length_drop, List.length_take]; rfl)) ?_
           with_reducible refine (impl_Charge.calls k t212 t213 t214 t215 t216 t217 t218 t219 t220 t221 t222 t223 _ A8.out).mono ?_
           rintro e w34 ⟨rfl, hb⟩
           refine ⟨_, rfl, ?_⟩
           have n0_ := Gv.a0 (blk_below BK196.out hb)
           have n1_ := Gv.a0 (blk_below BK197.out hb)
           have n2_ := Gv.a0 (blk_below BK210.out hb)
           have n3_ := Gv.a0 (blk_below BK211.out hb)
           have n4_ := Gv.a0 (blk_below BK225.out hb)
           have n5_ := Gv.a0 (below_step HB.out hb)
           clear BK196 BK197 BK210 BK211 BK225 HB; have BK196 := n0_; have BK197 := n1_; have BK210 := n2_; have BK211 := n3_; have BK225 := n4_; have HB := n5_; clear n0_ n1_ n2_ n3_ n4_ n5_; (try clear hb); (try clear hb2); (try clear hk); (try clear hi)
           refine hK.out _ _ ⟨(blk_cell BK196.out 0).trans rfl, (blk_cell BK196.out 1).trans rfl, (blk_cell BK196.out 2).trans rfl, (blk_cell BK197.out 0).trans rfl, (blk_cell BK197.out 1).trans rfl, (blk_cell BK197.out 2).trans rfl⟩ (fun hHeld => ?_)
           clear hK K
           refine norm_ (a' := ?_) ?_ ?_
           rotate_left
           ·show Act.put _ (some 22) _ = _
            simp only [Act.put, List.setIfInBounds_toArray, List.set_cons_zero, List.set_cons_succ, i64_w, i32_w]
            rfl
           refine pure_ (i := 5) (N := some 17) (v := ?_) (a' := ?_) #[true, true, true, true, true, true, false, false, false, true, false, false] rfl rfl (any_of HT_.out (by kernel_rfl)) (fun _ _ _ h => h) (Or.inl ⟨by rfl, ?_⟩) ?_ ?_
           rotate_left
           ·intro w'
            go_simp
            with_reducible rfl
           rotate_left
           ·simp only [Act.put, List.setIfInBounds_toArray, List.set_cons_zero, List.set_cons_succ, i64_w, i32_w]
            rfl
           refine pure_ (i := 6) (N := some 23) (v := ?_) (a' := ?_) #[true, true, true, true, true, true, true, false, false, true, false, false] rfl rfl (any_of HT_.out (by kernel_rfl)) (fun _ _ _ h => h) (Or.inl ⟨by rfl, ?_⟩) ?_ ?_
           rotate_left
           ·intro w'
            go_simp
            with_reducible rfl
           rotate_left
           ·simp only [Act.put, List.setIfInBounds_toArray, List.set_cons_zero, List.set_cons_succ, i64_w, i32_w]
            rfl
           refine pure_ (i := 7) (N := some 24) (v := ?_) (a' := ?_) #[true, true, true, true, true, true, true, true, false, true, false, false] rfl rfl (any_of HT_.out (by kernel_rfl)) (fun _ _ _ h => h) (Or.inl ⟨by rfl, ?_⟩) ?_ ?_
           rotate_left
           ·intro w'
            go_simp
            with_reducible rfl
           rotate_left
           ·simp only [Act.put, List.setIfInBounds_toArray, List.set_cons_zero, List.set_cons_succ, i64_w, i32_w]
            rfl
           exact Gv.nm (hJ1_3_4_9 (gb225) _ ⟨hHeld, BK196.out, BK197.out, BK210.out, BK211.out, BK225.out, GW225.out, GE225.out, NB196_225.out, NB225_196.out, NB197_225.out, NB225_197.out, NB210_225.out, NB225_210.out, NB211_225.out, NB225_211.out, HB.out⟩)
          ·skip
           refine box_step ?hg (N := 7) ?hd (cs := #[.int .i64 0, .int .i64 0, .int .i64 0]) (t := 26) ?hr ?_; (case hd => rfl); (case hg => rfl); (case hr => first | (go_simp; done) | (go_simp; rfl))
           intro gb224 hg w34 hbox hb
           have n0_ := Gv.a0 (blk_below BK196.out hb)
           have n1_ := Gv.a0 (blk_below BK197.out hb)
           have n2_ := Gv.a0 (blk_below BK210.out hb)
           have n3_ := Gv.a0 (blk_below BK211.out hb)
           have n4_ := Gv.a0 (blk_below BK225.out hb)
           have n5_ := Gv.a0 (below_step HB.out hb)
           have n6_ := Gv.a0 (hbox)
           have n7_ := Gv.a0 (Gv.ble hg HB.out : w.heap.size ≤ gb224)
           have n8_ := Gv.a0 (Gv.ble hg HB.out : w.heap.size ≤ gb224)
           have n9_ := Gv.a0 (Gv.nlt hg BK196.out : gb196 ≠ gb224)
           have n10_ := Gv.a0 (Gv.ngt hg BK196.out : gb224 ≠ gb196)
           have n11_ := Gv.a0 (Gv.nlt hg BK197.out : gb197 ≠ gb224)
           have n12_ := Gv.a0 (Gv.ngt hg BK197.out : gb224 ≠ gb197)
           have n13_ := Gv.a0 (Gv.nlt hg BK210.out : gb210 ≠ gb224)
           have n14_ := Gv.a0 (Gv.ngt hg BK210.out : gb224 ≠ gb210)
           have n15_ := Gv.a0 (Gv.nlt hg BK211.out : gb211 ≠ gb224)
           have n16_ := Gv.a0 (Gv.ngt hg BK211.out : gb224 ≠ gb211)
           have n17_ := Gv.a0 (Gv.nlt hg BK225.out : gb225 ≠ gb224)
           have n18_ := Gv.a0 (Gv.ngt hg BK225.out : gb224 ≠ gb225)
           clear BK196 BK197 BK210 BK211 BK225 HB; have BK196 := n0_; have BK197 := n1_; have BK210 := n2_; have BK211 := n3_; have BK225 := n4_; have HB := n5_; have BK224 := n6_; have GW224 := n7_; have GE224 := n8_; have NB196_224 := n9_; have NB224_196 := n10_; have NB197_224 := n11_; have NB224_197 := n12_; have NB210_224 := n13_; have NB224_210 := n14_; have NB211_224 := n15_; have NB224_211 := n16_; have NB225_224 := n17_; have NB224_225 := n18_; clear n0_ n1_ n2_ n3_ n4_ n5_ n6_ n7_ n8_ n9_ n10_ n11_ n12_ n13_ n14_ n15_ n16_ n17_ n18_; clear hb hbox hg
           refine hK.out _ _ ⟨(blk_cell BK196.out 0).trans rfl, (blk_cell BK196.out 1).trans rfl, (blk_cell BK196.out 2).trans rfl, (blk_cell BK197.out 0).trans rfl, (blk_cell BK197.out 1).trans rfl, (blk_cell BK197.out 2).trans rfl⟩ (fun hHeld => ?_)
           clear hK K
           refine norm_ (a' := ?_) ?_ ?_
           rotate_left
           ·show Act.put _ (some 7) _ = _
            simp only [Act.put, List.setIfInBounds_toArray, List.set_cons_zero, List.set_cons_succ, i64_w, i32_w]
            rfl
           exact Gv.nm (hJ1_3_8_9 (gb224, gb225) _ ⟨hHeld, BK196.out, BK197.out, BK210.out, BK211.out, BK224.out, BK225.out, GW224.out, GE224.out, NB196_224.out, NB224_196.out, NB197_224.out, NB224_197.out, NB210_224.out, NB224_210.out, NB211_224.out, NB224_211.out, NB225_224.out, NB224_225.out, GW225.out, GE225.out, NB196_225.out, NB225_196.out, NB197_225.out, NB225_197.out, NB210_225.out, NB225_210.out, NB211_225.out, NB225_211.out, HB.out⟩)
        ·skip
         rintro gb224 w33 ⟨hS_, h0_, h1_, h2_, h3_, h4_, h5_, h6_, h7_, h8_, h9_, h10_, h11_, h12_, h13_, h14_, h15_⟩
         have n0_ : Aside0 (w33.heap[gb196]? = some (.cells #[.int .i64 a0_0, .int .i64 a0_1, .int .i64 a0_2] 23 (0, 0))) := ⟨h0_⟩
         have n1_ : Aside0 (w33.heap[gb197]? = some (.cells #[.int .i64 a1_0, .int .i64 a1_1, .int .i64 a1_2] 23 (0, 0))) := ⟨h1_⟩
         have n2_ : Aside0 (w33.heap[gb210]? = some (.cells #[.int .i64 t204, .int .i64 t205, .int .i64 t206] 26 (0, 0))) := ⟨h2_⟩
         have n3_ : Aside0 (w33.heap[gb211]? = some (.cells #[.int .i64 t207, .int .i64 t208, .int .i64 t209] 26 (0, 0))) := ⟨h3_⟩
         have n4_ : Aside0 (w33.heap[gb224]? = some (.cells #[.int .i64 0, .int .i64 0, .int .i64 0] 26 (0, 0))) := ⟨h4_⟩
         have n5_ : Aside0 (w.heap.size ≤ gb224) := ⟨h5_⟩
         have n6_ : Aside0 (w.heap.size ≤ gb224) := ⟨h6_⟩
         have n7_ : Aside0 (gb196 ≠ gb224) := ⟨h7_⟩
         have n8_ : Aside0 (gb224 ≠ gb196) := ⟨h8_⟩
         have n9_ : Aside0 (gb197 ≠ gb224) := ⟨h9_⟩
         have n10_ : Aside0 (gb224 ≠ gb197) := ⟨h10_⟩
         have n11_ : Aside0 (gb210 ≠ gb224) := ⟨h11_⟩
         have n12_ : Aside0 (gb224 ≠ gb210) := ⟨h12_⟩
         have n13_ : Aside0 (gb211 ≠ gb224) := ⟨h13_⟩
         have n14_ : Aside0 (gb224 ≠ gb211) := ⟨h14_⟩
         have n15_ : Aside0 (Below w.heap.size w w33) := ⟨h15_⟩
         clear BK196 BK197 BK210 BK211 HB; clear h0_ h1_ h2_ h3_ h4_ h5_ h6_ h7_ h8_ h9_ h10_ h11_ h12_ h13_ h14_ h15_; have BK196 := n0_; have BK197 := n1_; have BK210 := n2_; have BK211 := n3_; have BK224 := n4_; have GW224 := n5_; have GE224 := n6_; have NB196_224 := n7_; have NB224_196 := n8_; have NB197_224 := n9_; have NB224_197 := n10_; have NB210_224 := n11_; have NB224_210 := n12_; have NB211_224 := n13_; have NB224_211 := n14_; have HB := n15_; clear n0_ n1_ n2_ n3_ n4_ n5_ n6_ n7_ n8_ n9_ n10_ n11_ n12_ n13_ n14_ n15_
         have hHeld : w33.cell? ⟨gb196, 0, none⟩ = some (.int .i64 a0_0) ∧ w33.cell? ⟨gb196, 1, none⟩ = some (.int .i64 a0_1) ∧ w33.cell? ⟨gb196, 2, none⟩ = some (.int .i64 a0_2) ∧ w33.cell? ⟨gb197, 0, none⟩ = some (.int .i64 a1_0) ∧ w33.cell? ⟨gb197, 1, none⟩ = some (.int .i64 a1_1) ∧ w33.cell? ⟨gb197, 2, none⟩ = some (.int .i64 a1_2) := hS_
         refine norm_ (a' := ?_) ?_ ?_
         rotate_left
         ·simp only [putAll, Act.put, List.setIfInBounds_toArray, List.set_cons_zero, List.set_cons_succ]
          rfl
         refine two_ (i := 4) (j := 9) (Ni := some 22) (Nj := some 8) #[true, true, true, true, true, false, false, false, true, false, false, false] #[true, true, true, true, false, false, false, false, true, true, false, false] rfl rfl rfl rfl (two_of HT_.out (by kernel_rfl)) (by decide) (by decide) (fun K hK => ?_) (fun K hK => ?_)
         ·skip
          refine goes_ Try.func26 (by kernel_rfl) rfl #[.agg #[.int .i64 t212, .int .i64 t213, .int .i64 t214], .agg #[.int .i64 t215, .int .i64 t216, .int .i64 t217]] (by rfl) rfl rfl (by (try simp only [List.map_toArray, List.map_cons, List.map_nil]); first | done | rfl | (simp only [List.length_drop, List.length_take]; rfl)) ?_
          with_reducible refine (impl_Charge.calls k t212 t213 t214 t215 t216 t217 t218 t219 t220 t221 t222 t223 _ A8.out).mono ?_
          rintro e w34 ⟨rfl, hb⟩
          refine ⟨_, rfl, ?_⟩
          have n0_ := Gv.a0 (blk_below BK196.out hb)
          have n1_ := Gv.a0 (blk_below BK197.out hb)
          have n2_ := Gv.a0 (blk_below BK210.out hb)
          have n3_ := Gv.a0 (blk_below BK211.out hb)
          have n4_ := Gv.a0 (blk_below BK224.out hb)
          have n5_ := Gv.a0 (below_step HB.out hb)
          clear BK196 BK197 BK210 BK211 BK224 HB; have BK196 := n0_; have BK197 := n1_; have BK210 := n2_; have BK211 := n3_; have BK224 := n4_; have HB := n5_; clear n0_ n1_ n2_ n3_ n4_ n5_; (try clear hb); (try clear hb2); (try clear hk); (try clear hi)
          refine hK.out _ _ ⟨(blk_cell BK196.out 0).trans rfl, (blk_cell BK196.out 1).trans rfl, (blk_cell BK196.out 2).trans rfl, (blk_cell BK197.out 0).trans rfl, (blk_cell BK197.out 1).trans rfl, (blk_cell BK197.out 2).trans rfl⟩ (fun hHeld => ?_)
          clear hK K
          refine norm_ (a' := ?_) ?_ ?_
          rotate_left
          ·show Act.put _ (some 22) _ = _
           simp only [Act.put, List.setIfInBounds_toArray, List.set_cons_zero, List.set_cons_succ, i64_w, i32_w]
           rfl
          refine pure_ (i := 5) (N := some 17) (v := ?_) (a' := ?_) #[true, true, true, true, true, true, false, false, true, false, false, false] rfl rfl (any_of HT_.out (by kernel_rfl)) (fun _ _ _ h => h) (Or.inl ⟨by rfl, ?_⟩) ?_ ?_
          rotate_left
          ·intro w'
           go_simp
           with_reducible rfl
          rotate_left
          ·simp only [Act.put, List.setIfInBounds_toArray, List.set_cons_zero, List.set_cons_succ, i64_w, i32_w]
           rfl
          refine pure_ (i := 6) (N := some 23) (v := ?_) (a' := ?_) #[true, true, true, true, true, true, true, false, true, false, false, false] rfl rfl (any_of HT_.out (by kernel_rfl)) (fun _ _ _ h => h) (Or.inl ⟨by rfl, ?_⟩) ?_ ?_
          rotate_left
          ·intro w'
           go_simp
           with_reducible rfl
          rotate_left
          ·simp only [Act.put, List.setIfInBounds_toArray, List.set_cons_zero, List.set_cons_succ, i64_w, i32_w]
           rfl
          refine pure_ (i := 7) (N := some 24) (v := ?_) (a' := ?_) #[true, true, true, true, true, true, true, true, true, false, false, false] rfl rfl (any_of HT_.out (by kernel_rfl)) (fun _ _ _ h => h) (Or.inl ⟨by rfl, ?_⟩) ?_ ?_
          rotate_left
          ·intro w'
           go_simp
           with_reducible rfl
          rotate_left
          ·simp only [Act.put, List.setIfInBounds_toArray, List.set_cons_zero, List.set_cons_succ, i64_w, i32_w]
           rfl
          exact Gv.nm (hJ1_3_4_8 (gb224) _ ⟨hHeld, BK196.out, BK197.out, BK210.out, BK211.out, BK224.out, GW224.out, GE224.out, NB196_224.out, NB224_196.out, NB197_224.out, NB224_197.out, NB210_224.out, NB224_210.out, NB211_224.out, NB224_211.out, HB.out⟩)
         ·skip
          refine box_step ?hg (N := 8) ?hd (cs := #[.int .i64 0, .int .i64 0, .int .i64 0]) (t := 26) ?hr ?_; (case hd => rfl); (case hg => rfl); (case hr => first | (go_simp; done) | (go_simp; rfl))
          intro gb225 hg w34 hbox hb
          have n0_ := Gv.a0 (blk_below BK196.out hb)
          have n1_ := Gv.a0 (blk_below BK197.out hb)
          have n2_ := Gv.a0 (blk_below BK210.out hb)
          have n3_ := Gv.a0 (blk_below BK211.out hb)
          have n4_ := Gv.a0 (blk_below BK224.out hb)
          have n5_ := Gv.a0 (below_step HB.out hb)
          have n6_ := Gv.a0 (hbox)
          have n7_ := Gv.a0 (Gv.ble hg HB.out : w.heap.size ≤ gb225)
          have n8_ := Gv.a0 (Gv.ble hg HB.out : w.heap.size ≤ gb225)
          have n9_ := Gv.a0 (Gv.nlt hg BK196.out : gb196 ≠ gb225)
          have n10_ := Gv.a0 (Gv.ngt hg BK196.out : gb225 ≠ gb196)
          have n11_ := Gv.a0 (Gv.nlt hg BK197.out : gb197 ≠ gb225)
          have n12_ := Gv.a0 (Gv.ngt hg BK197.out : gb225 ≠ gb197)
          have n13_ := Gv.a0 (Gv.nlt hg BK210.out : gb210 ≠ gb225)
          have n14_ := Gv.a0 (Gv.ngt hg BK210.out : gb225 ≠ gb210)
          have n15_ := Gv.a0 (Gv.nlt hg BK211.out : gb211 ≠ gb225)
          have n16_ := Gv.a0 (Gv.ngt hg BK211.out : gb225 ≠ gb211)
          have n17_ := Gv.a0 (Gv.nlt hg BK224.out : gb224 ≠ gb225)
          have n18_ := Gv.a0 (Gv.ngt hg BK224.out : gb225 ≠ gb224)
          clear BK196 BK197 BK210 BK211 BK224 HB; have BK196 := n0_; have BK197 := n1_; have BK210 := n2_; have BK211 := n3_; have BK224 := n4_; have HB := n5_; have BK225 := n6_; have GW225 := n7_; have GE225 := n8_; have NB196_225 := n9_; have NB225_196 := n10_; have NB197_225 := n11_; have NB225_197 := n12_; have NB210_225 := n13_; have NB225_210 := n14_; have NB211_225 := n15_; have NB225_211 := n16_; have NB224_225 := n17_; have NB225_224 := n18_; clear n0_ n1_ n2_ n3_ n4_ n5_ n6_ n7_ n8_ n9_ n10_ n11_ n12_ n13_ n14_ n15_ n16_ n17_ n18_; clear hb hbox hg
          refine hK.out _ _ ⟨(blk_cell BK196.out 0).trans rfl, (blk_cell BK196.out 1).trans rfl, (blk_cell BK196.out 2).trans rfl, (blk_cell BK197.out 0).trans rfl, (blk_cell BK197.out 1).trans rfl, (blk_cell BK197.out 2).trans rfl⟩ (fun hHeld => ?_)
          clear hK K
          refine norm_ (a' := ?_) ?_ ?_
          rotate_left
          ·show Act.put _ (some 8) _ = _
           simp only [Act.put, List.setIfInBounds_toArray, List.set_cons_zero, List.set_cons_succ, i64_w, i32_w]
           rfl
          exact Gv.nm (hJ1_3_8_9 (gb224, gb225) _ ⟨hHeld, BK196.out, BK197.out, BK210.out, BK211.out, BK224.out, BK225.out, GW224.out, GE224.out, NB196_224.out, NB224_196.out, NB197_224.out, NB224_197.out, NB210_224.out, NB224_210.out, NB211_224.out, NB224_211.out, NB225_224.out, NB224_225.out, GW225.out, GE225.out, NB196_225.out, NB225_196.out, NB197_225.out, NB225_197.out, NB210_225.out, NB225_210.out, NB211_225.out, NB225_211.out, HB.out⟩)
       ·skip
        rintro _ w33 ⟨hS_, h0_, h1_, h2_, h3_, h4_⟩
        have n0_ : Aside0 (w33.heap[gb196]? = some (.cells #[.int .i64 a0_0, .int .i64 a0_1, .int .i64 a0_2] 23 (0, 0))) := ⟨h0_⟩
        have n1_ : Aside0 (w33.heap[gb197]? = some (.cells #[.int .i64 a1_0, .int .i64 a1_1, .int .i64 a1_2] 23 (0, 0))) := ⟨h1_⟩
        have n2_ : Aside0 (w33.heap[gb210]? = some (.cells #[.int .i64 t204, .int .i64 t205, .int .i64 t206] 26 (0, 0))) := ⟨h2_⟩
        have n3_ : Aside0 (w33.heap[gb211]? = some (.cells #[.int .i64 t207, .int .i64 t208, .int .i64 t209] 26 (0, 0))) := ⟨h3_⟩
        have n4_ : Aside0 (Below w.heap.size w w33) := ⟨h4_⟩
        clear BK196 BK197 BK210 BK211 HB; clear h0_ h1_ h2_ h3_ h4_; have BK196 := n0_; have BK197 := n1_; have BK210 := n2_; have BK211 := n3_; have HB := n4_; clear n0_ n1_ n2_ n3_ n4_
        have hHeld : w33.cell? ⟨gb196, 0, none⟩ = some (.int .i64 a0_0) ∧ w33.cell? ⟨gb196, 1, none⟩ = some (.int .i64 a0_1) ∧ w33.cell? ⟨gb196, 2, none⟩ = some (.int .i64 a0_2) ∧ w33.cell? ⟨gb197, 0, none⟩ = some (.int .i64 a1_0) ∧ w33.cell? ⟨gb197, 1, none⟩ = some (.int .i64 a1_1) ∧ w33.cell? ⟨gb197, 2, none⟩ = some (.int .i64 a1_2) := hS_
        refine norm_ (a' := ?_) ?_ ?_
        rotate_left
        ·simp only [putAll, Act.put, List.setIfInBounds_toArray, List.set_cons_zero, List.set_cons_succ]
         rfl
        refine two_ (i := 8) (j := 9) (Ni := some 7) (Nj := some 8) #[true, true, true, true, true, true, true, true, true, false, false, false] #[true, true, true, true, true, true, true, true, false, true, false, false] rfl rfl rfl rfl (two_of HT_.out (by kernel_rfl)) (by decide) (by decide) (fun K hK => ?_) (fun K hK => ?_)
        ·skip
         refine box_step ?hg (N := 7) ?hd (cs := #[.int .i64 0, .int .i64 0, .int .i64 0]) (t := 26) ?hr ?_; (case hd => rfl); (case hg => rfl); (case hr => first | (go_simp; done) | (go_simp; rfl))
         intro gb224 hg w34 hbox hb
         have n0_ := Gv.a0 (blk_below BK196.out hb)
         have n1_ := Gv.a0 (blk_below BK197.out hb)
         have n2_ := Gv.a0 (blk_below BK210.out hb)
         have n3_ := Gv.a0 (blk_below BK211.out hb)
         have n4_ := Gv.a0 (below_step HB.out hb)
         have n5_ := Gv.a0 (hbox)
         have n6_ := Gv.a0 (Gv.ble hg HB.out : w.heap.size ≤ gb224)
         have n7_ := Gv.a0 (Gv.ble hg HB.out : w.heap.size ≤ gb224)
         have n8_ := Gv.a0 (Gv.nlt hg BK196.out : gb196 ≠ gb224)
         have n9_ := Gv.a0 (Gv.ngt hg BK196.out : gb224 ≠ gb196)
         have n10_ := Gv.a0 (Gv.nlt hg BK197.out : gb197 ≠ gb224)
         have n11_ := Gv.a0 (Gv.ngt hg BK197.out : gb224 ≠ gb197)
         have n12_ := Gv.a0 (Gv.nlt hg BK210.out : gb210 ≠ gb224)
         have n13_ := Gv.a0 (Gv.ngt hg BK210.out : gb224 ≠ gb210)
         have n14_ := Gv.a0 (Gv.nlt hg BK211.out : gb211 ≠ gb224)
         have n15_ := Gv.a0 (Gv.ngt hg BK211.out : gb224 ≠ gb211)
         clear BK196 BK197 BK210 BK211 HB; have BK196 := n0_; have BK197 := n1_; have BK210 := n2_; have BK211 := n3_; have HB := n4_; have BK224 := n5_; have GW224 := n6_; have GE224 := n7_; have NB196_224 := n8_; have NB224_196 := n9_; have NB197_224 := n10_; have NB224_197 := n11_; have NB210_224 := n12_; have NB224_210 := n13_; have NB211_224 := n14_; have NB224_211 := n15_; clear n0_ n1_ n2_ n3_ n4_ n5_ n6_ n7_ n8_ n9_ n10_ n11_ n12_ n13_ n14_ n15_; clear hb hbox hg
         refine hK.out _ _ ⟨(blk_cell BK196.out 0).trans rfl, (blk_cell BK196.out 1).trans rfl, (blk_cell BK196.out 2).trans rfl, (blk_cell BK197.out 0).trans rfl, (blk_cell BK197.out 1).trans rfl, (blk_cell BK197.out 2).trans rfl⟩ (fun hHeld => ?_)
         clear hK K
         refine norm_ (a' := ?_) ?_ ?_
         rotate_left
         ·show Act.put _ (some 7) _ = _
          simp only [Act.put, List.setIfInBounds_toArray, List.set_cons_zero, List.set_cons_succ, i64_w, i32_w]
          rfl
         exact Gv.nm (hJ1_3_4_8 (gb224) _ ⟨hHeld, BK196.out, BK197.out, BK210.out, BK211.out, BK224.out, GW224.out, GE224.out, NB196_224.out, NB224_196.out, NB197_224.out, NB224_197.out, NB210_224.out, NB224_210.out, NB211_224.out, NB224_211.out, HB.out⟩)
        ·skip
         refine box_step ?hg (N := 8) ?hd (cs := #[.int .i64 0, .int .i64 0, .int .i64 0]) (t := 26) ?hr ?_; (case hd => rfl); (case hg => rfl); (case hr => first | (go_simp; done) | (go_simp; rfl))
         intro gb225 hg w34 hbox hb
         have n0_ := Gv.a0 (blk_below BK196.out hb)
         have n1_ := Gv.a0 (blk_below BK197.out hb)
         have n2_ := Gv.a0 (blk_below BK210.out hb)
         have n3_ := Gv.a0 (blk_below BK211.out hb)
         have n4_ := Gv.a0 (below_step HB.out hb)
         have n5_ := Gv.a0 (hbox)
         have n6_ := Gv.a0 (Gv.ble hg HB.out : w.heap.size ≤ gb225)
         have n7_ := Gv.a0 (Gv.ble hg HB.out : w.heap.size ≤ gb225)
         have n8_ := Gv.a0 (Gv.nlt hg BK196.out : gb196 ≠ gb225)
         have n9_ := Gv.a0 (Gv.ngt hg BK196.out : gb225 ≠ gb196)
         have n10_ := Gv.a0 (Gv.nlt hg BK197.out : gb197 ≠ gb225)
         have n11_ := Gv.a0 (Gv.ngt hg BK197.out : gb225 ≠ gb197)
         have n12_ := Gv.a0 (Gv.nlt hg BK210.out : gb210 ≠ gb225)
         have n13_ := Gv.a0 (Gv.ngt hg BK210.out : gb225 ≠ gb210)
         have n14_ := Gv.a0 (Gv.nlt hg BK211.out : gb211 ≠ gb225)
         have n15_ := Gv.a0 (Gv.ngt hg BK211.out : gb225 ≠ gb211)
         clear BK196 BK197 BK210 BK211 HB; have BK196 := n0_; have BK197 := n1_; have BK210 := n2_; have BK211 := n3_; have HB := n4_; have BK225 := n5_; have GW225 := n6_; have GE225 := n7_; have NB196_225 := n8_; have NB225_196 := n9_; have NB197_225 := n10_; have NB225_197 := n11_; have NB210_225 := n12_; have NB225_210 := n13_; have NB211_225 := n14_; have NB225_211 := n15_; clear n0_ n1_ n2_ n3_ n4_ n5_ n6_ n7_ n8_ n9_ n10_ n11_ n12_ n13_ n14_ n15_; clear hb hbox hg
         refine hK.out _ _ ⟨(blk_cell BK196.out 0).trans rfl, (blk_cell BK196.out 1).trans rfl, (blk_cell BK196.out 2).trans rfl, (blk_cell BK197.out 0).trans rfl, (blk_cell BK197.out 1).trans rfl, (blk_cell BK197.out 2).trans rfl⟩ (fun hHeld => ?_)
         clear hK K
         refine norm_ (a' := ?_) ?_ ?_
         rotate_left
         ·show Act.put _ (some 8) _ = _
          simp only [Act.put, List.setIfInBounds_toArray, List.set_cons_zero, List.set_cons_succ, i64_w, i32_w]
          rfl
         exact Gv.nm (hJ1_3_4_9 (gb225) _ ⟨hHeld, BK196.out, BK197.out, BK210.out, BK211.out, BK225.out, GW225.out, GE225.out, NB196_225.out, NB225_196.out, NB197_225.out, NB225_197.out, NB210_225.out, NB225_210.out, NB211_225.out, NB225_211.out, HB.out⟩)
      ·skip
       rintro ⟨gb224, gb225⟩ w34 ⟨hS_, h0_, h1_, h2_, h3_, h4_, h5_, h6_, h7_, h8_, h9_, h10_, h11_, h12_, h13_, h14_, h15_, h16_, h17_, h18_, h19_, h20_, h21_, h22_, h23_, h24_, h25_, h26_, h27_, h28_⟩
       have n0_ : Aside0 (w34.heap[gb196]? = some (.cells #[.int .i64 a0_0, .int .i64 a0_1, .int .i64 a0_2] 23 (0, 0))) := ⟨h0_⟩
       have n1_ : Aside0 (w34.heap[gb197]? = some (.cells #[.int .i64 a1_0, .int .i64 a1_1, .int .i64 a1_2] 23 (0, 0))) := ⟨h1_⟩
       have n2_ : Aside0 (w34.heap[gb210]? = some (.cells #[.int .i64 t204, .int .i64 t205, .int .i64 t206] 26 (0, 0))) := ⟨h2_⟩
       have n3_ : Aside0 (w34.heap[gb211]? = some (.cells #[.int .i64 t207, .int .i64 t208, .int .i64 t209] 26 (0, 0))) := ⟨h3_⟩
       have n4_ : Aside0 (w34.heap[gb224]? = some (.cells #[.int .i64 0, .int .i64 0, .int .i64 0] 26 (0, 0))) := ⟨h4_⟩
       have n5_ : Aside0 (w34.heap[gb225]? = some (.cells #[.int .i64 0, .int .i64 0, .int .i64 0] 26 (0, 0))) := ⟨h5_⟩
       have n6_ : Aside0 (w.heap.size ≤ gb224) := ⟨h6_⟩
       have n7_ : Aside0 (w.heap.size ≤ gb224) := ⟨h7_⟩
       have n8_ : Aside0 (gb196 ≠ gb224) := ⟨h8_⟩
       have n9_ : Aside0 (gb224 ≠ gb196) := ⟨h9_⟩
       have n10_ : Aside0 (gb197 ≠ gb224) := ⟨h10_⟩
       have n11_ : Aside0 (gb224 ≠ gb197) := ⟨h11_⟩
       have n12_ : Aside0 (gb210 ≠ gb224) := ⟨h12_⟩
       have n13_ : Aside0 (gb224 ≠ gb210) := ⟨h13_⟩
       have n14_ : Aside0 (gb211 ≠ gb224) := ⟨h14_⟩
       have n15_ : Aside0 (gb224 ≠ gb211) := ⟨h15_⟩
       have n16_ : Aside0 (gb225 ≠ gb224) := ⟨h16_⟩
       have n17_ : Aside0 (gb224 ≠ gb225) := ⟨h17_⟩
       have n18_ : Aside0 (w.heap.size ≤ gb225) := ⟨h18_⟩
       have n19_ : Aside0 (w.heap.size ≤ gb225) := ⟨h19_⟩
       have n20_ : Aside0 (gb196 ≠ gb225) := ⟨h20_⟩
       have n21_ : Aside0 (gb225 ≠ gb196) := ⟨h21_⟩
       have n22_ : Aside0 (gb197 ≠ gb225) := ⟨h22_⟩
       have n23_ : Aside0 (gb225 ≠ gb197) := ⟨h23_⟩
       have n24_ : Aside0 (gb210 ≠ gb225) := ⟨h24_⟩
       have n25_ : Aside0 (gb225 ≠ gb210) := ⟨h25_⟩
       have n26_ : Aside0 (gb211 ≠ gb225) := ⟨h26_⟩
       have n27_ : Aside0 (gb225 ≠ gb211) := ⟨h27_⟩
       have n28_ : Aside0 (Below w.heap.size w w34) := ⟨h28_⟩
       clear BK196 BK197 BK210 BK211 HB; clear h0_ h1_ h2_ h3_ h4_ h5_ h6_ h7_ h8_ h9_ h10_ h11_ h12_ h13_ h14_ h15_ h16_ h17_ h18_ h19_ h20_ h21_ h22_ h23_ h24_ h25_ h26_ h27_ h28_; have BK196 := n0_; have BK197 := n1_; have BK210 := n2_; have BK211 := n3_; have BK224 := n4_; have BK225 := n5_; have GW224 := n6_; have GE224 := n7_; have NB196_224 := n8_; have NB224_196 := n9_; have NB197_224 := n10_; have NB224_197 := n11_; have NB210_224 := n12_; have NB224_210 := n13_; have NB211_224 := n14_; have NB224_211 := n15_; have NB225_224 := n16_; have NB224_225 := n17_; have GW225 := n18_; have GE225 := n19_; have NB196_225 := n20_; have NB225_196 := n21_; have NB197_225 := n22_; have NB225_197 := n23_; have NB210_225 := n24_; have NB225_210 := n25_; have NB211_225 := n26_; have NB225_211 := n27_; have HB := n28_; clear n0_ n1_ n2_ n3_ n4_ n5_ n6_ n7_ n8_ n9_ n10_ n11_ n12_ n13_ n14_ n15_ n16_ n17_ n18_ n19_ n20_ n21_ n22_ n23_ n24_ n25_ n26_ n27_ n28_
       have hHeld : w34.cell? ⟨gb196, 0, none⟩ = some (.int .i64 a0_0) ∧ w34.cell? ⟨gb196, 1, none⟩ = some (.int .i64 a0_1) ∧ w34.cell? ⟨gb196, 2, none⟩ = some (.int .i64 a0_2) ∧ w34.cell? ⟨gb197, 0, none⟩ = some (.int .i64 a1_0) ∧ w34.cell? ⟨gb197, 1, none⟩ = some (.int .i64 a1_1) ∧ w34.cell? ⟨gb197, 2, none⟩ = some (.int .i64 a1_2) := hS_
       refine norm_ (a' := ?_) ?_ ?_
       rotate_left
       ·simp only [putAll, Act.put, List.setIfInBounds_toArray, List.set_cons_zero, List.set_cons_succ]
        rfl
       refine one_ (i := 4) (N := some 22) #[true, true, true, true, true, false, false, false, true, true, false, false] rfl rfl (one_of HT_.out (by kernel_rfl)) (by decide) (fun K hK => ?_)
       refine goes_ Try.func26 (by kernel_rfl) rfl #[.agg #[.int .i64 t212, .int .i64 t213, .int .i64 t214], .agg #[.int .i64 t215, .int .i64 t216, .int .i64 t217]] (by rfl) rfl rfl (by (try simp only [List.map_toArray, List.map_cons, List.map_nil]); first | done | rfl | (simp only [List.length_drop, List.length_take]; rfl)) ?_
       with_reducible refine (impl_Charge.calls k t212 t213 t214 t215 t216 t217 t218 t219 t220 t221 t222 t223 _ A8.out).mono ?_
       rintro e w35 ⟨rfl, hb⟩
       refine ⟨_, rfl, ?_⟩
       have n0_ := Gv.a0 (blk_below BK196.out hb)
       have n1_ := Gv.a0 (blk_below BK197.out hb)
       have n2_ := Gv.a0 (blk_below BK210.out hb)
       have n3_ := Gv.a0 (blk_below BK211.out hb)
       have n4_ := Gv.a0 (blk_below BK224.out hb)
       have n5_ := Gv.a0 (blk_below BK225.out hb)
       have n6_ := Gv.a0 (below_step HB.out hb)
       clear BK196 BK197 BK210 BK211 BK224 BK225 HB; have BK196 := n0_; have BK197 := n1_; have BK210 := n2_; have BK211 := n3_; have BK224 := n4_; have BK225 := n5_; have HB := n6_; clear n0_ n1_ n2_ n3_ n4_ n5_ n6_; (try clear hb); (try clear hb2); (try clear hk); (try clear hi)
       refine hK.out _ _ ⟨(blk_cell BK196.out 0).trans rfl, (blk_cell BK196.out 1).trans rfl, (blk_cell BK196.out 2).trans rfl, (blk_cell BK197.out 0).trans rfl, (blk_cell BK197.out 1).trans rfl, (blk_cell BK197.out 2).trans rfl⟩ (fun hHeld => ?_)
       clear hK K
       refine norm_ (a' := ?_) ?_ ?_
       rotate_left
       ·show Act.put _ (some 22) _ = _
        simp only [Act.put, List.setIfInBounds_toArray, List.set_cons_zero, List.set_cons_succ, i64_w, i32_w]
        rfl
       refine pure_ (i := 5) (N := some 17) (v := ?_) (a' := ?_) #[true, true, true, true, true, true, false, false, true, true, false, false] rfl rfl (any_of HT_.out (by kernel_rfl)) (fun _ _ _ h => h) (Or.inl ⟨by rfl, ?_⟩) ?_ ?_
       rotate_left
       ·intro w'
        go_simp
        with_reducible rfl
       rotate_left
       ·simp only [Act.put, List.setIfInBounds_toArray, List.set_cons_zero, List.set_cons_succ, i64_w, i32_w]
        rfl
       refine pure_ (i := 6) (N := some 23) (v := ?_) (a' := ?_) #[true, true, true, true, true, true, true, false, true, true, false, false] rfl rfl (any_of HT_.out (by kernel_rfl)) (fun _ _ _ h => h) (Or.inl ⟨by rfl, ?_⟩) ?_ ?_
       rotate_left
       ·intro w'
        go_simp
        with_reducible rfl
       rotate_left
       ·simp only [Act.put, List.setIfInBounds_toArray, List.set_cons_zero, List.set_cons_succ, i64_w, i32_w]
        rfl
       refine pure_ (i := 7) (N := some 24) (v := ?_) (a' := ?_) #[true, true, true, true, true, true, true, true, true, true, false, false] rfl rfl (any_of HT_.out (by kernel_rfl)) (fun _ _ _ h => h) (Or.inl ⟨by rfl, ?_⟩) ?_ ?_
       rotate_left
       ·intro w'
        go_simp
        with_reducible rfl
       rotate_left
       ·simp only [Act.put, List.setIfInBounds_toArray, List.set_cons_zero, List.set_cons_succ, i64_w, i32_w]
        rfl
       exact Gv.nm (hJ1_3_4_8_9 (gb224, gb225) _ ⟨hHeld, BK196.out, BK197.out, BK210.out, BK211.out, BK224.out, BK225.out, GW224.out, GE224.out, NB196_224.out, NB224_196.out, NB197_224.out, NB224_197.out, NB210_224.out, NB224_210.out, NB211_224.out, NB224_211.out, NB225_224.out, NB224_225.out, GW225.out, GE225.out, NB196_225.out, NB225_196.out, NB197_225.out, NB225_197.out, NB210_225.out, NB225_210.out, NB211_225.out, NB225_211.out, HB.out⟩)
     ·skip
      rintro gb225 w34 ⟨hS_, h0_, h1_, h2_, h3_, h4_, h5_, h6_, h7_, h8_, h9_, h10_, h11_, h12_, h13_, h14_, h15_⟩
      have n0_ : Aside0 (w34.heap[gb196]? = some (.cells #[.int .i64 a0_0, .int .i64 a0_1, .int .i64 a0_2] 23 (0, 0))) := ⟨h0_⟩
      have n1_ : Aside0 (w34.heap[gb197]? = some (.cells #[.int .i64 a1_0, .int .i64 a1_1, .int .i64 a1_2] 23 (0, 0))) := ⟨h1_⟩
      have n2_ : Aside0 (w34.heap[gb210]? = some (.cells #[.int .i64 t204, .int .i64 t205, .int .i64 t206] 26 (0, 0))) := ⟨h2_⟩
      have n3_ : Aside0 (w34.heap[gb211]? = some (.cells #[.int .i64 t207, .int .i64 t208, .int .i64 t209] 26 (0, 0))) := ⟨h3_⟩
      have n4_ : Aside0 (w34.heap[gb225]? = some (.cells #[.int .i64 0, .int .i64 0, .int .i64 0] 26 (0, 0))) := ⟨h4_⟩
      have n5_ : Aside0 (w.heap.size ≤ gb225) := ⟨h5_⟩
      have n6_ : Aside0 (w.heap.size ≤ gb225) := ⟨h6_⟩
      have n7_ : Aside0 (gb196 ≠ gb225) := ⟨h7_⟩
      have n8_ : Aside0 (gb225 ≠ gb196) := ⟨h8_⟩
      have n9_ : Aside0 (gb197 ≠ gb225) := ⟨h9_⟩
      have n10_ : Aside0 (gb225 ≠ gb197) := ⟨h10_⟩
      have n11_ : Aside0 (gb210 ≠ gb225) := ⟨h11_⟩
      have n12_ : Aside0 (gb225 ≠ gb210) := ⟨h12_⟩
      have n13_ : Aside0 (gb211 ≠ gb225) := ⟨h13_⟩
      have n14_ : Aside0 (gb225 ≠ gb211) := ⟨h14_⟩
      have n15_ : Aside0 (Below w.heap.size w w34) := ⟨h15_⟩
      clear BK196 BK197 BK210 BK211 HB; clear h0_ h1_ h2_ h3_ h4_ h5_ h6_ h7_ h8_ h9_ h10_ h11_ h12_ h13_ h14_ h15_; have BK196 := n0_; have BK197 := n1_; have BK210 := n2_; have BK211 := n3_; have BK225 := n4_; have GW225 := n5_; have GE225 := n6_; have NB196_225 := n7_; have NB225_196 := n8_; have NB197_225 := n9_; have NB225_197 := n10_; have NB210_225 := n11_; have NB225_210 := n12_; have NB211_225 := n13_; have NB225_211 := n14_; have HB := n15_; clear n0_ n1_ n2_ n3_ n4_ n5_ n6_ n7_ n8_ n9_ n10_ n11_ n12_ n13_ n14_ n15_
      have hHeld : w34.cell? ⟨gb196, 0, none⟩ = some (.int .i64 a0_0) ∧ w34.cell? ⟨gb196, 1, none⟩ = some (.int .i64 a0_1) ∧ w34.cell? ⟨gb196, 2, none⟩ = some (.int .i64 a0_2) ∧ w34.cell? ⟨gb197, 0, none⟩ = some (.int .i64 a1_0) ∧ w34.cell? ⟨gb197, 1, none⟩ = some (.int .i64 a1_1) ∧ w34.cell? ⟨gb197, 2, none⟩ = some (.int .i64 a1_2) := hS_
      refine norm_ (a' := ?_) ?_ ?_
      rotate_left
      ·simp only [putAll, Act.put, List.setIfInBounds_toArray, List.set_cons_zero, List.set_cons_succ]
       rfl
      refine one_ (i := 8) (N := some 7) #[true, true, true, true, true, true, true, true, true, true, false, false] rfl rfl (one_of HT_.out (by kernel_rfl)) (by decide) (fun K hK => ?_)
      refine box_step ?hg (N := 7) ?hd (cs := #[.int .i64 0, .int .i64 0, .int .i64 0]) (t := 26) ?hr ?_; (case hd => rfl); (case hg => rfl); (case hr => first | (go_simp; done) | (go_simp; rfl))
      intro gb224 hg w35 hbox hb
      have n0_ := Gv.a0 (blk_below BK196.out hb)
      have n1_ := Gv.a0 (blk_below BK197.out hb)
      have n2_ := Gv.a0 (blk_below BK210.out hb)
      have n3_ := Gv.a0 (blk_below BK211.out hb)
      have n4_ := Gv.a0 (blk_below BK225.out hb)
      have n5_ := Gv.a0 (below_step HB.out hb)
      have n6_ := Gv.a0 (hbox)
      have n7_ := Gv.a0 (Gv.ble hg HB.out : w.heap.size ≤ gb224)
      have n8_ := Gv.a0 (Gv.ble hg HB.out : w.heap.size ≤ gb224)
      have n9_ := Gv.a0 (Gv.nlt hg BK196.out : gb196 ≠ gb224)
      have n10_ := Gv.a0 (Gv.ngt hg BK196.out : gb224 ≠ gb196)
      have n11_ := Gv.a0 (Gv.nlt hg BK197.out : gb197 ≠ gb224)
      have n12_ := Gv.a0 (Gv.ngt hg BK197.out : gb224 ≠ gb197)
      have n13_ := Gv.a0 (Gv.nlt hg BK210.out : gb210 ≠ gb224)
      have n14_ := Gv.a0 (Gv.ngt hg BK210.out : gb224 ≠ gb210)
      have n15_ := Gv.a0 (Gv.nlt hg BK211.out : gb211 ≠ gb224)
      have n16_ := Gv.a0 (Gv.ngt hg BK211.out : gb224 ≠ gb211)
      have n17_ := Gv.a0 (Gv.nlt hg BK225.out : gb225 ≠ gb224)
      have n18_ := Gv.a0 (Gv.ngt hg BK225.out : gb224 ≠ gb225)
      clear BK196 BK197 BK210 BK211 BK225 HB; have BK196 := n0_; have BK197 := n1_; have BK210 := n2_; have BK211 := n3_; have BK225 := n4_; have HB := n5_; have BK224 := n6_; have GW224 := n7_; have GE224 := n8_; have NB196_224 := n9_; have NB224_196 := n10_; have NB197_224 := n11_; have NB224_197 := n12_; have NB210_224 := n13_; have NB224_210 := n14_; have NB211_224 := n15_; have NB224_211 := n16_; have NB225_224 := n17_; have NB224_225 := n18_; clear n0_ n1_ n2_ n3_ n4_ n5_ n6_ n7_ n8_ n9_ n10_ n11_ n12_ n13_ n14_ n15_ n16_ n17_ n18_; clear hb hbox hg
      refine hK.out _ _ ⟨(blk_cell BK196.out 0).trans rfl, (blk_cell BK196.out 1).trans rfl, (blk_cell BK196.out 2).trans rfl, (blk_cell BK197.out 0).trans rfl, (blk_cell BK197.out 1).trans rfl, (blk_cell BK197.out 2).trans rfl⟩ (fun hHeld => ?_)
      clear hK K
      refine norm_ (a' := ?_) ?_ ?_
      rotate_left
      ·show Act.put _ (some 7) _ = _
       simp only [Act.put, List.setIfInBounds_toArray, List.set_cons_zero, List.set_cons_succ, i64_w, i32_w]
       rfl
      exact Gv.nm (hJ1_3_4_8_9 (gb224, gb225) _ ⟨hHeld, BK196.out, BK197.out, BK210.out, BK211.out, BK224.out, BK225.out, GW224.out, GE224.out, NB196_224.out, NB224_196.out, NB197_224.out, NB224_197.out, NB210_224.out, NB224_210.out, NB211_224.out, NB224_211.out, NB225_224.out, NB224_225.out, GW225.out, GE225.out, NB196_225.out, NB225_196.out, NB197_225.out, NB225_197.out, NB210_225.out, NB225_210.out, NB211_225.out, NB225_211.out, HB.out⟩)
    ·skip
     rintro gb224 w34 ⟨hS_, h0_, h1_, h2_, h3_, h4_, h5_, h6_, h7_, h8_, h9_, h10_, h11_, h12_, h13_, h14_, h15_⟩
     have n0_ : Aside0 (w34.heap[gb196]? = some (.cells #[.int .i64 a0_0, .int .i64 a0_1, .int .i64 a0_2] 23 (0, 0))) := ⟨h0_⟩
     have n1_ : Aside0 (w34.heap[gb197]? = some (.cells #[.int .i64 a1_0, .int .i64 a1_1, .int .i64 a1_2] 23 (0, 0))) := ⟨h1_⟩
     have n2_ : Aside0 (w34.heap[gb210]? = some (.cells #[.int .i64 t204, .int .i64 t205, .int .i64 t206] 26 (0, 0))) := ⟨h2_⟩
     have n3_ : Aside0 (w34.heap[gb211]? = some (.cells #[.int .i64 t207, .int .i64 t208, .int .i64 t209] 26 (0, 0))) := ⟨h3_⟩
     have n4_ : Aside0 (w34.heap[gb224]? = some (.cells #[.int .i64 0, .int .i64 0, .int .i64 0] 26 (0, 0))) := ⟨h4_⟩
     have n5_ : Aside0 (w.heap.size ≤ gb224) := ⟨h5_⟩
     have n6_ : Aside0 (w.heap.size ≤ gb224) := ⟨h6_⟩
     have n7_ : Aside0 (gb196 ≠ gb224) := ⟨h7_⟩
     have n8_ : Aside0 (gb224 ≠ gb196) := ⟨h8_⟩
     have n9_ : Aside0 (gb197 ≠ gb224) := ⟨h9_⟩
     have n10_ : Aside0 (gb224 ≠ gb197) := ⟨h10_⟩
     have n11_ : Aside0 (gb210 ≠ gb224) := ⟨h11_⟩
     have n12_ : Aside0 (gb224 ≠ gb210) := ⟨h12_⟩
     have n13_ : Aside0 (gb211 ≠ gb224) := ⟨h13_⟩
     have n14_ : Aside0 (gb224 ≠ gb211) := ⟨h14_⟩
     have n15_ : Aside0 (Below w.heap.size w w34) := ⟨h15_⟩
     clear BK196 BK197 BK210 BK211 HB; clear h0_ h1_ h2_ h3_ h4_ h5_ h6_ h7_ h8_ h9_ h10_ h11_ h12_ h13_ h14_ h15_; have BK196 := n0_; have BK197 := n1_; have BK210 := n2_; have BK211 := n3_; have BK224 := n4_; have GW224 := n5_; have GE224 := n6_; have NB196_224 := n7_; have NB224_196 := n8_; have NB197_224 := n9_; have NB224_197 := n10_; have NB210_224 := n11_; have NB224_210 := n12_; have NB211_224 := n13_; have NB224_211 := n14_; have HB := n15_; clear n0_ n1_ n2_ n3_ n4_ n5_ n6_ n7_ n8_ n9_ n10_ n11_ n12_ n13_ n14_ n15_
     have hHeld : w34.cell? ⟨gb196, 0, none⟩ = some (.int .i64 a0_0) ∧ w34.cell? ⟨gb196, 1, none⟩ = some (.int .i64 a0_1) ∧ w34.cell? ⟨gb196, 2, none⟩ = some (.int .i64 a0_2) ∧ w34.cell? ⟨gb197, 0, none⟩ = some (.int .i64 a1_0) ∧ w34.cell? ⟨gb197, 1, none⟩ = some (.int .i64 a1_1) ∧ w34.cell? ⟨gb197, 2, none⟩ = some (.int .i64 a1_2) := hS_
     refine norm_ (a' := ?_) ?_ ?_
     rotate_left
     ·simp only [putAll, Act.put, List.setIfInBounds_toArray, List.set_cons_zero, List.set_cons_succ]
      rfl
     refine one_ (i := 9) (N := some 8) #[true, true, true, true, true, true, true, true, true, true, false, false] rfl rfl (one_of HT_.out (by kernel_rfl)) (by decide) (fun K hK => ?_)
     refine box_step ?hg (N := 8) ?hd (cs := #[.int .i64 0, .int .i64 0, .int .i64 0]) (t := 26) ?hr ?_; (case hd => rfl); (case hg => rfl); (case hr => first | (go_simp; done) | (go_simp; rfl))
     intro gb225 hg w35 hbox hb
     have n0_ := Gv.a0 (blk_below BK196.out hb)
     have n1_ := Gv.a0 (blk_below BK197.out hb)
     have n2_ := Gv.a0 (blk_below BK210.out hb)
     have n3_ := Gv.a0 (blk_below BK211.out hb)
     have n4_ := Gv.a0 (blk_below BK224.out hb)
     have n5_ := Gv.a0 (below_step HB.out hb)
     have n6_ := Gv.a0 (hbox)
     have n7_ := Gv.a0 (Gv.ble hg HB.out : w.heap.size ≤ gb225)
     have n8_ := Gv.a0 (Gv.ble hg HB.out : w.heap.size ≤ gb225)
     have n9_ := Gv.a0 (Gv.nlt hg BK196.out : gb196 ≠ gb225)
     have n10_ := Gv.a0 (Gv.ngt hg BK196.out : gb225 ≠ gb196)
     have n11_ := Gv.a0 (Gv.nlt hg BK197.out : gb197 ≠ gb225)
     have n12_ := Gv.a0 (Gv.ngt hg BK197.out : gb225 ≠ gb197)
     have n13_ := Gv.a0 (Gv.nlt hg BK210.out : gb210 ≠ gb225)
     have n14_ := Gv.a0 (Gv.ngt hg BK210.out : gb225 ≠ gb210)
     have n15_ := Gv.a0 (Gv.nlt hg BK211.out : gb211 ≠ gb225)
     have n16_ := Gv.a0 (Gv.ngt hg BK211.out : gb225 ≠ gb211)
     have n17_ := Gv.a0 (Gv.nlt hg BK224.out : gb224 ≠ gb225)
     have n18_ := Gv.a0 (Gv.ngt hg BK224.out : gb225 ≠ gb224)
     clear BK196 BK197 BK210 BK211 BK224 HB; have BK196 := n0_; have BK197 := n1_; have BK210 := n2_; have BK211 := n3_; have BK224 := n4_; have HB := n5_; have BK225 := n6_; have GW225 := n7_; have GE225 := n8_; have NB196_225 := n9_; have NB225_196 := n10_; have NB197_225 := n11_; have NB225_197 := n12_; have NB210_225 := n13_; have NB225_210 := n14_; have NB211_225 := n15_; have NB225_211 := n16_; have NB224_225 := n17_; have NB225_224 := n18_; clear n0_ n1_ n2_ n3_ n4_ n5_ n6_ n7_ n8_ n9_ n10_ n11_ n12_ n13_ n14_ n15_ n16_ n17_ n18_; clear hb hbox hg
     refine hK.out _ _ ⟨(blk_cell BK196.out 0).trans rfl, (blk_cell BK196.out 1).trans rfl, (blk_cell BK196.out 2).trans rfl, (blk_cell BK197.out 0).trans rfl, (blk_cell BK197.out 1).trans rfl, (blk_cell BK197.out 2).trans rfl⟩ (fun hHeld => ?_)
     clear hK K
     refine norm_ (a' := ?_) ?_ ?_
     rotate_left
     ·show Act.put _ (some 8) _ = _
      simp only [Act.put, List.setIfInBounds_toArray, List.set_cons_zero, List.set_cons_succ, i64_w, i32_w]
      rfl
     exact Gv.nm (hJ1_3_4_8_9 (gb224, gb225) _ ⟨hHeld, BK196.out, BK197.out, BK210.out, BK211.out, BK224.out, BK225.out, GW224.out, GE224.out, NB196_224.out, NB224_196.out, NB197_224.out, NB224_197.out, NB210_224.out, NB224_210.out, NB211_224.out, NB224_211.out, NB225_224.out, NB224_225.out, GW225.out, GE225.out, NB196_225.out, NB225_196.out, NB197_225.out, NB225_197.out, NB210_225.out, NB225_210.out, NB211_225.out, NB225_211.out, HB.out⟩)
   rintro ⟨gb224, gb225⟩ w35 ⟨hS_, h0_, h1_, h2_, h3_, h4_, h5_, h6_, h7_, h8_, h9_, h10_, h11_, h12_, h13_, h14_, h15_, h16_, h17_, h18_, h19_, h20_, h21_, h22_, h23_, h24_, h25_, h26_, h27_, h28_⟩
   have n0_ : Aside0 (w35.heap[gb196]? = some (.cells #[.int .i64 a0_0, .int .i64 a0_1, .int .i64 a0_2] 23 (0, 0))) := ⟨h0_⟩
   have n1_ : Aside0 (w35.heap[gb197]? = some (.cells #[.int .i64 a1_0, .int .i64 a1_1, .int .i64 a1_2] 23 (0, 0))) := ⟨h1_⟩
   have n2_ : Aside0 (w35.heap[gb210]? = some (.cells #[.int .i64 t204, .int .i64 t205, .int .i64 t206] 26 (0, 0))) := ⟨h2_⟩
   have n3_ : Aside0 (w35.heap[gb211]? = some (.cells #[.int .i64 t207, .int .i64 t208, .int .i64 t209] 26 (0, 0))) := ⟨h3_⟩
   have n4_ : Aside0 (w35.heap[gb224]? = some (.cells #[.int .i64 0, .int .i64 0, .int .i64 0] 26 (0, 0))) := ⟨h4_⟩
   have n5_ : Aside0 (w35.heap[gb225]? = some (.cells #[.int .i64 0, .int .i64 0, .int .i64 0] 26 (0, 0))) := ⟨h5_⟩
   have n6_ : Aside0 (w.heap.size ≤ gb224) := ⟨h6_⟩
   have n7_ : Aside0 (w.heap.size ≤ gb224) := ⟨h7_⟩
   have n8_ : Aside0 (gb196 ≠ gb224) := ⟨h8_⟩
   have n9_ : Aside0 (gb224 ≠ gb196) := ⟨h9_⟩
   have n10_ : Aside0 (gb197 ≠ gb224) := ⟨h10_⟩
   have n11_ : Aside0 (gb224 ≠ gb197) := ⟨h11_⟩
   have n12_ : Aside0 (gb210 ≠ gb224) := ⟨h12_⟩
   have n13_ : Aside0 (gb224 ≠ gb210) := ⟨h13_⟩
   have n14_ : Aside0 (gb211 ≠ gb224) := ⟨h14_⟩
   have n15_ : Aside0 (gb224 ≠ gb211) := ⟨h15_⟩
   have n16_ : Aside0 (gb225 ≠ gb224) := ⟨h16_⟩
   have n17_ : Aside0 (gb224 ≠ gb225) := ⟨h17_⟩
   have n18_ : Aside0 (w.heap.size ≤ gb225) := ⟨h18_⟩
   have n19_ : Aside0 (w.heap.size ≤ gb225) := ⟨h19_⟩
   have n20_ : Aside0 (gb196 ≠ gb225) := ⟨h20_⟩
   have n21_ : Aside0 (gb225 ≠ gb196) := ⟨h21_⟩
   have n22_ : Aside0 (gb197 ≠ gb225) := ⟨h22_⟩
   have n23_ : Aside0 (gb225 ≠ gb197) := ⟨h23_⟩
   have n24_ : Aside0 (gb210 ≠ gb225) := ⟨h24_⟩
   have n25_ : Aside0 (gb225 ≠ gb210) := ⟨h25_⟩
   have n26_ : Aside0 (gb211 ≠ gb225) := ⟨h26_⟩
   have n27_ : Aside0 (gb225 ≠ gb211) := ⟨h27_⟩
   have n28_ : Aside0 (Below w.heap.size w w35) := ⟨h28_⟩
   clear BK196 BK197 BK210 BK211 HB; clear h0_ h1_ h2_ h3_ h4_ h5_ h6_ h7_ h8_ h9_ h10_ h11_ h12_ h13_ h14_ h15_ h16_ h17_ h18_ h19_ h20_ h21_ h22_ h23_ h24_ h25_ h26_ h27_ h28_; have BK196 := n0_; have BK197 := n1_; have BK210 := n2_; have BK211 := n3_; have BK224 := n4_; have BK225 := n5_; have GW224 := n6_; have GE224 := n7_; have NB196_224 := n8_; have NB224_196 := n9_; have NB197_224 := n10_; have NB224_197 := n11_; have NB210_224 := n12_; have NB224_210 := n13_; have NB211_224 := n14_; have NB224_211 := n15_; have NB225_224 := n16_; have NB224_225 := n17_; have GW225 := n18_; have GE225 := n19_; have NB196_225 := n20_; have NB225_196 := n21_; have NB197_225 := n22_; have NB225_197 := n23_; have NB210_225 := n24_; have NB225_210 := n25_; have NB211_225 := n26_; have NB225_211 := n27_; have HB := n28_; clear n0_ n1_ n2_ n3_ n4_ n5_ n6_ n7_ n8_ n9_ n10_ n11_ n12_ n13_ n14_ n15_ n16_ n17_ n18_ n19_ n20_ n21_ n22_ n23_ n24_ n25_ n26_ n27_ n28_
   have hHeld : w35.cell? ⟨gb196, 0, none⟩ = some (.int .i64 a0_0) ∧ w35.cell? ⟨gb196, 1, none⟩ = some (.int .i64 a0_1) ∧ w35.cell? ⟨gb196, 2, none⟩ = some (.int .i64 a0_2) ∧ w35.cell? ⟨gb197, 0, none⟩ = some (.int .i64 a1_0) ∧ w35.cell? ⟨gb197, 1, none⟩ = some (.int .i64 a1_1) ∧ w35.cell? ⟨gb197, 2, none⟩ = some (.int .i64 a1_2) := hS_
   refine norm_ (a' := ?_) ?_ ?_
   rotate_left
   ·simp only [putAll, Act.put, List.setIfInBounds_toArray, List.set_cons_zero, List.set_cons_succ]
    rfl
   refine one_ (i := 10) (N := none) #[true, true, true, true, true, true, true, true, true, true, true, false] rfl rfl (one_of HT_.out (by kernel_rfl)) (by decide) (fun K hK => ?_)
   have hs36 : w35.cell? ⟨gb224, 0, none⟩ = some (.int .i64 0) := (blk_cell BK224.out 0).trans rfl
   have hfs36 := blk_frozen BK224.out 0
   have hns36_0 := NB196_224.out
   have hns36_1 := NB197_224.out
   have hns36_2 := NB210_224.out
   have hns36_3 := NB211_224.out
   have hns36_5 := NB225_224.out
   have hms36_0 := NB224_196.out
   have hms36_1 := NB224_197.out
   have hms36_2 := NB224_210.out
   have hms36_3 := NB224_211.out
   have hms36_5 := NB224_225.out
   have hs37 : w35.cell? ⟨gb224, 1, none⟩ = some (.int .i64 0) := (blk_cell BK224.out 1).trans rfl
   have hfs37 := blk_frozen BK224.out 1
   have hns37_0 := NB196_224.out
   have hns37_1 := NB197_224.out
   have hns37_2 := NB210_224.out
   have hns37_3 := NB211_224.out
   have hns37_5 := NB225_224.out
   have hms37_0 := NB224_196.out
   have hms37_1 := NB224_197.out
   have hms37_2 := NB224_210.out
   have hms37_3 := NB224_211.out
   have hms37_5 := NB224_225.out
   have hs38 : w35.cell? ⟨gb224, 2, none⟩ = some (.int .i64 0) := (blk_cell BK224.out 2).trans rfl
   have hfs38 := blk_frozen BK224.out 2
   have hns38_0 := NB196_224.out
   have hns38_1 := NB197_224.out
   have hns38_2 := NB210_224.out
   have hns38_3 := NB211_224.out
   have hns38_5 := NB225_224.out
   have hms38_0 := NB224_196.out
   have hms38_1 := NB224_197.out
   have hms38_2 := NB224_210.out
   have hms38_3 := NB224_211.out
   have hms38_5 := NB224_225.out
   refine skip_ (w1 := ?_) (by rfl) rfl ?_ ?_
   rotate_left
   ·go_simp
    rfl
   refine hK.out _ _ ⟨((cell_far (p := ⟨gb224, _, none⟩) NB196_224.out _).trans (((cell_far (p := ⟨gb224, _, none⟩) NB196_224.out _).trans (((cell_far (p := ⟨gb224, _, none⟩) NB196_224.out _).trans (hHeld.1)))))), ((cell_far (p := ⟨gb224, _, none⟩) NB196_224.out _).trans (((cell_far (p := ⟨gb224, _, none⟩) NB196_224.out _).trans (((cell_far (p := ⟨gb224, _, none⟩) NB196_224.out _).trans (hHeld.2.1)))))), ((cell_far (p := ⟨gb224, _, none⟩) NB196_224.out _).trans (((cell_far (p := ⟨gb224, _, none⟩) NB196_224.out _).trans (((cell_far (p := ⟨gb224, _, none⟩) NB196_224.out _).trans (hHeld.2.2.1)))))), ((cell_far (p := ⟨gb224, _, none⟩) NB197_224.out _).trans (((cell_far (p := ⟨gb224, _, none⟩) NB197_224.out _).trans (((cell_far (p := ⟨gb224, _, none⟩) NB197_224.out _).trans (hHeld.2.2.2.1)))))), ((cell_far (p := ⟨gb224, _, none⟩) NB197_224.out _).trans (((cell_far (p := ⟨gb224, _, none⟩) NB197_224.out _).trans (((cell_far (p := ⟨gb224, _, none⟩) NB197_224.out _).trans (hHeld.2.2.2.2.1)))))), ((cell_far (p := ⟨gb224, _, none⟩) NB197_224.out _).trans (((cell_far (p := ⟨gb224, _, none⟩) NB197_224.out _).trans (((cell_far (p := ⟨gb224, _, none⟩) NB197_224.out _).trans (hHeld.2.2.2.2.2))))))⟩ (fun hHeld => ?_)
   clear hK K
   refine one_ (i := 11) (N := none) #[true, true, true, true, true, true, true, true, true, true, true, true] rfl rfl (one_of HT_.out (by kernel_rfl)) (by decide) (fun K hK => ?_)
   have hs39 : w35.cell? ⟨gb225, 0, none⟩ = some (.int .i64 0) := (blk_cell BK225.out 0).trans rfl
   have hfs39 := blk_frozen BK225.out 0
   have hns39_0 := NB196_225.out
   have hns39_1 := NB197_225.out
   have hns39_2 := NB210_225.out
   have hns39_3 := NB211_225.out
   have hns39_4 := NB224_225.out
   have hms39_0 := NB225_196.out
   have hms39_1 := NB225_197.out
   have hms39_2 := NB225_210.out
   have hms39_3 := NB225_211.out
   have hms39_4 := NB225_224.out
   have hs40 : w35.cell? ⟨gb225, 1, none⟩ = some (.int .i64 0) := (blk_cell BK225.out 1).trans rfl
   have hfs40 := blk_frozen BK225.out 1
   have hns40_0 := NB196_225.out
   have hns40_1 := NB197_225.out
   have hns40_2 := NB210_225.out
   have hns40_3 := NB211_225.out
   have hns40_4 := NB224_225.out
   have hms40_0 := NB225_196.out
   have hms40_1 := NB225_197.out
   have hms40_2 := NB225_210.out
   have hms40_3 := NB225_211.out
   have hms40_4 := NB225_224.out
   have hs41 : w35.cell? ⟨gb225, 2, none⟩ = some (.int .i64 0) := (blk_cell BK225.out 2).trans rfl
   have hfs41 := blk_frozen BK225.out 2
   have hns41_0 := NB196_225.out
   have hns41_1 := NB197_225.out
   have hns41_2 := NB210_225.out
   have hns41_3 := NB211_225.out
   have hns41_4 := NB224_225.out
   have hms41_0 := NB225_196.out
   have hms41_1 := NB225_197.out
   have hms41_2 := NB225_210.out
   have hms41_3 := NB225_211.out
   have hms41_4 := NB225_224.out
   refine skip_ (w1 := ?_) (by rfl) rfl ?_ ?_
   rotate_left
   ·go_simp
    rfl
   refine hK.out _ _ ⟨((cell_far (p := ⟨gb225, _, none⟩) NB196_225.out _).trans (((cell_far (p := ⟨gb225, _, none⟩) NB196_225.out _).trans (((cell_far (p := ⟨gb225, _, none⟩) NB196_225.out _).trans (hHeld.1)))))), ((cell_far (p := ⟨gb225, _, none⟩) NB196_225.out _).trans (((cell_far (p := ⟨gb225, _, none⟩) NB196_225.out _).trans (((cell_far (p := ⟨gb225, _, none⟩) NB196_225.out _).trans (hHeld.2.1)))))), ((cell_far (p := ⟨gb225, _, none⟩) NB196_225.out _).trans (((cell_far (p := ⟨gb225, _, none⟩) NB196_225.out _).trans (((cell_far (p := ⟨gb225, _, none⟩) NB196_225.out _).trans (hHeld.2.2.1)))))), ((cell_far (p := ⟨gb225, _, none⟩) NB197_225.out _).trans (((cell_far (p := ⟨gb225, _, none⟩) NB197_225.out _).trans (((cell_far (p := ⟨gb225, _, none⟩) NB197_225.out _).trans (hHeld.2.2.2.1)))))), ((cell_far (p := ⟨gb225, _, none⟩) NB197_225.out _).trans (((cell_far (p := ⟨gb225, _, none⟩) NB197_225.out _).trans (((cell_far (p := ⟨gb225, _, none⟩) NB197_225.out _).trans (hHeld.2.2.2.2.1)))))), ((cell_far (p := ⟨gb225, _, none⟩) NB197_225.out _).trans (((cell_far (p := ⟨gb225, _, none⟩) NB197_225.out _).trans (((cell_far (p := ⟨gb225, _, none⟩) NB197_225.out _).trans (hHeld.2.2.2.2.2))))))⟩ (fun hHeld => ?_)
   clear hK K
   refine done_ (done_of HT_.out (by kernel_rfl)) ?_
   have hnb42 := NB224_196.out
   have hnc42 := NB196_224.out
   have hnb43 := NB224_197.out
   have hnc43 := NB197_224.out
   have hnb44 := NB224_210.out
   have hnc44 := NB210_224.out
   have hnb45 := NB224_211.out
   have hnc45 := NB211_224.out
   have hnb46 := NB224_225.out
   have hnc46 := NB225_224.out
   have hcz47_0 : w35.cell? ⟨gb224, 0, none⟩ = some (.int .i64 0) := (blk_cell BK224.out 0).trans rfl
   have hcz47_1 : w35.cell? ⟨gb224, 1, none⟩ = some (.int .i64 0) := (blk_cell BK224.out 1).trans rfl
   have hcz47_2 : w35.cell? ⟨gb224, 2, none⟩ = some (.int .i64 0) := (blk_cell BK224.out 2).trans rfl
   have hfz47_0 := blk_frozen BK224.out 0
   have hfz47_1 := blk_frozen BK224.out 1
   have hfz47_2 := blk_frozen BK224.out 2
   have hnb48 := NB210_196.out
   have hnc48 := NB196_210.out
   have hnb49 := NB210_197.out
   have hnc49 := NB197_210.out
   have hnb50 := NB210_211.out
   have hnc50 := NB211_210.out
   have hnb51 := NB210_225.out
   have hnc51 := NB225_210.out
   have hcz52_0 : w35.cell? ⟨gb210, 0, none⟩ = some (.int .i64 t204) := (blk_cell BK210.out 0).trans rfl
   have hcz52_1 : w35.cell? ⟨gb210, 1, none⟩ = some (.int .i64 t205) := (blk_cell BK210.out 1).trans rfl
   have hcz52_2 : w35.cell? ⟨gb210, 2, none⟩ = some (.int .i64 t206) := (blk_cell BK210.out 2).trans rfl
   have hfz52_0 := blk_frozen BK210.out 0
   have hfz52_1 := blk_frozen BK210.out 1
   have hfz52_2 := blk_frozen BK210.out 2
   try go_wp2_with (first | ((with_reducible refine gate_callee (f := 14) rfl ?_); refine goesL_ (some 27) rfl rfl Try.func14 (by kernel_rfl) rfl #[.agg #[.int .i64 t218, .int .i64 t219, .int .i64 t220], .agg #[.int .i64 t204, .int .i64 t205, .int .i64 t206]] rfl (by (try simp only [List.map_toArray, List.map_cons, List.map_nil]); first | done | rfl | (simp only [List.length_drop, List.length_take]; rfl)) ?_; (with_reducible refine (laws_eqVec.calls t218 t219 t220 t204 t205 t206 true _ A9.out).mono ?_); rintro e w53 ⟨rfl, hb⟩; refine ⟨_, rfl, ?_⟩; have n0_ := Gv.a0 (blk_below (g := gb196) (o := .cells #[.int .i64 a0_0, .int .i64 a0_1, .int .i64 a0_2] 23 (0, 0)) Gv.bkf hb); have n1_ := Gv.a0 (blk_below (g := gb197) (o := .cells #[.int .i64 a1_0, .int .i64 a1_1, .int .i64 a1_2] 23 (0, 0)) Gv.bkf hb); have n2_ := Gv.a0 (blk_below (g := gb210) (o := .cells #[.int .i64 t204, .int .i64 t205, .int .i64 t206] 26 (0, 0)) Gv.bkf hb); have n3_ := Gv.a0 (blk_below (g := gb211) (o := .cells #[.int .i64 t207, .int .i64 t208, .int .i64 t209] 26 (0, 0)) Gv.bkf hb); have n4_ := Gv.a0 (blk_below (g := gb224) (o := .cells #[.int .i64 t218, .int .i64 t219, .int .i64 t220] 26 (0, 0)) (by (with_reducible repeat (first | refine blk_drewN ?_ _ | refine blk_drew ?_ | refine blk_alloc ?_ _)); refine blk_far ?_ NB224_225.out _; (with_reducible repeat (first | refine blk_drewN ?_ _ | refine blk_drew ?_ | refine blk_alloc ?_ _)); refine blk_far ?_ NB224_225.out _; (with_reducible repeat (first | refine blk_drewN ?_ _ | refine blk_drew ?_ | refine blk_alloc ?_ _)); refine blk_far ?_ NB224_225.out _; (with_reducible repeat (first | refine blk_drewN ?_ _ | refine blk_drew ?_ | refine blk_alloc ?_ _)); refine blk_put (cs := #[.int .i64 t218, .int .i64 t219, .int .i64 0]) ?_ 2 _ rfl; (with_reducible repeat (first | refine blk_drewN ?_ _ | refine blk_drew ?_ | refine blk_alloc ?_ _)); refine blk_put (cs := #[.int .i64 t218, .int .i64 0, .int .i64 0]) ?_ 1 _ rfl; (with_reducible repeat (first | refine blk_drewN ?_ _ | refine blk_drew ?_ | refine blk_alloc ?_ _)); refine blk_put (cs := #[.int .i64 0, .int .i64 0, .int .i64 0]) ?_ 0 _ rfl; (with_reducible repeat (first | refine blk_drewN ?_ _ | refine blk_drew ?_ | refine blk_alloc ?_ _)); exact BK224.out) hb); have n5_ := Gv.a0 (blk_below (g := gb225) (o := .cells #[.int .i64 t221, .int .i64 t222, .int .i64 t223] 26 (0, 0)) (by (with_reducible repeat (first | refine blk_drewN ?_ _ | refine blk_drew ?_ | refine blk_alloc ?_ _)); refine blk_put (cs := #[.int .i64 t221, .int .i64 t222, .int .i64 0]) ?_ 2 _ rfl; (with_reducible repeat (first | refine blk_drewN ?_ _ | refine blk_drew ?_ | refine blk_alloc ?_ _)); refine blk_put (cs := #[.int .i64 t221, .int .i64 0, .int .i64 0]) ?_ 1 _ rfl; (with_reducible repeat (first | refine blk_drewN ?_ _ | refine blk_drew ?_ | refine blk_alloc ?_ _)); refine blk_put (cs := #[.int .i64 0, .int .i64 0, .int .i64 0]) ?_ 0 _ rfl; (with_reducible repeat (first | refine blk_drewN ?_ _ | refine blk_drew ?_ | refine blk_alloc ?_ _)); refine blk_far ?_ NB225_224.out _; (with_reducible repeat (first | refine blk_drewN ?_ _ | refine blk_drew ?_ | refine blk_alloc ?_ _)); refine blk_far ?_ NB225_224.out _; (with_reducible repeat (first | refine blk_drewN ?_ _ | refine blk_drew ?_ | refine blk_alloc ?_ _)); refine blk_far ?_ NB225_224.out _; (with_reducible repeat (first | refine blk_drewN ?_ _ | refine blk_drew ?_ | refine blk_alloc ?_ _)); exact BK225.out) hb); have n6_ := Gv.a0 (below_step Gv.bw hb); clear BK196; clear BK197; clear BK210; clear BK211; clear BK224; clear BK225; clear HB; have BK196 := n0_; have BK197 := n1_; have BK210 := n2_; have BK211 := n3_; have BK224 := n4_; have BK225 := n5_; have HB := n6_; clear n0_ n1_ n2_ n3_ n4_ n5_ n6_; (try clear hb); (try clear hb2); (try clear hk); (try clear hi); have hnb54 := NB225_196.out; have hnc54 := NB196_225.out; have hnb55 := NB225_197.out; have hnc55 := NB197_225.out; have hnb56 := NB225_211.out; have hnc56 := NB211_225.out; have hcz57_0 : w53.cell? ⟨gb225, 0, none⟩ = some (.int .i64 t221) := (blk_cell BK225.out 0).trans rfl; have hcz57_1 : w53.cell? ⟨gb225, 1, none⟩ = some (.int .i64 t222) := (blk_cell BK225.out 1).trans rfl; have hcz57_2 : w53.cell? ⟨gb225, 2, none⟩ = some (.int .i64 t223) := (blk_cell BK225.out 2).trans rfl; have hfz57_0 := blk_frozen BK225.out 0; have hfz57_1 := blk_frozen BK225.out 1; have hfz57_2 := blk_frozen BK225.out 2; have hnb58 := NB211_196.out; have hnc58 := NB196_211.out; have hnb59 := NB211_197.out; have hnc59 := NB197_211.out; have hcz60_0 : w53.cell? ⟨gb211, 0, none⟩ = some (.int .i64 t207) := (blk_cell BK211.out 0).trans rfl; have hcz60_1 : w53.cell? ⟨gb211, 1, none⟩ = some (.int .i64 t208) := (blk_cell BK211.out 1).trans rfl; have hcz60_2 : w53.cell? ⟨gb211, 2, none⟩ = some (.int .i64 t209) := (blk_cell BK211.out 2).trans rfl; have hfz60_0 := blk_frozen BK211.out 0; have hfz60_1 := blk_frozen BK211.out 1; have hfz60_2 := blk_frozen BK211.out 2) | (go_at_call 14; (with_reducible refine (laws_eqVec.calls t221 t222 t223 t207 t208 t209 true _ A11.out).mono ?_); rintro e w61 ⟨rfl, hb⟩; have n0_ := Gv.a0 (blk_below (g := gb196) (o := .cells #[.int .i64 a0_0, .int .i64 a0_1, .int .i64 a0_2] 23 (0, 0)) Gv.bk hb); have n1_ := Gv.a0 (blk_below (g := gb197) (o := .cells #[.int .i64 a1_0, .int .i64 a1_1, .int .i64 a1_2] 23 (0, 0)) Gv.bk hb); have n2_ := Gv.a0 (blk_below (g := gb210) (o := .cells #[.int .i64 t204, .int .i64 t205, .int .i64 t206] 26 (0, 0)) Gv.bk hb); have n3_ := Gv.a0 (blk_below (g := gb211) (o := .cells #[.int .i64 t207, .int .i64 t208, .int .i64 t209] 26 (0, 0)) Gv.bk hb); have n4_ := Gv.a0 (blk_below (g := gb224) (o := .cells #[.int .i64 t218, .int .i64 t219, .int .i64 t220] 26 (0, 0)) Gv.bk hb); have n5_ := Gv.a0 (blk_below (g := gb225) (o := .cells #[.int .i64 t221, .int .i64 t222, .int .i64 t223] 26 (0, 0)) Gv.bk hb); have n6_ := Gv.a0 (below_step Gv.bw hb); clear BK196; clear BK197; clear BK210; clear BK211; clear BK224; clear BK225; clear HB; have BK196 := n0_; have BK197 := n1_; have BK210 := n2_; have BK211 := n3_; have BK224 := n4_; have BK225 := n5_; have HB := n6_; clear n0_ n1_ n2_ n3_ n4_ n5_ n6_; (try clear hb); (try clear hb2); (try clear hk); (try clear hi)))
   go_ret
   exact ⟨by first | rfl | (simp [errW_none, errW_some] <;> rfl) | (simp [*, errW_none, errW_some] <;> rfl), by repeat (first | (with_reducible first | exact HB.out | apply below_alloc | apply pw_below_drewN | apply below_drew1 | refine below_set ?_ GE196.out | refine below_set ?_ GE197.out | refine below_set ?_ GE210.out | refine below_set ?_ GE211.out | refine below_set ?_ GE224.out | refine below_set ?_ GE225.out) | exact HB.out)⟩
  ·replace c12 := Bool.eq_false_iff.mpr c12
   subst c12
   have H1 : (none) = some r := by rw [if_neg (show ¬ (false = true) by decide)] at H; exact H
   clear H
   have H := H1
   clear H1
   exact absurd H (by simp)
 ·replace c10 := Bool.eq_false_iff.mpr c10
  subst c10
  have H1 : (none) = some r := by rw [if_neg (show ¬ (false = true) by decide)] at H; exact H
  clear H
  have H := H1
  clear H1
  exact absurd H (by simp)

end Go.Proofs.Ytiokbmbdhejciaa.PCh
