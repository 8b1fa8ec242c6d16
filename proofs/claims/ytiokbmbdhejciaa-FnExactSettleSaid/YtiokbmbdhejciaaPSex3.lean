/- Plain Lean functions of a law's Go functions, their contracts, by a program of this session (wip/pr.py over the kit's print). -/
import Derived.Test.YtiokbmbdhejciaaPSex0
import Derived.Test.YtiokbmbdhejciaaPSex1
import Derived.Test.YtiokbmbdhejciaaPSex2
namespace Go.Proofs.Ytiokbmbdhejciaa.PSe
open Go.RowKit Go.Proofs.YtiokbmbdhejciaaW.PrintWords Go.Proofs.YtiokbmbdhejciaaW.PrintLast Go.Proofs.YtiokbmbdhejciaaW.PrintMore
attribute [local go_sem] max2_int min2_int max_two min_two max_three min_three max_four min_four   -- for this text's walks alone
set_option linter.unusedVariables false
set_option linter.unusedSimpArgs false

/-! ### laws_FnExactSettle: function 5 -/
def laws_FnExactSettle.f (k : Nat) (a0_0 : Int) (a0_1 : Int) (a0_2 : Int) (a1_0 : Int) (a1_1 : Int) (a1_2 : Int) (a2_0 : Int) (a2_1 : Int) (a2_2 : Int) : Option (Bool) := (laws_toVec.f a0_0 a0_1 a0_2).bind fun bt164 => ((laws_toVec.f a1_0 a1_1 a1_2).bind fun bt167 => ((laws_toVec.f a2_0 a2_1 a2_2).bind fun bt170 => ((spec_Settle.f k bt164.1 bt164.2.1 bt164.2.2 bt167.1 bt167.2.1 bt167.2.2 bt170.1 bt170.2.1 bt170.2.2).bind fun bt173 => ((laws_toVec.f a0_0 a0_1 a0_2).bind fun bt178 => ((laws_toVec.f a1_0 a1_1 a1_2).bind fun bt181 => ((laws_toVec.f a2_0 a2_1 a2_2).bind fun bt184 => ((impl_Settle.f k bt178.1 bt178.2.1 bt178.2.2 bt181.1 bt181.2.1 bt181.2.2 bt184.1 bt184.2.1 bt184.2.2).bind fun bt187 => ((laws_eqVec.f bt187.1 bt187.2.1 bt187.2.2.1 bt173.1 bt173.2.1 bt173.2.2.1).bind fun t192 => (if t192 = true then (if (bt187.2.2.2 != bt173.2.2.2) = true then (none) else (some true)) else (none))))))))))
theorem laws_FnExactSettle.mono : ∀ a0 a1 a2 a3 a4 a5 a6 a7 a8 k, LeO (laws_FnExactSettle.f k a0 a1 a2 a3 a4 a5 a6 a7 a8) (laws_FnExactSettle.f (k + 1) a0 a1 a2 a3 a4 a5 a6 a7 a8) := by
 intro a0 a1 a2 a3 a4 a5 a6 a7 a8 k
 unfold laws_FnExactSettle.f
 repeat' first
   | (with_reducible exact impl_Settle.mono _ _ _ _ _ _ _ _ _ _)
   | (with_reducible exact spec_Settle.mono _ _ _ _ _ _ _ _ _ _)
   | (with_reducible exact LeO.refl _)
   | (with_reducible exact LeO.none _)
   | (with_reducible refine LeO.ite ?_ ?_)
   | (with_reducible refine LeO.bind ?_ (fun _ => ?_))
   | exact impl_Settle.mono _ _ _ _ _ _ _ _ _ _
   | exact spec_Settle.mono _ _ _ _ _ _ _ _ _ _
   | exact LeO.none _
   | refine LeO.ite ?_ ?_
   | refine LeO.bind ?_ (fun _ => ?_)
def laws_FnExactSettle.T1 : Bool × List (List Nat × List Nat) := (true, [([], []), ([0], [0]), ([], []), ([2, 1], [2]), ([], []), ([4, 3], [4]), ([1, 3, 5, 5], [1, 3, 5]), ([6], [6]), ([7], [7]), ([7], [7]), ([], []), ([10, 8, 6, 0, 1, 2, 3, 4, 5, 6, 7, 8, 10], [8, 10]), ([9, 11, 0, 1, 2, 3, 4, 5, 6, 7, 8, 9, 10, 11], [9])])
def laws_FnExactSettle.B1 : List Nat := [0, 1, 0, 7, 0, 31, 63, 127, 255, 255, 0, 1535, 4095]
theorem laws_FnExactSettle.tab1 : rtab .any (opsOf Try.f5 1) = laws_FnExactSettle.T1 := by kernel_rfl
theorem laws_FnExactSettle.bits1 : waitsOk laws_FnExactSettle.T1.2 laws_FnExactSettle.B1 = true := by kernel_rfl
def laws_FnExactSettle.T2 : Bool × List (List Nat × List Nat) := (true, [([], []), ([0], [0]), ([], []), ([2, 1], [2]), ([], []), ([4, 3], [4]), ([1, 3, 5, 5], [1, 3, 5]), ([6], [6]), ([7], [7]), ([7], [7]), ([], []), ([10, 8, 6, 0, 1, 2, 3, 4, 5, 6, 7, 8, 10], [8, 10]), ([9, 11, 0, 1, 2, 3, 4, 5, 6, 7, 8, 9, 10, 11], [9])])
def laws_FnExactSettle.B2 : List Nat := [0, 1, 0, 7, 0, 31, 63, 127, 255, 255, 0, 1535, 4095]
theorem laws_FnExactSettle.tab2 : rtab .any (opsOf Try.f5 2) = laws_FnExactSettle.T2 := by kernel_rfl
theorem laws_FnExactSettle.bits2 : waitsOk laws_FnExactSettle.T2.2 laws_FnExactSettle.B2 = true := by kernel_rfl
set_option maxHeartbeats 8000000 in
set_option maxRecDepth 100000 in
theorem laws_FnExactSettle.calls (k : Nat) (a0_0 : Int) (a0_1 : Int) (a0_2 : Int) (a1_0 : Int) (a1_1 : Int) (a1_2 : Int) (a2_0 : Int) (a2_1 : Int) (a2_2 : Int) (r : Bool) (w : World) (h : laws_FnExactSettle.f k a0_0 a0_1 a0_2 a1_0 a1_1 a1_2 a2_0 a2_1 a2_2 = some r) :
  Calls Try.prog 5 #[.agg #[.int .i64 a0_0, .int .i64 a0_1, .int .i64 a0_2], .agg #[.int .i64 a1_0, .int .i64 a1_1, .int .i64 a1_2], .agg #[.int .i64 a2_0, .int .i64 a2_1, .int .i64 a2_2]] w fun e w' => e = .returned (.bool r) ∧ Below w.heap.size w w' := by
 have hu23 := Try.underlying23
 have hu26 := Try.underlying26
 have HB := Aside0.mk (Below.refl w.heap.size w)
 have H : ((laws_toVec.f a0_0 a0_1 a0_2).bind fun bt164 => ((laws_toVec.f a1_0 a1_1 a1_2).bind fun bt167 => ((laws_toVec.f a2_0 a2_1 a2_2).bind fun bt170 => ((spec_Settle.f k bt164.1 bt164.2.1 bt164.2.2 bt167.1 bt167.2.1 bt167.2.2 bt170.1 bt170.2.1 bt170.2.2).bind fun bt173 => ((laws_toVec.f a0_0 a0_1 a0_2).bind fun bt178 => ((laws_toVec.f a1_0 a1_1 a1_2).bind fun bt181 => ((laws_toVec.f a2_0 a2_1 a2_2).bind fun bt184 => ((impl_Settle.f k bt178.1 bt178.2.1 bt178.2.2 bt181.1 bt181.2.1 bt181.2.2 bt184.1 bt184.2.1 bt184.2.2).bind fun bt187 => ((laws_eqVec.f bt187.1 bt187.2.1 bt187.2.2.1 bt173.1 bt173.2.1 bt173.2.2.1).bind fun t192 => (if t192 = true then (if (bt187.2.2.2 != bt173.2.2.2) = true then (none) else (some true)) else (none))))))))))) = some r := h
 clear h
 replace H := Option.bind_eq_some_iff.mp H
 obtain ⟨⟨t164, t165, t166⟩, A40, H⟩ := H
 replace H : ((laws_toVec.f a1_0 a1_1 a1_2).bind fun bt167 => ((laws_toVec.f a2_0 a2_1 a2_2).bind fun bt170 => ((spec_Settle.f k t164 t165 t166 bt167.1 bt167.2.1 bt167.2.2 bt170.1 bt170.2.1 bt170.2.2).bind fun bt173 => ((laws_toVec.f a0_0 a0_1 a0_2).bind fun bt178 => ((laws_toVec.f a1_0 a1_1 a1_2).bind fun bt181 => ((laws_toVec.f a2_0 a2_1 a2_2).bind fun bt184 => ((impl_Settle.f k bt178.1 bt178.2.1 bt178.2.2 bt181.1 bt181.2.1 bt181.2.2 bt184.1 bt184.2.1 bt184.2.2).bind fun bt187 => ((laws_eqVec.f bt187.1 bt187.2.1 bt187.2.2.1 bt173.1 bt173.2.1 bt173.2.2.1).bind fun t192 => (if t192 = true then (if (bt187.2.2.2 != bt173.2.2.2) = true then (none) else (some true)) else (none)))))))))) = some r := H
 have A4 := Aside0.mk A40
 clear A40
 replace H := Option.bind_eq_some_iff.mp H
 obtain ⟨⟨t167, t168, t169⟩, A50, H⟩ := H
 replace H : ((laws_toVec.f a2_0 a2_1 a2_2).bind fun bt170 => ((spec_Settle.f k t164 t165 t166 t167 t168 t169 bt170.1 bt170.2.1 bt170.2.2).bind fun bt173 => ((laws_toVec.f a0_0 a0_1 a0_2).bind fun bt178 => ((laws_toVec.f a1_0 a1_1 a1_2).bind fun bt181 => ((laws_toVec.f a2_0 a2_1 a2_2).bind fun bt184 => ((impl_Settle.f k bt178.1 bt178.2.1 bt178.2.2 bt181.1 bt181.2.1 bt181.2.2 bt184.1 bt184.2.1 bt184.2.2).bind fun bt187 => ((laws_eqVec.f bt187.1 bt187.2.1 bt187.2.2.1 bt173.1 bt173.2.1 bt173.2.2.1).bind fun t192 => (if t192 = true then (if (bt187.2.2.2 != bt173.2.2.2) = true then (none) else (some true)) else (none))))))))) = some r := H
 have A5 := Aside0.mk A50
 clear A50
 replace H := Option.bind_eq_some_iff.mp H
 obtain ⟨⟨t170, t171, t172⟩, A60, H⟩ := H
 replace H : ((spec_Settle.f k t164 t165 t166 t167 t168 t169 t170 t171 t172).bind fun bt173 => ((laws_toVec.f a0_0 a0_1 a0_2).bind fun bt178 => ((laws_toVec.f a1_0 a1_1 a1_2).bind fun bt181 => ((laws_toVec.f a2_0 a2_1 a2_2).bind fun bt184 => ((impl_Settle.f k bt178.1 bt178.2.1 bt178.2.2 bt181.1 bt181.2.1 bt181.2.2 bt184.1 bt184.2.1 bt184.2.2).bind fun bt187 => ((laws_eqVec.f bt187.1 bt187.2.1 bt187.2.2.1 bt173.1 bt173.2.1 bt173.2.2.1).bind fun t192 => (if t192 = true then (if (bt187.2.2.2 != bt173.2.2.2) = true then (none) else (some true)) else (none)))))))) = some r := H
 have A6 := Aside0.mk A60
 clear A60
 replace H := Option.bind_eq_some_iff.mp H
 obtain ⟨⟨t173, t174, t175, t176⟩, A70, H⟩ := H
 replace H : ((laws_toVec.f a0_0 a0_1 a0_2).bind fun bt178 => ((laws_toVec.f a1_0 a1_1 a1_2).bind fun bt181 => ((laws_toVec.f a2_0 a2_1 a2_2).bind fun bt184 => ((impl_Settle.f k bt178.1 bt178.2.1 bt178.2.2 bt181.1 bt181.2.1 bt181.2.2 bt184.1 bt184.2.1 bt184.2.2).bind fun bt187 => ((laws_eqVec.f bt187.1 bt187.2.1 bt187.2.2.1 t173 t174 t175).bind fun t192 => (if t192 = true then (if (bt187.2.2.2 != t176) = true then (none) else (some true)) else (none))))))) = some r := H
 have A7 := Aside0.mk A70
 clear A70
 replace H := Option.bind_eq_some_iff.mp H
 obtain ⟨⟨t178, t179, t180⟩, A80, H⟩ := H
 replace H : ((laws_toVec.f a1_0 a1_1 a1_2).bind fun bt181 => ((laws_toVec.f a2_0 a2_1 a2_2).bind fun bt184 => ((impl_Settle.f k t178 t179 t180 bt181.1 bt181.2.1 bt181.2.2 bt184.1 bt184.2.1 bt184.2.2).bind fun bt187 => ((laws_eqVec.f bt187.1 bt187.2.1 bt187.2.2.1 t173 t174 t175).bind fun t192 => (if t192 = true then (if (bt187.2.2.2 != t176) = true then (none) else (some true)) else (none)))))) = some r := H
 have A8 := Aside0.mk A80
 clear A80
 replace H := Option.bind_eq_some_iff.mp H
 obtain ⟨⟨t181, t182, t183⟩, A90, H⟩ := H
 replace H : ((laws_toVec.f a2_0 a2_1 a2_2).bind fun bt184 => ((impl_Settle.f k t178 t179 t180 t181 t182 t183 bt184.1 bt184.2.1 bt184.2.2).bind fun bt187 => ((laws_eqVec.f bt187.1 bt187.2.1 bt187.2.2.1 t173 t174 t175).bind fun t192 => (if t192 = true then (if (bt187.2.2.2 != t176) = true then (none) else (some true)) else (none))))) = some r := H
 have A9 := Aside0.mk A90
 clear A90
 replace H := Option.bind_eq_some_iff.mp H
 obtain ⟨⟨t184, t185, t186⟩, A100, H⟩ := H
 replace H : ((impl_Settle.f k t178 t179 t180 t181 t182 t183 t184 t185 t186).bind fun bt187 => ((laws_eqVec.f bt187.1 bt187.2.1 bt187.2.2.1 t173 t174 t175).bind fun t192 => (if t192 = true then (if (bt187.2.2.2 != t176) = true then (none) else (some true)) else (none)))) = some r := H
 have A10 := Aside0.mk A100
 clear A100
 replace H := Option.bind_eq_some_iff.mp H
 obtain ⟨⟨t187, t188, t189, t190⟩, A110, H⟩ := H
 replace H : ((laws_eqVec.f t187 t188 t189 t173 t174 t175).bind fun t192 => (if t192 = true then (if (t190 != t176) = true then (none) else (some true)) else (none))) = some r := H
 have A11 := Aside0.mk A110
 clear A110
 replace H := Option.bind_eq_some_iff.mp H
 obtain ⟨t192, A120, H⟩ := H
 replace H : (if t192 = true then (if (t190 != t176) = true then (none) else (some true)) else (none)) = some r := H
 have A12 := Aside0.mk A120
 clear A120
 by_cases c13 : t192 = true
 ·subst c13
  have H1 : (if (t190 != t176) = true then (none) else (some true)) = some r := by rw [if_pos rfl] at H; exact H
  clear H
  have H := H1
  clear H1
  by_cases c14 : (t190 != t176) = true
  ·rw [if_pos c14] at H
   exact absurd H (by simp)
  ·rw [if_neg c14] at H
   have c14b0 : (t190 != t176) = false := by simpa using c14
   (try (have c14b1 : decide (t190 = t176) = true := by simpa using c14))
   (try (have c14b2 : (t190 == t176) = true := by simpa using c14))
   clear c14
   obtain rfl := Option.some.inj H
   go_enter Try.func5, Try.ntmps5
   try go_wp2_with (first | ((with_reducible refine gate_dst (N := 3) rfl ?_); refine box_event ?hg (N := 3) ?hd (cs := #[.int .i64 a0_0, .int .i64 a0_1, .int .i64 a0_2]) (t := 23) ?hr ?_; (case hd => rfl); (case hg => rfl); (case hr => first | (go_simp; done) | (go_simp; rfl)); intro gb161 hg w15 hbox hb; have n0_ := Aside0.mk (below_step Gv.bw hb); have n1_ := Aside0.mk (hbox); have n2_ := Aside0.mk ((by rw [hg]; exact (below_size Gv.bw) : w.heap.size ≤ gb161)); have n3_ := Aside0.mk ((by rw [hg]; exact (below_size Gv.bw) : w.heap.size ≤ gb161)); clear HB; have HB := n0_; have BK161 := n1_; have GW161 := n2_; have GE161 := n3_; clear n0_ n1_ n2_ n3_; clear hb hbox hg) | ((with_reducible refine gate_dst (N := 4) rfl ?_); refine box_event ?hg (N := 4) ?hd (cs := #[.int .i64 a1_0, .int .i64 a1_1, .int .i64 a1_2]) (t := 23) ?hr ?_; (case hd => rfl); (case hg => rfl); (case hr => first | (go_simp; done) | (go_simp; rfl)); intro gb162 hg w16 hbox hb; have n0_ := Aside0.mk (blk_below (g := gb161) (o := .cells #[.int .i64 a0_0, .int .i64 a0_1, .int .i64 a0_2] 23 (0, 0)) Gv.bk hb); have n1_ := Aside0.mk (below_step Gv.bw hb); have n2_ := Aside0.mk (hbox); have n3_ := Aside0.mk ((by rw [hg]; exact (below_size Gv.bw) : w.heap.size ≤ gb162)); have n4_ := Aside0.mk ((by rw [hg]; exact (below_size Gv.bw) : w.heap.size ≤ gb162)); have n5_ := Aside0.mk ((by rw [hg]; exact Nat.ne_of_lt (blk_lt (g := gb161) (o := .cells #[.int .i64 a0_0, .int .i64 a0_1, .int .i64 a0_2] 23 (0, 0)) Gv.bk) : gb161 ≠ gb162)); have n6_ := Aside0.mk ((by rw [hg]; exact Nat.ne_of_gt (blk_lt (g := gb161) (o := .cells #[.int .i64 a0_0, .int .i64 a0_1, .int .i64 a0_2] 23 (0, 0)) Gv.bk) : gb162 ≠ gb161)); clear BK161; clear HB; have BK161 := n0_; have HB := n1_; have BK162 := n2_; have GW162 := n3_; have GE162 := n4_; have NB161_162 := n5_; have NB162_161 := n6_; clear n0_ n1_ n2_ n3_ n4_ n5_ n6_; clear hb hbox hg) | ((with_reducible refine gate_dst (N := 5) rfl ?_); refine box_event ?hg (N := 5) ?hd (cs := #[.int .i64 a2_0, .int .i64 a2_1, .int .i64 a2_2]) (t := 23) ?hr ?_; (case hd => rfl); (case hg => rfl); (case hr => first | (go_simp; done) | (go_simp; rfl)); intro gb163 hg w17 hbox hb; have n0_ := Aside0.mk (blk_below (g := gb161) (o := .cells #[.int .i64 a0_0, .int .i64 a0_1, .int .i64 a0_2] 23 (0, 0)) Gv.bk hb); have n1_ := Aside0.mk (blk_below (g := gb162) (o := .cells #[.int .i64 a1_0, .int .i64 a1_1, .int .i64 a1_2] 23 (0, 0)) Gv.bk hb); have n2_ := Aside0.mk (below_step Gv.bw hb); have n3_ := Aside0.mk (hbox); have n4_ := Aside0.mk ((by rw [hg]; exact (below_size Gv.bw) : w.heap.size ≤ gb163)); have n5_ := Aside0.mk ((by rw [hg]; exact (below_size Gv.bw) : w.heap.size ≤ gb163)); have n6_ := Aside0.mk ((by rw [hg]; exact Nat.ne_of_lt (blk_lt (g := gb161) (o := .cells #[.int .i64 a0_0, .int .i64 a0_1, .int .i64 a0_2] 23 (0, 0)) Gv.bk) : gb161 ≠ gb163)); have n7_ := Aside0.mk ((by rw [hg]; exact Nat.ne_of_gt (blk_lt (g := gb161) (o := .cells #[.int .i64 a0_0, .int .i64 a0_1, .int .i64 a0_2] 23 (0, 0)) Gv.bk) : gb163 ≠ gb161)); have n8_ := Aside0.mk ((by rw [hg]; exact Nat.ne_of_lt (blk_lt (g := gb162) (o := .cells #[.int .i64 a1_0, .int .i64 a1_1, .int .i64 a1_2] 23 (0, 0)) Gv.bk) : gb162 ≠ gb163)); have n9_ := Aside0.mk ((by rw [hg]; exact Nat.ne_of_gt (blk_lt (g := gb162) (o := .cells #[.int .i64 a1_0, .int .i64 a1_1, .int .i64 a1_2] 23 (0, 0)) Gv.bk) : gb163 ≠ gb162)); clear BK161; clear BK162; clear HB; have BK161 := n0_; have BK162 := n1_; have HB := n2_; have BK163 := n3_; have GW163 := n4_; have GE163 := n5_; have NB161_163 := n6_; have NB163_161 := n7_; have NB162_163 := n8_; have NB163_162 := n9_; clear n0_ n1_ n2_ n3_ n4_ n5_ n6_ n7_ n8_ n9_; clear hb hbox hg))
   have n0_ := Aside0.mk (blk_drew BK161.out)
   have n1_ := Aside0.mk (blk_drew BK162.out)
   have n2_ := Aside0.mk (blk_drew BK163.out)
   have n3_ := Aside0.mk (below_drew1 HB.out)
   clear BK161
   clear BK162
   clear BK163
   clear HB
   have BK161 := n0_
   have BK162 := n1_
   have BK163 := n2_
   have HB := n3_
   clear n0_ n1_ n2_ n3_
   refine start_ (n := 13) (S := fun w' => w'.cell? ⟨gb161, 0, none⟩ = some (.int .i64 a0_0) ∧ w'.cell? ⟨gb161, 1, none⟩ = some (.int .i64 a0_1) ∧ w'.cell? ⟨gb161, 2, none⟩ = some (.int .i64 a0_2) ∧ w'.cell? ⟨gb162, 0, none⟩ = some (.int .i64 a1_0) ∧ w'.cell? ⟨gb162, 1, none⟩ = some (.int .i64 a1_1) ∧ w'.cell? ⟨gb162, 2, none⟩ = some (.int .i64 a1_2) ∧ w'.cell? ⟨gb163, 0, none⟩ = some (.int .i64 a2_0) ∧ w'.cell? ⟨gb163, 1, none⟩ = some (.int .i64 a2_1) ∧ w'.cell? ⟨gb163, 2, none⟩ = some (.int .i64 a2_2)) (ds := []) #[false, false, false, false, false, false, false, false, false, false, false, false, false] (by kernel_rfl) rfl rfl ⟨(blk_cell BK161.out 0).trans rfl, (blk_cell BK161.out 1).trans rfl, (blk_cell BK161.out 2).trans rfl, (blk_cell BK162.out 0).trans rfl, (blk_cell BK162.out 1).trans rfl, (blk_cell BK162.out 2).trans rfl, (blk_cell BK163.out 0).trans rfl, (blk_cell BK163.out 1).trans rfl, (blk_cell BK163.out 2).trans rfl⟩ (fun hHeld => ?_); refine with_tabW laws_FnExactSettle.tab1 laws_FnExactSettle.bits1 (fun HT_ HW_ => ?_)
   generalize w17.drew = w18 at BK161 BK162 BK163 HB hHeld ⊢
   refine take_ (i := 0) (N := some 12) (v := ?_) (a' := ?_) #[true, false, false, false, false, false, false, false, false, false, false, false, false] rfl rfl (take_ofW HT_.out HW_.out (by kernel_rfl)) (fun _ _ _ h => h) (Or.inl ⟨by rfl, ?_⟩) hHeld ?_ ?_
   rotate_left
   ·rintro w' ⟨s0, s1, s2, s3, s4, s5, s6, s7, s8⟩
    go_simp
    with_reducible rfl
   rotate_left
   ·simp only [Act.put, List.setIfInBounds_toArray, List.set_cons_zero, List.set_cons_succ, i64_w, i32_w]
    rfl
   refine take_ (i := 2) (N := some 14) (v := ?_) (a' := ?_) #[true, false, true, false, false, false, false, false, false, false, false, false, false] rfl rfl (take_ofW HT_.out HW_.out (by kernel_rfl)) (fun _ _ _ h => h) (Or.inl ⟨by rfl, ?_⟩) hHeld ?_ ?_
   rotate_left
   ·rintro w' ⟨s0, s1, s2, s3, s4, s5, s6, s7, s8⟩
    go_simp
    with_reducible rfl
   rotate_left
   ·simp only [Act.put, List.setIfInBounds_toArray, List.set_cons_zero, List.set_cons_succ, i64_w, i32_w]
    rfl
   refine take_ (i := 4) (N := some 16) (v := ?_) (a' := ?_) #[true, false, true, false, true, false, false, false, false, false, false, false, false] rfl rfl (take_ofW HT_.out HW_.out (by kernel_rfl)) (fun _ _ _ h => h) (Or.inl ⟨by rfl, ?_⟩) hHeld ?_ ?_
   rotate_left
   ·rintro w' ⟨s0, s1, s2, s3, s4, s5, s6, s7, s8⟩
    go_simp
    with_reducible rfl
   rotate_left
   ·simp only [Act.put, List.setIfInBounds_toArray, List.set_cons_zero, List.set_cons_succ, i64_w, i32_w]
    rfl
   refine join_ (σ := Nat) 2 #[true, true, true, true, true, true, true, true, true, true, true, false, false] (fun s_ => [(13, .agg #[.int .i64 t164, .int .i64 t165, .int .i64 t166]), (15, .agg #[.int .i64 t167, .int .i64 t168, .int .i64 t169]), (17, .agg #[.int .i64 t170, .int .i64 t171, .int .i64 t172]), (18, .tuple #[.agg #[.int .i64 t173, .int .i64 t174, .int .i64 t175], .bool t176]), (7, .pointer (some ⟨s_, 0, none⟩)), (11, .tuple #[.agg #[.int .i64 t173, .int .i64 t174, .int .i64 t175], .bool t176]), (19, .agg #[.int .i64 t173, .int .i64 t174, .int .i64 t175]), (20, .bool t176)]) (fun s_ w' => (w'.cell? ⟨gb161, 0, none⟩ = some (.int .i64 a0_0) ∧ w'.cell? ⟨gb161, 1, none⟩ = some (.int .i64 a0_1) ∧ w'.cell? ⟨gb161, 2, none⟩ = some (.int .i64 a0_2) ∧ w'.cell? ⟨gb162, 0, none⟩ = some (.int .i64 a1_0) ∧ w'.cell? ⟨gb162, 1, none⟩ = some (.int .i64 a1_1) ∧ w'.cell? ⟨gb162, 2, none⟩ = some (.int .i64 a1_2) ∧ w'.cell? ⟨gb163, 0, none⟩ = some (.int .i64 a2_0) ∧ w'.cell? ⟨gb163, 1, none⟩ = some (.int .i64 a2_1) ∧ w'.cell? ⟨gb163, 2, none⟩ = some (.int .i64 a2_2)) ∧ (w'.heap[gb161]? = some (.cells #[.int .i64 a0_0, .int .i64 a0_1, .int .i64 a0_2] 23 (0, 0))) ∧ (w'.heap[gb162]? = some (.cells #[.int .i64 a1_0, .int .i64 a1_1, .int .i64 a1_2] 23 (0, 0))) ∧ (w'.heap[gb163]? = some (.cells #[.int .i64 a2_0, .int .i64 a2_1, .int .i64 a2_2] 23 (0, 0))) ∧ (w'.heap[s_]? = some (.cells #[.int .i64 0, .int .i64 0, .int .i64 0] 26 (0, 0))) ∧ (w.heap.size ≤ s_) ∧ (w.heap.size ≤ s_) ∧ (gb161 ≠ s_) ∧ (s_ ≠ gb161) ∧ (gb162 ≠ s_) ∧ (s_ ≠ gb162) ∧ (gb163 ≠ s_) ∧ (s_ ≠ gb163) ∧ (Below w.heap.size w w')) ?_ ?_
   rotate_left
   ·intro hJ1_3_5_6_10
    refine join_ (σ := Unit) 3 #[true, true, true, true, true, true, true, true, true, true, false, false, false] (fun s_ => [(13, .agg #[.int .i64 t164, .int .i64 t165, .int .i64 t166]), (15, .agg #[.int .i64 t167, .int .i64 t168, .int .i64 t169]), (17, .agg #[.int .i64 t170, .int .i64 t171, .int .i64 t172]), (18, .tuple #[.agg #[.int .i64 t173, .int .i64 t174, .int .i64 t175], .bool t176]), (11, .tuple #[.agg #[.int .i64 t173, .int .i64 t174, .int .i64 t175], .bool t176]), (19, .agg #[.int .i64 t173, .int .i64 t174, .int .i64 t175]), (20, .bool t176)]) (fun s_ w' => (w'.cell? ⟨gb161, 0, none⟩ = some (.int .i64 a0_0) ∧ w'.cell? ⟨gb161, 1, none⟩ = some (.int .i64 a0_1) ∧ w'.cell? ⟨gb161, 2, none⟩ = some (.int .i64 a0_2) ∧ w'.cell? ⟨gb162, 0, none⟩ = some (.int .i64 a1_0) ∧ w'.cell? ⟨gb162, 1, none⟩ = some (.int .i64 a1_1) ∧ w'.cell? ⟨gb162, 2, none⟩ = some (.int .i64 a1_2) ∧ w'.cell? ⟨gb163, 0, none⟩ = some (.int .i64 a2_0) ∧ w'.cell? ⟨gb163, 1, none⟩ = some (.int .i64 a2_1) ∧ w'.cell? ⟨gb163, 2, none⟩ = some (.int .i64 a2_2)) ∧ (w'.heap[gb161]? = some (.cells #[.int .i64 a0_0, .int .i64 a0_1, .int .i64 a0_2] 23 (0, 0))) ∧ (w'.heap[gb162]? = some (.cells #[.int .i64 a1_0, .int .i64 a1_1, .int .i64 a1_2] 23 (0, 0))) ∧ (w'.heap[gb163]? = some (.cells #[.int .i64 a2_0, .int .i64 a2_1, .int .i64 a2_2] 23 (0, 0))) ∧ (Below w.heap.size w w')) ?_ ?_
    rotate_left
    ·intro hJ1_3_5_6
     refine join_ (σ := Nat) 6 #[true, true, true, true, true, true, false, false, false, false, true, false, false] (fun s_ => [(13, .agg #[.int .i64 t164, .int .i64 t165, .int .i64 t166]), (15, .agg #[.int .i64 t167, .int .i64 t168, .int .i64 t169]), (17, .agg #[.int .i64 t170, .int .i64 t171, .int .i64 t172]), (7, .pointer (some ⟨s_, 0, none⟩))]) (fun s_ w' => (w'.cell? ⟨gb161, 0, none⟩ = some (.int .i64 a0_0) ∧ w'.cell? ⟨gb161, 1, none⟩ = some (.int .i64 a0_1) ∧ w'.cell? ⟨gb161, 2, none⟩ = some (.int .i64 a0_2) ∧ w'.cell? ⟨gb162, 0, none⟩ = some (.int .i64 a1_0) ∧ w'.cell? ⟨gb162, 1, none⟩ = some (.int .i64 a1_1) ∧ w'.cell? ⟨gb162, 2, none⟩ = some (.int .i64 a1_2) ∧ w'.cell? ⟨gb163, 0, none⟩ = some (.int .i64 a2_0) ∧ w'.cell? ⟨gb163, 1, none⟩ = some (.int .i64 a2_1) ∧ w'.cell? ⟨gb163, 2, none⟩ = some (.int .i64 a2_2)) ∧ (w'.heap[gb161]? = some (.cells #[.int .i64 a0_0, .int .i64 a0_1, .int .i64 a0_2] 23 (0, 0))) ∧ (w'.heap[gb162]? = some (.cells #[.int .i64 a1_0, .int .i64 a1_1, .int .i64 a1_2] 23 (0, 0))) ∧ (w'.heap[gb163]? = some (.cells #[.int .i64 a2_0, .int .i64 a2_1, .int .i64 a2_2] 23 (0, 0))) ∧ (w'.heap[s_]? = some (.cells #[.int .i64 0, .int .i64 0, .int .i64 0] 26 (0, 0))) ∧ (w.heap.size ≤ s_) ∧ (w.heap.size ≤ s_) ∧ (gb161 ≠ s_) ∧ (s_ ≠ gb161) ∧ (gb162 ≠ s_) ∧ (s_ ≠ gb162) ∧ (gb163 ≠ s_) ∧ (s_ ≠ gb163) ∧ (Below w.heap.size w w')) ?_ ?_
     rotate_left
     ·intro hJ1_3_5_10
      refine join_ (σ := Unit) 7 #[true, true, true, true, true, true, false, false, false, false, false, false, false] (fun s_ => [(13, .agg #[.int .i64 t164, .int .i64 t165, .int .i64 t166]), (15, .agg #[.int .i64 t167, .int .i64 t168, .int .i64 t169]), (17, .agg #[.int .i64 t170, .int .i64 t171, .int .i64 t172])]) (fun s_ w' => (w'.cell? ⟨gb161, 0, none⟩ = some (.int .i64 a0_0) ∧ w'.cell? ⟨gb161, 1, none⟩ = some (.int .i64 a0_1) ∧ w'.cell? ⟨gb161, 2, none⟩ = some (.int .i64 a0_2) ∧ w'.cell? ⟨gb162, 0, none⟩ = some (.int .i64 a1_0) ∧ w'.cell? ⟨gb162, 1, none⟩ = some (.int .i64 a1_1) ∧ w'.cell? ⟨gb162, 2, none⟩ = some (.int .i64 a1_2) ∧ w'.cell? ⟨gb163, 0, none⟩ = some (.int .i64 a2_0) ∧ w'.cell? ⟨gb163, 1, none⟩ = some (.int .i64 a2_1) ∧ w'.cell? ⟨gb163, 2, none⟩ = some (.int .i64 a2_2)) ∧ (w'.heap[gb161]? = some (.cells #[.int .i64 a0_0, .int .i64 a0_1, .int .i64 a0_2] 23 (0, 0))) ∧ (w'.heap[gb162]? = some (.cells #[.int .i64 a1_0, .int .i64 a1_1, .int .i64 a1_2] 23 (0, 0))) ∧ (w'.heap[gb163]? = some (.cells #[.int .i64 a2_0, .int .i64 a2_1, .int .i64 a2_2] 23 (0, 0))) ∧ (Below w.heap.size w w')) ?_ ?_
      rotate_left
      ·intro hJ1_3_5
       refine join_ (σ := Nat) 7 #[true, true, true, true, true, false, false, false, false, false, true, false, false] (fun s_ => [(13, .agg #[.int .i64 t164, .int .i64 t165, .int .i64 t166]), (15, .agg #[.int .i64 t167, .int .i64 t168, .int .i64 t169]), (7, .pointer (some ⟨s_, 0, none⟩))]) (fun s_ w' => (w'.cell? ⟨gb161, 0, none⟩ = some (.int .i64 a0_0) ∧ w'.cell? ⟨gb161, 1, none⟩ = some (.int .i64 a0_1) ∧ w'.cell? ⟨gb161, 2, none⟩ = some (.int .i64 a0_2) ∧ w'.cell? ⟨gb162, 0, none⟩ = some (.int .i64 a1_0) ∧ w'.cell? ⟨gb162, 1, none⟩ = some (.int .i64 a1_1) ∧ w'.cell? ⟨gb162, 2, none⟩ = some (.int .i64 a1_2) ∧ w'.cell? ⟨gb163, 0, none⟩ = some (.int .i64 a2_0) ∧ w'.cell? ⟨gb163, 1, none⟩ = some (.int .i64 a2_1) ∧ w'.cell? ⟨gb163, 2, none⟩ = some (.int .i64 a2_2)) ∧ (w'.heap[gb161]? = some (.cells #[.int .i64 a0_0, .int .i64 a0_1, .int .i64 a0_2] 23 (0, 0))) ∧ (w'.heap[gb162]? = some (.cells #[.int .i64 a1_0, .int .i64 a1_1, .int .i64 a1_2] 23 (0, 0))) ∧ (w'.heap[gb163]? = some (.cells #[.int .i64 a2_0, .int .i64 a2_1, .int .i64 a2_2] 23 (0, 0))) ∧ (w'.heap[s_]? = some (.cells #[.int .i64 0, .int .i64 0, .int .i64 0] 26 (0, 0))) ∧ (w.heap.size ≤ s_) ∧ (w.heap.size ≤ s_) ∧ (gb161 ≠ s_) ∧ (s_ ≠ gb161) ∧ (gb162 ≠ s_) ∧ (s_ ≠ gb162) ∧ (gb163 ≠ s_) ∧ (s_ ≠ gb163) ∧ (Below w.heap.size w w')) ?_ ?_
       rotate_left
       ·intro hJ1_3_10
        refine join_ (σ := Unit) 8 #[true, true, true, true, true, false, false, false, false, false, false, false, false] (fun s_ => [(13, .agg #[.int .i64 t164, .int .i64 t165, .int .i64 t166]), (15, .agg #[.int .i64 t167, .int .i64 t168, .int .i64 t169])]) (fun s_ w' => (w'.cell? ⟨gb161, 0, none⟩ = some (.int .i64 a0_0) ∧ w'.cell? ⟨gb161, 1, none⟩ = some (.int .i64 a0_1) ∧ w'.cell? ⟨gb161, 2, none⟩ = some (.int .i64 a0_2) ∧ w'.cell? ⟨gb162, 0, none⟩ = some (.int .i64 a1_0) ∧ w'.cell? ⟨gb162, 1, none⟩ = some (.int .i64 a1_1) ∧ w'.cell? ⟨gb162, 2, none⟩ = some (.int .i64 a1_2) ∧ w'.cell? ⟨gb163, 0, none⟩ = some (.int .i64 a2_0) ∧ w'.cell? ⟨gb163, 1, none⟩ = some (.int .i64 a2_1) ∧ w'.cell? ⟨gb163, 2, none⟩ = some (.int .i64 a2_2)) ∧ (w'.heap[gb161]? = some (.cells #[.int .i64 a0_0, .int .i64 a0_1, .int .i64 a0_2] 23 (0, 0))) ∧ (w'.heap[gb162]? = some (.cells #[.int .i64 a1_0, .int .i64 a1_1, .int .i64 a1_2] 23 (0, 0))) ∧ (w'.heap[gb163]? = some (.cells #[.int .i64 a2_0, .int .i64 a2_1, .int .i64 a2_2] 23 (0, 0))) ∧ (Below w.heap.size w w')) ?_ ?_
        rotate_left
        ·intro hJ1_3
         refine join_ (σ := Nat) 8 #[true, true, true, false, true, false, false, false, false, false, true, false, false] (fun s_ => [(13, .agg #[.int .i64 t164, .int .i64 t165, .int .i64 t166]), (7, .pointer (some ⟨s_, 0, none⟩))]) (fun s_ w' => (w'.cell? ⟨gb161, 0, none⟩ = some (.int .i64 a0_0) ∧ w'.cell? ⟨gb161, 1, none⟩ = some (.int .i64 a0_1) ∧ w'.cell? ⟨gb161, 2, none⟩ = some (.int .i64 a0_2) ∧ w'.cell? ⟨gb162, 0, none⟩ = some (.int .i64 a1_0) ∧ w'.cell? ⟨gb162, 1, none⟩ = some (.int .i64 a1_1) ∧ w'.cell? ⟨gb162, 2, none⟩ = some (.int .i64 a1_2) ∧ w'.cell? ⟨gb163, 0, none⟩ = some (.int .i64 a2_0) ∧ w'.cell? ⟨gb163, 1, none⟩ = some (.int .i64 a2_1) ∧ w'.cell? ⟨gb163, 2, none⟩ = some (.int .i64 a2_2)) ∧ (w'.heap[gb161]? = some (.cells #[.int .i64 a0_0, .int .i64 a0_1, .int .i64 a0_2] 23 (0, 0))) ∧ (w'.heap[gb162]? = some (.cells #[.int .i64 a1_0, .int .i64 a1_1, .int .i64 a1_2] 23 (0, 0))) ∧ (w'.heap[gb163]? = some (.cells #[.int .i64 a2_0, .int .i64 a2_1, .int .i64 a2_2] 23 (0, 0))) ∧ (w'.heap[s_]? = some (.cells #[.int .i64 0, .int .i64 0, .int .i64 0] 26 (0, 0))) ∧ (w.heap.size ≤ s_) ∧ (w.heap.size ≤ s_) ∧ (gb161 ≠ s_) ∧ (s_ ≠ gb161) ∧ (gb162 ≠ s_) ∧ (s_ ≠ gb162) ∧ (gb163 ≠ s_) ∧ (s_ ≠ gb163) ∧ (Below w.heap.size w w')) ?_ ?_
         rotate_left
         ·intro hJ1_10
          refine join_ (σ := Unit) 9 #[true, true, true, false, true, false, false, false, false, false, false, false, false] (fun s_ => [(13, .agg #[.int .i64 t164, .int .i64 t165, .int .i64 t166])]) (fun s_ w' => (w'.cell? ⟨gb161, 0, none⟩ = some (.int .i64 a0_0) ∧ w'.cell? ⟨gb161, 1, none⟩ = some (.int .i64 a0_1) ∧ w'.cell? ⟨gb161, 2, none⟩ = some (.int .i64 a0_2) ∧ w'.cell? ⟨gb162, 0, none⟩ = some (.int .i64 a1_0) ∧ w'.cell? ⟨gb162, 1, none⟩ = some (.int .i64 a1_1) ∧ w'.cell? ⟨gb162, 2, none⟩ = some (.int .i64 a1_2) ∧ w'.cell? ⟨gb163, 0, none⟩ = some (.int .i64 a2_0) ∧ w'.cell? ⟨gb163, 1, none⟩ = some (.int .i64 a2_1) ∧ w'.cell? ⟨gb163, 2, none⟩ = some (.int .i64 a2_2)) ∧ (w'.heap[gb161]? = some (.cells #[.int .i64 a0_0, .int .i64 a0_1, .int .i64 a0_2] 23 (0, 0))) ∧ (w'.heap[gb162]? = some (.cells #[.int .i64 a1_0, .int .i64 a1_1, .int .i64 a1_2] 23 (0, 0))) ∧ (w'.heap[gb163]? = some (.cells #[.int .i64 a2_0, .int .i64 a2_1, .int .i64 a2_2] 23 (0, 0))) ∧ (Below w.heap.size w w')) ?_ ?_
          rotate_left
          ·intro hJ1
           refine join_ (σ := Nat) 9 #[true, false, true, false, true, false, false, false, false, false, true, false, false] (fun s_ => [(7, .pointer (some ⟨s_, 0, none⟩))]) (fun s_ w' => (w'.cell? ⟨gb161, 0, none⟩ = some (.int .i64 a0_0) ∧ w'.cell? ⟨gb161, 1, none⟩ = some (.int .i64 a0_1) ∧ w'.cell? ⟨gb161, 2, none⟩ = some (.int .i64 a0_2) ∧ w'.cell? ⟨gb162, 0, none⟩ = some (.int .i64 a1_0) ∧ w'.cell? ⟨gb162, 1, none⟩ = some (.int .i64 a1_1) ∧ w'.cell? ⟨gb162, 2, none⟩ = some (.int .i64 a1_2) ∧ w'.cell? ⟨gb163, 0, none⟩ = some (.int .i64 a2_0) ∧ w'.cell? ⟨gb163, 1, none⟩ = some (.int .i64 a2_1) ∧ w'.cell? ⟨gb163, 2, none⟩ = some (.int .i64 a2_2)) ∧ (w'.heap[gb161]? = some (.cells #[.int .i64 a0_0, .int .i64 a0_1, .int .i64 a0_2] 23 (0, 0))) ∧ (w'.heap[gb162]? = some (.cells #[.int .i64 a1_0, .int .i64 a1_1, .int .i64 a1_2] 23 (0, 0))) ∧ (w'.heap[gb163]? = some (.cells #[.int .i64 a2_0, .int .i64 a2_1, .int .i64 a2_2] 23 (0, 0))) ∧ (w'.heap[s_]? = some (.cells #[.int .i64 0, .int .i64 0, .int .i64 0] 26 (0, 0))) ∧ (w.heap.size ≤ s_) ∧ (w.heap.size ≤ s_) ∧ (gb161 ≠ s_) ∧ (s_ ≠ gb161) ∧ (gb162 ≠ s_) ∧ (s_ ≠ gb162) ∧ (gb163 ≠ s_) ∧ (s_ ≠ gb163) ∧ (Below w.heap.size w w')) ?_ ?_
           rotate_left
           ·intro hJ10
            refine two_ (i := 1) (j := 10) (Ni := some 13) (Nj := some 7) #[true, true, true, false, true, false, false, false, false, false, false, false, false] #[true, false, true, false, true, false, false, false, false, false, true, false, false] rfl rfl rfl rfl (two_of HT_.out (by kernel_rfl)) (by decide) (by decide) (fun K hK => ?_) (fun K hK => ?_)
            ·skip
             refine goes_ Try.func16 (by kernel_rfl) rfl #[.agg #[.int .i64 a0_0, .int .i64 a0_1, .int .i64 a0_2]] (by rfl) rfl rfl (by (try simp only [List.map_toArray, List.map_cons, List.map_nil]); first | done | rfl | (simp only [List.length_drop, List.length_take]; rfl)) ?_
             with_reducible refine (laws_toVec.calls a0_0 a0_1 a0_2 t164 t165 t166 _ A4.out).mono ?_
             rintro e w19 ⟨rfl, hb⟩
             refine ⟨_, rfl, ?_⟩
             have n0_ := Aside0.mk (blk_below (g := gb161) (o := .cells #[.int .i64 a0_0, .int .i64 a0_1, .int .i64 a0_2] 23 (0, 0)) Gv.bk hb)
             have n1_ := Aside0.mk (blk_below (g := gb162) (o := .cells #[.int .i64 a1_0, .int .i64 a1_1, .int .i64 a1_2] 23 (0, 0)) Gv.bk hb)
             have n2_ := Aside0.mk (blk_below (g := gb163) (o := .cells #[.int .i64 a2_0, .int .i64 a2_1, .int .i64 a2_2] 23 (0, 0)) Gv.bk hb)
             have n3_ := Aside0.mk (below_step Gv.bw hb)
             clear BK161
             clear BK162
             clear BK163
             clear HB
             have BK161 := n0_
             have BK162 := n1_
             have BK163 := n2_
             have HB := n3_
             clear n0_ n1_ n2_ n3_
             (try clear hb)
             (try clear hb2)
             (try clear hk)
             (try clear hi)
             refine hK.out _ _ ⟨(blk_cell BK161.out 0).trans rfl, (blk_cell BK161.out 1).trans rfl, (blk_cell BK161.out 2).trans rfl, (blk_cell BK162.out 0).trans rfl, (blk_cell BK162.out 1).trans rfl, (blk_cell BK162.out 2).trans rfl, (blk_cell BK163.out 0).trans rfl, (blk_cell BK163.out 1).trans rfl, (blk_cell BK163.out 2).trans rfl⟩ (fun hHeld => ?_)
             clear hK K
             refine norm_ (a' := ?_) ?_ ?_
             rotate_left
             ·show Act.put _ (some 13) _ = _
              simp only [Act.put, List.setIfInBounds_toArray, List.set_cons_zero, List.set_cons_succ, i64_w, i32_w]
              rfl
             exact Gv.nm (hJ1 () _ ⟨hHeld, Gv.bk, Gv.bk, Gv.bk, Gv.bw⟩)
            ·skip
             refine box_step ?hg (N := 7) ?hd (cs := #[.int .i64 0, .int .i64 0, .int .i64 0]) (t := 26) ?hr ?_; (case hd => rfl); (case hg => rfl); (case hr => first | (go_simp; done) | (go_simp; rfl))
             intro gb177 hg w19 hbox hb
             have n0_ := Aside0.mk (blk_below (g := gb161) (o := .cells #[.int .i64 a0_0, .int .i64 a0_1, .int .i64 a0_2] 23 (0, 0)) Gv.bk hb)
             have n1_ := Aside0.mk (blk_below (g := gb162) (o := .cells #[.int .i64 a1_0, .int .i64 a1_1, .int .i64 a1_2] 23 (0, 0)) Gv.bk hb)
             have n2_ := Aside0.mk (blk_below (g := gb163) (o := .cells #[.int .i64 a2_0, .int .i64 a2_1, .int .i64 a2_2] 23 (0, 0)) Gv.bk hb)
             have n3_ := Aside0.mk (below_step Gv.bw hb)
             have n4_ := Aside0.mk (hbox)
             have n5_ := Aside0.mk ((by rw [hg]; exact (below_size Gv.bw) : w.heap.size ≤ gb177))
             have n6_ := Aside0.mk ((by rw [hg]; exact (below_size Gv.bw) : w.heap.size ≤ gb177))
             have n7_ := Aside0.mk ((by rw [hg]; exact Nat.ne_of_lt (blk_lt (g := gb161) (o := .cells #[.int .i64 a0_0, .int .i64 a0_1, .int .i64 a0_2] 23 (0, 0)) Gv.bk) : gb161 ≠ gb177))
             have n8_ := Aside0.mk ((by rw [hg]; exact Nat.ne_of_gt (blk_lt (g := gb161) (o := .cells #[.int .i64 a0_0, .int .i64 a0_1, .int .i64 a0_2] 23 (0, 0)) Gv.bk) : gb177 ≠ gb161))
             have n9_ := Aside0.mk ((by rw [hg]; exact Nat.ne_of_lt (blk_lt (g := gb162) (o := .cells #[.int .i64 a1_0, .int .i64 a1_1, .int .i64 a1_2] 23 (0, 0)) Gv.bk) : gb162 ≠ gb177))
             have n10_ := Aside0.mk ((by rw [hg]; exact Nat.ne_of_gt (blk_lt (g := gb162) (o := .cells #[.int .i64 a1_0, .int .i64 a1_1, .int .i64 a1_2] 23 (0, 0)) Gv.bk) : gb177 ≠ gb162))
             have n11_ := Aside0.mk ((by rw [hg]; exact Nat.ne_of_lt (blk_lt (g := gb163) (o := .cells #[.int .i64 a2_0, .int .i64 a2_1, .int .i64 a2_2] 23 (0, 0)) Gv.bk) : gb163 ≠ gb177))
             have n12_ := Aside0.mk ((by rw [hg]; exact Nat.ne_of_gt (blk_lt (g := gb163) (o := .cells #[.int .i64 a2_0, .int .i64 a2_1, .int .i64 a2_2] 23 (0, 0)) Gv.bk) : gb177 ≠ gb163))
             clear BK161
             clear BK162
             clear BK163
             clear HB
             have BK161 := n0_
             have BK162 := n1_
             have BK163 := n2_
             have HB := n3_
             have BK177 := n4_
             have GW177 := n5_
             have GE177 := n6_
             have NB161_177 := n7_
             have NB177_161 := n8_
             have NB162_177 := n9_
             have NB177_162 := n10_
             have NB163_177 := n11_
             have NB177_163 := n12_
             clear n0_ n1_ n2_ n3_ n4_ n5_ n6_ n7_ n8_ n9_ n10_ n11_ n12_
             clear hb hbox hg
             refine hK.out _ _ ⟨(blk_cell BK161.out 0).trans rfl, (blk_cell BK161.out 1).trans rfl, (blk_cell BK161.out 2).trans rfl, (blk_cell BK162.out 0).trans rfl, (blk_cell BK162.out 1).trans rfl, (blk_cell BK162.out 2).trans rfl, (blk_cell BK163.out 0).trans rfl, (blk_cell BK163.out 1).trans rfl, (blk_cell BK163.out 2).trans rfl⟩ (fun hHeld => ?_)
             clear hK K
             refine norm_ (a' := ?_) ?_ ?_
             rotate_left
             ·show Act.put _ (some 7) _ = _
              simp only [Act.put, List.setIfInBounds_toArray, List.set_cons_zero, List.set_cons_succ, i64_w, i32_w]
              rfl
             exact Gv.nm (hJ10 (gb177) _ ⟨hHeld, Gv.bk, Gv.bk, Gv.bk, Gv.bk, GW177.out, GE177.out, NB161_177.out, NB177_161.out, NB162_177.out, NB177_162.out, NB163_177.out, NB177_163.out, Gv.bw⟩)
           ·skip
            rintro gb177 w20 ⟨hS_, h0_, h1_, h2_, h3_, h4_, h5_, h6_, h7_, h8_, h9_, h10_, h11_, h12_⟩
            have n0_ : Aside0 (w20.heap[gb161]? = some (.cells #[.int .i64 a0_0, .int .i64 a0_1, .int .i64 a0_2] 23 (0, 0))) := ⟨h0_⟩
            have n1_ : Aside0 (w20.heap[gb162]? = some (.cells #[.int .i64 a1_0, .int .i64 a1_1, .int .i64 a1_2] 23 (0, 0))) := ⟨h1_⟩
            have n2_ : Aside0 (w20.heap[gb163]? = some (.cells #[.int .i64 a2_0, .int .i64 a2_1, .int .i64 a2_2] 23 (0, 0))) := ⟨h2_⟩
            have n3_ : Aside0 (w20.heap[gb177]? = some (.cells #[.int .i64 0, .int .i64 0, .int .i64 0] 26 (0, 0))) := ⟨h3_⟩
            have n4_ : Aside0 (w.heap.size ≤ gb177) := ⟨h4_⟩
            have n5_ : Aside0 (w.heap.size ≤ gb177) := ⟨h5_⟩
            have n6_ : Aside0 (gb161 ≠ gb177) := ⟨h6_⟩
            have n7_ : Aside0 (gb177 ≠ gb161) := ⟨h7_⟩
            have n8_ : Aside0 (gb162 ≠ gb177) := ⟨h8_⟩
            have n9_ : Aside0 (gb177 ≠ gb162) := ⟨h9_⟩
            have n10_ : Aside0 (gb163 ≠ gb177) := ⟨h10_⟩
            have n11_ : Aside0 (gb177 ≠ gb163) := ⟨h11_⟩
            have n12_ : Aside0 (Below w.heap.size w w20) := ⟨h12_⟩
            clear BK161
            clear BK162
            clear BK163
            clear HB
            clear h0_ h1_ h2_ h3_ h4_ h5_ h6_ h7_ h8_ h9_ h10_ h11_ h12_
            have BK161 := n0_
            have BK162 := n1_
            have BK163 := n2_
            have BK177 := n3_
            have GW177 := n4_
            have GE177 := n5_
            have NB161_177 := n6_
            have NB177_161 := n7_
            have NB162_177 := n8_
            have NB177_162 := n9_
            have NB163_177 := n10_
            have NB177_163 := n11_
            have HB := n12_
            clear n0_ n1_ n2_ n3_ n4_ n5_ n6_ n7_ n8_ n9_ n10_ n11_ n12_
            have hHeld : w20.cell? ⟨gb161, 0, none⟩ = some (.int .i64 a0_0) ∧ w20.cell? ⟨gb161, 1, none⟩ = some (.int .i64 a0_1) ∧ w20.cell? ⟨gb161, 2, none⟩ = some (.int .i64 a0_2) ∧ w20.cell? ⟨gb162, 0, none⟩ = some (.int .i64 a1_0) ∧ w20.cell? ⟨gb162, 1, none⟩ = some (.int .i64 a1_1) ∧ w20.cell? ⟨gb162, 2, none⟩ = some (.int .i64 a1_2) ∧ w20.cell? ⟨gb163, 0, none⟩ = some (.int .i64 a2_0) ∧ w20.cell? ⟨gb163, 1, none⟩ = some (.int .i64 a2_1) ∧ w20.cell? ⟨gb163, 2, none⟩ = some (.int .i64 a2_2) := hS_
            refine norm_ (a' := ?_) ?_ ?_
            rotate_left
            ·simp only [putAll, Act.put, List.setIfInBounds_toArray, List.set_cons_zero, List.set_cons_succ]
             rfl
            refine one_ (i := 1) (N := some 13) #[true, true, true, false, true, false, false, false, false, false, true, false, false] rfl rfl (one_of HT_.out (by kernel_rfl)) (by decide) (fun K hK => ?_)
            refine goes_ Try.func16 (by kernel_rfl) rfl #[.agg #[.int .i64 a0_0, .int .i64 a0_1, .int .i64 a0_2]] (by rfl) rfl rfl (by (try simp only [List.map_toArray, List.map_cons, List.map_nil]); first | done | rfl | (simp only [List.length_drop, List.length_take]; rfl)) ?_
            with_reducible refine (laws_toVec.calls a0_0 a0_1 a0_2 t164 t165 t166 _ A4.out).mono ?_
            rintro e w21 ⟨rfl, hb⟩
            refine ⟨_, rfl, ?_⟩
            have n0_ := Aside0.mk (blk_below (g := gb161) (o := .cells #[.int .i64 a0_0, .int .i64 a0_1, .int .i64 a0_2] 23 (0, 0)) Gv.bk hb)
            have n1_ := Aside0.mk (blk_below (g := gb162) (o := .cells #[.int .i64 a1_0, .int .i64 a1_1, .int .i64 a1_2] 23 (0, 0)) Gv.bk hb)
            have n2_ := Aside0.mk (blk_below (g := gb163) (o := .cells #[.int .i64 a2_0, .int .i64 a2_1, .int .i64 a2_2] 23 (0, 0)) Gv.bk hb)
            have n3_ := Aside0.mk (blk_below (g := gb177) (o := .cells #[.int .i64 0, .int .i64 0, .int .i64 0] 26 (0, 0)) Gv.bk hb)
            have n4_ := Aside0.mk (below_step Gv.bw hb)
            clear BK161
            clear BK162
            clear BK163
            clear BK177
            clear HB
            have BK161 := n0_
            have BK162 := n1_
            have BK163 := n2_
            have BK177 := n3_
            have HB := n4_
            clear n0_ n1_ n2_ n3_ n4_
            (try clear hb)
            (try clear hb2)
            (try clear hk)
            (try clear hi)
            refine hK.out _ _ ⟨(blk_cell BK161.out 0).trans rfl, (blk_cell BK161.out 1).trans rfl, (blk_cell BK161.out 2).trans rfl, (blk_cell BK162.out 0).trans rfl, (blk_cell BK162.out 1).trans rfl, (blk_cell BK162.out 2).trans rfl, (blk_cell BK163.out 0).trans rfl, (blk_cell BK163.out 1).trans rfl, (blk_cell BK163.out 2).trans rfl⟩ (fun hHeld => ?_)
            clear hK K
            refine norm_ (a' := ?_) ?_ ?_
            rotate_left
            ·show Act.put _ (some 13) _ = _
             simp only [Act.put, List.setIfInBounds_toArray, List.set_cons_zero, List.set_cons_succ, i64_w, i32_w]
             rfl
            exact Gv.nm (hJ1_10 (gb177) _ ⟨hHeld, Gv.bk, Gv.bk, Gv.bk, Gv.bk, GW177.out, GE177.out, NB161_177.out, NB177_161.out, NB162_177.out, NB177_162.out, NB163_177.out, NB177_163.out, Gv.bw⟩)
          ·skip
           rintro _ w20 ⟨hS_, h0_, h1_, h2_, h3_⟩
           have n0_ : Aside0 (w20.heap[gb161]? = some (.cells #[.int .i64 a0_0, .int .i64 a0_1, .int .i64 a0_2] 23 (0, 0))) := ⟨h0_⟩
           have n1_ : Aside0 (w20.heap[gb162]? = some (.cells #[.int .i64 a1_0, .int .i64 a1_1, .int .i64 a1_2] 23 (0, 0))) := ⟨h1_⟩
           have n2_ : Aside0 (w20.heap[gb163]? = some (.cells #[.int .i64 a2_0, .int .i64 a2_1, .int .i64 a2_2] 23 (0, 0))) := ⟨h2_⟩
           have n3_ : Aside0 (Below w.heap.size w w20) := ⟨h3_⟩
           clear BK161
           clear BK162
           clear BK163
           clear HB
           clear h0_ h1_ h2_ h3_
           have BK161 := n0_
           have BK162 := n1_
           have BK163 := n2_
           have HB := n3_
           clear n0_ n1_ n2_ n3_
           have hHeld : w20.cell? ⟨gb161, 0, none⟩ = some (.int .i64 a0_0) ∧ w20.cell? ⟨gb161, 1, none⟩ = some (.int .i64 a0_1) ∧ w20.cell? ⟨gb161, 2, none⟩ = some (.int .i64 a0_2) ∧ w20.cell? ⟨gb162, 0, none⟩ = some (.int .i64 a1_0) ∧ w20.cell? ⟨gb162, 1, none⟩ = some (.int .i64 a1_1) ∧ w20.cell? ⟨gb162, 2, none⟩ = some (.int .i64 a1_2) ∧ w20.cell? ⟨gb163, 0, none⟩ = some (.int .i64 a2_0) ∧ w20.cell? ⟨gb163, 1, none⟩ = some (.int .i64 a2_1) ∧ w20.cell? ⟨gb163, 2, none⟩ = some (.int .i64 a2_2) := hS_
           refine norm_ (a' := ?_) ?_ ?_
           rotate_left
           ·simp only [putAll, Act.put, List.setIfInBounds_toArray, List.set_cons_zero, List.set_cons_succ]
            rfl
           refine two_ (i := 3) (j := 10) (Ni := some 15) (Nj := some 7) #[true, true, true, true, true, false, false, false, false, false, false, false, false] #[true, true, true, false, true, false, false, false, false, false, true, false, false] rfl rfl rfl rfl (two_of HT_.out (by kernel_rfl)) (by decide) (by decide) (fun K hK => ?_) (fun K hK => ?_)
           ·skip
            refine goes_ Try.func16 (by kernel_rfl) rfl #[.agg #[.int .i64 a1_0, .int .i64 a1_1, .int .i64 a1_2]] (by rfl) rfl rfl (by (try simp only [List.map_toArray, List.map_cons, List.map_nil]); first | done | rfl | (simp only [List.length_drop, List.length_take]; rfl)) ?_
            with_reducible refine (laws_toVec.calls a1_0 a1_1 a1_2 t167 t168 t169 _ A5.out).mono ?_
            rintro e w21 ⟨rfl, hb⟩
            refine ⟨_, rfl, ?_⟩
            have n0_ := Aside0.mk (blk_below (g := gb161) (o := .cells #[.int .i64 a0_0, .int .i64 a0_1, .int .i64 a0_2] 23 (0, 0)) Gv.bk hb)
            have n1_ := Aside0.mk (blk_below (g := gb162) (o := .cells #[.int .i64 a1_0, .int .i64 a1_1, .int .i64 a1_2] 23 (0, 0)) Gv.bk hb)
            have n2_ := Aside0.mk (blk_below (g := gb163) (o := .cells #[.int .i64 a2_0, .int .i64 a2_1, .int .i64 a2_2] 23 (0, 0)) Gv.bk hb)
            have n3_ := Aside0.mk (below_step Gv.bw hb)
            clear BK161
            clear BK162
            clear BK163
            clear HB
            have BK161 := n0_
            have BK162 := n1_
            have BK163 := n2_
            have HB := n3_
            clear n0_ n1_ n2_ n3_
            (try clear hb)
            (try clear hb2)
            (try clear hk)
            (try clear hi)
            refine hK.out _ _ ⟨(blk_cell BK161.out 0).trans rfl, (blk_cell BK161.out 1).trans rfl, (blk_cell BK161.out 2).trans rfl, (blk_cell BK162.out 0).trans rfl, (blk_cell BK162.out 1).trans rfl, (blk_cell BK162.out 2).trans rfl, (blk_cell BK163.out 0).trans rfl, (blk_cell BK163.out 1).trans rfl, (blk_cell BK163.out 2).trans rfl⟩ (fun hHeld => ?_)
            clear hK K
            refine norm_ (a' := ?_) ?_ ?_
            rotate_left
            ·show Act.put _ (some 15) _ = _
             simp only [Act.put, List.setIfInBounds_toArray, List.set_cons_zero, List.set_cons_succ, i64_w, i32_w]
             rfl
            exact Gv.nm (hJ1_3 () _ ⟨hHeld, Gv.bk, Gv.bk, Gv.bk, Gv.bw⟩)
           ·skip
            refine box_step ?hg (N := 7) ?hd (cs := #[.int .i64 0, .int .i64 0, .int .i64 0]) (t := 26) ?hr ?_; (case hd => rfl); (case hg => rfl); (case hr => first | (go_simp; done) | (go_simp; rfl))
            intro gb177 hg w21 hbox hb
            have n0_ := Aside0.mk (blk_below (g := gb161) (o := .cells #[.int .i64 a0_0, .int .i64 a0_1, .int .i64 a0_2] 23 (0, 0)) Gv.bk hb)
            have n1_ := Aside0.mk (blk_below (g := gb162) (o := .cells #[.int .i64 a1_0, .int .i64 a1_1, .int .i64 a1_2] 23 (0, 0)) Gv.bk hb)
            have n2_ := Aside0.mk (blk_below (g := gb163) (o := .cells #[.int .i64 a2_0, .int .i64 a2_1, .int .i64 a2_2] 23 (0, 0)) Gv.bk hb)
            have n3_ := Aside0.mk (below_step Gv.bw hb)
            have n4_ := Aside0.mk (hbox)
            have n5_ := Aside0.mk ((by rw [hg]; exact (below_size Gv.bw) : w.heap.size ≤ gb177))
            have n6_ := Aside0.mk ((by rw [hg]; exact (below_size Gv.bw) : w.heap.size ≤ gb177))
            have n7_ := Aside0.mk ((by rw [hg]; exact Nat.ne_of_lt (blk_lt (g := gb161) (o := .cells #[.int .i64 a0_0, .int .i64 a0_1, .int .i64 a0_2] 23 (0, 0)) Gv.bk) : gb161 ≠ gb177))
            have n8_ := Aside0.mk ((by rw [hg]; exact Nat.ne_of_gt (blk_lt (g := gb161) (o := .cells #[.int .i64 a0_0, .int .i64 a0_1, .int .i64 a0_2] 23 (0, 0)) Gv.bk) : gb177 ≠ gb161))
            have n9_ := Aside0.mk ((by rw [hg]; exact Nat.ne_of_lt (blk_lt (g := gb162) (o := .cells #[.int .i64 a1_0, .int .i64 a1_1, .int .i64 a1_2] 23 (0, 0)) Gv.bk) : gb162 ≠ gb177))
            have n10_ := Aside0.mk ((by rw [hg]; exact Nat.ne_of_gt (blk_lt (g := gb162) (o := .cells #[.int .i64 a1_0, .int .i64 a1_1, .int .i64 a1_2] 23 (0, 0)) Gv.bk) : gb177 ≠ gb162))
            have n11_ := Aside0.mk ((by rw [hg]; exact Nat.ne_of_lt (blk_lt (g := gb163) (o := .cells #[.int .i64 a2_0, .int .i64 a2_1, .int .i64 a2_2] 23 (0, 0)) Gv.bk) : gb163 ≠ gb177))
            have n12_ := Aside0.mk ((by rw [hg]; exact Nat.ne_of_gt (blk_lt (g := gb163) (o := .cells #[.int .i64 a2_0, .int .i64 a2_1, .int .i64 a2_2] 23 (0, 0)) Gv.bk) : gb177 ≠ gb163))
            clear BK161
            clear BK162
            clear BK163
            clear HB
            have BK161 := n0_
            have BK162 := n1_
            have BK163 := n2_
            have HB := n3_
            have BK177 := n4_
            have GW177 := n5_
            have GE177 := n6_
            have NB161_177 := n7_
            have NB177_161 := n8_
            have NB162_177 := n9_
            have NB177_162 := n10_
            have NB163_177 := n11_
            have NB177_163 := n12_
            clear n0_ n1_ n2_ n3_ n4_ n5_ n6_ n7_ n8_ n9_ n10_ n11_ n12_
            clear hb hbox hg
            refine hK.out _ _ ⟨(blk_cell BK161.out 0).trans rfl, (blk_cell BK161.out 1).trans rfl, (blk_cell BK161.out 2).trans rfl, (blk_cell BK162.out 0).trans rfl, (blk_cell BK162.out 1).trans rfl, (blk_cell BK162.out 2).trans rfl, (blk_cell BK163.out 0).trans rfl, (blk_cell BK163.out 1).trans rfl, (blk_cell BK163.out 2).trans rfl⟩ (fun hHeld => ?_)
            clear hK K
            refine norm_ (a' := ?_) ?_ ?_
            rotate_left
            ·show Act.put _ (some 7) _ = _
             simp only [Act.put, List.setIfInBounds_toArray, List.set_cons_zero, List.set_cons_succ, i64_w, i32_w]
             rfl
            exact Gv.nm (hJ1_10 (gb177) _ ⟨hHeld, Gv.bk, Gv.bk, Gv.bk, Gv.bk, GW177.out, GE177.out, NB161_177.out, NB177_161.out, NB162_177.out, NB177_162.out, NB163_177.out, NB177_163.out, Gv.bw⟩)
         ·skip
          rintro gb177 w21 ⟨hS_, h0_, h1_, h2_, h3_, h4_, h5_, h6_, h7_, h8_, h9_, h10_, h11_, h12_⟩
          have n0_ : Aside0 (w21.heap[gb161]? = some (.cells #[.int .i64 a0_0, .int .i64 a0_1, .int .i64 a0_2] 23 (0, 0))) := ⟨h0_⟩
          have n1_ : Aside0 (w21.heap[gb162]? = some (.cells #[.int .i64 a1_0, .int .i64 a1_1, .int .i64 a1_2] 23 (0, 0))) := ⟨h1_⟩
          have n2_ : Aside0 (w21.heap[gb163]? = some (.cells #[.int .i64 a2_0, .int .i64 a2_1, .int .i64 a2_2] 23 (0, 0))) := ⟨h2_⟩
          have n3_ : Aside0 (w21.heap[gb177]? = some (.cells #[.int .i64 0, .int .i64 0, .int .i64 0] 26 (0, 0))) := ⟨h3_⟩
          have n4_ : Aside0 (w.heap.size ≤ gb177) := ⟨h4_⟩
          have n5_ : Aside0 (w.heap.size ≤ gb177) := ⟨h5_⟩
          have n6_ : Aside0 (gb161 ≠ gb177) := ⟨h6_⟩
          have n7_ : Aside0 (gb177 ≠ gb161) := ⟨h7_⟩
          have n8_ : Aside0 (gb162 ≠ gb177) := ⟨h8_⟩
          have n9_ : Aside0 (gb177 ≠ gb162) := ⟨h9_⟩
          have n10_ : Aside0 (gb163 ≠ gb177) := ⟨h10_⟩
          have n11_ : Aside0 (gb177 ≠ gb163) := ⟨h11_⟩
          have n12_ : Aside0 (Below w.heap.size w w21) := ⟨h12_⟩
          clear BK161
          clear BK162
          clear BK163
          clear HB
          clear h0_ h1_ h2_ h3_ h4_ h5_ h6_ h7_ h8_ h9_ h10_ h11_ h12_
          have BK161 := n0_
          have BK162 := n1_
          have BK163 := n2_
          have BK177 := n3_
          have GW177 := n4_
          have GE177 := n5_
          have NB161_177 := n6_
          have NB177_161 := n7_
          have NB162_177 := n8_
          have NB177_162 := n9_
          have NB163_177 := n10_
          have NB177_163 := n11_
          have HB := n12_
          clear n0_ n1_ n2_ n3_ n4_ n5_ n6_ n7_ n8_ n9_ n10_ n11_ n12_
          have hHeld : w21.cell? ⟨gb161, 0, none⟩ = some (.int .i64 a0_0) ∧ w21.cell? ⟨gb161, 1, none⟩ = some (.int .i64 a0_1) ∧ w21.cell? ⟨gb161, 2, none⟩ = some (.int .i64 a0_2) ∧ w21.cell? ⟨gb162, 0, none⟩ = some (.int .i64 a1_0) ∧ w21.cell? ⟨gb162, 1, none⟩ = some (.int .i64 a1_1) ∧ w21.cell? ⟨gb162, 2, none⟩ = some (.int .i64 a1_2) ∧ w21.cell? ⟨gb163, 0, none⟩ = some (.int .i64 a2_0) ∧ w21.cell? ⟨gb163, 1, none⟩ = some (.int .i64 a2_1) ∧ w21.cell? ⟨gb163, 2, none⟩ = some (.int .i64 a2_2) := hS_
          refine norm_ (a' := ?_) ?_ ?_
          rotate_left
          ·simp only [putAll, Act.put, List.setIfInBounds_toArray, List.set_cons_zero, List.set_cons_succ]
           rfl
          refine one_ (i := 3) (N := some 15) #[true, true, true, true, true, false, false, false, false, false, true, false, false] rfl rfl (one_of HT_.out (by kernel_rfl)) (by decide) (fun K hK => ?_)
          refine goes_ Try.func16 (by kernel_rfl) rfl #[.agg #[.int .i64 a1_0, .int .i64 a1_1, .int .i64 a1_2]] (by rfl) rfl rfl (by (try simp only [List.map_toArray, List.map_cons, List.map_nil]); first | done | rfl | (simp only [List.length_drop, List.length_take]; rfl)) ?_
          with_reducible refine (laws_toVec.calls a1_0 a1_1 a1_2 t167 t168 t169 _ A5.out).mono ?_
          rintro e w22 ⟨rfl, hb⟩
          refine ⟨_, rfl, ?_⟩
          have n0_ := Aside0.mk (blk_below (g := gb161) (o := .cells #[.int .i64 a0_0, .int .i64 a0_1, .int .i64 a0_2] 23 (0, 0)) Gv.bk hb)
          have n1_ := Aside0.mk (blk_below (g := gb162) (o := .cells #[.int .i64 a1_0, .int .i64 a1_1, .int .i64 a1_2] 23 (0, 0)) Gv.bk hb)
          have n2_ := Aside0.mk (blk_below (g := gb163) (o := .cells #[.int .i64 a2_0, .int .i64 a2_1, .int .i64 a2_2] 23 (0, 0)) Gv.bk hb)
          have n3_ := Aside0.mk (blk_below (g := gb177) (o := .cells #[.int .i64 0, .int .i64 0, .int .i64 0] 26 (0, 0)) Gv.bk hb)
          have n4_ := Aside0.mk (below_step Gv.bw hb)
          clear BK161
          clear BK162
          clear BK163
          clear BK177
          clear HB
          have BK161 := n0_
          have BK162 := n1_
          have BK163 := n2_
          have BK177 := n3_
          have HB := n4_
          clear n0_ n1_ n2_ n3_ n4_
          (try clear hb)
          (try clear hb2)
          (try clear hk)
          (try clear hi)
          refine hK.out _ _ ⟨(blk_cell BK161.out 0).trans rfl, (blk_cell BK161.out 1).trans rfl, (blk_cell BK161.out 2).trans rfl, (blk_cell BK162.out 0).trans rfl, (blk_cell BK162.out 1).trans rfl, (blk_cell BK162.out 2).trans rfl, (blk_cell BK163.out 0).trans rfl, (blk_cell BK163.out 1).trans rfl, (blk_cell BK163.out 2).trans rfl⟩ (fun hHeld => ?_)
          clear hK K
          refine norm_ (a' := ?_) ?_ ?_
          rotate_left
          ·show Act.put _ (some 15) _ = _
           simp only [Act.put, List.setIfInBounds_toArray, List.set_cons_zero, List.set_cons_succ, i64_w, i32_w]
           rfl
          exact Gv.nm (hJ1_3_10 (gb177) _ ⟨hHeld, Gv.bk, Gv.bk, Gv.bk, Gv.bk, GW177.out, GE177.out, NB161_177.out, NB177_161.out, NB162_177.out, NB177_162.out, NB163_177.out, NB177_163.out, Gv.bw⟩)
        ·skip
         rintro _ w21 ⟨hS_, h0_, h1_, h2_, h3_⟩
         have n0_ : Aside0 (w21.heap[gb161]? = some (.cells #[.int .i64 a0_0, .int .i64 a0_1, .int .i64 a0_2] 23 (0, 0))) := ⟨h0_⟩
         have n1_ : Aside0 (w21.heap[gb162]? = some (.cells #[.int .i64 a1_0, .int .i64 a1_1, .int .i64 a1_2] 23 (0, 0))) := ⟨h1_⟩
         have n2_ : Aside0 (w21.heap[gb163]? = some (.cells #[.int .i64 a2_0, .int .i64 a2_1, .int .i64 a2_2] 23 (0, 0))) := ⟨h2_⟩
         have n3_ : Aside0 (Below w.heap.size w w21) := ⟨h3_⟩
         clear BK161
         clear BK162
         clear BK163
         clear HB
         clear h0_ h1_ h2_ h3_
         have BK161 := n0_
         have BK162 := n1_
         have BK163 := n2_
         have HB := n3_
         clear n0_ n1_ n2_ n3_
         have hHeld : w21.cell? ⟨gb161, 0, none⟩ = some (.int .i64 a0_0) ∧ w21.cell? ⟨gb161, 1, none⟩ = some (.int .i64 a0_1) ∧ w21.cell? ⟨gb161, 2, none⟩ = some (.int .i64 a0_2) ∧ w21.cell? ⟨gb162, 0, none⟩ = some (.int .i64 a1_0) ∧ w21.cell? ⟨gb162, 1, none⟩ = some (.int .i64 a1_1) ∧ w21.cell? ⟨gb162, 2, none⟩ = some (.int .i64 a1_2) ∧ w21.cell? ⟨gb163, 0, none⟩ = some (.int .i64 a2_0) ∧ w21.cell? ⟨gb163, 1, none⟩ = some (.int .i64 a2_1) ∧ w21.cell? ⟨gb163, 2, none⟩ = some (.int .i64 a2_2) := hS_
         refine norm_ (a' := ?_) ?_ ?_
         rotate_left
         ·simp only [putAll, Act.put, List.setIfInBounds_toArray, List.set_cons_zero, List.set_cons_succ]
          rfl
         refine two_ (i := 5) (j := 10) (Ni := some 17) (Nj := some 7) #[true, true, true, true, true, true, false, false, false, false, false, false, false] #[true, true, true, true, true, false, false, false, false, false, true, false, false] rfl rfl rfl rfl (two_of HT_.out (by kernel_rfl)) (by decide) (by decide) (fun K hK => ?_) (fun K hK => ?_)
         ·skip
          refine goes_ Try.func16 (by kernel_rfl) rfl #[.agg #[.int .i64 a2_0, .int .i64 a2_1, .int .i64 a2_2]] (by rfl) rfl rfl (by (try simp only [List.map_toArray, List.map_cons, List.map_nil]); first | done | rfl | (simp only [List.length_drop, List.length_take]; rfl)) ?_
          with_reducible refine (laws_toVec.calls a2_0 a2_1 a2_2 t170 t171 t172 _ A6.out).mono ?_
          rintro e w22 ⟨rfl, hb⟩
          refine ⟨_, rfl, ?_⟩
          have n0_ := Aside0.mk (blk_below (g := gb161) (o := .cells #[.int .i64 a0_0, .int .i64 a0_1, .int .i64 a0_2] 23 (0, 0)) Gv.bk hb)
          have n1_ := Aside0.mk (blk_below (g := gb162) (o := .cells #[.int .i64 a1_0, .int .i64 a1_1, .int .i64 a1_2] 23 (0, 0)) Gv.bk hb)
          have n2_ := Aside0.mk (blk_below (g := gb163) (o := .cells #[.int .i64 a2_0, .int .i64 a2_1, .int .i64 a2_2] 23 (0, 0)) Gv.bk hb)
          have n3_ := Aside0.mk (below_step Gv.bw hb)
          clear BK161
          clear BK162
          clear BK163
          clear HB
          have BK161 := n0_
          have BK162 := n1_
          have BK163 := n2_
          have HB := n3_
          clear n0_ n1_ n2_ n3_
          (try clear hb)
          (try clear hb2)
          (try clear hk)
          (try clear hi)
          refine hK.out _ _ ⟨(blk_cell BK161.out 0).trans rfl, (blk_cell BK161.out 1).trans rfl, (blk_cell BK161.out 2).trans rfl, (blk_cell BK162.out 0).trans rfl, (blk_cell BK162.out 1).trans rfl, (blk_cell BK162.out 2).trans rfl, (blk_cell BK163.out 0).trans rfl, (blk_cell BK163.out 1).trans rfl, (blk_cell BK163.out 2).trans rfl⟩ (fun hHeld => ?_)
          clear hK K
          refine norm_ (a' := ?_) ?_ ?_
          rotate_left
          ·show Act.put _ (some 17) _ = _
           simp only [Act.put, List.setIfInBounds_toArray, List.set_cons_zero, List.set_cons_succ, i64_w, i32_w]
           rfl
          exact Gv.nm (hJ1_3_5 () _ ⟨hHeld, Gv.bk, Gv.bk, Gv.bk, Gv.bw⟩)
         ·skip
          refine box_step ?hg (N := 7) ?hd (cs := #[.int .i64 0, .int .i64 0, .int .i64 0]) (t := 26) ?hr ?_; (case hd => rfl); (case hg => rfl); (case hr => first | (go_simp; done) | (go_simp; rfl))
          intro gb177 hg w22 hbox hb
          have n0_ := Aside0.mk (blk_below (g := gb161) (o := .cells #[.int .i64 a0_0, .int .i64 a0_1, .int .i64 a0_2] 23 (0, 0)) Gv.bk hb)
          have n1_ := Aside0.mk (blk_below (g := gb162) (o := .cells #[.int .i64 a1_0, .int .i64 a1_1, .int .i64 a1_2] 23 (0, 0)) Gv.bk hb)
          have n2_ := Aside0.mk (blk_below (g := gb163) (o := .cells #[.int .i64 a2_0, .int .i64 a2_1, .int .i64 a2_2] 23 (0, 0)) Gv.bk hb)
          have n3_ := Aside0.mk (below_step Gv.bw hb)
          have n4_ := Aside0.mk (hbox)
          have n5_ := Aside0.mk ((by rw [hg]; exact (below_size Gv.bw) : w.heap.size ≤ gb177))
          have n6_ := Aside0.mk ((by rw [hg]; exact (below_size Gv.bw) : w.heap.size ≤ gb177))
          have n7_ := Aside0.mk ((by rw [hg]; exact Nat.ne_of_lt (blk_lt (g := gb161) (o := .cells #[.int .i64 a0_0, .int .i64 a0_1, .int .i64 a0_2] 23 (0, 0)) Gv.bk) : gb161 ≠ gb177))
          have n8_ := Aside0.mk ((by rw [hg]; exact Nat.ne_of_gt (blk_lt (g := gb161) (o := .cells #[.int .i64 a0_0, .int .i64 a0_1, .int .i64 a0_2] 23 (0, 0)) Gv.bk) : gb177 ≠ gb161))
          have n9_ := Aside0.mk ((by rw [hg]; exact Nat.ne_of_lt (blk_lt (g := gb162) (o := .cells #[.int .i64 a1_0, .int .i64 a1_1, .int .i64 a1_2] 23 (0, 0)) Gv.bk) : gb162 ≠ gb177))
          have n10_ := Aside0.mk ((by rw [hg]; exact Nat.ne_of_gt (blk_lt (g := gb162) (o := .cells #[.int .i64 a1_0, .int .i64 a1_1, .int .i64 a1_2] 23 (0, 0)) Gv.bk) : gb177 ≠ gb162))
          have n11_ := Aside0.mk ((by rw [hg]; exact Nat.ne_of_lt (blk_lt (g := gb163) (o := .cells #[.int .i64 a2_0, .int .i64 a2_1, .int .i64 a2_2] 23 (0, 0)) Gv.bk) : gb163 ≠ gb177))
          have n12_ := Aside0.mk ((by rw [hg]; exact Nat.ne_of_gt (blk_lt (g := gb163) (o := .cells #[.int .i64 a2_0, .int .i64 a2_1, .int .i64 a2_2] 23 (0, 0)) Gv.bk) : gb177 ≠ gb163))
          clear BK161
          clear BK162
          clear BK163
          clear HB
          have BK161 := n0_
          have BK162 := n1_
          have BK163 := n2_
          have HB := n3_
          have BK177 := n4_
          have GW177 := n5_
          have GE177 := n6_
          have NB161_177 := n7_
          have NB177_161 := n8_
          have NB162_177 := n9_
          have NB177_162 := n10_
          have NB163_177 := n11_
          have NB177_163 := n12_
          clear n0_ n1_ n2_ n3_ n4_ n5_ n6_ n7_ n8_ n9_ n10_ n11_ n12_
          clear hb hbox hg
          refine hK.out _ _ ⟨(blk_cell BK161.out 0).trans rfl, (blk_cell BK161.out 1).trans rfl, (blk_cell BK161.out 2).trans rfl, (blk_cell BK162.out 0).trans rfl, (blk_cell BK162.out 1).trans rfl, (blk_cell BK162.out 2).trans rfl, (blk_cell BK163.out 0).trans rfl, (blk_cell BK163.out 1).trans rfl, (blk_cell BK163.out 2).trans rfl⟩ (fun hHeld => ?_)
          clear hK K
          refine norm_ (a' := ?_) ?_ ?_
          rotate_left
          ·show Act.put _ (some 7) _ = _
           simp only [Act.put, List.setIfInBounds_toArray, List.set_cons_zero, List.set_cons_succ, i64_w, i32_w]
           rfl
          exact Gv.nm (hJ1_3_10 (gb177) _ ⟨hHeld, Gv.bk, Gv.bk, Gv.bk, Gv.bk, GW177.out, GE177.out, NB161_177.out, NB177_161.out, NB162_177.out, NB177_162.out, NB163_177.out, NB177_163.out, Gv.bw⟩)
       ·skip
        rintro gb177 w22 ⟨hS_, h0_, h1_, h2_, h3_, h4_, h5_, h6_, h7_, h8_, h9_, h10_, h11_, h12_⟩
        have n0_ : Aside0 (w22.heap[gb161]? = some (.cells #[.int .i64 a0_0, .int .i64 a0_1, .int .i64 a0_2] 23 (0, 0))) := ⟨h0_⟩
        have n1_ : Aside0 (w22.heap[gb162]? = some (.cells #[.int .i64 a1_0, .int .i64 a1_1, .int .i64 a1_2] 23 (0, 0))) := ⟨h1_⟩
        have n2_ : Aside0 (w22.heap[gb163]? = some (.cells #[.int .i64 a2_0, .int .i64 a2_1, .int .i64 a2_2] 23 (0, 0))) := ⟨h2_⟩
        have n3_ : Aside0 (w22.heap[gb177]? = some (.cells #[.int .i64 0, .int .i64 0, .int .i64 0] 26 (0, 0))) := ⟨h3_⟩
        have n4_ : Aside0 (w.heap.size ≤ gb177) := ⟨h4_⟩
        have n5_ : Aside0 (w.heap.size ≤ gb177) := ⟨h5_⟩
        have n6_ : Aside0 (gb161 ≠ gb177) := ⟨h6_⟩
        have n7_ : Aside0 (gb177 ≠ gb161) := ⟨h7_⟩
        have n8_ : Aside0 (gb162 ≠ gb177) := ⟨h8_⟩
        have n9_ : Aside0 (gb177 ≠ gb162) := ⟨h9_⟩
        have n10_ : Aside0 (gb163 ≠ gb177) := ⟨h10_⟩
        have n11_ : Aside0 (gb177 ≠ gb163) := ⟨h11_⟩
        have n12_ : Aside0 (Below w.heap.size w w22) := ⟨h12_⟩
        clear BK161
        clear BK162
        clear BK163
        clear HB
        clear h0_ h1_ h2_ h3_ h4_ h5_ h6_ h7_ h8_ h9_ h10_ h11_ h12_
        have BK161 := n0_
        have BK162 := n1_
        have BK163 := n2_
        have BK177 := n3_
        have GW177 := n4_
        have GE177 := n5_
        have NB161_177 := n6_
        have NB177_161 := n7_
        have NB162_177 := n8_
        have NB177_162 := n9_
        have NB163_177 := n10_
        have NB177_163 := n11_
        have HB := n12_
        clear n0_ n1_ n2_ n3_ n4_ n5_ n6_ n7_ n8_ n9_ n10_ n11_ n12_
        have hHeld : w22.cell? ⟨gb161, 0, none⟩ = some (.int .i64 a0_0) ∧ w22.cell? ⟨gb161, 1, none⟩ = some (.int .i64 a0_1) ∧ w22.cell? ⟨gb161, 2, none⟩ = some (.int .i64 a0_2) ∧ w22.cell? ⟨gb162, 0, none⟩ = some (.int .i64 a1_0) ∧ w22.cell? ⟨gb162, 1, none⟩ = some (.int .i64 a1_1) ∧ w22.cell? ⟨gb162, 2, none⟩ = some (.int .i64 a1_2) ∧ w22.cell? ⟨gb163, 0, none⟩ = some (.int .i64 a2_0) ∧ w22.cell? ⟨gb163, 1, none⟩ = some (.int .i64 a2_1) ∧ w22.cell? ⟨gb163, 2, none⟩ = some (.int .i64 a2_2) := hS_
        refine norm_ (a' := ?_) ?_ ?_
        rotate_left
        ·simp only [putAll, Act.put, List.setIfInBounds_toArray, List.set_cons_zero, List.set_cons_succ]
         rfl
        refine one_ (i := 5) (N := some 17) #[true, true, true, true, true, true, false, false, false, false, true, false, false] rfl rfl (one_of HT_.out (by kernel_rfl)) (by decide) (fun K hK => ?_)
        refine goes_ Try.func16 (by kernel_rfl) rfl #[.agg #[.int .i64 a2_0, .int .i64 a2_1, .int .i64 a2_2]] (by rfl) rfl rfl (by (try simp only [List.map_toArray, List.map_cons, List.map_nil]); first | done | rfl | (simp only [List.length_drop, List.length_take]; rfl)) ?_
        with_reducible refine (laws_toVec.calls a2_0 a2_1 a2_2 t170 t171 t172 _ A6.out).mono ?_
        rintro e w23 ⟨rfl, hb⟩
        refine ⟨_, rfl, ?_⟩
        have n0_ := Aside0.mk (blk_below (g := gb161) (o := .cells #[.int .i64 a0_0, .int .i64 a0_1, .int .i64 a0_2] 23 (0, 0)) Gv.bk hb)
        have n1_ := Aside0.mk (blk_below (g := gb162) (o := .cells #[.int .i64 a1_0, .int .i64 a1_1, .int .i64 a1_2] 23 (0, 0)) Gv.bk hb)
        have n2_ := Aside0.mk (blk_below (g := gb163) (o := .cells #[.int .i64 a2_0, .int .i64 a2_1, .int .i64 a2_2] 23 (0, 0)) Gv.bk hb)
        have n3_ := Aside0.mk (blk_below (g := gb177) (o := .cells #[.int .i64 0, .int .i64 0, .int .i64 0] 26 (0, 0)) Gv.bk hb)
        have n4_ := Aside0.mk (below_step Gv.bw hb)
        clear BK161
        clear BK162
        clear BK163
        clear BK177
        clear HB
        have BK161 := n0_
        have BK162 := n1_
        have BK163 := n2_
        have BK177 := n3_
        have HB := n4_
        clear n0_ n1_ n2_ n3_ n4_
        (try clear hb)
        (try clear hb2)
        (try clear hk)
        (try clear hi)
        refine hK.out _ _ ⟨(blk_cell BK161.out 0).trans rfl, (blk_cell BK161.out 1).trans rfl, (blk_cell BK161.out 2).trans rfl, (blk_cell BK162.out 0).trans rfl, (blk_cell BK162.out 1).trans rfl, (blk_cell BK162.out 2).trans rfl, (blk_cell BK163.out 0).trans rfl, (blk_cell BK163.out 1).trans rfl, (blk_cell BK163.out 2).trans rfl⟩ (fun hHeld => ?_)
        clear hK K
        refine norm_ (a' := ?_) ?_ ?_
        rotate_left
        ·show Act.put _ (some 17) _ = _
         simp only [Act.put, List.setIfInBounds_toArray, List.set_cons_zero, List.set_cons_succ, i64_w, i32_w]
         rfl
        exact Gv.nm (hJ1_3_5_10 (gb177) _ ⟨hHeld, Gv.bk, Gv.bk, Gv.bk, Gv.bk, GW177.out, GE177.out, NB161_177.out, NB177_161.out, NB162_177.out, NB177_162.out, NB163_177.out, NB177_163.out, Gv.bw⟩)
      ·skip
       rintro _ w22 ⟨hS_, h0_, h1_, h2_, h3_⟩
       have n0_ : Aside0 (w22.heap[gb161]? = some (.cells #[.int .i64 a0_0, .int .i64 a0_1, .int .i64 a0_2] 23 (0, 0))) := ⟨h0_⟩
       have n1_ : Aside0 (w22.heap[gb162]? = some (.cells #[.int .i64 a1_0, .int .i64 a1_1, .int .i64 a1_2] 23 (0, 0))) := ⟨h1_⟩
       have n2_ : Aside0 (w22.heap[gb163]? = some (.cells #[.int .i64 a2_0, .int .i64 a2_1, .int .i64 a2_2] 23 (0, 0))) := ⟨h2_⟩
       have n3_ : Aside0 (Below w.heap.size w w22) := ⟨h3_⟩
       clear BK161
       clear BK162
       clear BK163
       clear HB
       clear h0_ h1_ h2_ h3_
       have BK161 := n0_
       have BK162 := n1_
       have BK163 := n2_
       have HB := n3_
       clear n0_ n1_ n2_ n3_
       have hHeld : w22.cell? ⟨gb161, 0, none⟩ = some (.int .i64 a0_0) ∧ w22.cell? ⟨gb161, 1, none⟩ = some (.int .i64 a0_1) ∧ w22.cell? ⟨gb161, 2, none⟩ = some (.int .i64 a0_2) ∧ w22.cell? ⟨gb162, 0, none⟩ = some (.int .i64 a1_0) ∧ w22.cell? ⟨gb162, 1, none⟩ = some (.int .i64 a1_1) ∧ w22.cell? ⟨gb162, 2, none⟩ = some (.int .i64 a1_2) ∧ w22.cell? ⟨gb163, 0, none⟩ = some (.int .i64 a2_0) ∧ w22.cell? ⟨gb163, 1, none⟩ = some (.int .i64 a2_1) ∧ w22.cell? ⟨gb163, 2, none⟩ = some (.int .i64 a2_2) := hS_
       refine norm_ (a' := ?_) ?_ ?_
       rotate_left
       ·simp only [putAll, Act.put, List.setIfInBounds_toArray, List.set_cons_zero, List.set_cons_succ]
        rfl
       refine two_ (i := 6) (j := 10) (Ni := some 18) (Nj := some 7) #[true, true, true, true, true, true, true, false, false, false, false, false, false] #[true, true, true, true, true, true, false, false, false, false, true, false, false] rfl rfl rfl rfl (two_of HT_.out (by kernel_rfl)) (by decide) (by decide) (fun K hK => ?_) (fun K hK => ?_)
       ·skip
        refine goes_ Try.func18 (by kernel_rfl) rfl #[.agg #[.int .i64 t164, .int .i64 t165, .int .i64 t166], .agg #[.int .i64 t167, .int .i64 t168, .int .i64 t169], .agg #[.int .i64 t170, .int .i64 t171, .int .i64 t172]] (by rfl) rfl rfl (by (try simp only [List.map_toArray, List.map_cons, List.map_nil]); first | done | rfl | (simp only [List.length_drop, List.length_take]; rfl)) ?_
        with_reducible refine (spec_Settle.calls k t164 t165 t166 t167 t168 t169 t170 t171 t172 t173 t174 t175 t176 _ A7.out).mono ?_
        rintro e w23 ⟨rfl, hb⟩
        refine ⟨_, rfl, ?_⟩
        have n0_ := Aside0.mk (blk_below (g := gb161) (o := .cells #[.int .i64 a0_0, .int .i64 a0_1, .int .i64 a0_2] 23 (0, 0)) Gv.bk hb)
        have n1_ := Aside0.mk (blk_below (g := gb162) (o := .cells #[.int .i64 a1_0, .int .i64 a1_1, .int .i64 a1_2] 23 (0, 0)) Gv.bk hb)
        have n2_ := Aside0.mk (blk_below (g := gb163) (o := .cells #[.int .i64 a2_0, .int .i64 a2_1, .int .i64 a2_2] 23 (0, 0)) Gv.bk hb)
        have n3_ := Aside0.mk (below_step Gv.bw hb)
        clear BK161
        clear BK162
        clear BK163
        clear HB
        have BK161 := n0_
        have BK162 := n1_
        have BK163 := n2_
        have HB := n3_
        clear n0_ n1_ n2_ n3_
        (try clear hb)
        (try clear hb2)
        (try clear hk)
        (try clear hi)
        refine hK.out _ _ ⟨(blk_cell BK161.out 0).trans rfl, (blk_cell BK161.out 1).trans rfl, (blk_cell BK161.out 2).trans rfl, (blk_cell BK162.out 0).trans rfl, (blk_cell BK162.out 1).trans rfl, (blk_cell BK162.out 2).trans rfl, (blk_cell BK163.out 0).trans rfl, (blk_cell BK163.out 1).trans rfl, (blk_cell BK163.out 2).trans rfl⟩ (fun hHeld => ?_)
        clear hK K
        refine norm_ (a' := ?_) ?_ ?_
        rotate_left
        ·show Act.put _ (some 18) _ = _
         simp only [Act.put, List.setIfInBounds_toArray, List.set_cons_zero, List.set_cons_succ, i64_w, i32_w]
         rfl
        refine pure_ (i := 7) (N := some 11) (v := ?_) (a' := ?_) #[true, true, true, true, true, true, true, true, false, false, false, false, false] rfl rfl (any_of HT_.out (by kernel_rfl)) (fun _ _ _ h => h) (Or.inl ⟨by rfl, ?_⟩) ?_ ?_
        rotate_left
        ·intro w'
         go_simp
         with_reducible rfl
        rotate_left
        ·simp only [Act.put, List.setIfInBounds_toArray, List.set_cons_zero, List.set_cons_succ, i64_w, i32_w]
         rfl
        refine pure_ (i := 8) (N := some 19) (v := ?_) (a' := ?_) #[true, true, true, true, true, true, true, true, true, false, false, false, false] rfl rfl (any_of HT_.out (by kernel_rfl)) (fun _ _ _ h => h) (Or.inl ⟨by rfl, ?_⟩) ?_ ?_
        rotate_left
        ·intro w'
         go_simp
         with_reducible rfl
        rotate_left
        ·simp only [Act.put, List.setIfInBounds_toArray, List.set_cons_zero, List.set_cons_succ, i64_w, i32_w]
         rfl
        refine pure_ (i := 9) (N := some 20) (v := ?_) (a' := ?_) #[true, true, true, true, true, true, true, true, true, true, false, false, false] rfl rfl (any_of HT_.out (by kernel_rfl)) (fun _ _ _ h => h) (Or.inl ⟨by rfl, ?_⟩) ?_ ?_
        rotate_left
        ·intro w'
         go_simp
         with_reducible rfl
        rotate_left
        ·simp only [Act.put, List.setIfInBounds_toArray, List.set_cons_zero, List.set_cons_succ, i64_w, i32_w]
         rfl
        exact Gv.nm (hJ1_3_5_6 () _ ⟨hHeld, Gv.bk, Gv.bk, Gv.bk, Gv.bw⟩)
       ·skip
        refine box_step ?hg (N := 7) ?hd (cs := #[.int .i64 0, .int .i64 0, .int .i64 0]) (t := 26) ?hr ?_; (case hd => rfl); (case hg => rfl); (case hr => first | (go_simp; done) | (go_simp; rfl))
        intro gb177 hg w23 hbox hb
        have n0_ := Aside0.mk (blk_below (g := gb161) (o := .cells #[.int .i64 a0_0, .int .i64 a0_1, .int .i64 a0_2] 23 (0, 0)) Gv.bk hb)
        have n1_ := Aside0.mk (blk_below (g := gb162) (o := .cells #[.int .i64 a1_0, .int .i64 a1_1, .int .i64 a1_2] 23 (0, 0)) Gv.bk hb)
        have n2_ := Aside0.mk (blk_below (g := gb163) (o := .cells #[.int .i64 a2_0, .int .i64 a2_1, .int .i64 a2_2] 23 (0, 0)) Gv.bk hb)
        have n3_ := Aside0.mk (below_step Gv.bw hb)
        have n4_ := Aside0.mk (hbox)
        have n5_ := Aside0.mk ((by rw [hg]; exact (below_size Gv.bw) : w.heap.size ≤ gb177))
        have n6_ := Aside0.mk ((by rw [hg]; exact (below_size Gv.bw) : w.heap.size ≤ gb177))
        have n7_ := Aside0.mk ((by rw [hg]; exact Nat.ne_of_lt (blk_lt (g := gb161) (o := .cells #[.int .i64 a0_0, .int .i64 a0_1, .int .i64 a0_2] 23 (0, 0)) Gv.bk) : gb161 ≠ gb177))
        have n8_ := Aside0.mk ((by rw [hg]; exact Nat.ne_of_gt (blk_lt (g := gb161) (o := .cells #[.int .i64 a0_0, .int .i64 a0_1, .int .i64 a0_2] 23 (0, 0)) Gv.bk) : gb177 ≠ gb161))
        have n9_ := Aside0.mk ((by rw [hg]; exact Nat.ne_of_lt (blk_lt (g := gb162) (o := .cells #[.int .i64 a1_0, .int .i64 a1_1, .int .i64 a1_2] 23 (0, 0)) Gv.bk) : gb162 ≠ gb177))
        have n10_ := Aside0.mk ((by rw [hg]; exact Nat.ne_of_gt (blk_lt (g := gb162) (o := .cells #[.int .i64 a1_0, .int .i64 a1_1, .int .i64 a1_2] 23 (0, 0)) Gv.bk) : gb177 ≠ gb162))
        have n11_ := Aside0.mk ((by rw [hg]; exact Nat.ne_of_lt (blk_lt (g := gb163) (o := .cells #[.int .i64 a2_0, .int .i64 a2_1, .int .i64 a2_2] 23 (0, 0)) Gv.bk) : gb163 ≠ gb177))
        have n12_ := Aside0.mk ((by rw [hg]; exact Nat.ne_of_gt (blk_lt (g := gb163) (o := .cells #[.int .i64 a2_0, .int .i64 a2_1, .int .i64 a2_2] 23 (0, 0)) Gv.bk) : gb177 ≠ gb163))
        clear BK161
        clear BK162
        clear BK163
        clear HB
        have BK161 := n0_
        have BK162 := n1_
        have BK163 := n2_
        have HB := n3_
        have BK177 := n4_
        have GW177 := n5_
        have GE177 := n6_
        have NB161_177 := n7_
        have NB177_161 := n8_
        have NB162_177 := n9_
        have NB177_162 := n10_
        have NB163_177 := n11_
        have NB177_163 := n12_
        clear n0_ n1_ n2_ n3_ n4_ n5_ n6_ n7_ n8_ n9_ n10_ n11_ n12_
        clear hb hbox hg
        refine hK.out _ _ ⟨(blk_cell BK161.out 0).trans rfl, (blk_cell BK161.out 1).trans rfl, (blk_cell BK161.out 2).trans rfl, (blk_cell BK162.out 0).trans rfl, (blk_cell BK162.out 1).trans rfl, (blk_cell BK162.out 2).trans rfl, (blk_cell BK163.out 0).trans rfl, (blk_cell BK163.out 1).trans rfl, (blk_cell BK163.out 2).trans rfl⟩ (fun hHeld => ?_)
        clear hK K
        refine norm_ (a' := ?_) ?_ ?_
        rotate_left
        ·show Act.put _ (some 7) _ = _
         simp only [Act.put, List.setIfInBounds_toArray, List.set_cons_zero, List.set_cons_succ, i64_w, i32_w]
         rfl
        exact Gv.nm (hJ1_3_5_10 (gb177) _ ⟨hHeld, Gv.bk, Gv.bk, Gv.bk, Gv.bk, GW177.out, GE177.out, NB161_177.out, NB177_161.out, NB162_177.out, NB177_162.out, NB163_177.out, NB177_163.out, Gv.bw⟩)
     ·skip
      rintro gb177 w23 ⟨hS_, h0_, h1_, h2_, h3_, h4_, h5_, h6_, h7_, h8_, h9_, h10_, h11_, h12_⟩
      have n0_ : Aside0 (w23.heap[gb161]? = some (.cells #[.int .i64 a0_0, .int .i64 a0_1, .int .i64 a0_2] 23 (0, 0))) := ⟨h0_⟩
      have n1_ : Aside0 (w23.heap[gb162]? = some (.cells #[.int .i64 a1_0, .int .i64 a1_1, .int .i64 a1_2] 23 (0, 0))) := ⟨h1_⟩
      have n2_ : Aside0 (w23.heap[gb163]? = some (.cells #[.int .i64 a2_0, .int .i64 a2_1, .int .i64 a2_2] 23 (0, 0))) := ⟨h2_⟩
      have n3_ : Aside0 (w23.heap[gb177]? = some (.cells #[.int .i64 0, .int .i64 0, .int .i64 0] 26 (0, 0))) := ⟨h3_⟩
      have n4_ : Aside0 (w.heap.size ≤ gb177) := ⟨h4_⟩
      have n5_ : Aside0 (w.heap.size ≤ gb177) := ⟨h5_⟩
      have n6_ : Aside0 (gb161 ≠ gb177) := ⟨h6_⟩
      have n7_ : Aside0 (gb177 ≠ gb161) := ⟨h7_⟩
      have n8_ : Aside0 (gb162 ≠ gb177) := ⟨h8_⟩
      have n9_ : Aside0 (gb177 ≠ gb162) := ⟨h9_⟩
      have n10_ : Aside0 (gb163 ≠ gb177) := ⟨h10_⟩
      have n11_ : Aside0 (gb177 ≠ gb163) := ⟨h11_⟩
      have n12_ : Aside0 (Below w.heap.size w w23) := ⟨h12_⟩
      clear BK161
      clear BK162
      clear BK163
      clear HB
      clear h0_ h1_ h2_ h3_ h4_ h5_ h6_ h7_ h8_ h9_ h10_ h11_ h12_
      have BK161 := n0_
      have BK162 := n1_
      have BK163 := n2_
      have BK177 := n3_
      have GW177 := n4_
      have GE177 := n5_
      have NB161_177 := n6_
      have NB177_161 := n7_
      have NB162_177 := n8_
      have NB177_162 := n9_
      have NB163_177 := n10_
      have NB177_163 := n11_
      have HB := n12_
      clear n0_ n1_ n2_ n3_ n4_ n5_ n6_ n7_ n8_ n9_ n10_ n11_ n12_
      have hHeld : w23.cell? ⟨gb161, 0, none⟩ = some (.int .i64 a0_0) ∧ w23.cell? ⟨gb161, 1, none⟩ = some (.int .i64 a0_1) ∧ w23.cell? ⟨gb161, 2, none⟩ = some (.int .i64 a0_2) ∧ w23.cell? ⟨gb162, 0, none⟩ = some (.int .i64 a1_0) ∧ w23.cell? ⟨gb162, 1, none⟩ = some (.int .i64 a1_1) ∧ w23.cell? ⟨gb162, 2, none⟩ = some (.int .i64 a1_2) ∧ w23.cell? ⟨gb163, 0, none⟩ = some (.int .i64 a2_0) ∧ w23.cell? ⟨gb163, 1, none⟩ = some (.int .i64 a2_1) ∧ w23.cell? ⟨gb163, 2, none⟩ = some (.int .i64 a2_2) := hS_
      refine norm_ (a' := ?_) ?_ ?_
      rotate_left
      ·simp only [putAll, Act.put, List.setIfInBounds_toArray, List.set_cons_zero, List.set_cons_succ]
       rfl
      refine one_ (i := 6) (N := some 18) #[true, true, true, true, true, true, true, false, false, false, true, false, false] rfl rfl (one_of HT_.out (by kernel_rfl)) (by decide) (fun K hK => ?_)
      refine goes_ Try.func18 (by kernel_rfl) rfl #[.agg #[.int .i64 t164, .int .i64 t165, .int .i64 t166], .agg #[.int .i64 t167, .int .i64 t168, .int .i64 t169], .agg #[.int .i64 t170, .int .i64 t171, .int .i64 t172]] (by rfl) rfl rfl (by (try simp only [List.map_toArray, List.map_cons, List.map_nil]); first | done | rfl | (simp only [List.length_drop, List.length_take]; rfl)) ?_
      with_reducible refine (spec_Settle.calls k t164 t165 t166 t167 t168 t169 t170 t171 t172 t173 t174 t175 t176 _ A7.out).mono ?_
      rintro e w24 ⟨rfl, hb⟩
      refine ⟨_, rfl, ?_⟩
      have n0_ := Aside0.mk (blk_below (g := gb161) (o := .cells #[.int .i64 a0_0, .int .i64 a0_1, .int .i64 a0_2] 23 (0, 0)) Gv.bk hb)
      have n1_ := Aside0.mk (blk_below (g := gb162) (o := .cells #[.int .i64 a1_0, .int .i64 a1_1, .int .i64 a1_2] 23 (0, 0)) Gv.bk hb)
      have n2_ := Aside0.mk (blk_below (g := gb163) (o := .cells #[.int .i64 a2_0, .int .i64 a2_1, .int .i64 a2_2] 23 (0, 0)) Gv.bk hb)
      have n3_ := Aside0.mk (blk_below (g := gb177) (o := .cells #[.int .i64 0, .int .i64 0, .int .i64 0] 26 (0, 0)) Gv.bk hb)
      have n4_ := Aside0.mk (below_step Gv.bw hb)
      clear BK161
      clear BK162
      clear BK163
      clear BK177
      clear HB
      have BK161 := n0_
      have BK162 := n1_
      have BK163 := n2_
      have BK177 := n3_
      have HB := n4_
      clear n0_ n1_ n2_ n3_ n4_
      (try clear hb)
      (try clear hb2)
      (try clear hk)
      (try clear hi)
      refine hK.out _ _ ⟨(blk_cell BK161.out 0).trans rfl, (blk_cell BK161.out 1).trans rfl, (blk_cell BK161.out 2).trans rfl, (blk_cell BK162.out 0).trans rfl, (blk_cell BK162.out 1).trans rfl, (blk_cell BK162.out 2).trans rfl, (blk_cell BK163.out 0).trans rfl, (blk_cell BK163.out 1).trans rfl, (blk_cell BK163.out 2).trans rfl⟩ (fun hHeld => ?_)
      clear hK K
      refine norm_ (a' := ?_) ?_ ?_
      rotate_left
      ·show Act.put _ (some 18) _ = _
       simp only [Act.put, List.setIfInBounds_toArray, List.set_cons_zero, List.set_cons_succ, i64_w, i32_w]
       rfl
      refine pure_ (i := 7) (N := some 11) (v := ?_) (a' := ?_) #[true, true, true, true, true, true, true, true, false, false, true, false, false] rfl rfl (any_of HT_.out (by kernel_rfl)) (fun _ _ _ h => h) (Or.inl ⟨by rfl, ?_⟩) ?_ ?_
      rotate_left
      ·intro w'
       go_simp
       with_reducible rfl
      rotate_left
      ·simp only [Act.put, List.setIfInBounds_toArray, List.set_cons_zero, List.set_cons_succ, i64_w, i32_w]
       rfl
      refine pure_ (i := 8) (N := some 19) (v := ?_) (a' := ?_) #[true, true, true, true, true, true, true, true, true, false, true, false, false] rfl rfl (any_of HT_.out (by kernel_rfl)) (fun _ _ _ h => h) (Or.inl ⟨by rfl, ?_⟩) ?_ ?_
      rotate_left
      ·intro w'
       go_simp
       with_reducible rfl
      rotate_left
      ·simp only [Act.put, List.setIfInBounds_toArray, List.set_cons_zero, List.set_cons_succ, i64_w, i32_w]
       rfl
      refine pure_ (i := 9) (N := some 20) (v := ?_) (a' := ?_) #[true, true, true, true, true, true, true, true, true, true, true, false, false] rfl rfl (any_of HT_.out (by kernel_rfl)) (fun _ _ _ h => h) (Or.inl ⟨by rfl, ?_⟩) ?_ ?_
      rotate_left
      ·intro w'
       go_simp
       with_reducible rfl
      rotate_left
      ·simp only [Act.put, List.setIfInBounds_toArray, List.set_cons_zero, List.set_cons_succ, i64_w, i32_w]
       rfl
      exact Gv.nm (hJ1_3_5_6_10 (gb177) _ ⟨hHeld, Gv.bk, Gv.bk, Gv.bk, Gv.bk, GW177.out, GE177.out, NB161_177.out, NB177_161.out, NB162_177.out, NB177_162.out, NB163_177.out, NB177_163.out, Gv.bw⟩)
    ·skip
     rintro _ w23 ⟨hS_, h0_, h1_, h2_, h3_⟩
     have n0_ : Aside0 (w23.heap[gb161]? = some (.cells #[.int .i64 a0_0, .int .i64 a0_1, .int .i64 a0_2] 23 (0, 0))) := ⟨h0_⟩
     have n1_ : Aside0 (w23.heap[gb162]? = some (.cells #[.int .i64 a1_0, .int .i64 a1_1, .int .i64 a1_2] 23 (0, 0))) := ⟨h1_⟩
     have n2_ : Aside0 (w23.heap[gb163]? = some (.cells #[.int .i64 a2_0, .int .i64 a2_1, .int .i64 a2_2] 23 (0, 0))) := ⟨h2_⟩
     have n3_ : Aside0 (Below w.heap.size w w23) := ⟨h3_⟩
     clear BK161
     clear BK162
     clear BK163
     clear HB
     clear h0_ h1_ h2_ h3_
     have BK161 := n0_
     have BK162 := n1_
     have BK163 := n2_
     have HB := n3_
     clear n0_ n1_ n2_ n3_
     have hHeld : w23.cell? ⟨gb161, 0, none⟩ = some (.int .i64 a0_0) ∧ w23.cell? ⟨gb161, 1, none⟩ = some (.int .i64 a0_1) ∧ w23.cell? ⟨gb161, 2, none⟩ = some (.int .i64 a0_2) ∧ w23.cell? ⟨gb162, 0, none⟩ = some (.int .i64 a1_0) ∧ w23.cell? ⟨gb162, 1, none⟩ = some (.int .i64 a1_1) ∧ w23.cell? ⟨gb162, 2, none⟩ = some (.int .i64 a1_2) ∧ w23.cell? ⟨gb163, 0, none⟩ = some (.int .i64 a2_0) ∧ w23.cell? ⟨gb163, 1, none⟩ = some (.int .i64 a2_1) ∧ w23.cell? ⟨gb163, 2, none⟩ = some (.int .i64 a2_2) := hS_
     refine norm_ (a' := ?_) ?_ ?_
     rotate_left
     ·simp only [putAll, Act.put, List.setIfInBounds_toArray, List.set_cons_zero, List.set_cons_succ]
      rfl
     refine one_ (i := 10) (N := some 7) #[true, true, true, true, true, true, true, true, true, true, true, false, false] rfl rfl (one_of HT_.out (by kernel_rfl)) (by decide) (fun K hK => ?_)
     refine box_step ?hg (N := 7) ?hd (cs := #[.int .i64 0, .int .i64 0, .int .i64 0]) (t := 26) ?hr ?_; (case hd => rfl); (case hg => rfl); (case hr => first | (go_simp; done) | (go_simp; rfl))
     intro gb177 hg w24 hbox hb
     have n0_ := Aside0.mk (blk_below (g := gb161) (o := .cells #[.int .i64 a0_0, .int .i64 a0_1, .int .i64 a0_2] 23 (0, 0)) Gv.bk hb)
     have n1_ := Aside0.mk (blk_below (g := gb162) (o := .cells #[.int .i64 a1_0, .int .i64 a1_1, .int .i64 a1_2] 23 (0, 0)) Gv.bk hb)
     have n2_ := Aside0.mk (blk_below (g := gb163) (o := .cells #[.int .i64 a2_0, .int .i64 a2_1, .int .i64 a2_2] 23 (0, 0)) Gv.bk hb)
     have n3_ := Aside0.mk (below_step Gv.bw hb)
     have n4_ := Aside0.mk (hbox)
     have n5_ := Aside0.mk ((by rw [hg]; exact (below_size Gv.bw) : w.heap.size ≤ gb177))
     have n6_ := Aside0.mk ((by rw [hg]; exact (below_size Gv.bw) : w.heap.size ≤ gb177))
     have n7_ := Aside0.mk ((by rw [hg]; exact Nat.ne_of_lt (blk_lt (g := gb161) (o := .cells #[.int .i64 a0_0, .int .i64 a0_1, .int .i64 a0_2] 23 (0, 0)) Gv.bk) : gb161 ≠ gb177))
     have n8_ := Aside0.mk ((by rw [hg]; exact Nat.ne_of_gt (blk_lt (g := gb161) (o := .cells #[.int .i64 a0_0, .int .i64 a0_1, .int .i64 a0_2] 23 (0, 0)) Gv.bk) : gb177 ≠ gb161))
     have n9_ := Aside0.mk ((by rw [hg]; exact Nat.ne_of_lt (blk_lt (g := gb162) (o := .cells #[.int .i64 a1_0, .int .i64 a1_1, .int .i64 a1_2] 23 (0, 0)) Gv.bk) : gb162 ≠ gb177))
     have n10_ := Aside0.mk ((by rw [hg]; exact Nat.ne_of_gt (blk_lt (g := gb162) (o := .cells #[.int .i64 a1_0, .int .i64 a1_1, .int .i64 a1_2] 23 (0, 0)) Gv.bk) : gb177 ≠ gb162))
     have n11_ := Aside0.mk ((by rw [hg]; exact Nat.ne_of_lt (blk_lt (g := gb163) (o := .cells #[.int .i64 a2_0, .int .i64 a2_1, .int .i64 a2_2] 23 (0, 0)) Gv.bk) : gb163 ≠ gb177))
     have n12_ := Aside0.mk ((by rw [hg]; exact Nat.ne_of_gt (blk_lt (g := gb163) (o := .cells #[.int .i64 a2_0, .int .i64 a2_1, .int .i64 a2_2] 23 (0, 0)) Gv.bk) : gb177 ≠ gb163))
     clear BK161
     clear BK162
     clear BK163
     clear HB
     have BK161 := n0_
     have BK162 := n1_
     have BK163 := n2_
     have HB := n3_
     have BK177 := n4_
     have GW177 := n5_
     have GE177 := n6_
     have NB161_177 := n7_
     have NB177_161 := n8_
     have NB162_177 := n9_
     have NB177_162 := n10_
     have NB163_177 := n11_
     have NB177_163 := n12_
     clear n0_ n1_ n2_ n3_ n4_ n5_ n6_ n7_ n8_ n9_ n10_ n11_ n12_
     clear hb hbox hg
     refine hK.out _ _ ⟨(blk_cell BK161.out 0).trans rfl, (blk_cell BK161.out 1).trans rfl, (blk_cell BK161.out 2).trans rfl, (blk_cell BK162.out 0).trans rfl, (blk_cell BK162.out 1).trans rfl, (blk_cell BK162.out 2).trans rfl, (blk_cell BK163.out 0).trans rfl, (blk_cell BK163.out 1).trans rfl, (blk_cell BK163.out 2).trans rfl⟩ (fun hHeld => ?_)
     clear hK K
     refine norm_ (a' := ?_) ?_ ?_
     rotate_left
     ·show Act.put _ (some 7) _ = _
      simp only [Act.put, List.setIfInBounds_toArray, List.set_cons_zero, List.set_cons_succ, i64_w, i32_w]
      rfl
     exact Gv.nm (hJ1_3_5_6_10 (gb177) _ ⟨hHeld, Gv.bk, Gv.bk, Gv.bk, Gv.bk, GW177.out, GE177.out, NB161_177.out, NB177_161.out, NB162_177.out, NB177_162.out, NB163_177.out, NB177_163.out, Gv.bw⟩)
   rintro gb177 w24 ⟨hS_, h0_, h1_, h2_, h3_, h4_, h5_, h6_, h7_, h8_, h9_, h10_, h11_, h12_⟩
   have n0_ : Aside0 (w24.heap[gb161]? = some (.cells #[.int .i64 a0_0, .int .i64 a0_1, .int .i64 a0_2] 23 (0, 0))) := ⟨h0_⟩
   have n1_ : Aside0 (w24.heap[gb162]? = some (.cells #[.int .i64 a1_0, .int .i64 a1_1, .int .i64 a1_2] 23 (0, 0))) := ⟨h1_⟩
   have n2_ : Aside0 (w24.heap[gb163]? = some (.cells #[.int .i64 a2_0, .int .i64 a2_1, .int .i64 a2_2] 23 (0, 0))) := ⟨h2_⟩
   have n3_ : Aside0 (w24.heap[gb177]? = some (.cells #[.int .i64 0, .int .i64 0, .int .i64 0] 26 (0, 0))) := ⟨h3_⟩
   have n4_ : Aside0 (w.heap.size ≤ gb177) := ⟨h4_⟩
   have n5_ : Aside0 (w.heap.size ≤ gb177) := ⟨h5_⟩
   have n6_ : Aside0 (gb161 ≠ gb177) := ⟨h6_⟩
   have n7_ : Aside0 (gb177 ≠ gb161) := ⟨h7_⟩
   have n8_ : Aside0 (gb162 ≠ gb177) := ⟨h8_⟩
   have n9_ : Aside0 (gb177 ≠ gb162) := ⟨h9_⟩
   have n10_ : Aside0 (gb163 ≠ gb177) := ⟨h10_⟩
   have n11_ : Aside0 (gb177 ≠ gb163) := ⟨h11_⟩
   have n12_ : Aside0 (Below w.heap.size w w24) := ⟨h12_⟩
   clear BK161
   clear BK162
   clear BK163
   clear HB
   clear h0_ h1_ h2_ h3_ h4_ h5_ h6_ h7_ h8_ h9_ h10_ h11_ h12_
   have BK161 := n0_
   have BK162 := n1_
   have BK163 := n2_
   have BK177 := n3_
   have GW177 := n4_
   have GE177 := n5_
   have NB161_177 := n6_
   have NB177_161 := n7_
   have NB162_177 := n8_
   have NB177_162 := n9_
   have NB163_177 := n10_
   have NB177_163 := n11_
   have HB := n12_
   clear n0_ n1_ n2_ n3_ n4_ n5_ n6_ n7_ n8_ n9_ n10_ n11_ n12_
   have hHeld : w24.cell? ⟨gb161, 0, none⟩ = some (.int .i64 a0_0) ∧ w24.cell? ⟨gb161, 1, none⟩ = some (.int .i64 a0_1) ∧ w24.cell? ⟨gb161, 2, none⟩ = some (.int .i64 a0_2) ∧ w24.cell? ⟨gb162, 0, none⟩ = some (.int .i64 a1_0) ∧ w24.cell? ⟨gb162, 1, none⟩ = some (.int .i64 a1_1) ∧ w24.cell? ⟨gb162, 2, none⟩ = some (.int .i64 a1_2) ∧ w24.cell? ⟨gb163, 0, none⟩ = some (.int .i64 a2_0) ∧ w24.cell? ⟨gb163, 1, none⟩ = some (.int .i64 a2_1) ∧ w24.cell? ⟨gb163, 2, none⟩ = some (.int .i64 a2_2) := hS_
   refine norm_ (a' := ?_) ?_ ?_
   rotate_left
   ·simp only [putAll, Act.put, List.setIfInBounds_toArray, List.set_cons_zero, List.set_cons_succ]
    rfl
   refine one_ (i := 11) (N := none) #[true, true, true, true, true, true, true, true, true, true, true, true, false] rfl rfl (one_of HT_.out (by kernel_rfl)) (by decide) (fun K hK => ?_)
   have hs25 : w24.cell? ⟨gb177, 0, none⟩ = some (.int .i64 0) := (blk_cell BK177.out 0).trans rfl
   have hfs25 := blk_frozen BK177.out 0
   have hns25_0 := NB161_177.out
   have hns25_1 := NB162_177.out
   have hns25_2 := NB163_177.out
   have hms25_0 := NB177_161.out
   have hms25_1 := NB177_162.out
   have hms25_2 := NB177_163.out
   have hs26 : w24.cell? ⟨gb177, 1, none⟩ = some (.int .i64 0) := (blk_cell BK177.out 1).trans rfl
   have hfs26 := blk_frozen BK177.out 1
   have hns26_0 := NB161_177.out
   have hns26_1 := NB162_177.out
   have hns26_2 := NB163_177.out
   have hms26_0 := NB177_161.out
   have hms26_1 := NB177_162.out
   have hms26_2 := NB177_163.out
   have hs27 : w24.cell? ⟨gb177, 2, none⟩ = some (.int .i64 0) := (blk_cell BK177.out 2).trans rfl
   have hfs27 := blk_frozen BK177.out 2
   have hns27_0 := NB161_177.out
   have hns27_1 := NB162_177.out
   have hns27_2 := NB163_177.out
   have hms27_0 := NB177_161.out
   have hms27_1 := NB177_162.out
   have hms27_2 := NB177_163.out
   refine skip_ (w1 := ?_) (by rfl) rfl ?_ ?_
   rotate_left
   ·go_simp
    rfl
   refine hK.out _ _ ⟨((cell_far (p := ⟨gb177, _, none⟩) NB161_177.out _).trans (((cell_far (p := ⟨gb177, _, none⟩) NB161_177.out _).trans (((cell_far (p := ⟨gb177, _, none⟩) NB161_177.out _).trans (hHeld.1)))))), ((cell_far (p := ⟨gb177, _, none⟩) NB161_177.out _).trans (((cell_far (p := ⟨gb177, _, none⟩) NB161_177.out _).trans (((cell_far (p := ⟨gb177, _, none⟩) NB161_177.out _).trans (hHeld.2.1)))))), ((cell_far (p := ⟨gb177, _, none⟩) NB161_177.out _).trans (((cell_far (p := ⟨gb177, _, none⟩) NB161_177.out _).trans (((cell_far (p := ⟨gb177, _, none⟩) NB161_177.out _).trans (hHeld.2.2.1)))))), ((cell_far (p := ⟨gb177, _, none⟩) NB162_177.out _).trans (((cell_far (p := ⟨gb177, _, none⟩) NB162_177.out _).trans (((cell_far (p := ⟨gb177, _, none⟩) NB162_177.out _).trans (hHeld.2.2.2.1)))))), ((cell_far (p := ⟨gb177, _, none⟩) NB162_177.out _).trans (((cell_far (p := ⟨gb177, _, none⟩) NB162_177.out _).trans (((cell_far (p := ⟨gb177, _, none⟩) NB162_177.out _).trans (hHeld.2.2.2.2.1)))))), ((cell_far (p := ⟨gb177, _, none⟩) NB162_177.out _).trans (((cell_far (p := ⟨gb177, _, none⟩) NB162_177.out _).trans (((cell_far (p := ⟨gb177, _, none⟩) NB162_177.out _).trans (hHeld.2.2.2.2.2.1)))))), ((cell_far (p := ⟨gb177, _, none⟩) NB163_177.out _).trans (((cell_far (p := ⟨gb177, _, none⟩) NB163_177.out _).trans (((cell_far (p := ⟨gb177, _, none⟩) NB163_177.out _).trans (hHeld.2.2.2.2.2.2.1)))))), ((cell_far (p := ⟨gb177, _, none⟩) NB163_177.out _).trans (((cell_far (p := ⟨gb177, _, none⟩) NB163_177.out _).trans (((cell_far (p := ⟨gb177, _, none⟩) NB163_177.out _).trans (hHeld.2.2.2.2.2.2.2.1)))))), ((cell_far (p := ⟨gb177, _, none⟩) NB163_177.out _).trans (((cell_far (p := ⟨gb177, _, none⟩) NB163_177.out _).trans (((cell_far (p := ⟨gb177, _, none⟩) NB163_177.out _).trans (hHeld.2.2.2.2.2.2.2.2))))))⟩ (fun hHeld => ?_)
   clear hK K
   refine pure_ (i := 12) (N := some 8) (v := ?_) (a' := ?_) #[true, true, true, true, true, true, true, true, true, true, true, true, true] rfl rfl (any_of HT_.out (by kernel_rfl)) (fun _ _ _ h => h) (Or.inl ⟨by rfl, ?_⟩) ?_ ?_
   rotate_left
   ·intro w'
    go_simp
    with_reducible rfl
   rotate_left
   ·simp only [Act.put, List.setIfInBounds_toArray, List.set_cons_zero, List.set_cons_succ, i64_w, i32_w]
    rfl
   refine done_ (done_of HT_.out (by kernel_rfl)) ?_
   try go_wp2
   have n0_ : Aside0 ((((w24.setCell ⟨gb177, 0, none⟩ (.int .i64 t173)).setCell ⟨gb177, 1, none⟩ (.int .i64 t174)).setCell ⟨gb177, 2, none⟩ (.int .i64 t175)).heap[gb161]? = some (.cells #[.int .i64 a0_0, .int .i64 a0_1, .int .i64 a0_2] 23 (0, 0))) := ⟨by (with_reducible repeat (first | refine blk_drewN ?_ _ | refine blk_drew ?_ | refine blk_alloc ?_ _)); refine blk_far ?_ NB161_177.out _; (with_reducible repeat (first | refine blk_drewN ?_ _ | refine blk_drew ?_ | refine blk_alloc ?_ _)); refine blk_far ?_ NB161_177.out _; (with_reducible repeat (first | refine blk_drewN ?_ _ | refine blk_drew ?_ | refine blk_alloc ?_ _)); refine blk_far ?_ NB161_177.out _; (with_reducible repeat (first | refine blk_drewN ?_ _ | refine blk_drew ?_ | refine blk_alloc ?_ _)); exact BK161.out⟩
   have n1_ : Aside0 ((((w24.setCell ⟨gb177, 0, none⟩ (.int .i64 t173)).setCell ⟨gb177, 1, none⟩ (.int .i64 t174)).setCell ⟨gb177, 2, none⟩ (.int .i64 t175)).heap[gb162]? = some (.cells #[.int .i64 a1_0, .int .i64 a1_1, .int .i64 a1_2] 23 (0, 0))) := ⟨by (with_reducible repeat (first | refine blk_drewN ?_ _ | refine blk_drew ?_ | refine blk_alloc ?_ _)); refine blk_far ?_ NB162_177.out _; (with_reducible repeat (first | refine blk_drewN ?_ _ | refine blk_drew ?_ | refine blk_alloc ?_ _)); refine blk_far ?_ NB162_177.out _; (with_reducible repeat (first | refine blk_drewN ?_ _ | refine blk_drew ?_ | refine blk_alloc ?_ _)); refine blk_far ?_ NB162_177.out _; (with_reducible repeat (first | refine blk_drewN ?_ _ | refine blk_drew ?_ | refine blk_alloc ?_ _)); exact BK162.out⟩
   have n2_ : Aside0 ((((w24.setCell ⟨gb177, 0, none⟩ (.int .i64 t173)).setCell ⟨gb177, 1, none⟩ (.int .i64 t174)).setCell ⟨gb177, 2, none⟩ (.int .i64 t175)).heap[gb163]? = some (.cells #[.int .i64 a2_0, .int .i64 a2_1, .int .i64 a2_2] 23 (0, 0))) := ⟨by (with_reducible repeat (first | refine blk_drewN ?_ _ | refine blk_drew ?_ | refine blk_alloc ?_ _)); refine blk_far ?_ NB163_177.out _; (with_reducible repeat (first | refine blk_drewN ?_ _ | refine blk_drew ?_ | refine blk_alloc ?_ _)); refine blk_far ?_ NB163_177.out _; (with_reducible repeat (first | refine blk_drewN ?_ _ | refine blk_drew ?_ | refine blk_alloc ?_ _)); refine blk_far ?_ NB163_177.out _; (with_reducible repeat (first | refine blk_drewN ?_ _ | refine blk_drew ?_ | refine blk_alloc ?_ _)); exact BK163.out⟩
   have n3_ : Aside0 ((((w24.setCell ⟨gb177, 0, none⟩ (.int .i64 t173)).setCell ⟨gb177, 1, none⟩ (.int .i64 t174)).setCell ⟨gb177, 2, none⟩ (.int .i64 t175)).heap[gb177]? = some (.cells #[.int .i64 t173, .int .i64 t174, .int .i64 t175] 26 (0, 0))) := ⟨by (with_reducible repeat (first | refine blk_drewN ?_ _ | refine blk_drew ?_ | refine blk_alloc ?_ _)); refine blk_put (cs := #[.int .i64 t173, .int .i64 t174, .int .i64 0]) ?_ 2 _ rfl; (with_reducible repeat (first | refine blk_drewN ?_ _ | refine blk_drew ?_ | refine blk_alloc ?_ _)); refine blk_put (cs := #[.int .i64 t173, .int .i64 0, .int .i64 0]) ?_ 1 _ rfl; (with_reducible repeat (first | refine blk_drewN ?_ _ | refine blk_drew ?_ | refine blk_alloc ?_ _)); refine blk_put (cs := #[.int .i64 0, .int .i64 0, .int .i64 0]) ?_ 0 _ rfl; (with_reducible repeat (first | refine blk_drewN ?_ _ | refine blk_drew ?_ | refine blk_alloc ?_ _)); exact BK177.out⟩
   have n4_ : Aside0 (Below w.heap.size w (((w24.setCell ⟨gb177, 0, none⟩ (.int .i64 t173)).setCell ⟨gb177, 1, none⟩ (.int .i64 t174)).setCell ⟨gb177, 2, none⟩ (.int .i64 t175))) := ⟨by repeat (first | (with_reducible first | exact HB.out | apply below_alloc | apply pw_below_drewN | apply below_drew1 | refine below_set ?_ GE161.out | refine below_set ?_ GE162.out | refine below_set ?_ GE163.out | refine below_set ?_ GE177.out) | exact HB.out)⟩
   (try clear BK161)
   (try clear BK162)
   (try clear BK163)
   (try clear BK177)
   (try clear HB)
   generalize (((w24.setCell ⟨gb177, 0, none⟩ (.int .i64 t173)).setCell ⟨gb177, 1, none⟩ (.int .i64 t174)).setCell ⟨gb177, 2, none⟩ (.int .i64 t175)) = w28 at n0_ n1_ n2_ n3_ n4_ ⊢
   have BK161 := n0_
   have BK162 := n1_
   have BK163 := n2_
   have BK177 := n3_
   have HB := n4_
   clear n0_ n1_ n2_ n3_ n4_
   have n0_ := Aside0.mk (blk_drew BK161.out)
   have n1_ := Aside0.mk (blk_drew BK162.out)
   have n2_ := Aside0.mk (blk_drew BK163.out)
   have n3_ := Aside0.mk (blk_drew BK177.out)
   have n4_ := Aside0.mk (below_drew1 HB.out)
   clear BK161
   clear BK162
   clear BK163
   clear BK177
   clear HB
   have BK161 := n0_
   have BK162 := n1_
   have BK163 := n2_
   have BK177 := n3_
   have HB := n4_
   clear n0_ n1_ n2_ n3_ n4_
   refine start_ (n := 13) (S := fun w' => w'.cell? ⟨gb161, 0, none⟩ = some (.int .i64 a0_0) ∧ w'.cell? ⟨gb161, 1, none⟩ = some (.int .i64 a0_1) ∧ w'.cell? ⟨gb161, 2, none⟩ = some (.int .i64 a0_2) ∧ w'.cell? ⟨gb162, 0, none⟩ = some (.int .i64 a1_0) ∧ w'.cell? ⟨gb162, 1, none⟩ = some (.int .i64 a1_1) ∧ w'.cell? ⟨gb162, 2, none⟩ = some (.int .i64 a1_2) ∧ w'.cell? ⟨gb163, 0, none⟩ = some (.int .i64 a2_0) ∧ w'.cell? ⟨gb163, 1, none⟩ = some (.int .i64 a2_1) ∧ w'.cell? ⟨gb163, 2, none⟩ = some (.int .i64 a2_2)) (ds := []) #[false, false, false, false, false, false, false, false, false, false, false, false, false] (by kernel_rfl) rfl rfl ⟨(blk_cell BK161.out 0).trans rfl, (blk_cell BK161.out 1).trans rfl, (blk_cell BK161.out 2).trans rfl, (blk_cell BK162.out 0).trans rfl, (blk_cell BK162.out 1).trans rfl, (blk_cell BK162.out 2).trans rfl, (blk_cell BK163.out 0).trans rfl, (blk_cell BK163.out 1).trans rfl, (blk_cell BK163.out 2).trans rfl⟩ (fun hHeld => ?_); refine with_tabW laws_FnExactSettle.tab2 laws_FnExactSettle.bits2 (fun HT_ HW_ => ?_)
   generalize w28.drew = w29 at BK161 BK162 BK163 BK177 HB hHeld ⊢
   refine take_ (i := 0) (N := some 22) (v := ?_) (a' := ?_) #[true, false, false, false, false, false, false, false, false, false, false, false, false] rfl rfl (take_ofW HT_.out HW_.out (by kernel_rfl)) (fun _ _ _ h => h) (Or.inl ⟨by rfl, ?_⟩) hHeld ?_ ?_
   rotate_left
   ·rintro w' ⟨s0, s1, s2, s3, s4, s5, s6, s7, s8⟩
    go_simp
    with_reducible rfl
   rotate_left
   ·simp only [Act.put, List.setIfInBounds_toArray, List.set_cons_zero, List.set_cons_succ, i64_w, i32_w]
    rfl
   refine take_ (i := 2) (N := some 24) (v := ?_) (a' := ?_) #[true, false, true, false, false, false, false, false, false, false, false, false, false] rfl rfl (take_ofW HT_.out HW_.out (by kernel_rfl)) (fun _ _ _ h => h) (Or.inl ⟨by rfl, ?_⟩) hHeld ?_ ?_
   rotate_left
   ·rintro w' ⟨s0, s1, s2, s3, s4, s5, s6, s7, s8⟩
    go_simp
    with_reducible rfl
   rotate_left
   ·simp only [Act.put, List.setIfInBounds_toArray, List.set_cons_zero, List.set_cons_succ, i64_w, i32_w]
    rfl
   refine take_ (i := 4) (N := some 26) (v := ?_) (a' := ?_) #[true, false, true, false, true, false, false, false, false, false, false, false, false] rfl rfl (take_ofW HT_.out HW_.out (by kernel_rfl)) (fun _ _ _ h => h) (Or.inl ⟨by rfl, ?_⟩) hHeld ?_ ?_
   rotate_left
   ·rintro w' ⟨s0, s1, s2, s3, s4, s5, s6, s7, s8⟩
    go_simp
    with_reducible rfl
   rotate_left
   ·simp only [Act.put, List.setIfInBounds_toArray, List.set_cons_zero, List.set_cons_succ, i64_w, i32_w]
    rfl
   refine join_ (σ := Nat) 2 #[true, true, true, true, true, true, true, true, true, true, true, false, false] (fun s_ => [(23, .agg #[.int .i64 t178, .int .i64 t179, .int .i64 t180]), (25, .agg #[.int .i64 t181, .int .i64 t182, .int .i64 t183]), (27, .agg #[.int .i64 t184, .int .i64 t185, .int .i64 t186]), (28, .tuple #[.agg #[.int .i64 t187, .int .i64 t188, .int .i64 t189], .bool t190]), (9, .pointer (some ⟨s_, 0, none⟩)), (21, .tuple #[.agg #[.int .i64 t187, .int .i64 t188, .int .i64 t189], .bool t190]), (29, .agg #[.int .i64 t187, .int .i64 t188, .int .i64 t189]), (30, .bool t190)]) (fun s_ w' => (w'.cell? ⟨gb161, 0, none⟩ = some (.int .i64 a0_0) ∧ w'.cell? ⟨gb161, 1, none⟩ = some (.int .i64 a0_1) ∧ w'.cell? ⟨gb161, 2, none⟩ = some (.int .i64 a0_2) ∧ w'.cell? ⟨gb162, 0, none⟩ = some (.int .i64 a1_0) ∧ w'.cell? ⟨gb162, 1, none⟩ = some (.int .i64 a1_1) ∧ w'.cell? ⟨gb162, 2, none⟩ = some (.int .i64 a1_2) ∧ w'.cell? ⟨gb163, 0, none⟩ = some (.int .i64 a2_0) ∧ w'.cell? ⟨gb163, 1, none⟩ = some (.int .i64 a2_1) ∧ w'.cell? ⟨gb163, 2, none⟩ = some (.int .i64 a2_2)) ∧ (w'.heap[gb161]? = some (.cells #[.int .i64 a0_0, .int .i64 a0_1, .int .i64 a0_2] 23 (0, 0))) ∧ (w'.heap[gb162]? = some (.cells #[.int .i64 a1_0, .int .i64 a1_1, .int .i64 a1_2] 23 (0, 0))) ∧ (w'.heap[gb163]? = some (.cells #[.int .i64 a2_0, .int .i64 a2_1, .int .i64 a2_2] 23 (0, 0))) ∧ (w'.heap[gb177]? = some (.cells #[.int .i64 t173, .int .i64 t174, .int .i64 t175] 26 (0, 0))) ∧ (w'.heap[s_]? = some (.cells #[.int .i64 0, .int .i64 0, .int .i64 0] 26 (0, 0))) ∧ (w.heap.size ≤ s_) ∧ (w.heap.size ≤ s_) ∧ (gb161 ≠ s_) ∧ (s_ ≠ gb161) ∧ (gb162 ≠ s_) ∧ (s_ ≠ gb162) ∧ (gb163 ≠ s_) ∧ (s_ ≠ gb163) ∧ (gb177 ≠ s_) ∧ (s_ ≠ gb177) ∧ (Below w.heap.size w w')) ?_ ?_
   rotate_left
   ·intro hJ1_3_5_6_10
    refine join_ (σ := Unit) 3 #[true, true, true, true, true, true, true, true, true, true, false, false, false] (fun s_ => [(23, .agg #[.int .i64 t178, .int .i64 t179, .int .i64 t180]), (25, .agg #[.int .i64 t181, .int .i64 t182, .int .i64 t183]), (27, .agg #[.int .i64 t184, .int .i64 t185, .int .i64 t186]), (28, .tuple #[.agg #[.int .i64 t187, .int .i64 t188, .int .i64 t189], .bool t190]), (21, .tuple #[.agg #[.int .i64 t187, .int .i64 t188, .int .i64 t189], .bool t190]), (29, .agg #[.int .i64 t187, .int .i64 t188, .int .i64 t189]), (30, .bool t190)]) (fun s_ w' => (w'.cell? ⟨gb161, 0, none⟩ = some (.int .i64 a0_0) ∧ w'.cell? ⟨gb161, 1, none⟩ = some (.int .i64 a0_1) ∧ w'.cell? ⟨gb161, 2, none⟩ = some (.int .i64 a0_2) ∧ w'.cell? ⟨gb162, 0, none⟩ = some (.int .i64 a1_0) ∧ w'.cell? ⟨gb162, 1, none⟩ = some (.int .i64 a1_1) ∧ w'.cell? ⟨gb162, 2, none⟩ = some (.int .i64 a1_2) ∧ w'.cell? ⟨gb163, 0, none⟩ = some (.int .i64 a2_0) ∧ w'.cell? ⟨gb163, 1, none⟩ = some (.int .i64 a2_1) ∧ w'.cell? ⟨gb163, 2, none⟩ = some (.int .i64 a2_2)) ∧ (w'.heap[gb161]? = some (.cells #[.int .i64 a0_0, .int .i64 a0_1, .int .i64 a0_2] 23 (0, 0))) ∧ (w'.heap[gb162]? = some (.cells #[.int .i64 a1_0, .int .i64 a1_1, .int .i64 a1_2] 23 (0, 0))) ∧ (w'.heap[gb163]? = some (.cells #[.int .i64 a2_0, .int .i64 a2_1, .int .i64 a2_2] 23 (0, 0))) ∧ (w'.heap[gb177]? = some (.cells #[.int .i64 t173, .int .i64 t174, .int .i64 t175] 26 (0, 0))) ∧ (Below w.heap.size w w')) ?_ ?_
    rotate_left
    ·intro hJ1_3_5_6
     refine join_ (σ := Nat) 6 #[true, true, true, true, true, true, false, false, false, false, true, false, false] (fun s_ => [(23, .agg #[.int .i64 t178, .int .i64 t179, .int .i64 t180]), (25, .agg #[.int .i64 t181, .int .i64 t182, .int .i64 t183]), (27, .agg #[.int .i64 t184, .int .i64 t185, .int .i64 t186]), (9, .pointer (some ⟨s_, 0, none⟩))]) (fun s_ w' => (w'.cell? ⟨gb161, 0, none⟩ = some (.int .i64 a0_0) ∧ w'.cell? ⟨gb161, 1, none⟩ = some (.int .i64 a0_1) ∧ w'.cell? ⟨gb161, 2, none⟩ = some (.int .i64 a0_2) ∧ w'.cell? ⟨gb162, 0, none⟩ = some (.int .i64 a1_0) ∧ w'.cell? ⟨gb162, 1, none⟩ = some (.int .i64 a1_1) ∧ w'.cell? ⟨gb162, 2, none⟩ = some (.int .i64 a1_2) ∧ w'.cell? ⟨gb163, 0, none⟩ = some (.int .i64 a2_0) ∧ w'.cell? ⟨gb163, 1, none⟩ = some (.int .i64 a2_1) ∧ w'.cell? ⟨gb163, 2, none⟩ = some (.int .i64 a2_2)) ∧ (w'.heap[gb161]? = some (.cells #[.int .i64 a0_0, .int .i64 a0_1, .int .i64 a0_2] 23 (0, 0))) ∧ (w'.heap[gb162]? = some (.cells #[.int .i64 a1_0, .int .i64 a1_1, .int .i64 a1_2] 23 (0, 0))) ∧ (w'.heap[gb163]? = some (.cells #[.int .i64 a2_0, .int .i64 a2_1, .int .i64 a2_2] 23 (0, 0))) ∧ (w'.heap[gb177]? = some (.cells #[.int .i64 t173, .int .i64 t174, .int .i64 t175] 26 (0, 0))) ∧ (w'.heap[s_]? = some (.cells #[.int .i64 0, .int .i64 0, .int .i64 0] 26 (0, 0))) ∧ (w.heap.size ≤ s_) ∧ (w.heap.size ≤ s_) ∧ (gb161 ≠ s_) ∧ (s_ ≠ gb161) ∧ (gb162 ≠ s_) ∧ (s_ ≠ gb162) ∧ (gb163 ≠ s_) ∧ (s_ ≠ gb163) ∧ (gb177 ≠ s_) ∧ (s_ ≠ gb177) ∧ (Below w.heap.size w w')) ?_ ?_
     rotate_left
     ·intro hJ1_3_5_10
      refine join_ (σ := Unit) 7 #[true, true, true, true, true, true, false, false, false, false, false, false, false] (fun s_ => [(23, .agg #[.int .i64 t178, .int .i64 t179, .int .i64 t180]), (25, .agg #[.int .i64 t181, .int .i64 t182, .int .i64 t183]), (27, .agg #[.int .i64 t184, .int .i64 t185, .int .i64 t186])]) (fun s_ w' => (w'.cell? ⟨gb161, 0, none⟩ = some (.int .i64 a0_0) ∧ w'.cell? ⟨gb161, 1, none⟩ = some (.int .i64 a0_1) ∧ w'.cell? ⟨gb161, 2, none⟩ = some (.int .i64 a0_2) ∧ w'.cell? ⟨gb162, 0, none⟩ = some (.int .i64 a1_0) ∧ w'.cell? ⟨gb162, 1, none⟩ = some (.int .i64 a1_1) ∧ w'.cell? ⟨gb162, 2, none⟩ = some (.int .i64 a1_2) ∧ w'.cell? ⟨gb163, 0, none⟩ = some (.int .i64 a2_0) ∧ w'.cell? ⟨gb163, 1, none⟩ = some (.int .i64 a2_1) ∧ w'.cell? ⟨gb163, 2, none⟩ = some (.int .i64 a2_2)) ∧ (w'.heap[gb161]? = some (.cells #[.int .i64 a0_0, .int .i64 a0_1, .int .i64 a0_2] 23 (0, 0))) ∧ (w'.heap[gb162]? = some (.cells #[.int .i64 a1_0, .int .i64 a1_1, .int .i64 a1_2] 23 (0, 0))) ∧ (w'.heap[gb163]? = some (.cells #[.int .i64 a2_0, .int .i64 a2_1, .int .i64 a2_2] 23 (0, 0))) ∧ (w'.heap[gb177]? = some (.cells #[.int .i64 t173, .int .i64 t174, .int .i64 t175] 26 (0, 0))) ∧ (Below w.heap.size w w')) ?_ ?_
      rotate_left
      ·intro hJ1_3_5
       refine join_ (σ := Nat) 7 #[true, true, true, true, true, false, false, false, false, false, true, false, false] (fun s_ => [(23, .agg #[.int .i64 t178, .int .i64 t179, .int .i64 t180]), (25, .agg #[.int .i64 t181, .int .i64 t182, .int .i64 t183]), (9, .pointer (some ⟨s_, 0, none⟩))]) (fun s_ w' => (w'.cell? ⟨gb161, 0, none⟩ = some (.int .i64 a0_0) ∧ w'.cell? ⟨gb161, 1, none⟩ = some (.int .i64 a0_1) ∧ w'.cell? ⟨gb161, 2, none⟩ = some (.int .i64 a0_2) ∧ w'.cell? ⟨gb162, 0, none⟩ = some (.int .i64 a1_0) ∧ w'.cell? ⟨gb162, 1, none⟩ = some (.int .i64 a1_1) ∧ w'.cell? ⟨gb162, 2, none⟩ = some (.int .i64 a1_2) ∧ w'.cell? ⟨gb163, 0, none⟩ = some (.int .i64 a2_0) ∧ w'.cell? ⟨gb163, 1, none⟩ = some (.int .i64 a2_1) ∧ w'.cell? ⟨gb163, 2, none⟩ = some (.int .i64 a2_2)) ∧ (w'.heap[gb161]? = some (.cells #[.int .i64 a0_0, .int .i64 a0_1, .int .i64 a0_2] 23 (0, 0))) ∧ (w'.heap[gb162]? = some (.cells #[.int .i64 a1_0, .int .i64 a1_1, .int .i64 a1_2] 23 (0, 0))) ∧ (w'.heap[gb163]? = some (.cells #[.int .i64 a2_0, .int .i64 a2_1, .int .i64 a2_2] 23 (0, 0))) ∧ (w'.heap[gb177]? = some (.cells #[.int .i64 t173, .int .i64 t174, .int .i64 t175] 26 (0, 0))) ∧ (w'.heap[s_]? = some (.cells #[.int .i64 0, .int .i64 0, .int .i64 0] 26 (0, 0))) ∧ (w.heap.size ≤ s_) ∧ (w.heap.size ≤ s_) ∧ (gb161 ≠ s_) ∧ (s_ ≠ gb161) ∧ (gb162 ≠ s_) ∧ (s_ ≠ gb162) ∧ (gb163 ≠ s_) ∧ (s_ ≠ gb163) ∧ (gb177 ≠ s_) ∧ (s_ ≠ gb177) ∧ (Below w.heap.size w w')) ?_ ?_
       rotate_left
       ·intro hJ1_3_10
        refine join_ (σ := Unit) 8 #[true, true, true, true, true, false, false, false, false, false, false, false, false] (fun s_ => [(23, .agg #[.int .i64 t178, .int .i64 t179, .int .i64 t180]), (25, .agg #[.int .i64 t181, .int .i64 t182, .int .i64 t183])]) (fun s_ w' => (w'.cell? ⟨gb161, 0, none⟩ = some (.int .i64 a0_0) ∧ w'.cell? ⟨gb161, 1, none⟩ = some (.int .i64 a0_1) ∧ w'.cell? ⟨gb161, 2, none⟩ = some (.int .i64 a0_2) ∧ w'.cell? ⟨gb162, 0, none⟩ = some (.int .i64 a1_0) ∧ w'.cell? ⟨gb162, 1, none⟩ = some (.int .i64 a1_1) ∧ w'.cell? ⟨gb162, 2, none⟩ = some (.int .i64 a1_2) ∧ w'.cell? ⟨gb163, 0, none⟩ = some (.int .i64 a2_0) ∧ w'.cell? ⟨gb163, 1, none⟩ = some (.int .i64 a2_1) ∧ w'.cell? ⟨gb163, 2, none⟩ = some (.int .i64 a2_2)) ∧ (w'.heap[gb161]? = some (.cells #[.int .i64 a0_0, .int .i64 a0_1, .int .i64 a0_2] 23 (0, 0))) ∧ (w'.heap[gb162]? = some (.cells #[.int .i64 a1_0, .int .i64 a1_1, .int .i64 a1_2] 23 (0, 0))) ∧ (w'.heap[gb163]? = some (.cells #[.int .i64 a2_0, .int .i64 a2_1, .int .i64 a2_2] 23 (0, 0))) ∧ (w'.heap[gb177]? = some (.cells #[.int .i64 t173, .int .i64 t174, .int .i64 t175] 26 (0, 0))) ∧ (Below w.heap.size w w')) ?_ ?_
        rotate_left
        ·intro hJ1_3
         refine join_ (σ := Nat) 8 #[true, true, true, false, true, false, false, false, false, false, true, false, false] (fun s_ => [(23, .agg #[.int .i64 t178, .int .i64 t179, .int .i64 t180]), (9, .pointer (some ⟨s_, 0, none⟩))]) (fun s_ w' => (w'.cell? ⟨gb161, 0, none⟩ = some (.int .i64 a0_0) ∧ w'.cell? ⟨gb161, 1, none⟩ = some (.int .i64 a0_1) ∧ w'.cell? ⟨gb161, 2, none⟩ = some (.int .i64 a0_2) ∧ w'.cell? ⟨gb162, 0, none⟩ = some (.int .i64 a1_0) ∧ w'.cell? ⟨gb162, 1, none⟩ = some (.int .i64 a1_1) ∧ w'.cell? ⟨gb162, 2, none⟩ = some (.int .i64 a1_2) ∧ w'.cell? ⟨gb163, 0, none⟩ = some (.int .i64 a2_0) ∧ w'.cell? ⟨gb163, 1, none⟩ = some (.int .i64 a2_1) ∧ w'.cell? ⟨gb163, 2, none⟩ = some (.int .i64 a2_2)) ∧ (w'.heap[gb161]? = some (.cells #[.int .i64 a0_0, .int .i64 a0_1, .int .i64 a0_2] 23 (0, 0))) ∧ (w'.heap[gb162]? = some (.cells #[.int .i64 a1_0, .int .i64 a1_1, .int .i64 a1_2] 23 (0, 0))) ∧ (w'.heap[gb163]? = some (.cells #[.int .i64 a2_0, .int .i64 a2_1, .int .i64 a2_2] 23 (0, 0))) ∧ (w'.heap[gb177]? = some (.cells #[.int .i64 t173, .int .i64 t174, .int .i64 t175] 26 (0, 0))) ∧ (w'.heap[s_]? = some (.cells #[.int .i64 0, .int .i64 0, .int .i64 0] 26 (0, 0))) ∧ (w.heap.size ≤ s_) ∧ (w.heap.size ≤ s_) ∧ (gb161 ≠ s_) ∧ (s_ ≠ gb161) ∧ (gb162 ≠ s_) ∧ (s_ ≠ gb162) ∧ (gb163 ≠ s_) ∧ (s_ ≠ gb163) ∧ (gb177 ≠ s_) ∧ (s_ ≠ gb177) ∧ (Below w.heap.size w w')) ?_ ?_
         rotate_left
         ·intro hJ1_10
          refine join_ (σ := Unit) 9 #[true, true, true, false, true, false, false, false, false, false, false, false, false] (fun s_ => [(23, .agg #[.int .i64 t178, .int .i64 t179, .int .i64 t180])]) (fun s_ w' => (w'.cell? ⟨gb161, 0, none⟩ = some (.int .i64 a0_0) ∧ w'.cell? ⟨gb161, 1, none⟩ = some (.int .i64 a0_1) ∧ w'.cell? ⟨gb161, 2, none⟩ = some (.int .i64 a0_2) ∧ w'.cell? ⟨gb162, 0, none⟩ = some (.int .i64 a1_0) ∧ w'.cell? ⟨gb162, 1, none⟩ = some (.int .i64 a1_1) ∧ w'.cell? ⟨gb162, 2, none⟩ = some (.int .i64 a1_2) ∧ w'.cell? ⟨gb163, 0, none⟩ = some (.int .i64 a2_0) ∧ w'.cell? ⟨gb163, 1, none⟩ = some (.int .i64 a2_1) ∧ w'.cell? ⟨gb163, 2, none⟩ = some (.int .i64 a2_2)) ∧ (w'.heap[gb161]? = some (.cells #[.int .i64 a0_0, .int .i64 a0_1, .int .i64 a0_2] 23 (0, 0))) ∧ (w'.heap[gb162]? = some (.cells #[.int .i64 a1_0, .int .i64 a1_1, .int .i64 a1_2] 23 (0, 0))) ∧ (w'.heap[gb163]? = some (.cells #[.int .i64 a2_0, .int .i64 a2_1, .int .i64 a2_2] 23 (0, 0))) ∧ (w'.heap[gb177]? = some (.cells #[.int .i64 t173, .int .i64 t174, .int .i64 t175] 26 (0, 0))) ∧ (Below w.heap.size w w')) ?_ ?_
          rotate_left
          ·intro hJ1
           refine join_ (σ := Nat) 9 #[true, false, true, false, true, false, false, false, false, false, true, false, false] (fun s_ => [(9, .pointer (some ⟨s_, 0, none⟩))]) (fun s_ w' => (w'.cell? ⟨gb161, 0, none⟩ = some (.int .i64 a0_0) ∧ w'.cell? ⟨gb161, 1, none⟩ = some (.int .i64 a0_1) ∧ w'.cell? ⟨gb161, 2, none⟩ = some (.int .i64 a0_2) ∧ w'.cell? ⟨gb162, 0, none⟩ = some (.int .i64 a1_0) ∧ w'.cell? ⟨gb162, 1, none⟩ = some (.int .i64 a1_1) ∧ w'.cell? ⟨gb162, 2, none⟩ = some (.int .i64 a1_2) ∧ w'.cell? ⟨gb163, 0, none⟩ = some (.int .i64 a2_0) ∧ w'.cell? ⟨gb163, 1, none⟩ = some (.int .i64 a2_1) ∧ w'.cell? ⟨gb163, 2, none⟩ = some (.int .i64 a2_2)) ∧ (w'.heap[gb161]? = some (.cells #[.int .i64 a0_0, .int .i64 a0_1, .int .i64 a0_2] 23 (0, 0))) ∧ (w'.heap[gb162]? = some (.cells #[.int .i64 a1_0, .int .i64 a1_1, .int .i64 a1_2] 23 (0, 0))) ∧ (w'.heap[gb163]? = some (.cells #[.int .i64 a2_0, .int .i64 a2_1, .int .i64 a2_2] 23 (0, 0))) ∧ (w'.heap[gb177]? = some (.cells #[.int .i64 t173, .int .i64 t174, .int .i64 t175] 26 (0, 0))) ∧ (w'.heap[s_]? = some (.cells #[.int .i64 0, .int .i64 0, .int .i64 0] 26 (0, 0))) ∧ (w.heap.size ≤ s_) ∧ (w.heap.size ≤ s_) ∧ (gb161 ≠ s_) ∧ (s_ ≠ gb161) ∧ (gb162 ≠ s_) ∧ (s_ ≠ gb162) ∧ (gb163 ≠ s_) ∧ (s_ ≠ gb163) ∧ (gb177 ≠ s_) ∧ (s_ ≠ gb177) ∧ (Below w.heap.size w w')) ?_ ?_
           rotate_left
           ·intro hJ10
            refine two_ (i := 1) (j := 10) (Ni := some 23) (Nj := some 9) #[true, true, true, false, true, false, false, false, false, false, false, false, false] #[true, false, true, false, true, false, false, false, false, false, true, false, false] rfl rfl rfl rfl (two_of HT_.out (by kernel_rfl)) (by decide) (by decide) (fun K hK => ?_) (fun K hK => ?_)
            ·skip
             refine goes_ Try.func16 (by kernel_rfl) rfl #[.agg #[.int .i64 a0_0, .int .i64 a0_1, .int .i64 a0_2]] (by rfl) rfl rfl (by (try simp only [List.map_toArray, List.map_cons, List.map_nil]); first | done | rfl | (simp only [List.length_drop, List.length_take]; rfl)) ?_
             with_reducible refine (laws_toVec.calls a0_0 a0_1 a0_2 t178 t179 t180 _ A8.out).mono ?_
             rintro e w30 ⟨rfl, hb⟩
             refine ⟨_, rfl, ?_⟩
             have n0_ := Aside0.mk (blk_below (g := gb161) (o := .cells #[.int .i64 a0_0, .int .i64 a0_1, .int .i64 a0_2] 23 (0, 0)) Gv.bk hb)
             have n1_ := Aside0.mk (blk_below (g := gb162) (o := .cells #[.int .i64 a1_0, .int .i64 a1_1, .int .i64 a1_2] 23 (0, 0)) Gv.bk hb)
             have n2_ := Aside0.mk (blk_below (g := gb163) (o := .cells #[.int .i64 a2_0, .int .i64 a2_1, .int .i64 a2_2] 23 (0, 0)) Gv.bk hb)
             have n3_ := Aside0.mk (blk_below (g := gb177) (o := .cells #[.int .i64 t173, .int .i64 t174, .int .i64 t175] 26 (0, 0)) Gv.bk hb)
             have n4_ := Aside0.mk (below_step Gv.bw hb)
             clear BK161
             clear BK162
             clear BK163
             clear BK177
             clear HB
             have BK161 := n0_
             have BK162 := n1_
             have BK163 := n2_
             have BK177 := n3_
             have HB := n4_
             clear n0_ n1_ n2_ n3_ n4_
             (try clear hb)
             (try clear hb2)
             (try clear hk)
             (try clear hi)
             refine hK.out _ _ ⟨(blk_cell BK161.out 0).trans rfl, (blk_cell BK161.out 1).trans rfl, (blk_cell BK161.out 2).trans rfl, (blk_cell BK162.out 0).trans rfl, (blk_cell BK162.out 1).trans rfl, (blk_cell BK162.out 2).trans rfl, (blk_cell BK163.out 0).trans rfl, (blk_cell BK163.out 1).trans rfl, (blk_cell BK163.out 2).trans rfl⟩ (fun hHeld => ?_)
             clear hK K
             refine norm_ (a' := ?_) ?_ ?_
             rotate_left
             ·show Act.put _ (some 23) _ = _
              simp only [Act.put, List.setIfInBounds_toArray, List.set_cons_zero, List.set_cons_succ, i64_w, i32_w]
              rfl
             exact Gv.nm (hJ1 () _ ⟨hHeld, Gv.bk, Gv.bk, Gv.bk, Gv.bk, Gv.bw⟩)
            ·skip
             refine box_step ?hg (N := 9) ?hd (cs := #[.int .i64 0, .int .i64 0, .int .i64 0]) (t := 26) ?hr ?_; (case hd => rfl); (case hg => rfl); (case hr => first | (go_simp; done) | (go_simp; rfl))
             intro gb191 hg w30 hbox hb
             have n0_ := Aside0.mk (blk_below (g := gb161) (o := .cells #[.int .i64 a0_0, .int .i64 a0_1, .int .i64 a0_2] 23 (0, 0)) Gv.bk hb)
             have n1_ := Aside0.mk (blk_below (g := gb162) (o := .cells #[.int .i64 a1_0, .int .i64 a1_1, .int .i64 a1_2] 23 (0, 0)) Gv.bk hb)
             have n2_ := Aside0.mk (blk_below (g := gb163) (o := .cells #[.int .i64 a2_0, .int .i64 a2_1, .int .i64 a2_2] 23 (0, 0)) Gv.bk hb)
             have n3_ := Aside0.mk (blk_below (g := gb177) (o := .cells #[.int .i64 t173, .int .i64 t174, .int .i64 t175] 26 (0, 0)) Gv.bk hb)
             have n4_ := Aside0.mk (below_step Gv.bw hb)
             have n5_ := Aside0.mk (hbox)
             have n6_ := Aside0.mk ((by rw [hg]; exact (below_size Gv.bw) : w.heap.size ≤ gb191))
             have n7_ := Aside0.mk ((by rw [hg]; exact (below_size Gv.bw) : w.heap.size ≤ gb191))
             have n8_ := Aside0.mk ((by rw [hg]; exact Nat.ne_of_lt (blk_lt (g := gb161) (o := .cells #[.int .i64 a0_0, .int .i64 a0_1, .int .i64 a0_2] 23 (0, 0)) Gv.bk) : gb161 ≠ gb191))
             have n9_ := Aside0.mk ((by rw [hg]; exact Nat.ne_of_gt (blk_lt (g := gb161) (o := .cells #[.int .i64 a0_0, .int .i64 a0_1, .int .i64 a0_2] 23 (0, 0)) Gv.bk) : gb191 ≠ gb161))
             have n10_ := Aside0.mk ((by rw [hg]; exact Nat.ne_of_lt (blk_lt (g := gb162) (o := .cells #[.int .i64 a1_0, .int .i64 a1_1, .int .i64 a1_2] 23 (0, 0)) Gv.bk) : gb162 ≠ gb191))
             have n11_ := Aside0.mk ((by rw [hg]; exact Nat.ne_of_gt (blk_lt (g := gb162) (o := .cells #[.int .i64 a1_0, .int .i64 a1_1, .int .i64 a1_2] 23 (0, 0)) Gv.bk) : gb191 ≠ gb162))
             have n12_ := Aside0.mk ((by rw [hg]; exact Nat.ne_of_lt (blk_lt (g := gb163) (o := .cells #[.int .i64 a2_0, .int .i64 a2_1, .int .i64 a2_2] 23 (0, 0)) Gv.bk) : gb163 ≠ gb191))
             have n13_ := Aside0.mk ((by rw [hg]; exact Nat.ne_of_gt (blk_lt (g := gb163) (o := .cells #[.int .i64 a2_0, .int .i64 a2_1, .int .i64 a2_2] 23 (0, 0)) Gv.bk) : gb191 ≠ gb163))
             have n14_ := Aside0.mk ((by rw [hg]; exact Nat.ne_of_lt (blk_lt (g := gb177) (o := .cells #[.int .i64 t173, .int .i64 t174, .int .i64 t175] 26 (0, 0)) Gv.bk) : gb177 ≠ gb191))
             have n15_ := Aside0.mk ((by rw [hg]; exact Nat.ne_of_gt (blk_lt (g := gb177) (o := .cells #[.int .i64 t173, .int .i64 t174, .int .i64 t175] 26 (0, 0)) Gv.bk) : gb191 ≠ gb177))
             clear BK161
             clear BK162
             clear BK163
             clear BK177
             clear HB
             have BK161 := n0_
             have BK162 := n1_
             have BK163 := n2_
             have BK177 := n3_
             have HB := n4_
             have BK191 := n5_
             have GW191 := n6_
             have GE191 := n7_
             have NB161_191 := n8_
             have NB191_161 := n9_
             have NB162_191 := n10_
             have NB191_162 := n11_
             have NB163_191 := n12_
             have NB191_163 := n13_
             have NB177_191 := n14_
             have NB191_177 := n15_
             clear n0_ n1_ n2_ n3_ n4_ n5_ n6_ n7_ n8_ n9_ n10_ n11_ n12_ n13_ n14_ n15_
             clear hb hbox hg
             refine hK.out _ _ ⟨(blk_cell BK161.out 0).trans rfl, (blk_cell BK161.out 1).trans rfl, (blk_cell BK161.out 2).trans rfl, (blk_cell BK162.out 0).trans rfl, (blk_cell BK162.out 1).trans rfl, (blk_cell BK162.out 2).trans rfl, (blk_cell BK163.out 0).trans rfl, (blk_cell BK163.out 1).trans rfl, (blk_cell BK163.out 2).trans rfl⟩ (fun hHeld => ?_)
             clear hK K
             refine norm_ (a' := ?_) ?_ ?_
             rotate_left
             ·show Act.put _ (some 9) _ = _
              simp only [Act.put, List.setIfInBounds_toArray, List.set_cons_zero, List.set_cons_succ, i64_w, i32_w]
              rfl
             exact Gv.nm (hJ10 (gb191) _ ⟨hHeld, Gv.bk, Gv.bk, Gv.bk, Gv.bk, Gv.bk, GW191.out, GE191.out, NB161_191.out, NB191_161.out, NB162_191.out, NB191_162.out, NB163_191.out, NB191_163.out, NB177_191.out, NB191_177.out, Gv.bw⟩)
           ·skip
            rintro gb191 w31 ⟨hS_, h0_, h1_, h2_, h3_, h4_, h5_, h6_, h7_, h8_, h9_, h10_, h11_, h12_, h13_, h14_, h15_⟩
            have n0_ : Aside0 (w31.heap[gb161]? = some (.cells #[.int .i64 a0_0, .int .i64 a0_1, .int .i64 a0_2] 23 (0, 0))) := ⟨h0_⟩
            have n1_ : Aside0 (w31.heap[gb162]? = some (.cells #[.int .i64 a1_0, .int .i64 a1_1, .int .i64 a1_2] 23 (0, 0))) := ⟨h1_⟩
            have n2_ : Aside0 (w31.heap[gb163]? = some (.cells #[.int .i64 a2_0, .int .i64 a2_1, .int .i64 a2_2] 23 (0, 0))) := ⟨h2_⟩
            have n3_ : Aside0 (w31.heap[gb177]? = some (.cells #[.int .i64 t173, .int .i64 t174, .int .i64 t175] 26 (0, 0))) := ⟨h3_⟩
            have n4_ : Aside0 (w31.heap[gb191]? = some (.cells #[.int .i64 0, .int .i64 0, .int .i64 0] 26 (0, 0))) := ⟨h4_⟩
            have n5_ : Aside0 (w.heap.size ≤ gb191) := ⟨h5_⟩
            have n6_ : Aside0 (w.heap.size ≤ gb191) := ⟨h6_⟩
            have n7_ : Aside0 (gb161 ≠ gb191) := ⟨h7_⟩
            have n8_ : Aside0 (gb191 ≠ gb161) := ⟨h8_⟩
            have n9_ : Aside0 (gb162 ≠ gb191) := ⟨h9_⟩
            have n10_ : Aside0 (gb191 ≠ gb162) := ⟨h10_⟩
            have n11_ : Aside0 (gb163 ≠ gb191) := ⟨h11_⟩
            have n12_ : Aside0 (gb191 ≠ gb163) := ⟨h12_⟩
            have n13_ : Aside0 (gb177 ≠ gb191) := ⟨h13_⟩
            have n14_ : Aside0 (gb191 ≠ gb177) := ⟨h14_⟩
            have n15_ : Aside0 (Below w.heap.size w w31) := ⟨h15_⟩
            clear BK161
            clear BK162
            clear BK163
            clear BK177
            clear HB
            clear h0_ h1_ h2_ h3_ h4_ h5_ h6_ h7_ h8_ h9_ h10_ h11_ h12_ h13_ h14_ h15_
            have BK161 := n0_
            have BK162 := n1_
            have BK163 := n2_
            have BK177 := n3_
            have BK191 := n4_
            have GW191 := n5_
            have GE191 := n6_
            have NB161_191 := n7_
            have NB191_161 := n8_
            have NB162_191 := n9_
            have NB191_162 := n10_
            have NB163_191 := n11_
            have NB191_163 := n12_
            have NB177_191 := n13_
            have NB191_177 := n14_
            have HB := n15_
            clear n0_ n1_ n2_ n3_ n4_ n5_ n6_ n7_ n8_ n9_ n10_ n11_ n12_ n13_ n14_ n15_
            have hHeld : w31.cell? ⟨gb161, 0, none⟩ = some (.int .i64 a0_0) ∧ w31.cell? ⟨gb161, 1, none⟩ = some (.int .i64 a0_1) ∧ w31.cell? ⟨gb161, 2, none⟩ = some (.int .i64 a0_2) ∧ w31.cell? ⟨gb162, 0, none⟩ = some (.int .i64 a1_0) ∧ w31.cell? ⟨gb162, 1, none⟩ = some (.int .i64 a1_1) ∧ w31.cell? ⟨gb162, 2, none⟩ = some (.int .i64 a1_2) ∧ w31.cell? ⟨gb163, 0, none⟩ = some (.int .i64 a2_0) ∧ w31.cell? ⟨gb163, 1, none⟩ = some (.int .i64 a2_1) ∧ w31.cell? ⟨gb163, 2, none⟩ = some (.int .i64 a2_2) := hS_
            refine norm_ (a' := ?_) ?_ ?_
            rotate_left
            ·simp only [putAll, Act.put, List.setIfInBounds_toArray, List.set_cons_zero, List.set_cons_succ]
             rfl
            refine one_ (i := 1) (N := some 23) #[true, true, true, false, true, false, false, false, false, false, true, false, false] rfl rfl (one_of HT_.out (by kernel_rfl)) (by decide) (fun K hK => ?_)
            refine goes_ Try.func16 (by kernel_rfl) rfl #[.agg #[.int .i64 a0_0, .int .i64 a0_1, .int .i64 a0_2]] (by rfl) rfl rfl (by (try simp only [List.map_toArray, List.map_cons, List.map_nil]); first | done | rfl | (simp only [List.length_drop, List.length_take]; rfl)) ?_
            with_reducible refine (laws_toVec.calls a0_0 a0_1 a0_2 t178 t179 t180 _ A8.out).mono ?_
            rintro e w32 ⟨rfl, hb⟩
            refine ⟨_, rfl, ?_⟩
            have n0_ := Aside0.mk (blk_below (g := gb161) (o := .cells #[.int .i64 a0_0, .int .i64 a0_1, .int .i64 a0_2] 23 (0, 0)) Gv.bk hb)
            have n1_ := Aside0.mk (blk_below (g := gb162) (o := .cells #[.int .i64 a1_0, .int .i64 a1_1, .int .i64 a1_2] 23 (0, 0)) Gv.bk hb)
            have n2_ := Aside0.mk (blk_below (g := gb163) (o := .cells #[.int .i64 a2_0, .int .i64 a2_1, .int .i64 a2_2] 23 (0, 0)) Gv.bk hb)
            have n3_ := Aside0.mk (blk_below (g := gb177) (o := .cells #[.int .i64 t173, .int .i64 t174, .int .i64 t175] 26 (0, 0)) Gv.bk hb)
            have n4_ := Aside0.mk (blk_below (g := gb191) (o := .cells #[.int .i64 0, .int .i64 0, .int .i64 0] 26 (0, 0)) Gv.bk hb)
            have n5_ := Aside0.mk (below_step Gv.bw hb)
            clear BK161
            clear BK162
            clear BK163
            clear BK177
            clear BK191
            clear HB
            have BK161 := n0_
            have BK162 := n1_
            have BK163 := n2_
            have BK177 := n3_
            have BK191 := n4_
            have HB := n5_
            clear n0_ n1_ n2_ n3_ n4_ n5_
            (try clear hb)
            (try clear hb2)
            (try clear hk)
            (try clear hi)
            refine hK.out _ _ ⟨(blk_cell BK161.out 0).trans rfl, (blk_cell BK161.out 1).trans rfl, (blk_cell BK161.out 2).trans rfl, (blk_cell BK162.out 0).trans rfl, (blk_cell BK162.out 1).trans rfl, (blk_cell BK162.out 2).trans rfl, (blk_cell BK163.out 0).trans rfl, (blk_cell BK163.out 1).trans rfl, (blk_cell BK163.out 2).trans rfl⟩ (fun hHeld => ?_)
            clear hK K
            refine norm_ (a' := ?_) ?_ ?_
            rotate_left
            ·show Act.put _ (some 23) _ = _
             simp only [Act.put, List.setIfInBounds_toArray, List.set_cons_zero, List.set_cons_succ, i64_w, i32_w]
             rfl
            exact Gv.nm (hJ1_10 (gb191) _ ⟨hHeld, Gv.bk, Gv.bk, Gv.bk, Gv.bk, Gv.bk, GW191.out, GE191.out, NB161_191.out, NB191_161.out, NB162_191.out, NB191_162.out, NB163_191.out, NB191_163.out, NB177_191.out, NB191_177.out, Gv.bw⟩)
          ·skip
           rintro _ w31 ⟨hS_, h0_, h1_, h2_, h3_, h4_⟩
           have n0_ : Aside0 (w31.heap[gb161]? = some (.cells #[.int .i64 a0_0, .int .i64 a0_1, .int .i64 a0_2] 23 (0, 0))) := ⟨h0_⟩
           have n1_ : Aside0 (w31.heap[gb162]? = some (.cells #[.int .i64 a1_0, .int .i64 a1_1, .int .i64 a1_2] 23 (0, 0))) := ⟨h1_⟩
           have n2_ : Aside0 (w31.heap[gb163]? = some (.cells #[.int .i64 a2_0, .int .i64 a2_1, .int .i64 a2_2] 23 (0, 0))) := ⟨h2_⟩
           have n3_ : Aside0 (w31.heap[gb177]? = some (.cells #[.int .i64 t173, .int .i64 t174, .int .i64 t175] 26 (0, 0))) := ⟨h3_⟩
           have n4_ : Aside0 (Below w.heap.size w w31) := ⟨h4_⟩
           clear BK161
           clear BK162
           clear BK163
           clear BK177
           clear HB
           clear h0_ h1_ h2_ h3_ h4_
           have BK161 := n0_
           have BK162 := n1_
           have BK163 := n2_
           have BK177 := n3_
           have HB := n4_
           clear n0_ n1_ n2_ n3_ n4_
           have hHeld : w31.cell? ⟨gb161, 0, none⟩ = some (.int .i64 a0_0) ∧ w31.cell? ⟨gb161, 1, none⟩ = some (.int .i64 a0_1) ∧ w31.cell? ⟨gb161, 2, none⟩ = some (.int .i64 a0_2) ∧ w31.cell? ⟨gb162, 0, none⟩ = some (.int .i64 a1_0) ∧ w31.cell? ⟨gb162, 1, none⟩ = some (.int .i64 a1_1) ∧ w31.cell? ⟨gb162, 2, none⟩ = some (.int .i64 a1_2) ∧ w31.cell? ⟨gb163, 0, none⟩ = some (.int .i64 a2_0) ∧ w31.cell? ⟨gb163, 1, none⟩ = some (.int .i64 a2_1) ∧ w31.cell? ⟨gb163, 2, none⟩ = some (.int .i64 a2_2) := hS_
           refine norm_ (a' := ?_) ?_ ?_
           rotate_left
           ·simp only [putAll, Act.put, List.setIfInBounds_toArray, List.set_cons_zero, List.set_cons_succ]
            rfl
           refine two_ (i := 3) (j := 10) (Ni := some 25) (Nj := some 9) #[true, true, true, true, true, false, false, false, false, false, false, false, false] #[true, true, true, false, true, false, false, false, false, false, true, false, false] rfl rfl rfl rfl (two_of HT_.out (by kernel_rfl)) (by decide) (by decide) (fun K hK => ?_) (fun K hK => ?_)
           ·skip
            refine goes_ Try.func16 (by kernel_rfl) rfl #[.agg #[.int .i64 a1_0, .int .i64 a1_1, .int .i64 a1_2]] (by rfl) rfl rfl (by (try simp only [List.map_toArray, List.map_cons, List.map_nil]); first | done | rfl | (simp only [List.length_drop, List.length_take]; rfl)) ?_
            with_reducible refine (laws_toVec.calls a1_0 a1_1 a1_2 t181 t182 t183 _ A9.out).mono ?_
            rintro e w32 ⟨rfl, hb⟩
            refine ⟨_, rfl, ?_⟩
            have n0_ := Aside0.mk (blk_below (g := gb161) (o := .cells #[.int .i64 a0_0, .int .i64 a0_1, .int .i64 a0_2] 23 (0, 0)) Gv.bk hb)
            have n1_ := Aside0.mk (blk_below (g := gb162) (o := .cells #[.int .i64 a1_0, .int .i64 a1_1, .int .i64 a1_2] 23 (0, 0)) Gv.bk hb)
            have n2_ := Aside0.mk (blk_below (g := gb163) (o := .cells #[.int .i64 a2_0, .int .i64 a2_1, .int .i64 a2_2] 23 (0, 0)) Gv.bk hb)
            have n3_ := Aside0.mk (blk_below (g := gb177) (o := .cells #[.int .i64 t173, .int .i64 t174, .int .i64 t175] 26 (0, 0)) Gv.bk hb)
            have n4_ := Aside0.mk (below_step Gv.bw hb)
            clear BK161
            clear BK162
            clear BK163
            clear BK177
            clear HB
            have BK161 := n0_
            have BK162 := n1_
            have BK163 := n2_
            have BK177 := n3_
            have HB := n4_
            clear n0_ n1_ n2_ n3_ n4_
            (try clear hb)
            (try clear hb2)
            (try clear hk)
            (try clear hi)
            refine hK.out _ _ ⟨(blk_cell BK161.out 0).trans rfl, (blk_cell BK161.out 1).trans rfl, (blk_cell BK161.out 2).trans rfl, (blk_cell BK162.out 0).trans rfl, (blk_cell BK162.out 1).trans rfl, (blk_cell BK162.out 2).trans rfl, (blk_cell BK163.out 0).trans rfl, (blk_cell BK163.out 1).trans rfl, (blk_cell BK163.out 2).trans rfl⟩ (fun hHeld => ?_)
            clear hK K
            refine norm_ (a' := ?_) ?_ ?_
            rotate_left
            ·show Act.put _ (some 25) _ = _
             simp only [Act.put, List.setIfInBounds_toArray, List.set_cons_zero, List.set_cons_succ, i64_w, i32_w]
             rfl
            exact Gv.nm (hJ1_3 () _ ⟨hHeld, Gv.bk, Gv.bk, Gv.bk, Gv.bk, Gv.bw⟩)
           ·skip
            refine box_step ?hg (N := 9) ?hd (cs := #[.int .i64 0, .int .i64 0, .int .i64 0]) (t := 26) ?hr ?_; (case hd => rfl); (case hg => rfl); (case hr => first | (go_simp; done) | (go_simp; rfl))
            intro gb191 hg w32 hbox hb
            have n0_ := Aside0.mk (blk_below (g := gb161) (o := .cells #[.int .i64 a0_0, .int .i64 a0_1, .int .i64 a0_2] 23 (0, 0)) Gv.bk hb)
            have n1_ := Aside0.mk (blk_below (g := gb162) (o := .cells #[.int .i64 a1_0, .int .i64 a1_1, .int .i64 a1_2] 23 (0, 0)) Gv.bk hb)
            have n2_ := Aside0.mk (blk_below (g := gb163) (o := .cells #[.int .i64 a2_0, .int .i64 a2_1, .int .i64 a2_2] 23 (0, 0)) Gv.bk hb)
            have n3_ := Aside0.mk (blk_below (g := gb177) (o := .cells #[.int .i64 t173, .int .i64 t174, .int .i64 t175] 26 (0, 0)) Gv.bk hb)
            have n4_ := Aside0.mk (below_step Gv.bw hb)
            have n5_ := Aside0.mk (hbox)
            have n6_ := Aside0.mk ((by rw [hg]; exact (below_size Gv.bw) : w.heap.size ≤ gb191))
            have n7_ := Aside0.mk ((by rw [hg]; exact (below_size Gv.bw) : w.heap.size ≤ gb191))
            have n8_ := Aside0.mk ((by rw [hg]; exact Nat.ne_of_lt (blk_lt (g := gb161) (o := .cells #[.int .i64 a0_0, .int .i64 a0_1, .int .i64 a0_2] 23 (0, 0)) Gv.bk) : gb161 ≠ gb191))
            have n9_ := Aside0.mk ((by rw [hg]; exact Nat.ne_of_gt (blk_lt (g := gb161) (o := .cells #[.int .i64 a0_0, .int .i64 a0_1, .int .i64 a0_2] 23 (0, 0)) Gv.bk) : gb191 ≠ gb161))
            have n10_ := Aside0.mk ((by rw [hg]; exact Nat.ne_of_lt (blk_lt (g := gb162) (o := .cells #[.int .i64 a1_0, .int .i64 a1_1, .int .i64 a1_2] 23 (0, 0)) Gv.bk) : gb162 ≠ gb191))
            have n11_ := Aside0.mk ((by rw [hg]; exact Nat.ne_of_gt (blk_lt (g := gb162) (o := .cells #[.int .i64 a1_0, .int .i64 a1_1, .int .i64 a1_2] 23 (0, 0)) Gv.bk) : gb191 ≠ gb162))
            have n12_ := Aside0.mk ((by rw [hg]; exact Nat.ne_of_lt (blk_lt (g := gb163) (o := .cells #[.int .i64 a2_0, .int .i64 a2_1, .int .i64 a2_2] 23 (0, 0)) Gv.bk) : gb163 ≠ gb191))
            have n13_ := Aside0.mk ((by rw [hg]; exact Nat.ne_of_gt (blk_lt (g := gb163) (o := .cells #[.int .i64 a2_0, .int .i64 a2_1, .int .i64 a2_2] 23 (0, 0)) Gv.bk) : gb191 ≠ gb163))
            have n14_ := Aside0.mk ((by rw [hg]; exact Nat.ne_of_lt (blk_lt (g := gb177) (o := .cells #[.int .i64 t173, .int .i64 t174, .int .i64 t175] 26 (0, 0)) Gv.bk) : gb177 ≠ gb191))
            have n15_ := Aside0.mk ((by rw [hg]; exact Nat.ne_of_gt (blk_lt (g := gb177) (o := .cells #[.int .i64 t173, .int .i64 t174, .int .i64 t175] 26 (0, 0)) Gv.bk) : gb191 ≠ gb177))
            clear BK161
            clear BK162
            clear BK163
            clear BK177
            clear HB
            have BK161 := n0_
            have BK162 := n1_
            have BK163 := n2_
            have BK177 := n3_
            have HB := n4_
            have BK191 := n5_
            have GW191 := n6_
            have GE191 := n7_
            have NB161_191 := n8_
            have NB191_161 := n9_
            have NB162_191 := n10_
            have NB191_162 := n11_
            have NB163_191 := n12_
            have NB191_163 := n13_
            have NB177_191 := n14_
            have NB191_177 := n15_
            clear n0_ n1_ n2_ n3_ n4_ n5_ n6_ n7_ n8_ n9_ n10_ n11_ n12_ n13_ n14_ n15_
            clear hb hbox hg
            refine hK.out _ _ ⟨(blk_cell BK161.out 0).trans rfl, (blk_cell BK161.out 1).trans rfl, (blk_cell BK161.out 2).trans rfl, (blk_cell BK162.out 0).trans rfl, (blk_cell BK162.out 1).trans rfl, (blk_cell BK162.out 2).trans rfl, (blk_cell BK163.out 0).trans rfl, (blk_cell BK163.out 1).trans rfl, (blk_cell BK163.out 2).trans rfl⟩ (fun hHeld => ?_)
            clear hK K
            refine norm_ (a' := ?_) ?_ ?_
            rotate_left
            ·show Act.put _ (some 9) _ = _
             simp only [Act.put, List.setIfInBounds_toArray, List.set_cons_zero, List.set_cons_succ, i64_w, i32_w]
             rfl
            exact Gv.nm (hJ1_10 (gb191) _ ⟨hHeld, Gv.bk, Gv.bk, Gv.bk, Gv.bk, Gv.bk, GW191.out, GE191.out, NB161_191.out, NB191_161.out, NB162_191.out, NB191_162.out, NB163_191.out, NB191_163.out, NB177_191.out, NB191_177.out, Gv.bw⟩)
         ·skip
          rintro gb191 w32 ⟨hS_, h0_, h1_, h2_, h3_, h4_, h5_, h6_, h7_, h8_, h9_, h10_, h11_, h12_, h13_, h14_, h15_⟩
          have n0_ : Aside0 (w32.heap[gb161]? = some (.cells #[.int .i64 a0_0, .int .i64 a0_1, .int .i64 a0_2] 23 (0, 0))) := ⟨h0_⟩
          have n1_ : Aside0 (w32.heap[gb162]? = some (.cells #[.int .i64 a1_0, .int .i64 a1_1, .int .i64 a1_2] 23 (0, 0))) := ⟨h1_⟩
          have n2_ : Aside0 (w32.heap[gb163]? = some (.cells #[.int .i64 a2_0, .int .i64 a2_1, .int .i64 a2_2] 23 (0, 0))) := ⟨h2_⟩
          have n3_ : Aside0 (w32.heap[gb177]? = some (.cells #[.int .i64 t173, .int .i64 t174, .int .i64 t175] 26 (0, 0))) := ⟨h3_⟩
          have n4_ : Aside0 (w32.heap[gb191]? = some (.cells #[.int .i64 0, .int .i64 0, .int .i64 0] 26 (0, 0))) := ⟨h4_⟩
          have n5_ : Aside0 (w.heap.size ≤ gb191) := ⟨h5_⟩
          have n6_ : Aside0 (w.heap.size ≤ gb191) := ⟨h6_⟩
          have n7_ : Aside0 (gb161 ≠ gb191) := ⟨h7_⟩
          have n8_ : Aside0 (gb191 ≠ gb161) := ⟨h8_⟩
          have n9_ : Aside0 (gb162 ≠ gb191) := ⟨h9_⟩
          have n10_ : Aside0 (gb191 ≠ gb162) := ⟨h10_⟩
          have n11_ : Aside0 (gb163 ≠ gb191) := ⟨h11_⟩
          have n12_ : Aside0 (gb191 ≠ gb163) := ⟨h12_⟩
          have n13_ : Aside0 (gb177 ≠ gb191) := ⟨h13_⟩
          have n14_ : Aside0 (gb191 ≠ gb177) := ⟨h14_⟩
          have n15_ : Aside0 (Below w.heap.size w w32) := ⟨h15_⟩
          clear BK161
          clear BK162
          clear BK163
          clear BK177
          clear HB
          clear h0_ h1_ h2_ h3_ h4_ h5_ h6_ h7_ h8_ h9_ h10_ h11_ h12_ h13_ h14_ h15_
          have BK161 := n0_
          have BK162 := n1_
          have BK163 := n2_
          have BK177 := n3_
          have BK191 := n4_
          have GW191 := n5_
          have GE191 := n6_
          have NB161_191 := n7_
          have NB191_161 := n8_
          have NB162_191 := n9_
          have NB191_162 := n10_
          have NB163_191 := n11_
          have NB191_163 := n12_
          have NB177_191 := n13_
          have NB191_177 := n14_
          have HB := n15_
          clear n0_ n1_ n2_ n3_ n4_ n5_ n6_ n7_ n8_ n9_ n10_ n11_ n12_ n13_ n14_ n15_
          have hHeld : w32.cell? ⟨gb161, 0, none⟩ = some (.int .i64 a0_0) ∧ w32.cell? ⟨gb161, 1, none⟩ = some (.int .i64 a0_1) ∧ w32.cell? ⟨gb161, 2, none⟩ = some (.int .i64 a0_2) ∧ w32.cell? ⟨gb162, 0, none⟩ = some (.int .i64 a1_0) ∧ w32.cell? ⟨gb162, 1, none⟩ = some (.int .i64 a1_1) ∧ w32.cell? ⟨gb162, 2, none⟩ = some (.int .i64 a1_2) ∧ w32.cell? ⟨gb163, 0, none⟩ = some (.int .i64 a2_0) ∧ w32.cell? ⟨gb163, 1, none⟩ = some (.int .i64 a2_1) ∧ w32.cell? ⟨gb163, 2, none⟩ = some (.int .i64 a2_2) := hS_
          refine norm_ (a' := ?_) ?_ ?_
          rotate_left
          ·simp only [putAll, Act.put, List.setIfInBounds_toArray, List.set_cons_zero, List.set_cons_succ]
           rfl
          refine one_ (i := 3) (N := some 25) #[true, true, true, true, true, false, false, false, false, false, true, false, false] rfl rfl (one_of HT_.out (by kernel_rfl)) (by decide) (fun K hK => ?_)
          refine goes_ Try.func16 (by kernel_rfl) rfl #[.agg #[.int .i64 a1_0, .int .i64 a1_1, .int .i64 a1_2]] (by rfl) rfl rfl (by (try simp only [List.map_toArray, List.map_cons, List.map_nil]); first | done | rfl | (simp only [List.length_drop, List.length_take]; rfl)) ?_
          with_reducible refine (laws_toVec.calls a1_0 a1_1 a1_2 t181 t182 t183 _ A9.out).mono ?_
          rintro e w33 ⟨rfl, hb⟩
          refine ⟨_, rfl, ?_⟩
          have n0_ := Aside0.mk (blk_below (g := gb161) (o := .cells #[.int .i64 a0_0, .int .i64 a0_1, .int .i64 a0_2] 23 (0, 0)) Gv.bk hb)
          have n1_ := Aside0.mk (blk_below (g := gb162) (o := .cells #[.int .i64 a1_0, .int .i64 a1_1, .int .i64 a1_2] 23 (0, 0)) Gv.bk hb)
          have n2_ := Aside0.mk (blk_below (g := gb163) (o := .cells #[.int .i64 a2_0, .int .i64 a2_1, .int .i64 a2_2] 23 (0, 0)) Gv.bk hb)
          have n3_ := Aside0.mk (blk_below (g := gb177) (o := .cells #[.int .i64 t173, .int .i64 t174, .int .i64 t175] 26 (0, 0)) Gv.bk hb)
          have n4_ := Aside0.mk (blk_below (g := gb191) (o := .cells #[.int .i64 0, .int .i64 0, .int .i64 0] 26 (0, 0)) Gv.bk hb)
          have n5_ := Aside0.mk (below_step Gv.bw hb)
          clear BK161
          clear BK162
          clear BK163
          clear BK177
          clear BK191
          clear HB
          have BK161 := n0_
          have BK162 := n1_
          have BK163 := n2_
          have BK177 := n3_
          have BK191 := n4_
          have HB := n5_
          clear n0_ n1_ n2_ n3_ n4_ n5_
          (try clear hb)
          (try clear hb2)
          (try clear hk)
          (try clear hi)
          refine hK.out _ _ ⟨(blk_cell BK161.out 0).trans rfl, (blk_cell BK161.out 1).trans rfl, (blk_cell BK161.out 2).trans rfl, (blk_cell BK162.out 0).trans rfl, (blk_cell BK162.out 1).trans rfl, (blk_cell BK162.out 2).trans rfl, (blk_cell BK163.out 0).trans rfl, (blk_cell BK163.out 1).trans rfl, (blk_cell BK163.out 2).trans rfl⟩ (fun hHeld => ?_)
          clear hK K
          refine norm_ (a' := ?_) ?_ ?_
          rotate_left
          ·show Act.put _ (some 25) _ = _
           simp only [Act.put, List.setIfInBounds_toArray, List.set_cons_zero, List.set_cons_succ, i64_w, i32_w]
           rfl
          exact Gv.nm (hJ1_3_10 (gb191) _ ⟨hHeld, Gv.bk, Gv.bk, Gv.bk, Gv.bk, Gv.bk, GW191.out, GE191.out, NB161_191.out, NB191_161.out, NB162_191.out, NB191_162.out, NB163_191.out, NB191_163.out, NB177_191.out, NB191_177.out, Gv.bw⟩)
        ·skip
         rintro _ w32 ⟨hS_, h0_, h1_, h2_, h3_, h4_⟩
         have n0_ : Aside0 (w32.heap[gb161]? = some (.cells #[.int .i64 a0_0, .int .i64 a0_1, .int .i64 a0_2] 23 (0, 0))) := ⟨h0_⟩
         have n1_ : Aside0 (w32.heap[gb162]? = some (.cells #[.int .i64 a1_0, .int .i64 a1_1, .int .i64 a1_2] 23 (0, 0))) := ⟨h1_⟩
         have n2_ : Aside0 (w32.heap[gb163]? = some (.cells #[.int .i64 a2_0, .int .i64 a2_1, .int .i64 a2_2] 23 (0, 0))) := ⟨h2_⟩
         have n3_ : Aside0 (w32.heap[gb177]? = some (.cells #[.int .i64 t173, .int .i64 t174, .int .i64 t175] 26 (0, 0))) := ⟨h3_⟩
         have n4_ : Aside0 (Below w.heap.size w w32) := ⟨h4_⟩
         clear BK161
         clear BK162
         clear BK163
         clear BK177
         clear HB
         clear h0_ h1_ h2_ h3_ h4_
         have BK161 := n0_
         have BK162 := n1_
         have BK163 := n2_
         have BK177 := n3_
         have HB := n4_
         clear n0_ n1_ n2_ n3_ n4_
         have hHeld : w32.cell? ⟨gb161, 0, none⟩ = some (.int .i64 a0_0) ∧ w32.cell? ⟨gb161, 1, none⟩ = some (.int .i64 a0_1) ∧ w32.cell? ⟨gb161, 2, none⟩ = some (.int .i64 a0_2) ∧ w32.cell? ⟨gb162, 0, none⟩ = some (.int .i64 a1_0) ∧ w32.cell? ⟨gb162, 1, none⟩ = some (.int .i64 a1_1) ∧ w32.cell? ⟨gb162, 2, none⟩ = some (.int .i64 a1_2) ∧ w32.cell? ⟨gb163, 0, none⟩ = some (.int .i64 a2_0) ∧ w32.cell? ⟨gb163, 1, none⟩ = some (.int .i64 a2_1) ∧ w32.cell? ⟨gb163, 2, none⟩ = some (.int .i64 a2_2) := hS_
         refine norm_ (a' := ?_) ?_ ?_
         rotate_left
         ·simp only [putAll, Act.put, List.setIfInBounds_toArray, List.set_cons_zero, List.set_cons_succ]
          rfl
         refine two_ (i := 5) (j := 10) (Ni := some 27) (Nj := some 9) #[true, true, true, true, true, true, false, false, false, false, false, false, false] #[true, true, true, true, true, false, false, false, false, false, true, false, false] rfl rfl rfl rfl (two_of HT_.out (by kernel_rfl)) (by decide) (by decide) (fun K hK => ?_) (fun K hK => ?_)
         ·skip
          refine goes_ Try.func16 (by kernel_rfl) rfl #[.agg #[.int .i64 a2_0, .int .i64 a2_1, .int .i64 a2_2]] (by rfl) rfl rfl (by (try simp only [List.map_toArray, List.map_cons, List.map_nil]); first | done | rfl | (simp only [List.length_drop, List.length_take]; rfl)) ?_
          with_reducible refine (laws_toVec.calls a2_0 a2_1 a2_2 t184 t185 t186 _ A10.out).mono ?_
          rintro e w33 ⟨rfl, hb⟩
          refine ⟨_, rfl, ?_⟩
          have n0_ := Aside0.mk (blk_below (g := gb161) (o := .cells #[.int .i64 a0_0, .int .i64 a0_1, .int .i64 a0_2] 23 (0, 0)) Gv.bk hb)
          have n1_ := Aside0.mk (blk_below (g := gb162) (o := .cells #[.int .i64 a1_0, .int .i64 a1_1, .int .i64 a1_2] 23 (0, 0)) Gv.bk hb)
          have n2_ := Aside0.mk (blk_below (g := gb163) (o := .cells #[.int .i64 a2_0, .int .i64 a2_1, .int .i64 a2_2] 23 (0, 0)) Gv.bk hb)
          have n3_ := Aside0.mk (blk_below (g := gb177) (o := .cells #[.int .i64 t173, .int .i64 t174, .int .i64 t175] 26 (0, 0)) Gv.bk hb)
          have n4_ := Aside0.mk (below_step Gv.bw hb)
          clear BK161
          clear BK162
          clear BK163
          clear BK177
          clear HB
          have BK161 := n0_
          have BK162 := n1_
          have BK163 := n2_
          have BK177 := n3_
          have HB := n4_
          clear n0_ n1_ n2_ n3_ n4_
          (try clear hb)
          (try clear hb2)
          (try clear hk)
          (try clear hi)
          refine hK.out _ _ ⟨(blk_cell BK161.out 0).trans rfl, (blk_cell BK161.out 1).trans rfl, (blk_cell BK161.out 2).trans rfl, (blk_cell BK162.out 0).trans rfl, (blk_cell BK162.out 1).trans rfl, (blk_cell BK162.out 2).trans rfl, (blk_cell BK163.out 0).trans rfl, (blk_cell BK163.out 1).trans rfl, (blk_cell BK163.out 2).trans rfl⟩ (fun hHeld => ?_)
          clear hK K
          refine norm_ (a' := ?_) ?_ ?_
          rotate_left
          ·show Act.put _ (some 27) _ = _
           simp only [Act.put, List.setIfInBounds_toArray, List.set_cons_zero, List.set_cons_succ, i64_w, i32_w]
           rfl
          exact Gv.nm (hJ1_3_5 () _ ⟨hHeld, Gv.bk, Gv.bk, Gv.bk, Gv.bk, Gv.bw⟩)
         ·skip
          refine box_step ?hg (N := 9) ?hd (cs := #[.int .i64 0, .int .i64 0, .int .i64 0]) (t := 26) ?hr ?_; (case hd => rfl); (case hg => rfl); (case hr => first | (go_simp; done) | (go_simp; rfl))
          intro gb191 hg w33 hbox hb
          have n0_ := Aside0.mk (blk_below (g := gb161) (o := .cells #[.int .i64 a0_0, .int .i64 a0_1, .int .i64 a0_2] 23 (0, 0)) Gv.bk hb)
          have n1_ := Aside0.mk (blk_below (g := gb162) (o := .cells #[.int .i64 a1_0, .int .i64 a1_1, .int .i64 a1_2] 23 (0, 0)) Gv.bk hb)
          have n2_ := Aside0.mk (blk_below (g := gb163) (o := .cells #[.int .i64 a2_0, .int .i64 a2_1, .int .i64 a2_2] 23 (0, 0)) Gv.bk hb)
          have n3_ := Aside0.mk (blk_below (g := gb177) (o := .cells #[.int .i64 t173, .int .i64 t174, .int .i64 t175] 26 (0, 0)) Gv.bk hb)
          have n4_ := Aside0.mk (below_step Gv.bw hb)
          have n5_ := Aside0.mk (hbox)
          have n6_ := Aside0.mk ((by rw [hg]; exact (below_size Gv.bw) : w.heap.size ≤ gb191))
          have n7_ := Aside0.mk ((by rw [hg]; exact (below_size Gv.bw) : w.heap.size ≤ gb191))
          have n8_ := Aside0.mk ((by rw [hg]; exact Nat.ne_of_lt (blk_lt (g := gb161) (o := .cells #[.int .i64 a0_0, .int .i64 a0_1, .int .i64 a0_2] 23 (0, 0)) Gv.bk) : gb161 ≠ gb191))
          have n9_ := Aside0.mk ((by rw [hg]; exact Nat.ne_of_gt (blk_lt (g := gb161) (o := .cells #[.int .i64 a0_0, .int .i64 a0_1, .int .i64 a0_2] 23 (0, 0)) Gv.bk) : gb191 ≠ gb161))
          have n10_ := Aside0.mk ((by rw [hg]; exact Nat.ne_of_lt (blk_lt (g := gb162) (o := .cells #[.int .i64 a1_0, .int .i64 a1_1, .int .i64 a1_2] 23 (0, 0)) Gv.bk) : gb162 ≠ gb191))
          have n11_ := Aside0.mk ((by rw [hg]; exact Nat.ne_of_gt (blk_lt (g := gb162) (o := .cells #[.int .i64 a1_0, .int .i64 a1_1, .int .i64 a1_2] 23 (0, 0)) Gv.bk) : gb191 ≠ gb162))
          have n12_ := Aside0.mk ((by rw [hg]; exact Nat.ne_of_lt (blk_lt (g := gb163) (o := .cells #[.int .i64 a2_0, .int .i64 a2_1, .int .i64 a2_2] 23 (0, 0)) Gv.bk) : gb163 ≠ gb191))
          have n13_ := Aside0.mk ((by rw [hg]; exact Nat.ne_of_gt (blk_lt (g := gb163) (o := .cells #[.int .i64 a2_0, .int .i64 a2_1, .int .i64 a2_2] 23 (0, 0)) Gv.bk) : gb191 ≠ gb163))
          have n14_ := Aside0.mk ((by rw [hg]; exact Nat.ne_of_lt (blk_lt (g := gb177) (o := .cells #[.int .i64 t173, .int .i64 t174, .int .i64 t175] 26 (0, 0)) Gv.bk) : gb177 ≠ gb191))
          have n15_ := Aside0.mk ((by rw [hg]; exact Nat.ne_of_gt (blk_lt (g := gb177) (o := .cells #[.int .i64 t173, .int .i64 t174, .int .i64 t175] 26 (0, 0)) Gv.bk) : gb191 ≠ gb177))
          clear BK161
          clear BK162
          clear BK163
          clear BK177
          clear HB
          have BK161 := n0_
          have BK162 := n1_
          have BK163 := n2_
          have BK177 := n3_
          have HB := n4_
          have BK191 := n5_
          have GW191 := n6_
          have GE191 := n7_
          have NB161_191 := n8_
          have NB191_161 := n9_
          have NB162_191 := n10_
          have NB191_162 := n11_
          have NB163_191 := n12_
          have NB191_163 := n13_
          have NB177_191 := n14_
          have NB191_177 := n15_
          clear n0_ n1_ n2_ n3_ n4_ n5_ n6_ n7_ n8_ n9_ n10_ n11_ n12_ n13_ n14_ n15_
          clear hb hbox hg
          refine hK.out _ _ ⟨(blk_cell BK161.out 0).trans rfl, (blk_cell BK161.out 1).trans rfl, (blk_cell BK161.out 2).trans rfl, (blk_cell BK162.out 0).trans rfl, (blk_cell BK162.out 1).trans rfl, (blk_cell BK162.out 2).trans rfl, (blk_cell BK163.out 0).trans rfl, (blk_cell BK163.out 1).trans rfl, (blk_cell BK163.out 2).trans rfl⟩ (fun hHeld => ?_)
          clear hK K
          refine norm_ (a' := ?_) ?_ ?_
          rotate_left
          ·show Act.put _ (some 9) _ = _
           simp only [Act.put, List.setIfInBounds_toArray, List.set_cons_zero, List.set_cons_succ, i64_w, i32_w]
           rfl
          exact Gv.nm (hJ1_3_10 (gb191) _ ⟨hHeld, Gv.bk, Gv.bk, Gv.bk, Gv.bk, Gv.bk, GW191.out, GE191.out, NB161_191.out, NB191_161.out, NB162_191.out, NB191_162.out, NB163_191.out, NB191_163.out, NB177_191.out, NB191_177.out, Gv.bw⟩)
       ·skip
        rintro gb191 w33 ⟨hS_, h0_, h1_, h2_, h3_, h4_, h5_, h6_, h7_, h8_, h9_, h10_, h11_, h12_, h13_, h14_, h15_⟩
        have n0_ : Aside0 (w33.heap[gb161]? = some (.cells #[.int .i64 a0_0, .int .i64 a0_1, .int .i64 a0_2] 23 (0, 0))) := ⟨h0_⟩
        have n1_ : Aside0 (w33.heap[gb162]? = some (.cells #[.int .i64 a1_0, .int .i64 a1_1, .int .i64 a1_2] 23 (0, 0))) := ⟨h1_⟩
        have n2_ : Aside0 (w33.heap[gb163]? = some (.cells #[.int .i64 a2_0, .int .i64 a2_1, .int .i64 a2_2] 23 (0, 0))) := ⟨h2_⟩
        have n3_ : Aside0 (w33.heap[gb177]? = some (.cells #[.int .i64 t173, .int .i64 t174, .int .i64 t175] 26 (0, 0))) := ⟨h3_⟩
        have n4_ : Aside0 (w33.heap[gb191]? = some (.cells #[.int .i64 0, .int .i64 0, .int .i64 0] 26 (0, 0))) := ⟨h4_⟩
        have n5_ : Aside0 (w.heap.size ≤ gb191) := ⟨h5_⟩
        have n6_ : Aside0 (w.heap.size ≤ gb191) := ⟨h6_⟩
        have n7_ : Aside0 (gb161 ≠ gb191) := ⟨h7_⟩
        have n8_ : Aside0 (gb191 ≠ gb161) := ⟨h8_⟩
        have n9_ : Aside0 (gb162 ≠ gb191) := ⟨h9_⟩
        have n10_ : Aside0 (gb191 ≠ gb162) := ⟨h10_⟩
        have n11_ : Aside0 (gb163 ≠ gb191) := ⟨h11_⟩
        have n12_ : Aside0 (gb191 ≠ gb163) := ⟨h12_⟩
        have n13_ : Aside0 (gb177 ≠ gb191) := ⟨h13_⟩
        have n14_ : Aside0 (gb191 ≠ gb177) := ⟨h14_⟩
        have n15_ : Aside0 (Below w.heap.size w w33) := ⟨h15_⟩
        clear BK161
        clear BK162
        clear BK163
        clear BK177
        clear HB
        clear h0_ h1_ h2_ h3_ h4_ h5_ h6_ h7_ h8_ h9_ h10_ h11_ h12_ h13_ h14_ h15_
        have BK161 := n0_
        have BK162 := n1_
        have BK163 := n2_
        have BK177 := n3_
        have BK191 := n4_
        have GW191 := n5_
        have GE191 := n6_
        have NB161_191 := n7_
        have NB191_161 := n8_
        have NB162_191 := n9_
        have NB191_162 := n10_
        have NB163_191 := n11_
        have NB191_163 := n12_
        have NB177_191 := n13_
        have NB191_177 := n14_
        have HB := n15_
        clear n0_ n1_ n2_ n3_ n4_ n5_ n6_ n7_ n8_ n9_ n10_ n11_ n12_ n13_ n14_ n15_
        have hHeld : w33.cell? ⟨gb161, 0, none⟩ = some (.int .i64 a0_0) ∧ w33.cell? ⟨gb161, 1, none⟩ = some (.int .i64 a0_1) ∧ w33.cell? ⟨gb161, 2, none⟩ = some (.int .i64 a0_2) ∧ w33.cell? ⟨gb162, 0, none⟩ = some (.int .i64 a1_0) ∧ w33.cell? ⟨gb162, 1, none⟩ = some (.int .i64 a1_1) ∧ w33.cell? ⟨gb162, 2, none⟩ = some (.int .i64 a1_2) ∧ w33.cell? ⟨gb163, 0, none⟩ = some (.int .i64 a2_0) ∧ w33.cell? ⟨gb163, 1, none⟩ = some (.int .i64 a2_1) ∧ w33.cell? ⟨gb163, 2, none⟩ = some (.int .i64 a2_2) := hS_
        refine norm_ (a' := ?_) ?_ ?_
        rotate_left
        ·simp only [putAll, Act.put, List.setIfInBounds_toArray, List.set_cons_zero, List.set_cons_succ]
         rfl
        refine one_ (i := 5) (N := some 27) #[true, true, true, true, true, true, false, false, false, false, true, false, false] rfl rfl (one_of HT_.out (by kernel_rfl)) (by decide) (fun K hK => ?_)
        refine goes_ Try.func16 (by kernel_rfl) rfl #[.agg #[.int .i64 a2_0, .int .i64 a2_1, .int .i64 a2_2]] (by rfl) rfl rfl (by (try simp only [List.map_toArray, List.map_cons, List.map_nil]); first | done | rfl | (simp only [List.length_drop, List.length_take]; rfl)) ?_
        with_reducible refine (laws_toVec.calls a2_0 a2_1 a2_2 t184 t185 t186 _ A10.out).mono ?_
        rintro e w34 ⟨rfl, hb⟩
        refine ⟨_, rfl, ?_⟩
        have n0_ := Aside0.mk (blk_below (g := gb161) (o := .cells #[.int .i64 a0_0, .int .i64 a0_1, .int .i64 a0_2] 23 (0, 0)) Gv.bk hb)
        have n1_ := Aside0.mk (blk_below (g := gb162) (o := .cells #[.int .i64 a1_0, .int .i64 a1_1, .int .i64 a1_2] 23 (0, 0)) Gv.bk hb)
        have n2_ := Aside0.mk (blk_below (g := gb163) (o := .cells #[.int .i64 a2_0, .int .i64 a2_1, .int .i64 a2_2] 23 (0, 0)) Gv.bk hb)
        have n3_ := Aside0.mk (blk_below (g := gb177) (o := .cells #[.int .i64 t173, .int .i64 t174, .int .i64 t175] 26 (0, 0)) Gv.bk hb)
        have n4_ := Aside0.mk (blk_below (g := gb191) (o := .cells #[.int .i64 0, .int .i64 0, .int .i64 0] 26 (0, 0)) Gv.bk hb)
        have n5_ := Aside0.mk (below_step Gv.bw hb)
        clear BK161
        clear BK162
        clear BK163
        clear BK177
        clear BK191
        clear HB
        have BK161 := n0_
        have BK162 := n1_
        have BK163 := n2_
        have BK177 := n3_
        have BK191 := n4_
        have HB := n5_
        clear n0_ n1_ n2_ n3_ n4_ n5_
        (try clear hb)
        (try clear hb2)
        (try clear hk)
        (try clear hi)
        refine hK.out _ _ ⟨(blk_cell BK161.out 0).trans rfl, (blk_cell BK161.out 1).trans rfl, (blk_cell BK161.out 2).trans rfl, (blk_cell BK162.out 0).trans rfl, (blk_cell BK162.out 1).trans rfl, (blk_cell BK162.out 2).trans rfl, (blk_cell BK163.out 0).trans rfl, (blk_cell BK163.out 1).trans rfl, (blk_cell BK163.out 2).trans rfl⟩ (fun hHeld => ?_)
        clear hK K
        refine norm_ (a' := ?_) ?_ ?_
        rotate_left
        ·show Act.put _ (some 27) _ = _
         simp only [Act.put, List.setIfInBounds_toArray, List.set_cons_zero, List.set_cons_succ, i64_w, i32_w]
         rfl
        exact Gv.nm (hJ1_3_5_10 (gb191) _ ⟨hHeld, Gv.bk, Gv.bk, Gv.bk, Gv.bk, Gv.bk, GW191.out, GE191.out, NB161_191.out, NB191_161.out, NB162_191.out, NB191_162.out, NB163_191.out, NB191_163.out, NB177_191.out, NB191_177.out, Gv.bw⟩)
      ·skip
       rintro _ w33 ⟨hS_, h0_, h1_, h2_, h3_, h4_⟩
       have n0_ : Aside0 (w33.heap[gb161]? = some (.cells #[.int .i64 a0_0, .int .i64 a0_1, .int .i64 a0_2] 23 (0, 0))) := ⟨h0_⟩
       have n1_ : Aside0 (w33.heap[gb162]? = some (.cells #[.int .i64 a1_0, .int .i64 a1_1, .int .i64 a1_2] 23 (0, 0))) := ⟨h1_⟩
       have n2_ : Aside0 (w33.heap[gb163]? = some (.cells #[.int .i64 a2_0, .int .i64 a2_1, .int .i64 a2_2] 23 (0, 0))) := ⟨h2_⟩
       have n3_ : Aside0 (w33.heap[gb177]? = some (.cells #[.int .i64 t173, .int .i64 t174, .int .i64 t175] 26 (0, 0))) := ⟨h3_⟩
       have n4_ : Aside0 (Below w.heap.size w w33) := ⟨h4_⟩
       clear BK161
       clear BK162
       clear BK163
       clear BK177
       clear HB
       clear h0_ h1_ h2_ h3_ h4_
       have BK161 := n0_
       have BK162 := n1_
       have BK163 := n2_
       have BK177 := n3_
       have HB := n4_
       clear n0_ n1_ n2_ n3_ n4_
       have hHeld : w33.cell? ⟨gb161, 0, none⟩ = some (.int .i64 a0_0) ∧ w33.cell? ⟨gb161, 1, none⟩ = some (.int .i64 a0_1) ∧ w33.cell? ⟨gb161, 2, none⟩ = some (.int .i64 a0_2) ∧ w33.cell? ⟨gb162, 0, none⟩ = some (.int .i64 a1_0) ∧ w33.cell? ⟨gb162, 1, none⟩ = some (.int .i64 a1_1) ∧ w33.cell? ⟨gb162, 2, none⟩ = some (.int .i64 a1_2) ∧ w33.cell? ⟨gb163, 0, none⟩ = some (.int .i64 a2_0) ∧ w33.cell? ⟨gb163, 1, none⟩ = some (.int .i64 a2_1) ∧ w33.cell? ⟨gb163, 2, none⟩ = some (.int .i64 a2_2) := hS_
       refine norm_ (a' := ?_) ?_ ?_
       rotate_left
       ·simp only [putAll, Act.put, List.setIfInBounds_toArray, List.set_cons_zero, List.set_cons_succ]
        rfl
       refine two_ (i := 6) (j := 10) (Ni := some 28) (Nj := some 9) #[true, true, true, true, true, true, true, false, false, false, false, false, false] #[true, true, true, true, true, true, false, false, false, false, true, false, false] rfl rfl rfl rfl (two_of HT_.out (by kernel_rfl)) (by decide) (by decide) (fun K hK => ?_) (fun K hK => ?_)
       ·skip
        refine goes_ Try.func19 (by kernel_rfl) rfl #[.agg #[.int .i64 t178, .int .i64 t179, .int .i64 t180], .agg #[.int .i64 t181, .int .i64 t182, .int .i64 t183], .agg #[.int .i64 t184, .int .i64 t185, .int .i64 t186]] (by rfl) rfl rfl (by (try simp only [List.map_toArray, List.map_cons, List.map_nil]); first | done | rfl | (simp only [List.length_drop, List.length_take]; rfl)) ?_
        with_reducible refine (impl_Settle.calls k t178 t179 t180 t181 t182 t183 t184 t185 t186 t187 t188 t189 t190 _ A11.out).mono ?_
        rintro e w34 ⟨rfl, hb⟩
        refine ⟨_, rfl, ?_⟩
        have n0_ := Aside0.mk (blk_below (g := gb161) (o := .cells #[.int .i64 a0_0, .int .i64 a0_1, .int .i64 a0_2] 23 (0, 0)) Gv.bk hb)
        have n1_ := Aside0.mk (blk_below (g := gb162) (o := .cells #[.int .i64 a1_0, .int .i64 a1_1, .int .i64 a1_2] 23 (0, 0)) Gv.bk hb)
        have n2_ := Aside0.mk (blk_below (g := gb163) (o := .cells #[.int .i64 a2_0, .int .i64 a2_1, .int .i64 a2_2] 23 (0, 0)) Gv.bk hb)
        have n3_ := Aside0.mk (blk_below (g := gb177) (o := .cells #[.int .i64 t173, .int .i64 t174, .int .i64 t175] 26 (0, 0)) Gv.bk hb)
        have n4_ := Aside0.mk (below_step Gv.bw hb)
        clear BK161
        clear BK162
        clear BK163
        clear BK177
        clear HB
        have BK161 := n0_
        have BK162 := n1_
        have BK163 := n2_
        have BK177 := n3_
        have HB := n4_
        clear n0_ n1_ n2_ n3_ n4_
        (try clear hb)
        (try clear hb2)
        (try clear hk)
        (try clear hi)
        refine hK.out _ _ ⟨(blk_cell BK161.out 0).trans rfl, (blk_cell BK161.out 1).trans rfl, (blk_cell BK161.out 2).trans rfl, (blk_cell BK162.out 0).trans rfl, (blk_cell BK162.out 1).trans rfl, (blk_cell BK162.out 2).trans rfl, (blk_cell BK163.out 0).trans rfl, (blk_cell BK163.out 1).trans rfl, (blk_cell BK163.out 2).trans rfl⟩ (fun hHeld => ?_)
        clear hK K
        refine norm_ (a' := ?_) ?_ ?_
        rotate_left
        ·show Act.put _ (some 28) _ = _
         simp only [Act.put, List.setIfInBounds_toArray, List.set_cons_zero, List.set_cons_succ, i64_w, i32_w]
         rfl
        refine pure_ (i := 7) (N := some 21) (v := ?_) (a' := ?_) #[true, true, true, true, true, true, true, true, false, false, false, false, false] rfl rfl (any_of HT_.out (by kernel_rfl)) (fun _ _ _ h => h) (Or.inl ⟨by rfl, ?_⟩) ?_ ?_
        rotate_left
        ·intro w'
         go_simp
         with_reducible rfl
        rotate_left
        ·simp only [Act.put, List.setIfInBounds_toArray, List.set_cons_zero, List.set_cons_succ, i64_w, i32_w]
         rfl
        refine pure_ (i := 8) (N := some 29) (v := ?_) (a' := ?_) #[true, true, true, true, true, true, true, true, true, false, false, false, false] rfl rfl (any_of HT_.out (by kernel_rfl)) (fun _ _ _ h => h) (Or.inl ⟨by rfl, ?_⟩) ?_ ?_
        rotate_left
        ·intro w'
         go_simp
         with_reducible rfl
        rotate_left
        ·simp only [Act.put, List.setIfInBounds_toArray, List.set_cons_zero, List.set_cons_succ, i64_w, i32_w]
         rfl
        refine pure_ (i := 9) (N := some 30) (v := ?_) (a' := ?_) #[true, true, true, true, true, true, true, true, true, true, false, false, false] rfl rfl (any_of HT_.out (by kernel_rfl)) (fun _ _ _ h => h) (Or.inl ⟨by rfl, ?_⟩) ?_ ?_
        rotate_left
        ·intro w'
         go_simp
         with_reducible rfl
        rotate_left
        ·simp only [Act.put, List.setIfInBounds_toArray, List.set_cons_zero, List.set_cons_succ, i64_w, i32_w]
         rfl
        exact Gv.nm (hJ1_3_5_6 () _ ⟨hHeld, Gv.bk, Gv.bk, Gv.bk, Gv.bk, Gv.bw⟩)
       ·skip
        refine box_step ?hg (N := 9) ?hd (cs := #[.int .i64 0, .int .i64 0, .int .i64 0]) (t := 26) ?hr ?_; (case hd => rfl); (case hg => rfl); (case hr => first | (go_simp; done) | (go_simp; rfl))
        intro gb191 hg w34 hbox hb
        have n0_ := Aside0.mk (blk_below (g := gb161) (o := .cells #[.int .i64 a0_0, .int .i64 a0_1, .int .i64 a0_2] 23 (0, 0)) Gv.bk hb)
        have n1_ := Aside0.mk (blk_below (g := gb162) (o := .cells #[.int .i64 a1_0, .int .i64 a1_1, .int .i64 a1_2] 23 (0, 0)) Gv.bk hb)
        have n2_ := Aside0.mk (blk_below (g := gb163) (o := .cells #[.int .i64 a2_0, .int .i64 a2_1, .int .i64 a2_2] 23 (0, 0)) Gv.bk hb)
        have n3_ := Aside0.mk (blk_below (g := gb177) (o := .cells #[.int .i64 t173, .int .i64 t174, .int .i64 t175] 26 (0, 0)) Gv.bk hb)
        have n4_ := Aside0.mk (below_step Gv.bw hb)
        have n5_ := Aside0.mk (hbox)
        have n6_ := Aside0.mk ((by rw [hg]; exact (below_size Gv.bw) : w.heap.size ≤ gb191))
        have n7_ := Aside0.mk ((by rw [hg]; exact (below_size Gv.bw) : w.heap.size ≤ gb191))
        have n8_ := Aside0.mk ((by rw [hg]; exact Nat.ne_of_lt (blk_lt (g := gb161) (o := .cells #[.int .i64 a0_0, .int .i64 a0_1, .int .i64 a0_2] 23 (0, 0)) Gv.bk) : gb161 ≠ gb191))
        have n9_ := Aside0.mk ((by rw [hg]; exact Nat.ne_of_gt (blk_lt (g := gb161) (o := .cells #[.int .i64 a0_0, .int .i64 a0_1, .int .i64 a0_2] 23 (0, 0)) Gv.bk) : gb191 ≠ gb161))
        have n10_ := Aside0.mk ((by rw [hg]; exact Nat.ne_of_lt (blk_lt (g := gb162) (o := .cells #[.int .i64 a1_0, .int .i64 a1_1, .int .i64 a1_2] 23 (0, 0)) Gv.bk) : gb162 ≠ gb191))
        have n11_ := Aside0.mk ((by rw [hg]; exact Nat.ne_of_gt (blk_lt (g := gb162) (o := .cells #[.int .i64 a1_0, .int .i64 a1_1, .int .i64 a1_2] 23 (0, 0)) Gv.bk) : gb191 ≠ gb162))
        have n12_ := Aside0.mk ((by rw [hg]; exact Nat.ne_of_lt (blk_lt (g := gb163) (o := .cells #[.int .i64 a2_0, .int .i64 a2_1, .int .i64 a2_2] 23 (0, 0)) Gv.bk) : gb163 ≠ gb191))
        have n13_ := Aside0.mk ((by rw [hg]; exact Nat.ne_of_gt (blk_lt (g := gb163) (o := .cells #[.int .i64 a2_0, .int .i64 a2_1, .int .i64 a2_2] 23 (0, 0)) Gv.bk) : gb191 ≠ gb163))
        have n14_ := Aside0.mk ((by rw [hg]; exact Nat.ne_of_lt (blk_lt (g := gb177) (o := .cells #[.int .i64 t173, .int .i64 t174, .int .i64 t175] 26 (0, 0)) Gv.bk) : gb177 ≠ gb191))
        have n15_ := Aside0.mk ((by rw [hg]; exact Nat.ne_of_gt (blk_lt (g := gb177) (o := .cells #[.int .i64 t173, .int .i64 t174, .int .i64 t175] 26 (0, 0)) Gv.bk) : gb191 ≠ gb177))
        clear BK161
        clear BK162
        clear BK163
        clear BK177
        clear HB
        have BK161 := n0_
        have BK162 := n1_
        have BK163 := n2_
        have BK177 := n3_
        have HB := n4_
        have BK191 := n5_
        have GW191 := n6_
        have GE191 := n7_
        have NB161_191 := n8_
        have NB191_161 := n9_
        have NB162_191 := n10_
        have NB191_162 := n11_
        have NB163_191 := n12_
        have NB191_163 := n13_
        have NB177_191 := n14_
        have NB191_177 := n15_
        clear n0_ n1_ n2_ n3_ n4_ n5_ n6_ n7_ n8_ n9_ n10_ n11_ n12_ n13_ n14_ n15_
        clear hb hbox hg
        refine hK.out _ _ ⟨(blk_cell BK161.out 0).trans rfl, (blk_cell BK161.out 1).trans rfl, (blk_cell BK161.out 2).trans rfl, (blk_cell BK162.out 0).trans rfl, (blk_cell BK162.out 1).trans rfl, (blk_cell BK162.out 2).trans rfl, (blk_cell BK163.out 0).trans rfl, (blk_cell BK163.out 1).trans rfl, (blk_cell BK163.out 2).trans rfl⟩ (fun hHeld => ?_)
        clear hK K
        refine norm_ (a' := ?_) ?_ ?_
        rotate_left
        ·show Act.put _ (some 9) _ = _
         simp only [Act.put, List.setIfInBounds_toArray, List.set_cons_zero, List.set_cons_succ, i64_w, i32_w]
         rfl
        exact Gv.nm (hJ1_3_5_10 (gb191) _ ⟨hHeld, Gv.bk, Gv.bk, Gv.bk, Gv.bk, Gv.bk, GW191.out, GE191.out, NB161_191.out, NB191_161.out, NB162_191.out, NB191_162.out, NB163_191.out, NB191_163.out, NB177_191.out, NB191_177.out, Gv.bw⟩)
     ·skip
      rintro gb191 w34 ⟨hS_, h0_, h1_, h2_, h3_, h4_, h5_, h6_, h7_, h8_, h9_, h10_, h11_, h12_, h13_, h14_, h15_⟩
      have n0_ : Aside0 (w34.heap[gb161]? = some (.cells #[.int .i64 a0_0, .int .i64 a0_1, .int .i64 a0_2] 23 (0, 0))) := ⟨h0_⟩
      have n1_ : Aside0 (w34.heap[gb162]? = some (.cells #[.int .i64 a1_0, .int .i64 a1_1, .int .i64 a1_2] 23 (0, 0))) := ⟨h1_⟩
      have n2_ : Aside0 (w34.heap[gb163]? = some (.cells #[.int .i64 a2_0, .int .i64 a2_1, .int .i64 a2_2] 23 (0, 0))) := ⟨h2_⟩
      have n3_ : Aside0 (w34.heap[gb177]? = some (.cells #[.int .i64 t173, .int .i64 t174, .int .i64 t175] 26 (0, 0))) := ⟨h3_⟩
      have n4_ : Aside0 (w34.heap[gb191]? = some (.cells #[.int .i64 0, .int .i64 0, .int .i64 0] 26 (0, 0))) := ⟨h4_⟩
      have n5_ : Aside0 (w.heap.size ≤ gb191) := ⟨h5_⟩
      have n6_ : Aside0 (w.heap.size ≤ gb191) := ⟨h6_⟩
      have n7_ : Aside0 (gb161 ≠ gb191) := ⟨h7_⟩
      have n8_ : Aside0 (gb191 ≠ gb161) := ⟨h8_⟩
      have n9_ : Aside0 (gb162 ≠ gb191) := ⟨h9_⟩
      have n10_ : Aside0 (gb191 ≠ gb162) := ⟨h10_⟩
      have n11_ : Aside0 (gb163 ≠ gb191) := ⟨h11_⟩
      have n12_ : Aside0 (gb191 ≠ gb163) := ⟨h12_⟩
      have n13_ : Aside0 (gb177 ≠ gb191) := ⟨h13_⟩
      have n14_ : Aside0 (gb191 ≠ gb177) := ⟨h14_⟩
      have n15_ : Aside0 (Below w.heap.size w w34) := ⟨h15_⟩
      clear BK161
      clear BK162
      clear BK163
      clear BK177
      clear HB
      clear h0_ h1_ h2_ h3_ h4_ h5_ h6_ h7_ h8_ h9_ h10_ h11_ h12_ h13_ h14_ h15_
      have BK161 := n0_
      have BK162 := n1_
      have BK163 := n2_
      have BK177 := n3_
      have BK191 := n4_
      have GW191 := n5_
      have GE191 := n6_
      have NB161_191 := n7_
      have NB191_161 := n8_
      have NB162_191 := n9_
      have NB191_162 := n10_
      have NB163_191 := n11_
      have NB191_163 := n12_
      have NB177_191 := n13_
      have NB191_177 := n14_
      have HB := n15_
      clear n0_ n1_ n2_ n3_ n4_ n5_ n6_ n7_ n8_ n9_ n10_ n11_ n12_ n13_ n14_ n15_
      have hHeld : w34.cell? ⟨gb161, 0, none⟩ = some (.int .i64 a0_0) ∧ w34.cell? ⟨gb161, 1, none⟩ = some (.int .i64 a0_1) ∧ w34.cell? ⟨gb161, 2, none⟩ = some (.int .i64 a0_2) ∧ w34.cell? ⟨gb162, 0, none⟩ = some (.int .i64 a1_0) ∧ w34.cell? ⟨gb162, 1, none⟩ = some (.int .i64 a1_1) ∧ w34.cell? ⟨gb162, 2, none⟩ = some (.int .i64 a1_2) ∧ w34.cell? ⟨gb163, 0, none⟩ = some (.int .i64 a2_0) ∧ w34.cell? ⟨gb163, 1, none⟩ = some (.int .i64 a2_1) ∧ w34.cell? ⟨gb163, 2, none⟩ = some (.int .i64 a2_2) := hS_
      refine norm_ (a' := ?_) ?_ ?_
      rotate_left
      ·simp only [putAll, Act.put, List.setIfInBounds_toArray, List.set_cons_zero, List.set_cons_succ]
       rfl
      refine one_ (i := 6) (N := some 28) #[true, true, true, true, true, true, true, false, false, false, true, false, false] rfl rfl (one_of HT_.out (by kernel_rfl)) (by decide) (fun K hK => ?_)
      refine goes_ Try.func19 (by kernel_rfl) rfl #[.agg #[.int .i64 t178, .int .i64 t179, .int .i64 t180], .agg #[.int .i64 t181, .int .i64 t182, .int .i64 t183], .agg #[.int .i64 t184, .int .i64 t185, .int .i64 t186]] (by rfl) rfl rfl (by (try simp only [List.map_toArray, List.map_cons, List.map_nil]); first | done | rfl | (simp only [List.length_drop, List.length_take]; rfl)) ?_
      with_reducible refine (impl_Settle.calls k t178 t179 t180 t181 t182 t183 t184 t185 t186 t187 t188 t189 t190 _ A11.out).mono ?_
      rintro e w35 ⟨rfl, hb⟩
      refine ⟨_, rfl, ?_⟩
      have n0_ := Aside0.mk (blk_below (g := gb161) (o := .cells #[.int .i64 a0_0, .int .i64 a0_1, .int .i64 a0_2] 23 (0, 0)) Gv.bk hb)
      have n1_ := Aside0.mk (blk_below (g := gb162) (o := .cells #[.int .i64 a1_0, .int .i64 a1_1, .int .i64 a1_2] 23 (0, 0)) Gv.bk hb)
      have n2_ := Aside0.mk (blk_below (g := gb163) (o := .cells #[.int .i64 a2_0, .int .i64 a2_1, .int .i64 a2_2] 23 (0, 0)) Gv.bk hb)
      have n3_ := Aside0.mk (blk_below (g := gb177) (o := .cells #[.int .i64 t173, .int .i64 t174, .int .i64 t175] 26 (0, 0)) Gv.bk hb)
      have n4_ := Aside0.mk (blk_below (g := gb191) (o := .cells #[.int .i64 0, .int .i64 0, .int .i64 0] 26 (0, 0)) Gv.bk hb)
      have n5_ := Aside0.mk (below_step Gv.bw hb)
      clear BK161
      clear BK162
      clear BK163
      clear BK177
      clear BK191
      clear HB
      have BK161 := n0_
      have BK162 := n1_
      have BK163 := n2_
      have BK177 := n3_
      have BK191 := n4_
      have HB := n5_
      clear n0_ n1_ n2_ n3_ n4_ n5_
      (try clear hb)
      (try clear hb2)
      (try clear hk)
      (try clear hi)
      refine hK.out _ _ ⟨(blk_cell BK161.out 0).trans rfl, (blk_cell BK161.out 1).trans rfl, (blk_cell BK161.out 2).trans rfl, (blk_cell BK162.out 0).trans rfl, (blk_cell BK162.out 1).trans rfl, (blk_cell BK162.out 2).trans rfl, (blk_cell BK163.out 0).trans rfl, (blk_cell BK163.out 1).trans rfl, (blk_cell BK163.out 2).trans rfl⟩ (fun hHeld => ?_)
      clear hK K
      refine norm_ (a' := ?_) ?_ ?_
      rotate_left
      ·show Act.put _ (some 28) _ = _
       simp only [Act.put, List.setIfInBounds_toArray, List.set_cons_zero, List.set_cons_succ, i64_w, i32_w]
       rfl
      refine pure_ (i := 7) (N := some 21) (v := ?_) (a' := ?_) #[true, true, true, true, true, true, true, true, false, false, true, false, false] rfl rfl (any_of HT_.out (by kernel_rfl)) (fun _ _ _ h => h) (Or.inl ⟨by rfl, ?_⟩) ?_ ?_
      rotate_left
      ·intro w'
       go_simp
       with_reducible rfl
      rotate_left
      ·simp only [Act.put, List.setIfInBounds_toArray, List.set_cons_zero, List.set_cons_succ, i64_w, i32_w]
       rfl
      refine pure_ (i := 8) (N := some 29) (v := ?_) (a' := ?_) #[true, true, true, true, true, true, true, true, true, false, true, false, false] rfl rfl (any_of HT_.out (by kernel_rfl)) (fun _ _ _ h => h) (Or.inl ⟨by rfl, ?_⟩) ?_ ?_
      rotate_left
      ·intro w'
       go_simp
       with_reducible rfl
      rotate_left
      ·simp only [Act.put, List.setIfInBounds_toArray, List.set_cons_zero, List.set_cons_succ, i64_w, i32_w]
       rfl
      refine pure_ (i := 9) (N := some 30) (v := ?_) (a' := ?_) #[true, true, true, true, true, true, true, true, true, true, true, false, false] rfl rfl (any_of HT_.out (by kernel_rfl)) (fun _ _ _ h => h) (Or.inl ⟨by rfl, ?_⟩) ?_ ?_
      rotate_left
      ·intro w'
       go_simp
       with_reducible rfl
      rotate_left
      ·simp only [Act.put, List.setIfInBounds_toArray, List.set_cons_zero, List.set_cons_succ, i64_w, i32_w]
       rfl
      exact Gv.nm (hJ1_3_5_6_10 (gb191) _ ⟨hHeld, Gv.bk, Gv.bk, Gv.bk, Gv.bk, Gv.bk, GW191.out, GE191.out, NB161_191.out, NB191_161.out, NB162_191.out, NB191_162.out, NB163_191.out, NB191_163.out, NB177_191.out, NB191_177.out, Gv.bw⟩)
    ·skip
     rintro _ w34 ⟨hS_, h0_, h1_, h2_, h3_, h4_⟩
     have n0_ : Aside0 (w34.heap[gb161]? = some (.cells #[.int .i64 a0_0, .int .i64 a0_1, .int .i64 a0_2] 23 (0, 0))) := ⟨h0_⟩
     have n1_ : Aside0 (w34.heap[gb162]? = some (.cells #[.int .i64 a1_0, .int .i64 a1_1, .int .i64 a1_2] 23 (0, 0))) := ⟨h1_⟩
     have n2_ : Aside0 (w34.heap[gb163]? = some (.cells #[.int .i64 a2_0, .int .i64 a2_1, .int .i64 a2_2] 23 (0, 0))) := ⟨h2_⟩
     have n3_ : Aside0 (w34.heap[gb177]? = some (.cells #[.int .i64 t173, .int .i64 t174, .int .i64 t175] 26 (0, 0))) := ⟨h3_⟩
     have n4_ : Aside0 (Below w.heap.size w w34) := ⟨h4_⟩
     clear BK161
     clear BK162
     clear BK163
     clear BK177
     clear HB
     clear h0_ h1_ h2_ h3_ h4_
     have BK161 := n0_
     have BK162 := n1_
     have BK163 := n2_
     have BK177 := n3_
     have HB := n4_
     clear n0_ n1_ n2_ n3_ n4_
     have hHeld : w34.cell? ⟨gb161, 0, none⟩ = some (.int .i64 a0_0) ∧ w34.cell? ⟨gb161, 1, none⟩ = some (.int .i64 a0_1) ∧ w34.cell? ⟨gb161, 2, none⟩ = some (.int .i64 a0_2) ∧ w34.cell? ⟨gb162, 0, none⟩ = some (.int .i64 a1_0) ∧ w34.cell? ⟨gb162, 1, none⟩ = some (.int .i64 a1_1) ∧ w34.cell? ⟨gb162, 2, none⟩ = some (.int .i64 a1_2) ∧ w34.cell? ⟨gb163, 0, none⟩ = some (.int .i64 a2_0) ∧ w34.cell? ⟨gb163, 1, none⟩ = some (.int .i64 a2_1) ∧ w34.cell? ⟨gb163, 2, none⟩ = some (.int .i64 a2_2) := hS_
     refine norm_ (a' := ?_) ?_ ?_
     rotate_left
     ·simp only [putAll, Act.put, List.setIfInBounds_toArray, List.set_cons_zero, List.set_cons_succ]
      rfl
     refine one_ (i := 10) (N := some 9) #[true, true, true, true, true, true, true, true, true, true, true, false, false] rfl rfl (one_of HT_.out (by kernel_rfl)) (by decide) (fun K hK => ?_)
     refine box_step ?hg (N := 9) ?hd (cs := #[.int .i64 0, .int .i64 0, .int .i64 0]) (t := 26) ?hr ?_; (case hd => rfl); (case hg => rfl); (case hr => first | (go_simp; done) | (go_simp; rfl))
     intro gb191 hg w35 hbox hb
     have n0_ := Aside0.mk (blk_below (g := gb161) (o := .cells #[.int .i64 a0_0, .int .i64 a0_1, .int .i64 a0_2] 23 (0, 0)) Gv.bk hb)
     have n1_ := Aside0.mk (blk_below (g := gb162) (o := .cells #[.int .i64 a1_0, .int .i64 a1_1, .int .i64 a1_2] 23 (0, 0)) Gv.bk hb)
     have n2_ := Aside0.mk (blk_below (g := gb163) (o := .cells #[.int .i64 a2_0, .int .i64 a2_1, .int .i64 a2_2] 23 (0, 0)) Gv.bk hb)
     have n3_ := Aside0.mk (blk_below (g := gb177) (o := .cells #[.int .i64 t173, .int .i64 t174, .int .i64 t175] 26 (0, 0)) Gv.bk hb)
     have n4_ := Aside0.mk (below_step Gv.bw hb)
     have n5_ := Aside0.mk (hbox)
     have n6_ := Aside0.mk ((by rw [hg]; exact (below_size Gv.bw) : w.heap.size ≤ gb191))
     have n7_ := Aside0.mk ((by rw [hg]; exact (below_size Gv.bw) : w.heap.size ≤ gb191))
     have n8_ := Aside0.mk ((by rw [hg]; exact Nat.ne_of_lt (blk_lt (g := gb161) (o := .cells #[.int .i64 a0_0, .int .i64 a0_1, .int .i64 a0_2] 23 (0, 0)) Gv.bk) : gb161 ≠ gb191))
     have n9_ := Aside0.mk ((by rw [hg]; exact Nat.ne_of_gt (blk_lt (g := gb161) (o := .cells #[.int .i64 a0_0, .int .i64 a0_1, .int .i64 a0_2] 23 (0, 0)) Gv.bk) : gb191 ≠ gb161))
     have n10_ := Aside0.mk ((by rw [hg]; exact Nat.ne_of_lt (blk_lt (g := gb162) (o := .cells #[.int .i64 a1_0, .int .i64 a1_1, .int .i64 a1_2] 23 (0, 0)) Gv.bk) : gb162 ≠ gb191))
     have n11_ := Aside0.mk ((by rw [hg]; exact Nat.ne_of_gt (blk_lt (g := gb162) (o := .cells #[.int .i64 a1_0, .int .i64 a1_1, .int .i64 a1_2] 23 (0, 0)) Gv.bk) : gb191 ≠ gb162))
     have n12_ := Aside0.mk ((by rw [hg]; exact Nat.ne_of_lt (blk_lt (g := gb163) (o := .cells #[.int .i64 a2_0, .int .i64 a2_1, .int .i64 a2_2] 23 (0, 0)) Gv.bk) : gb163 ≠ gb191))
     have n13_ := Aside0.mk ((by rw [hg]; exact Nat.ne_of_gt (blk_lt (g := gb163) (o := .cells #[.int .i64 a2_0, .int .i64 a2_1, .int .i64 a2_2] 23 (0, 0)) Gv.bk) : gb191 ≠ gb163))
     have n14_ := Aside0.mk ((by rw [hg]; exact Nat.ne_of_lt (blk_lt (g := gb177) (o := .cells #[.int .i64 t173, .int .i64 t174, .int .i64 t175] 26 (0, 0)) Gv.bk) : gb177 ≠ gb191))
     have n15_ := Aside0.mk ((by rw [hg]; exact Nat.ne_of_gt (blk_lt (g := gb177) (o := .cells #[.int .i64 t173, .int .i64 t174, .int .i64 t175] 26 (0, 0)) Gv.bk) : gb191 ≠ gb177))
     clear BK161
     clear BK162
     clear BK163
     clear BK177
     clear HB
     have BK161 := n0_
     have BK162 := n1_
     have BK163 := n2_
     have BK177 := n3_
     have HB := n4_
     have BK191 := n5_
     have GW191 := n6_
     have GE191 := n7_
     have NB161_191 := n8_
     have NB191_161 := n9_
     have NB162_191 := n10_
     have NB191_162 := n11_
     have NB163_191 := n12_
     have NB191_163 := n13_
     have NB177_191 := n14_
     have NB191_177 := n15_
     clear n0_ n1_ n2_ n3_ n4_ n5_ n6_ n7_ n8_ n9_ n10_ n11_ n12_ n13_ n14_ n15_
     clear hb hbox hg
     refine hK.out _ _ ⟨(blk_cell BK161.out 0).trans rfl, (blk_cell BK161.out 1).trans rfl, (blk_cell BK161.out 2).trans rfl, (blk_cell BK162.out 0).trans rfl, (blk_cell BK162.out 1).trans rfl, (blk_cell BK162.out 2).trans rfl, (blk_cell BK163.out 0).trans rfl, (blk_cell BK163.out 1).trans rfl, (blk_cell BK163.out 2).trans rfl⟩ (fun hHeld => ?_)
     clear hK K
     refine norm_ (a' := ?_) ?_ ?_
     rotate_left
     ·show Act.put _ (some 9) _ = _
      simp only [Act.put, List.setIfInBounds_toArray, List.set_cons_zero, List.set_cons_succ, i64_w, i32_w]
      rfl
     exact Gv.nm (hJ1_3_5_6_10 (gb191) _ ⟨hHeld, Gv.bk, Gv.bk, Gv.bk, Gv.bk, Gv.bk, GW191.out, GE191.out, NB161_191.out, NB191_161.out, NB162_191.out, NB191_162.out, NB163_191.out, NB191_163.out, NB177_191.out, NB191_177.out, Gv.bw⟩)
   rintro gb191 w35 ⟨hS_, h0_, h1_, h2_, h3_, h4_, h5_, h6_, h7_, h8_, h9_, h10_, h11_, h12_, h13_, h14_, h15_⟩
   have n0_ : Aside0 (w35.heap[gb161]? = some (.cells #[.int .i64 a0_0, .int .i64 a0_1, .int .i64 a0_2] 23 (0, 0))) := ⟨h0_⟩
   have n1_ : Aside0 (w35.heap[gb162]? = some (.cells #[.int .i64 a1_0, .int .i64 a1_1, .int .i64 a1_2] 23 (0, 0))) := ⟨h1_⟩
   have n2_ : Aside0 (w35.heap[gb163]? = some (.cells #[.int .i64 a2_0, .int .i64 a2_1, .int .i64 a2_2] 23 (0, 0))) := ⟨h2_⟩
   have n3_ : Aside0 (w35.heap[gb177]? = some (.cells #[.int .i64 t173, .int .i64 t174, .int .i64 t175] 26 (0, 0))) := ⟨h3_⟩
   have n4_ : Aside0 (w35.heap[gb191]? = some (.cells #[.int .i64 0, .int .i64 0, .int .i64 0] 26 (0, 0))) := ⟨h4_⟩
   have n5_ : Aside0 (w.heap.size ≤ gb191) := ⟨h5_⟩
   have n6_ : Aside0 (w.heap.size ≤ gb191) := ⟨h6_⟩
   have n7_ : Aside0 (gb161 ≠ gb191) := ⟨h7_⟩
   have n8_ : Aside0 (gb191 ≠ gb161) := ⟨h8_⟩
   have n9_ : Aside0 (gb162 ≠ gb191) := ⟨h9_⟩
   have n10_ : Aside0 (gb191 ≠ gb162) := ⟨h10_⟩
   have n11_ : Aside0 (gb163 ≠ gb191) := ⟨h11_⟩
   have n12_ : Aside0 (gb191 ≠ gb163) := ⟨h12_⟩
   have n13_ : Aside0 (gb177 ≠ gb191) := ⟨h13_⟩
   have n14_ : Aside0 (gb191 ≠ gb177) := ⟨h14_⟩
   have n15_ : Aside0 (Below w.heap.size w w35) := ⟨h15_⟩
   clear BK161
   clear BK162
   clear BK163
   clear BK177
   clear HB
   clear h0_ h1_ h2_ h3_ h4_ h5_ h6_ h7_ h8_ h9_ h10_ h11_ h12_ h13_ h14_ h15_
   have BK161 := n0_
   have BK162 := n1_
   have BK163 := n2_
   have BK177 := n3_
   have BK191 := n4_
   have GW191 := n5_
   have GE191 := n6_
   have NB161_191 := n7_
   have NB191_161 := n8_
   have NB162_191 := n9_
   have NB191_162 := n10_
   have NB163_191 := n11_
   have NB191_163 := n12_
   have NB177_191 := n13_
   have NB191_177 := n14_
   have HB := n15_
   clear n0_ n1_ n2_ n3_ n4_ n5_ n6_ n7_ n8_ n9_ n10_ n11_ n12_ n13_ n14_ n15_
   have hHeld : w35.cell? ⟨gb161, 0, none⟩ = some (.int .i64 a0_0) ∧ w35.cell? ⟨gb161, 1, none⟩ = some (.int .i64 a0_1) ∧ w35.cell? ⟨gb161, 2, none⟩ = some (.int .i64 a0_2) ∧ w35.cell? ⟨gb162, 0, none⟩ = some (.int .i64 a1_0) ∧ w35.cell? ⟨gb162, 1, none⟩ = some (.int .i64 a1_1) ∧ w35.cell? ⟨gb162, 2, none⟩ = some (.int .i64 a1_2) ∧ w35.cell? ⟨gb163, 0, none⟩ = some (.int .i64 a2_0) ∧ w35.cell? ⟨gb163, 1, none⟩ = some (.int .i64 a2_1) ∧ w35.cell? ⟨gb163, 2, none⟩ = some (.int .i64 a2_2) := hS_
   refine norm_ (a' := ?_) ?_ ?_
   rotate_left
   ·simp only [putAll, Act.put, List.setIfInBounds_toArray, List.set_cons_zero, List.set_cons_succ]
    rfl
   refine one_ (i := 11) (N := none) #[true, true, true, true, true, true, true, true, true, true, true, true, false] rfl rfl (one_of HT_.out (by kernel_rfl)) (by decide) (fun K hK => ?_)
   have hs36 : w35.cell? ⟨gb191, 0, none⟩ = some (.int .i64 0) := (blk_cell BK191.out 0).trans rfl
   have hfs36 := blk_frozen BK191.out 0
   have hns36_0 := NB161_191.out
   have hns36_1 := NB162_191.out
   have hns36_2 := NB163_191.out
   have hns36_3 := NB177_191.out
   have hms36_0 := NB191_161.out
   have hms36_1 := NB191_162.out
   have hms36_2 := NB191_163.out
   have hms36_3 := NB191_177.out
   have hs37 : w35.cell? ⟨gb191, 1, none⟩ = some (.int .i64 0) := (blk_cell BK191.out 1).trans rfl
   have hfs37 := blk_frozen BK191.out 1
   have hns37_0 := NB161_191.out
   have hns37_1 := NB162_191.out
   have hns37_2 := NB163_191.out
   have hns37_3 := NB177_191.out
   have hms37_0 := NB191_161.out
   have hms37_1 := NB191_162.out
   have hms37_2 := NB191_163.out
   have hms37_3 := NB191_177.out
   have hs38 : w35.cell? ⟨gb191, 2, none⟩ = some (.int .i64 0) := (blk_cell BK191.out 2).trans rfl
   have hfs38 := blk_frozen BK191.out 2
   have hns38_0 := NB161_191.out
   have hns38_1 := NB162_191.out
   have hns38_2 := NB163_191.out
   have hns38_3 := NB177_191.out
   have hms38_0 := NB191_161.out
   have hms38_1 := NB191_162.out
   have hms38_2 := NB191_163.out
   have hms38_3 := NB191_177.out
   refine skip_ (w1 := ?_) (by rfl) rfl ?_ ?_
   rotate_left
   ·go_simp
    rfl
   refine hK.out _ _ ⟨((cell_far (p := ⟨gb191, _, none⟩) NB161_191.out _).trans (((cell_far (p := ⟨gb191, _, none⟩) NB161_191.out _).trans (((cell_far (p := ⟨gb191, _, none⟩) NB161_191.out _).trans (hHeld.1)))))), ((cell_far (p := ⟨gb191, _, none⟩) NB161_191.out _).trans (((cell_far (p := ⟨gb191, _, none⟩) NB161_191.out _).trans (((cell_far (p := ⟨gb191, _, none⟩) NB161_191.out _).trans (hHeld.2.1)))))), ((cell_far (p := ⟨gb191, _, none⟩) NB161_191.out _).trans (((cell_far (p := ⟨gb191, _, none⟩) NB161_191.out _).trans (((cell_far (p := ⟨gb191, _, none⟩) NB161_191.out _).trans (hHeld.2.2.1)))))), ((cell_far (p := ⟨gb191, _, none⟩) NB162_191.out _).trans (((cell_far (p := ⟨gb191, _, none⟩) NB162_191.out _).trans (((cell_far (p := ⟨gb191, _, none⟩) NB162_191.out _).trans (hHeld.2.2.2.1)))))), ((cell_far (p := ⟨gb191, _, none⟩) NB162_191.out _).trans (((cell_far (p := ⟨gb191, _, none⟩) NB162_191.out _).trans (((cell_far (p := ⟨gb191, _, none⟩) NB162_191.out _).trans (hHeld.2.2.2.2.1)))))), ((cell_far (p := ⟨gb191, _, none⟩) NB162_191.out _).trans (((cell_far (p := ⟨gb191, _, none⟩) NB162_191.out _).trans (((cell_far (p := ⟨gb191, _, none⟩) NB162_191.out _).trans (hHeld.2.2.2.2.2.1)))))), ((cell_far (p := ⟨gb191, _, none⟩) NB163_191.out _).trans (((cell_far (p := ⟨gb191, _, none⟩) NB163_191.out _).trans (((cell_far (p := ⟨gb191, _, none⟩) NB163_191.out _).trans (hHeld.2.2.2.2.2.2.1)))))), ((cell_far (p := ⟨gb191, _, none⟩) NB163_191.out _).trans (((cell_far (p := ⟨gb191, _, none⟩) NB163_191.out _).trans (((cell_far (p := ⟨gb191, _, none⟩) NB163_191.out _).trans (hHeld.2.2.2.2.2.2.2.1)))))), ((cell_far (p := ⟨gb191, _, none⟩) NB163_191.out _).trans (((cell_far (p := ⟨gb191, _, none⟩) NB163_191.out _).trans (((cell_far (p := ⟨gb191, _, none⟩) NB163_191.out _).trans (hHeld.2.2.2.2.2.2.2.2))))))⟩ (fun hHeld => ?_)
   clear hK K
   refine pure_ (i := 12) (N := some 10) (v := ?_) (a' := ?_) #[true, true, true, true, true, true, true, true, true, true, true, true, true] rfl rfl (any_of HT_.out (by kernel_rfl)) (fun _ _ _ h => h) (Or.inl ⟨by rfl, ?_⟩) ?_ ?_
   rotate_left
   ·intro w'
    go_simp
    with_reducible rfl
   rotate_left
   ·simp only [Act.put, List.setIfInBounds_toArray, List.set_cons_zero, List.set_cons_succ, i64_w, i32_w]
    rfl
   refine done_ (done_of HT_.out (by kernel_rfl)) ?_
   have hnb39 := NB191_161.out
   have hnc39 := NB161_191.out
   have hnb40 := NB191_162.out
   have hnc40 := NB162_191.out
   have hnb41 := NB191_163.out
   have hnc41 := NB163_191.out
   have hnb42 := NB191_177.out
   have hnc42 := NB177_191.out
   have hcz43_0 : w35.cell? ⟨gb191, 0, none⟩ = some (.int .i64 0) := (blk_cell BK191.out 0).trans rfl
   have hcz43_1 : w35.cell? ⟨gb191, 1, none⟩ = some (.int .i64 0) := (blk_cell BK191.out 1).trans rfl
   have hcz43_2 : w35.cell? ⟨gb191, 2, none⟩ = some (.int .i64 0) := (blk_cell BK191.out 2).trans rfl
   have hfz43_0 := blk_frozen BK191.out 0
   have hfz43_1 := blk_frozen BK191.out 1
   have hfz43_2 := blk_frozen BK191.out 2
   have hnb44 := NB177_161.out
   have hnc44 := NB161_177.out
   have hnb45 := NB177_162.out
   have hnc45 := NB162_177.out
   have hnb46 := NB177_163.out
   have hnc46 := NB163_177.out
   have hcz47_0 : w35.cell? ⟨gb177, 0, none⟩ = some (.int .i64 t173) := (blk_cell BK177.out 0).trans rfl
   have hcz47_1 : w35.cell? ⟨gb177, 1, none⟩ = some (.int .i64 t174) := (blk_cell BK177.out 1).trans rfl
   have hcz47_2 : w35.cell? ⟨gb177, 2, none⟩ = some (.int .i64 t175) := (blk_cell BK177.out 2).trans rfl
   have hfz47_0 := blk_frozen BK177.out 0
   have hfz47_1 := blk_frozen BK177.out 1
   have hfz47_2 := blk_frozen BK177.out 2
   try go_wp2_with (first | ((with_reducible refine gate_callee (f := 14) rfl ?_); refine goesL_ (some 33) rfl rfl Try.func14 (by kernel_rfl) rfl #[.agg #[.int .i64 t187, .int .i64 t188, .int .i64 t189], .agg #[.int .i64 t173, .int .i64 t174, .int .i64 t175]] rfl (by (try simp only [List.map_toArray, List.map_cons, List.map_nil]); first | done | rfl | (simp only [List.length_drop, List.length_take]; rfl)) ?_; (with_reducible refine (laws_eqVec.calls t187 t188 t189 t173 t174 t175 true _ A12.out).mono ?_); rintro e w48 ⟨rfl, hb⟩; refine ⟨_, rfl, ?_⟩; have n0_ := Aside0.mk (blk_below (g := gb161) (o := .cells #[.int .i64 a0_0, .int .i64 a0_1, .int .i64 a0_2] 23 (0, 0)) Gv.bkf hb); have n1_ := Aside0.mk (blk_below (g := gb162) (o := .cells #[.int .i64 a1_0, .int .i64 a1_1, .int .i64 a1_2] 23 (0, 0)) Gv.bkf hb); have n2_ := Aside0.mk (blk_below (g := gb163) (o := .cells #[.int .i64 a2_0, .int .i64 a2_1, .int .i64 a2_2] 23 (0, 0)) Gv.bkf hb); have n3_ := Aside0.mk (blk_below (g := gb177) (o := .cells #[.int .i64 t173, .int .i64 t174, .int .i64 t175] 26 (0, 0)) Gv.bkf hb); have n4_ := Aside0.mk (blk_below (g := gb191) (o := .cells #[.int .i64 t187, .int .i64 t188, .int .i64 t189] 26 (0, 0)) (by (with_reducible repeat (first | refine blk_drewN ?_ _ | refine blk_drew ?_ | refine blk_alloc ?_ _)); refine blk_put (cs := #[.int .i64 t187, .int .i64 t188, .int .i64 0]) ?_ 2 _ rfl; (with_reducible repeat (first | refine blk_drewN ?_ _ | refine blk_drew ?_ | refine blk_alloc ?_ _)); refine blk_put (cs := #[.int .i64 t187, .int .i64 0, .int .i64 0]) ?_ 1 _ rfl; (with_reducible repeat (first | refine blk_drewN ?_ _ | refine blk_drew ?_ | refine blk_alloc ?_ _)); refine blk_put (cs := #[.int .i64 0, .int .i64 0, .int .i64 0]) ?_ 0 _ rfl; (with_reducible repeat (first | refine blk_drewN ?_ _ | refine blk_drew ?_ | refine blk_alloc ?_ _)); exact BK191.out) hb); have n5_ := Aside0.mk (below_step Gv.bw hb); clear BK161; clear BK162; clear BK163; clear BK177; clear BK191; clear HB; have BK161 := n0_; have BK162 := n1_; have BK163 := n2_; have BK177 := n3_; have BK191 := n4_; have HB := n5_; clear n0_ n1_ n2_ n3_ n4_ n5_; (try clear hb); (try clear hb2); (try clear hk); (try clear hi)))
   go_ret
   exact ⟨by first | rfl | (simp [errW_none, errW_some] <;> rfl) | (simp [*, errW_none, errW_some] <;> rfl), by repeat (first | (with_reducible first | exact HB.out | apply below_alloc | apply pw_below_drewN | apply below_drew1 | refine below_set ?_ GE161.out | refine below_set ?_ GE162.out | refine below_set ?_ GE163.out | refine below_set ?_ GE177.out | refine below_set ?_ GE191.out) | exact HB.out)⟩
 ·replace c13 := Bool.eq_false_iff.mpr c13
  subst c13
  have H1 : (none) = some r := by rw [if_neg (show ¬ (false = true) by decide)] at H; exact H
  clear H
  have H := H1
  clear H1
  exact absurd H (by simp)

end Go.Proofs.Ytiokbmbdhejciaa.PSe
