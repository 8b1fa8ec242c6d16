/- Plain Lean functions of a law's Go functions, their contracts, by a program of this session (wip/pr.py over the kit's print). -/
import Derived.Test.YtfnpodebjejhpaaPTpx0
import Derived.Test.YtfnpodebjejhpaaPTpx3
import Derived.Test.YtfnpodebjejhpaaPTpx6
import Derived.Test.YtfnpodebjejhpaaPTpx8
namespace Go.Proofs.Ytfnpodebjejhpaa.PTp
open Go.RowKit Go.Proofs.YtfnpodebjejhpaaW.PrintWords Go.Proofs.YtfnpodebjejhpaaW.PrintLast Go.Proofs.YtfnpodebjejhpaaW.PrintMore
attribute [local go_sem] max2_int min2_int max_two min_two max_three min_three max_four min_four   -- for this text's walks alone
set_option linter.unusedVariables false
set_option linter.unusedSimpArgs false

/-! ### laws_FnExactTablePut: function 11 -/
def laws_FnExactTablePut.f (k : Nat) (a0_0 : Int) (l0_1 : List (S94)) (a1_0 : Int) (a1_1 : Int) (a1_2 : Int) (a1_3 : Int) (a1_4 : Int) (a1_5 : Int) (a1_6 : Int) (a1_7 : Int) (a1_8 : Int) (a1_9 : Int) (a1_10 : Int) (a1_11 : Int) (a1_12 : Int) (a1_13 : Int) (a2 : Int) : Option (Bool) := (laws_szTable.f a0_0 l0_1 1048576).bind fun t490 => (if t490 < 0 then (some true) else ((laws_toTable.f k a0_0 l0_1).bind fun bt491 => ((laws_toFlowKey.f a1_0 a1_1 a1_2 a1_3 a1_4 a1_5 a1_6 a1_7 a1_8 a1_9 a1_10 a1_11 a1_12 a1_13).bind fun bt495 => ((spec_TablePut.f k bt491.1 bt491.2 bt495.1 bt495.2.1 bt495.2.2.1 bt495.2.2.2.1 bt495.2.2.2.2.1 bt495.2.2.2.2.2.1 bt495.2.2.2.2.2.2.1 bt495.2.2.2.2.2.2.2.1 bt495.2.2.2.2.2.2.2.2.1 bt495.2.2.2.2.2.2.2.2.2.1 bt495.2.2.2.2.2.2.2.2.2.2.1 bt495.2.2.2.2.2.2.2.2.2.2.2.1 bt495.2.2.2.2.2.2.2.2.2.2.2.2.1 bt495.2.2.2.2.2.2.2.2.2.2.2.2.2 a2).bind fun bt509 => ((laws_toTable.f k a0_0 l0_1).bind fun bt515 => ((laws_toFlowKey.f a1_0 a1_1 a1_2 a1_3 a1_4 a1_5 a1_6 a1_7 a1_8 a1_9 a1_10 a1_11 a1_12 a1_13).bind fun bt520 => ((impl_TablePut.f k bt515.1 bt515.2 bt520.1 bt520.2.1 bt520.2.2.1 bt520.2.2.2.1 bt520.2.2.2.2.1 bt520.2.2.2.2.2.1 bt520.2.2.2.2.2.2.1 bt520.2.2.2.2.2.2.2.1 bt520.2.2.2.2.2.2.2.2.1 bt520.2.2.2.2.2.2.2.2.2.1 bt520.2.2.2.2.2.2.2.2.2.2.1 bt520.2.2.2.2.2.2.2.2.2.2.2.1 bt520.2.2.2.2.2.2.2.2.2.2.2.2.1 bt520.2.2.2.2.2.2.2.2.2.2.2.2.2 a2).bind fun bt534 => ((laws_eqTable.f k bt534.1 bt534.2.1 bt509.1 bt509.2.1).bind fun t540 => (if t540 = true then (if bt534.2.2 = bt509.2.2 then ((laws_toTable.f k a0_0 l0_1).bind fun bt541 => ((laws_eqTable.f k bt515.1 bt515.2 bt541.1 bt541.2).bind fun t545 => (if t545 = true then ((laws_markTable.f bt515.1 bt515.2 1).bind fun bt546 => (if bt546.1 < 0 then (none) else ((laws_eqTable.f k bt534.1 bt534.2.1 bt509.1 bt509.2.1).bind fun t548 => (if t548 = true then ((laws_markTable.f bt534.1 bt534.2.1 1).bind fun bt549 => ((laws_heldTable.f bt534.1 bt549.2 1).bind fun t551 => (if t551 < 0 then (none) else (if t551 = bt549.1 then ((laws_toTable.f k a0_0 l0_1).bind fun bt552 => ((laws_toFlowKey.f a1_0 a1_1 a1_2 a1_3 a1_4 a1_5 a1_6 a1_7 a1_8 a1_9 a1_10 a1_11 a1_12 a1_13).bind fun bt556 => ((impl_TablePut.f k bt552.1 bt552.2 bt556.1 bt556.2.1 bt556.2.2.1 bt556.2.2.2.1 bt556.2.2.2.2.1 bt556.2.2.2.2.2.1 bt556.2.2.2.2.2.2.1 bt556.2.2.2.2.2.2.2.1 bt556.2.2.2.2.2.2.2.2.1 bt556.2.2.2.2.2.2.2.2.2.1 bt556.2.2.2.2.2.2.2.2.2.2.1 bt556.2.2.2.2.2.2.2.2.2.2.2.1 bt556.2.2.2.2.2.2.2.2.2.2.2.2.1 bt556.2.2.2.2.2.2.2.2.2.2.2.2.2 a2).bind fun bt570 => ((laws_eqTable.f k bt570.1 bt570.2.1 bt509.1 bt509.2.1).bind fun t576 => (if t576 = true then (if bt570.2.2 = bt509.2.2 then ((laws_heldTable.f bt534.1 bt549.2 1).bind fun t577 => (if t577 < 0 then (none) else (if t577 = bt549.1 then (some true) else (none)))) else (none)) else (none)))))) else (none))))) else (none))))) else (none)))) else (none)) else (none))))))))))
def laws_FnExactTablePut.T5 : Bool × List (List Nat × List Nat) := (true, [([], []), ([0], [0]), ([], []), ([2, 1], [2]), ([], []), ([1, 3, 4, 3], [1, 3, 4]), ([5], [5]), ([6], [6]), ([6], [6]), ([], []), ([9, 7, 5, 0, 1, 2, 3, 4, 5, 6, 7, 9], [7, 9]), ([8, 10, 0, 1, 2, 3, 4, 5, 6, 7, 8, 9, 10], [8])])
def laws_FnExactTablePut.B5 : List Nat := [0, 1, 0, 7, 0, 31, 63, 127, 127, 0, 767, 2047]
theorem laws_FnExactTablePut.tab5 : rtab .any (opsOf Try.f11 5) = laws_FnExactTablePut.T5 := by kernel_rfl
theorem laws_FnExactTablePut.bits5 : waitsOk laws_FnExactTablePut.T5.2 laws_FnExactTablePut.B5 = true := by kernel_rfl
def laws_FnExactTablePut.T7 : Bool × List (List Nat × List Nat) := (true, [([], []), ([], []), ([1], [1]), ([], []), ([0, 2, 3, 2], [0, 2, 3]), ([4], [4]), ([5], [5]), ([5], [5]), ([], []), ([8, 6, 4, 0, 1, 2, 3, 4, 5, 6, 8], [6, 8]), ([7, 9, 0, 1, 2, 3, 4, 5, 6, 7, 8, 9], [7])])
def laws_FnExactTablePut.B7 : List Nat := [0, 0, 2, 0, 15, 31, 63, 63, 0, 383, 1023]
theorem laws_FnExactTablePut.tab7 : rtab .any (opsOf Try.f11 7) = laws_FnExactTablePut.T7 := by kernel_rfl
theorem laws_FnExactTablePut.bits7 : waitsOk laws_FnExactTablePut.T7.2 laws_FnExactTablePut.B7 = true := by kernel_rfl
def laws_FnExactTablePut.T24 : Bool × List (List Nat × List Nat) := (true, [([], []), ([0], [0]), ([], []), ([2, 1], [2]), ([], []), ([1, 3, 4, 3], [1, 3, 4]), ([5], [5]), ([6], [6]), ([6], [6]), ([], []), ([9, 7, 5, 0, 1, 2, 3, 4, 5, 6, 7, 9], [7, 9]), ([8, 10, 0, 1, 2, 3, 4, 5, 6, 7, 8, 9, 10], [8])])
def laws_FnExactTablePut.B24 : List Nat := [0, 1, 0, 7, 0, 31, 63, 127, 127, 0, 767, 2047]
theorem laws_FnExactTablePut.tab24 : rtab .any (opsOf Try.f11 24) = laws_FnExactTablePut.T24 := by kernel_rfl
theorem laws_FnExactTablePut.bits24 : waitsOk laws_FnExactTablePut.T24.2 laws_FnExactTablePut.B24 = true := by kernel_rfl
set_option maxHeartbeats 8000000 in
set_option maxRecDepth 100000 in
theorem laws_FnExactTablePut.calls (k : Nat) (a0_0 : Int) (A0_1 : Option Addr) (c0_1 : Nat) (l0_1 : List (S94)) (a1_0 : Int) (a1_1 : Int) (a1_2 : Int) (a1_3 : Int) (a1_4 : Int) (a1_5 : Int) (a1_6 : Int) (a1_7 : Int) (a1_8 : Int) (a1_9 : Int) (a1_10 : Int) (a1_11 : Int) (a1_12 : Int) (a1_13 : Int) (a2 : Int) (r : Bool) (w : World) (hr0_1 : Kd.C k94 w A0_1 l0_1.length l0_1) (hc0_1 : l0_1.length ≤ c0_1) (h : laws_FnExactTablePut.f k a0_0 l0_1 a1_0 a1_1 a1_2 a1_3 a1_4 a1_5 a1_6 a1_7 a1_8 a1_9 a1_10 a1_11 a1_12 a1_13 a2 = some r) :
  Calls Try.prog 11 #[.agg #[.int .i64 a0_0, .slice A0_1 l0_1.length c0_1], .agg #[.int .i64 a1_0, .int .i64 a1_1, .int .i64 a1_2, .int .i64 a1_3, .int .i64 a1_4, .int .i64 a1_5, .int .i64 a1_6, .int .i64 a1_7, .int .i64 a1_8, .int .i64 a1_9, .int .i64 a1_10, .int .i64 a1_11, .int .i64 a1_12, .int .i64 a1_13], .int .i64 a2] w fun e w' => e = .returned (.bool r) ∧ Below w.heap.size w w' := by
 have hu47 := Try.underlying47
 have hu27 := Try.underlying27
 have hu40 := Try.underlying40
 have HR0_1 := Gv.a0 hr0_1
 have HC0_1 := Gv.a0 hc0_1
 clear hr0_1 hc0_1
 have HB := Gv.a0 (Below.refl w.heap.size w)
 have H : ((laws_szTable.f a0_0 l0_1 1048576).bind fun t490 => (if t490 < 0 then (some true) else ((laws_toTable.f k a0_0 l0_1).bind fun bt491 => ((laws_toFlowKey.f a1_0 a1_1 a1_2 a1_3 a1_4 a1_5 a1_6 a1_7 a1_8 a1_9 a1_10 a1_11 a1_12 a1_13).bind fun bt495 => ((spec_TablePut.f k bt491.1 bt491.2 bt495.1 bt495.2.1 bt495.2.2.1 bt495.2.2.2.1 bt495.2.2.2.2.1 bt495.2.2.2.2.2.1 bt495.2.2.2.2.2.2.1 bt495.2.2.2.2.2.2.2.1 bt495.2.2.2.2.2.2.2.2.1 bt495.2.2.2.2.2.2.2.2.2.1 bt495.2.2.2.2.2.2.2.2.2.2.1 bt495.2.2.2.2.2.2.2.2.2.2.2.1 bt495.2.2.2.2.2.2.2.2.2.2.2.2.1 bt495.2.2.2.2.2.2.2.2.2.2.2.2.2 a2).bind fun bt509 => ((laws_toTable.f k a0_0 l0_1).bind fun bt515 => ((laws_toFlowKey.f a1_0 a1_1 a1_2 a1_3 a1_4 a1_5 a1_6 a1_7 a1_8 a1_9 a1_10 a1_11 a1_12 a1_13).bind fun bt520 => ((impl_TablePut.f k bt515.1 bt515.2 bt520.1 bt520.2.1 bt520.2.2.1 bt520.2.2.2.1 bt520.2.2.2.2.1 bt520.2.2.2.2.2.1 bt520.2.2.2.2.2.2.1 bt520.2.2.2.2.2.2.2.1 bt520.2.2.2.2.2.2.2.2.1 bt520.2.2.2.2.2.2.2.2.2.1 bt520.2.2.2.2.2.2.2.2.2.2.1 bt520.2.2.2.2.2.2.2.2.2.2.2.1 bt520.2.2.2.2.2.2.2.2.2.2.2.2.1 bt520.2.2.2.2.2.2.2.2.2.2.2.2.2 a2).bind fun bt534 => ((laws_eqTable.f k bt534.1 bt534.2.1 bt509.1 bt509.2.1).bind fun t540 => (if t540 = true then (if bt534.2.2 = bt509.2.2 then ((laws_toTable.f k a0_0 l0_1).bind fun bt541 => ((laws_eqTable.f k bt515.1 bt515.2 bt541.1 bt541.2).bind fun t545 => (if t545 = true then ((laws_markTable.f bt515.1 bt515.2 1).bind fun bt546 => (if bt546.1 < 0 then (none) else ((laws_eqTable.f k bt534.1 bt534.2.1 bt509.1 bt509.2.1).bind fun t548 => (if t548 = true then ((laws_markTable.f bt534.1 bt534.2.1 1).bind fun bt549 => ((laws_heldTable.f bt534.1 bt549.2 1).bind fun t551 => (if t551 < 0 then (none) else (if t551 = bt549.1 then ((laws_toTable.f k a0_0 l0_1).bind fun bt552 => ((laws_toFlowKey.f a1_0 a1_1 a1_2 a1_3 a1_4 a1_5 a1_6 a1_7 a1_8 a1_9 a1_10 a1_11 a1_12 a1_13).bind fun bt556 => ((impl_TablePut.f k bt552.1 bt552.2 bt556.1 bt556.2.1 bt556.2.2.1 bt556.2.2.2.1 bt556.2.2.2.2.1 bt556.2.2.2.2.2.1 bt556.2.2.2.2.2.2.1 bt556.2.2.2.2.2.2.2.1 bt556.2.2.2.2.2.2.2.2.1 bt556.2.2.2.2.2.2.2.2.2.1 bt556.2.2.2.2.2.2.2.2.2.2.1 bt556.2.2.2.2.2.2.2.2.2.2.2.1 bt556.2.2.2.2.2.2.2.2.2.2.2.2.1 bt556.2.2.2.2.2.2.2.2.2.2.2.2.2 a2).bind fun bt570 => ((laws_eqTable.f k bt570.1 bt570.2.1 bt509.1 bt509.2.1).bind fun t576 => (if t576 = true then (if bt570.2.2 = bt509.2.2 then ((laws_heldTable.f bt534.1 bt549.2 1).bind fun t577 => (if t577 < 0 then (none) else (if t577 = bt549.1 then (some true) else (none)))) else (none)) else (none)))))) else (none))))) else (none))))) else (none)))) else (none)) else (none))))))))))) = some r := h
 clear h
 replace H := Option.bind_eq_some_iff.mp H
 obtain ⟨t490, A40, H⟩ := H
 (try dsimp only at H)
 have A4 := Gv.a0 A40
 clear A40
 by_cases c5 : t490 < 0
 ·rw [if_pos c5] at H
  have c5b0 : decide (t490 < 0) = true := decide_eq_true c5
  clear c5
  obtain rfl := Option.some.inj H
  go_enter Try.func11, Try.ntmps11
  go_wp2_with (first | ((with_reducible refine gate_dst (N := 3) rfl ?_); refine Gv.bev 3 47 #[.int .i64 a0_0, .slice A0_1 l0_1.length c0_1] ?_; intro gb488 hg w6 hbox hb; have BK488 := Gv.a0 (hbox); have GW488 := Gv.a0 ((Gv.ble hg Gv.bw : w.heap.size ≤ gb488)); have GE488 := Gv.a0 ((Gv.ble hg Gv.bw : w.heap.size ≤ gb488)); replace HB := Gv.a0 (below_step Gv.bw hb); clear hb hbox hg) | ((with_reducible refine gate_dst (N := 4) rfl ?_); refine Gv.bev 4 27 #[.int .i64 a1_0, .int .i64 a1_1, .int .i64 a1_2, .int .i64 a1_3, .int .i64 a1_4, .int .i64 a1_5, .int .i64 a1_6, .int .i64 a1_7, .int .i64 a1_8, .int .i64 a1_9, .int .i64 a1_10, .int .i64 a1_11, .int .i64 a1_12, .int .i64 a1_13] ?_; intro gb489 hg w7 hbox hb; have BK489 := Gv.a0 (hbox); have GW489 := Gv.a0 ((Gv.ble hg Gv.bw : w.heap.size ≤ gb489)); have GE489 := Gv.a0 ((Gv.ble hg Gv.bw : w.heap.size ≤ gb489)); replace HB := Gv.a0 (below_step Gv.bw hb); have NB488_489 := Gv.a0 ((Gv.nlt hg (Gv.kb BK488.out) : gb488 ≠ gb489)); have NB489_488 := Gv.a0 ((Gv.ngt hg (Gv.kb BK488.out) : gb489 ≠ gb488)); replace BK488 := Gv.b1 BK488 hb; clear hb hbox hg; have hnb8 := NB488_489.out; have hnc8 := NB489_488.out; have hcz9_0 : w7.cell? ⟨gb488, 0, none⟩ = some (.int .i64 a0_0) := (blk_cell BK488.out 0).trans rfl; have hcz9_1 : w7.cell? ⟨gb488, 1, none⟩ = some (.slice A0_1 l0_1.length c0_1) := (blk_cell BK488.out 1).trans rfl; have hfz9_0 := blk_frozen BK488.out 0; have hfz9_1 := blk_frozen BK488.out 1) | ((with_reducible refine gate_callee (f := 23) rfl ?_); refine goesL_ (some 20) rfl rfl Try.func23 (by kernel_rfl) rfl #[.agg #[.int .i64 a0_0, .slice A0_1 l0_1.length c0_1], .int .i64 1048576] rfl Gv.lm ?_; (with_reducible refine (laws_szTable.calls a0_0 _ _ l0_1 1048576 t490 _ ?side1 ?side2 A4.out).mono ?_); (case side1 => exact Gv.sd (Kd.C_below HR0_1.out HB.out)); (case side2 => exact HC0_1.out); rintro e w10 ⟨rfl, hb⟩; refine ⟨_, rfl, ?_⟩; replace BK488 := Gv.b1 BK488 hb; replace BK489 := Gv.b1 BK489 hb; replace HB := Gv.a0 (below_step Gv.bw hb); clear hb))
  go_ret
  exact ⟨Gv.rt, Gv.bw⟩
 ·rw [if_neg c5] at H
  have c5b0 : decide (t490 < 0) = false := decide_eq_false c5
  clear c5
  replace H := Option.bind_eq_some_iff.mp H
  obtain ⟨⟨t491, t492⟩, A110, H⟩ := H
  (try dsimp only at H)
  have A11 := Gv.a0 A110
  clear A110
  replace H := Option.bind_eq_some_iff.mp H
  obtain ⟨⟨t495, t496, t497, t498, t499, t500, t501, t502, t503, t504, t505, t506, t507, t508⟩, A120, H⟩ := H
  (try dsimp only at H)
  have A12 := Gv.a0 A120
  clear A120
  replace H := Option.bind_eq_some_iff.mp H
  obtain ⟨⟨t509, t510, t513⟩, A130, H⟩ := H
  (try dsimp only at H)
  have A13 := Gv.a0 A130
  clear A130
  replace H := Option.bind_eq_some_iff.mp H
  obtain ⟨⟨t515, t516⟩, A140, H⟩ := H
  (try dsimp only at H)
  have A14 := Gv.a0 A140
  clear A140
  replace H := Option.bind_eq_some_iff.mp H
  obtain ⟨⟨t520, t521, t522, t523, t524, t525, t526, t527, t528, t529, t530, t531, t532, t533⟩, A150, H⟩ := H
  (try dsimp only at H)
  have A15 := Gv.a0 A150
  clear A150
  replace H := Option.bind_eq_some_iff.mp H
  obtain ⟨⟨t534, t535, t538⟩, A160, H⟩ := H
  (try dsimp only at H)
  have A16 := Gv.a0 A160
  clear A160
  replace H := Option.bind_eq_some_iff.mp H
  obtain ⟨t540, A170, H⟩ := H
  (try dsimp only at H)
  have A17 := Gv.a0 A170
  clear A170
  by_cases c18 : t540 = true
  rotate_left
  ·replace c18 := Bool.eq_false_iff.mpr c18
   subst c18
   rw [if_neg (show ¬ (false = true) by decide)] at H
   (try dsimp only at H)
   exact absurd H (by simp)

  subst c18
  rw [if_pos rfl] at H
  (try dsimp only at H)
  by_cases c19 : t538 = t513
  rotate_left
  ·rw [if_neg c19] at H
   exact absurd H (by simp)
  rw [if_pos c19] at H
  have c19b0 : (t538 == t513) = true := beq_iff_eq.mpr c19
  have c19b1 : (t538 != t513) = false := bne_eq_false_iff_eq.mpr c19
  clear c19
  replace H := Option.bind_eq_some_iff.mp H
  obtain ⟨⟨t541, t542⟩, A200, H⟩ := H
  (try dsimp only at H)
  have A20 := Gv.a0 A200
  clear A200
  replace H := Option.bind_eq_some_iff.mp H
  obtain ⟨t545, A210, H⟩ := H
  (try dsimp only at H)
  have A21 := Gv.a0 A210
  clear A210
  by_cases c22 : t545 = true
  rotate_left
  ·replace c22 := Bool.eq_false_iff.mpr c22
   subst c22
   rw [if_neg (show ¬ (false = true) by decide)] at H
   (try dsimp only at H)
   exact absurd H (by simp)
  subst c22
  rw [if_pos rfl] at H
  (try dsimp only at H)
  replace H := Option.bind_eq_some_iff.mp H
  obtain ⟨⟨t546, t547⟩, A230, H⟩ := H
  (try dsimp only at H)
  have A23 := Gv.a0 A230
  clear A230
  by_cases c24 : t546 < 0
  ·rw [if_pos c24] at H
   exact absurd H (by simp)
  ·rw [if_neg c24] at H
   have c24b0 : decide (t546 < 0) = false := decide_eq_false c24
   clear c24
   replace H := Option.bind_eq_some_iff.mp H
   obtain ⟨t548, A250, H⟩ := H
   (try dsimp only at H)
   have A25 := Gv.a0 A250
   clear A250
   by_cases c26 : t548 = true
   rotate_left
   ·replace c26 := Bool.eq_false_iff.mpr c26
    subst c26
    rw [if_neg (show ¬ (false = true) by decide)] at H
    (try dsimp only at H)
    exact absurd H (by simp)
   subst c26
   rw [if_pos rfl] at H
   (try dsimp only at H)
   replace H := Option.bind_eq_some_iff.mp H
   obtain ⟨⟨t549, t550⟩, A270, H⟩ := H
   (try dsimp only at H)
   have A27 := Gv.a0 A270
   clear A270
   replace H := Option.bind_eq_some_iff.mp H
   obtain ⟨t551, A280, H⟩ := H
   (try dsimp only at H)
   have A28 := Gv.a0 A280
   clear A280
   by_cases c29 : t551 < 0
   ·rw [if_pos c29] at H
    exact absurd H (by simp)
   ·rw [if_neg c29] at H
    have c29b0 : decide (t551 < 0) = false := decide_eq_false c29
    clear c29
    by_cases c30 : t551 = t549
    rotate_left
    ·rw [if_neg c30] at H
     exact absurd H (by simp)
    rw [if_pos c30] at H
    have c30b0 : (t551 == t549) = true := beq_iff_eq.mpr c30
    have c30b1 : (t551 != t549) = false := bne_eq_false_iff_eq.mpr c30
    clear c30
    replace H := Option.bind_eq_some_iff.mp H
    obtain ⟨⟨t552, t553⟩, A310, H⟩ := H
    (try dsimp only at H)
    have A31 := Gv.a0 A310
    clear A310
    replace H := Option.bind_eq_some_iff.mp H
    obtain ⟨⟨t556, t557, t558, t559, t560, t561, t562, t563, t564, t565, t566, t567, t568, t569⟩, A320, H⟩ := H
    (try dsimp only at H)
    have A32 := Gv.a0 A320
    clear A320
    replace H := Option.bind_eq_some_iff.mp H
    obtain ⟨⟨t570, t571, t574⟩, A330, H⟩ := H
    (try dsimp only at H)
    have A33 := Gv.a0 A330
    clear A330
    replace H := Option.bind_eq_some_iff.mp H
    obtain ⟨t576, A340, H⟩ := H
    (try dsimp only at H)
    have A34 := Gv.a0 A340
    clear A340
    by_cases c35 : t576 = true
    rotate_left
    ·replace c35 := Bool.eq_false_iff.mpr c35
     subst c35
     rw [if_neg (show ¬ (false = true) by decide)] at H
     (try dsimp only at H)
     exact absurd H (by simp)
    subst c35
    rw [if_pos rfl] at H
    (try dsimp only at H)
    by_cases c36 : t574 = t513
    rotate_left
    ·rw [if_neg c36] at H
     exact absurd H (by simp)
    rw [if_pos c36] at H
    have c36b0 : (t574 == t513) = true := beq_iff_eq.mpr c36
    have c36b1 : (t574 != t513) = false := bne_eq_false_iff_eq.mpr c36
    clear c36
    replace H := Option.bind_eq_some_iff.mp H
    obtain ⟨t577, A370, H⟩ := H
    (try dsimp only at H)
    have A37 := Gv.a0 A370
    clear A370
    by_cases c38 : t577 < 0
    ·rw [if_pos c38] at H
     exact absurd H (by simp)
    ·rw [if_neg c38] at H
     have c38b0 : decide (t577 < 0) = false := decide_eq_false c38
     clear c38
     by_cases c39 : t577 = t549
     rotate_left
     ·rw [if_neg c39] at H
      exact absurd H (by simp)
     rw [if_pos c39] at H
     have c39b0 : (t577 == t549) = true := beq_iff_eq.mpr c39
     have c39b1 : (t577 != t549) = false := bne_eq_false_iff_eq.mpr c39
     clear c39
     obtain rfl := Option.some.inj H
     go_enter Try.func11, Try.ntmps11
     try go_wp2_with (first | ((with_reducible refine gate_dst (N := 3) rfl ?_); refine Gv.bev 3 47 #[.int .i64 a0_0, .slice A0_1 l0_1.length c0_1] ?_; intro gb488 hg w40 hbox hb; have BK488 := Gv.a0 (hbox); have GW488 := Gv.a0 ((Gv.ble hg Gv.bw : w.heap.size ≤ gb488)); have GE488 := Gv.a0 ((Gv.ble hg Gv.bw : w.heap.size ≤ gb488)); replace HB := Gv.a0 (below_step Gv.bw hb); clear hb hbox hg) | ((with_reducible refine gate_dst (N := 4) rfl ?_); refine Gv.bev 4 27 #[.int .i64 a1_0, .int .i64 a1_1, .int .i64 a1_2, .int .i64 a1_3, .int .i64 a1_4, .int .i64 a1_5, .int .i64 a1_6, .int .i64 a1_7, .int .i64 a1_8, .int .i64 a1_9, .int .i64 a1_10, .int .i64 a1_11, .int .i64 a1_12, .int .i64 a1_13] ?_; intro gb489 hg w41 hbox hb; have BK489 := Gv.a0 (hbox); have GW489 := Gv.a0 ((Gv.ble hg Gv.bw : w.heap.size ≤ gb489)); have GE489 := Gv.a0 ((Gv.ble hg Gv.bw : w.heap.size ≤ gb489)); replace HB := Gv.a0 (below_step Gv.bw hb); have NB488_489 := Gv.a0 ((Gv.nlt hg (Gv.kb BK488.out) : gb488 ≠ gb489)); have NB489_488 := Gv.a0 ((Gv.ngt hg (Gv.kb BK488.out) : gb489 ≠ gb488)); replace BK488 := Gv.b1 BK488 hb; clear hb hbox hg; have hnb42 := NB488_489.out; have hnc42 := NB489_488.out; have hcz43_0 : w41.cell? ⟨gb488, 0, none⟩ = some (.int .i64 a0_0) := (blk_cell BK488.out 0).trans rfl; have hcz43_1 : w41.cell? ⟨gb488, 1, none⟩ = some (.slice A0_1 l0_1.length c0_1) := (blk_cell BK488.out 1).trans rfl; have hfz43_0 := blk_frozen BK488.out 0; have hfz43_1 := blk_frozen BK488.out 1) | ((with_reducible refine gate_callee (f := 23) rfl ?_); refine goesL_ (some 20) rfl rfl Try.func23 (by kernel_rfl) rfl #[.agg #[.int .i64 a0_0, .slice A0_1 l0_1.length c0_1], .int .i64 1048576] rfl Gv.lm ?_; (with_reducible refine (laws_szTable.calls a0_0 _ _ l0_1 1048576 t490 _ ?side1 ?side2 A4.out).mono ?_); (case side1 => exact Gv.sd (Kd.C_below HR0_1.out HB.out)); (case side2 => exact HC0_1.out); rintro e w44 ⟨rfl, hb⟩; refine ⟨_, rfl, ?_⟩; replace BK488 := Gv.b1 BK488 hb; replace BK489 := Gv.b1 BK489 hb; replace HB := Gv.a0 (below_step Gv.bw hb); clear hb))
     replace BK488 := Gv.a0 (blk_drew BK488.out)
     replace BK489 := Gv.a0 (blk_drew BK489.out)
     replace HB := Gv.a0 (below_drew1 HB.out)
     refine start_ (n := 12) (S := fun w' => w'.cell? ⟨gb488, 0, none⟩ = some (.int .i64 a0_0) ∧ w'.cell? ⟨gb488, 1, none⟩ = some (.slice A0_1 l0_1.length c0_1) ∧ w'.cell? ⟨gb489, 0, none⟩ = some (.int .i64 a1_0) ∧ w'.cell? ⟨gb489, 1, none⟩ = some (.int .i64 a1_1) ∧ w'.cell? ⟨gb489, 2, none⟩ = some (.int .i64 a1_2) ∧ w'.cell? ⟨gb489, 3, none⟩ = some (.int .i64 a1_3) ∧ w'.cell? ⟨gb489, 4, none⟩ = some (.int .i64 a1_4) ∧ w'.cell? ⟨gb489, 5, none⟩ = some (.int .i64 a1_5) ∧ w'.cell? ⟨gb489, 6, none⟩ = some (.int .i64 a1_6) ∧ w'.cell? ⟨gb489, 7, none⟩ = some (.int .i64 a1_7) ∧ w'.cell? ⟨gb489, 8, none⟩ = some (.int .i64 a1_8) ∧ w'.cell? ⟨gb489, 9, none⟩ = some (.int .i64 a1_9) ∧ w'.cell? ⟨gb489, 10, none⟩ = some (.int .i64 a1_10) ∧ w'.cell? ⟨gb489, 11, none⟩ = some (.int .i64 a1_11) ∧ w'.cell? ⟨gb489, 12, none⟩ = some (.int .i64 a1_12) ∧ w'.cell? ⟨gb489, 13, none⟩ = some (.int .i64 a1_13)) (ds := []) #[false, false, false, false, false, false, false, false, false, false, false, false] (by kernel_rfl) rfl rfl ⟨Gv.q BK488.out, Gv.q BK488.out, Gv.q BK489.out, Gv.q BK489.out, Gv.q BK489.out, Gv.q BK489.out, Gv.q BK489.out, Gv.q BK489.out, Gv.q BK489.out, Gv.q BK489.out, Gv.q BK489.out, Gv.q BK489.out, Gv.q BK489.out, Gv.q BK489.out, Gv.q BK489.out, Gv.q BK489.out⟩ (fun hHeld => ?_); refine with_tabW laws_FnExactTablePut.tab5 laws_FnExactTablePut.bits5 (fun HT_ HW_ => ?_)
     generalize w44.drew = w45 at BK488 BK489 HB hHeld ⊢
     refine Gv.pu 4 (some 28) HT_ ?_
     refine take_ (i := 0) (N := some 24) (v := ?_) (a' := ?_) #[true, false, false, false, true, false, false, false, false, false, false, false] rfl rfl (take_ofW HT_.out HW_.out (by kernel_rfl)) (fun _ _ _ h => h) (Or.inl ⟨by rfl, ?_⟩) hHeld ?_ ?_
     rotate_left
     ·rintro w' ⟨s0, s1, s2, s3, s4, s5, s6, s7, s8, s9, s10, s11, s12, s13, s14, s15⟩
      first | ((refine Gv.load_run (t := 27) (A := ⟨gb489, 0, none⟩) (cs := [_, _, _, _, _, _, _, _, _, _, _, _, _, _]) (x := ?xx29_) ?ho29_ ?hx29_ ⟨s2, s3, s4, s5, s6, s7, s8, s9, s10, s11, s12, s13, s14, s15, trivial⟩ Try.underlying27 rfl (by kernel_rfl)); (case ho29_ => rfl); (case hx29_ => rfl)) | (go_simp; with_reducible rfl)
     rotate_left
     ·simp only [Act.put, List.setIfInBounds_toArray, List.set_cons_zero, List.set_cons_succ, i64_w, i32_w]
      rfl
     refine take_ (i := 2) (N := some 26) (v := ?_) (a' := ?_) #[true, false, true, false, true, false, false, false, false, false, false, false] rfl rfl (take_ofW HT_.out HW_.out (by kernel_rfl)) (fun _ _ _ h => h) (Or.inl ⟨by rfl, ?_⟩) hHeld ?_ ?_
     rotate_left
     ·rintro w' ⟨s0, s1, s2, s3, s4, s5, s6, s7, s8, s9, s10, s11, s12, s13, s14, s15⟩
      first | ((refine Gv.load_run (t := 27) (A := ⟨gb489, 0, none⟩) (cs := [_, _, _, _, _, _, _, _, _, _, _, _, _, _]) (x := ?xx31_) ?ho31_ ?hx31_ ⟨s2, s3, s4, s5, s6, s7, s8, s9, s10, s11, s12, s13, s14, s15, trivial⟩ Try.underlying27 rfl (by kernel_rfl)); (case ho31_ => rfl); (case hx31_ => rfl)) | (go_simp; with_reducible rfl)
     rotate_left
     ·simp only [Act.put, List.setIfInBounds_toArray, List.set_cons_zero, List.set_cons_succ, i64_w, i32_w]
      rfl
     refine join_ (σ := Value × Value × Nat) 2 #[true, true, true, true, true, true, true, true, true, true, false, false] (fun s_ => [(25, .agg #[.int .i64 t491, s_.1]), (27, .agg #[.int .i64 t495, .int .i64 t496, .int .i64 t497, .int .i64 t498, .int .i64 t499, .int .i64 t500, .int .i64 t501, .int .i64 t502, .int .i64 t503, .int .i64 t504, .int .i64 t505, .int .i64 t506, .int .i64 t507, .int .i64 t508]), (29, .tuple #[.agg #[.int .i64 t509, s_.2.1], .int .i64 t513]), (8, .pointer (some ⟨s_.2.2, 0, none⟩)), (23, .tuple #[.agg #[.int .i64 t509, s_.2.1], .int .i64 t513]), (30, .agg #[.int .i64 t509, s_.2.1]), (31, .int .i64 t513)]) (fun s_ w' => (w'.cell? ⟨gb488, 0, none⟩ = some (.int .i64 a0_0) ∧ w'.cell? ⟨gb488, 1, none⟩ = some (.slice A0_1 l0_1.length c0_1) ∧ w'.cell? ⟨gb489, 0, none⟩ = some (.int .i64 a1_0) ∧ w'.cell? ⟨gb489, 1, none⟩ = some (.int .i64 a1_1) ∧ w'.cell? ⟨gb489, 2, none⟩ = some (.int .i64 a1_2) ∧ w'.cell? ⟨gb489, 3, none⟩ = some (.int .i64 a1_3) ∧ w'.cell? ⟨gb489, 4, none⟩ = some (.int .i64 a1_4) ∧ w'.cell? ⟨gb489, 5, none⟩ = some (.int .i64 a1_5) ∧ w'.cell? ⟨gb489, 6, none⟩ = some (.int .i64 a1_6) ∧ w'.cell? ⟨gb489, 7, none⟩ = some (.int .i64 a1_7) ∧ w'.cell? ⟨gb489, 8, none⟩ = some (.int .i64 a1_8) ∧ w'.cell? ⟨gb489, 9, none⟩ = some (.int .i64 a1_9) ∧ w'.cell? ⟨gb489, 10, none⟩ = some (.int .i64 a1_10) ∧ w'.cell? ⟨gb489, 11, none⟩ = some (.int .i64 a1_11) ∧ w'.cell? ⟨gb489, 12, none⟩ = some (.int .i64 a1_12) ∧ w'.cell? ⟨gb489, 13, none⟩ = some (.int .i64 a1_13)) ∧ (Kd.R k75 75 w' w.heap.size (fun k_ => some k_ ≠ (s_.2.1 : Value).ownBlock) s_.1 t492) ∧ (Kd.R k75 75 w' w.heap.size (fun k_ => some k_ ≠ (s_.1 : Value).ownBlock) s_.2.1 t510) ∧ (w'.heap[gb488]? = some (.cells #[.int .i64 a0_0, .slice A0_1 l0_1.length c0_1] 47 (0, 0))) ∧ (w'.heap[gb489]? = some (.cells #[.int .i64 a1_0, .int .i64 a1_1, .int .i64 a1_2, .int .i64 a1_3, .int .i64 a1_4, .int .i64 a1_5, .int .i64 a1_6, .int .i64 a1_7, .int .i64 a1_8, .int .i64 a1_9, .int .i64 a1_10, .int .i64 a1_11, .int .i64 a1_12, .int .i64 a1_13] 27 (0, 0))) ∧ (w'.heap[s_.2.2]? = some (.cells #[.int .i64 0, .slice none 0 0] 40 (0, 0))) ∧ (w.heap.size ≤ s_.2.2) ∧ (w.heap.size ≤ s_.2.2) ∧ (gb488 ≠ s_.2.2) ∧ (s_.2.2 ≠ gb488) ∧ (gb489 ≠ s_.2.2) ∧ (s_.2.2 ≠ gb489) ∧ (Below w.heap.size w w')) ?_ ?_
     rotate_left
     ·intro hCont
      refine two_ (i := 1) (j := 9) (Ni := some 25) (Nj := some 8) #[true, true, true, false, true, false, false, false, false, false, false, false] #[true, false, true, false, true, false, false, false, false, true, false, false] rfl rfl rfl rfl (two_of HT_.out (by kernel_rfl)) (by decide) (by decide) (fun K hK => ?_) (fun K hK => ?_)
      ·skip
       refine goes_ Try.func25 (by kernel_rfl) rfl #[.agg #[.int .i64 a0_0, .slice A0_1 l0_1.length c0_1]] (by rfl) rfl rfl Gv.lm ?_
       with_reducible refine (laws_toTable.calls k a0_0 _ _ l0_1 t491 t492 _ ?side1 ?side2 A11.out).mono ?_
       (case side1 => exact Gv.sd (Kd.C_below HR0_1.out HB.out))
       (case side2 => exact HC0_1.out)
       rintro e w46 ⟨v493, rfl, ho0, hb⟩
       refine ⟨_, rfl, ?_⟩
       have HO494 := Gv.a0 (Kd.R_lower ho0 (below_size HB.out))
       replace BK488 := Gv.b1 BK488 hb
       replace BK489 := Gv.b1 BK489 hb
       replace HB := Gv.a0 (below_step HB.out hb)
       (try clear hb)
       (try clear hb2)
       (try clear hk)
       (try clear hi)
       (try clear ho0)
       refine hK.out _ _ ⟨Gv.q BK488.out, Gv.q BK488.out, Gv.q BK489.out, Gv.q BK489.out, Gv.q BK489.out, Gv.q BK489.out, Gv.q BK489.out, Gv.q BK489.out, Gv.q BK489.out, Gv.q BK489.out, Gv.q BK489.out, Gv.q BK489.out, Gv.q BK489.out, Gv.q BK489.out, Gv.q BK489.out, Gv.q BK489.out⟩ (fun hHeld => ?_)
       clear hK K
       refine norm_ (a' := ?_) ?_ ?_
       rotate_left
       ·show Act.put _ (some 25) _ = _
        simp only [Act.put, List.setIfInBounds_toArray, List.set_cons_zero, List.set_cons_succ, i64_w, i32_w]
        rfl
       refine two_ (i := 3) (j := 9) (Ni := some 27) (Nj := some 8) #[true, true, true, true, true, false, false, false, false, false, false, false] #[true, true, true, false, true, false, false, false, false, true, false, false] rfl rfl rfl rfl (two_of HT_.out (by kernel_rfl)) (by decide) (by decide) (fun K hK => ?_) (fun K hK => ?_)
       ·skip
        refine goes_ Try.func14 (by kernel_rfl) rfl #[.agg #[.int .i64 a1_0, .int .i64 a1_1, .int .i64 a1_2, .int .i64 a1_3, .int .i64 a1_4, .int .i64 a1_5, .int .i64 a1_6, .int .i64 a1_7, .int .i64 a1_8, .int .i64 a1_9, .int .i64 a1_10, .int .i64 a1_11, .int .i64 a1_12, .int .i64 a1_13]] (by rfl) rfl rfl Gv.lm ?_
        with_reducible refine (laws_toFlowKey.calls a1_0 a1_1 a1_2 a1_3 a1_4 a1_5 a1_6 a1_7 a1_8 a1_9 a1_10 a1_11 a1_12 a1_13 t495 t496 t497 t498 t499 t500 t501 t502 t503 t504 t505 t506 t507 t508 _ A12.out).mono ?_
        rintro e w47 ⟨rfl, hb⟩
        refine ⟨_, rfl, ?_⟩
        replace HO494 := Gv.a0 (Kd.R_below HO494.out hb)
        replace BK488 := Gv.b1 BK488 hb
        replace BK489 := Gv.b1 BK489 hb
        replace HB := Gv.a0 (below_step HB.out hb)
        (try clear hb)
        (try clear hb2)
        (try clear hk)
        (try clear hi)
        obtain ⟨Ao48, co48, eo48⟩ := Kd.R_slice HO494.out
        (first | subst eo48 | (injection eo48 with f1_ f2_ f3_; have f4_ := f1_.symm; have f5_ := f3_.symm; clear f1_ f2_ f3_; subst f4_; subst f5_))
        refine hK.out _ _ ⟨Gv.q BK488.out, Gv.q BK488.out, Gv.q BK489.out, Gv.q BK489.out, Gv.q BK489.out, Gv.q BK489.out, Gv.q BK489.out, Gv.q BK489.out, Gv.q BK489.out, Gv.q BK489.out, Gv.q BK489.out, Gv.q BK489.out, Gv.q BK489.out, Gv.q BK489.out, Gv.q BK489.out, Gv.q BK489.out⟩ (fun hHeld => ?_)
        clear hK K
        refine norm_ (a' := ?_) ?_ ?_
        rotate_left
        ·show Act.put _ (some 27) _ = _
         simp only [Act.put, List.setIfInBounds_toArray, List.set_cons_zero, List.set_cons_succ, i64_w, i32_w]
         rfl
        refine two_ (i := 5) (j := 9) (Ni := some 29) (Nj := some 8) #[true, true, true, true, true, true, false, false, false, false, false, false] #[true, true, true, true, true, false, false, false, false, true, false, false] rfl rfl rfl rfl (two_of HT_.out (by kernel_rfl)) (by decide) (by decide) (fun K hK => ?_) (fun K hK => ?_)
        ·skip
         refine goes_ Try.func38 (by kernel_rfl) rfl #[.agg #[.int .i64 t491, .slice Ao48 t492.length co48], .agg #[.int .i64 t495, .int .i64 t496, .int .i64 t497, .int .i64 t498, .int .i64 t499, .int .i64 t500, .int .i64 t501, .int .i64 t502, .int .i64 t503, .int .i64 t504, .int .i64 t505, .int .i64 t506, .int .i64 t507, .int .i64 t508], .int .i64 a2] (by rfl) rfl rfl Gv.lm ?_
         with_reducible refine (spec_TablePut.calls k t491 _ _ t492 t495 t496 t497 t498 t499 t500 t501 t502 t503 t504 t505 t506 t507 t508 a2 t509 t510 t513 _ ?side1 ?side2 A13.out).mono ?_
         (case side1 => repeat (first | exact (Kd.R_reads' HO494.out).2.2 | (with_reducible refine Kd.C_alloc ?_ _) | (with_reducible refine Kd.C_drewN ?_ _) | (with_reducible refine Kd.C_drew ?_)))
         (case side2 => exact (Kd.R_reads' HO494.out).2.1)
         rintro e w49 ⟨v511, rfl, ho0, hb⟩
         refine ⟨_, rfl, ?_⟩
         have HO512 := Gv.a0 (Kd.R_lower (Kd.R_new' ho0 (Kd.R_lt HO494.out)) (below_size HB.out))
         replace HO494 := Gv.a0 (Kd.R_elder' HO494.out (Kd.R_base ho0) hb)
         replace BK488 := Gv.b1 BK488 hb
         replace BK489 := Gv.b1 BK489 hb
         replace HB := Gv.a0 (below_step HB.out hb)
         (try clear hb)
         (try clear hb2)
         (try clear hk)
         (try clear hi)
         (try clear ho0)
         refine hK.out _ _ ⟨Gv.q BK488.out, Gv.q BK488.out, Gv.q BK489.out, Gv.q BK489.out, Gv.q BK489.out, Gv.q BK489.out, Gv.q BK489.out, Gv.q BK489.out, Gv.q BK489.out, Gv.q BK489.out, Gv.q BK489.out, Gv.q BK489.out, Gv.q BK489.out, Gv.q BK489.out, Gv.q BK489.out, Gv.q BK489.out⟩ (fun hHeld => ?_)
         clear hK K
         refine norm_ (a' := ?_) ?_ ?_
         rotate_left
         ·show Act.put _ (some 29) _ = _
          simp only [Act.put, List.setIfInBounds_toArray, List.set_cons_zero, List.set_cons_succ, i64_w, i32_w]
          rfl
         refine Gv.pu 6 (some 23) HT_ ?_
         refine Gv.pu 7 (some 30) HT_ ?_
         refine Gv.pu 8 (some 31) HT_ ?_
         refine one_ (i := 9) (N := some 8) #[true, true, true, true, true, true, true, true, true, true, false, false] rfl rfl (one_of HT_.out (by kernel_rfl)) (by decide) (fun K hK => ?_)
         refine box_step ?hg (N := 8) ?hd (cs := #[.int .i64 0, .slice none 0 0]) (t := 40) ?hr ?_; (case hd => rfl); (case hg => rfl); (case hr => first | (go_simp; done) | (go_simp; rfl))
         intro gb514 hg w50 hbox hb
         replace HO494 := Gv.a0 (Kd.R_below HO494.out hb)
         replace HO512 := Gv.a0 (Kd.R_below HO512.out hb)
         have BK514 := Gv.a0 (hbox)
         have GW514 := Gv.a0 (Gv.ble hg HB.out : w.heap.size ≤ gb514)
         have GE514 := Gv.a0 (Gv.ble hg HB.out : w.heap.size ≤ gb514)
         replace HB := Gv.a0 (below_step HB.out hb)
         have NB488_514 := Gv.a0 (Gv.nlt hg BK488.out : gb488 ≠ gb514)
         have NB514_488 := Gv.a0 (Gv.ngt hg BK488.out : gb514 ≠ gb488)
         replace BK488 := Gv.b1 BK488 hb
         have NB489_514 := Gv.a0 (Gv.nlt hg BK489.out : gb489 ≠ gb514)
         have NB514_489 := Gv.a0 (Gv.ngt hg BK489.out : gb514 ≠ gb489)
         replace BK489 := Gv.b1 BK489 hb
         clear hb hbox hg
         refine hK.out _ _ ⟨Gv.q BK488.out, Gv.q BK488.out, Gv.q BK489.out, Gv.q BK489.out, Gv.q BK489.out, Gv.q BK489.out, Gv.q BK489.out, Gv.q BK489.out, Gv.q BK489.out, Gv.q BK489.out, Gv.q BK489.out, Gv.q BK489.out, Gv.q BK489.out, Gv.q BK489.out, Gv.q BK489.out, Gv.q BK489.out⟩ (fun hHeld => ?_)
         clear hK K
         refine norm_ (a' := ?_) ?_ ?_
         rotate_left
         ·show Act.put _ (some 8) _ = _
          simp only [Act.put, List.setIfInBounds_toArray, List.set_cons_zero, List.set_cons_succ, i64_w, i32_w]
          rfl
         exact norm_ (by simp only [putAll, Act.put, List.setIfInBounds_toArray, List.set_cons_zero, List.set_cons_succ]) (hCont (.slice Ao48 t492.length co48, v511, gb514) _ ⟨hHeld, (by (with_reducible repeat (first | apply Kd.R_alloc | apply Kd.R_drewN | apply Kd.R_drew)); exact Kd.R_mono HO494.out (fun _ hk => hk.2)), (by (with_reducible repeat (first | apply Kd.R_alloc | apply Kd.R_drewN | apply Kd.R_drew)); exact Kd.R_mono HO512.out (fun _ hk => hk.2)), BK488.out, BK489.out, BK514.out, GW514.out, GE514.out, NB488_514.out, NB514_488.out, NB489_514.out, NB514_489.out, HB.out⟩)
        ·skip
         refine box_step ?hg (N := 8) ?hd (cs := #[.int .i64 0, .slice none 0 0]) (t := 40) ?hr ?_; (case hd => rfl); (case hg => rfl); (case hr => first | (go_simp; done) | (go_simp; rfl))
         intro gb514 hg w48 hbox hb
         replace HO494 := Gv.a0 (Kd.R_below HO494.out hb)
         have BK514 := Gv.a0 (hbox)
         have GW514 := Gv.a0 (Gv.ble hg HB.out : w.heap.size ≤ gb514)
         have GE514 := Gv.a0 (Gv.ble hg HB.out : w.heap.size ≤ gb514)
         replace HB := Gv.a0 (below_step HB.out hb)
         have NB488_514 := Gv.a0 (Gv.nlt hg BK488.out : gb488 ≠ gb514)
         have NB514_488 := Gv.a0 (Gv.ngt hg BK488.out : gb514 ≠ gb488)
         replace BK488 := Gv.b1 BK488 hb
         have NB489_514 := Gv.a0 (Gv.nlt hg BK489.out : gb489 ≠ gb514)
         have NB514_489 := Gv.a0 (Gv.ngt hg BK489.out : gb514 ≠ gb489)
         replace BK489 := Gv.b1 BK489 hb
         clear hb hbox hg
         obtain ⟨Ao49, co49, eo49⟩ := Kd.R_slice HO494.out
         (first | subst eo49 | (injection eo49 with f1_ f2_ f3_; have f4_ := f1_.symm; have f5_ := f3_.symm; clear f1_ f2_ f3_; subst f4_; subst f5_))
         refine hK.out _ _ ⟨Gv.q BK488.out, Gv.q BK488.out, Gv.q BK489.out, Gv.q BK489.out, Gv.q BK489.out, Gv.q BK489.out, Gv.q BK489.out, Gv.q BK489.out, Gv.q BK489.out, Gv.q BK489.out, Gv.q BK489.out, Gv.q BK489.out, Gv.q BK489.out, Gv.q BK489.out, Gv.q BK489.out, Gv.q BK489.out⟩ (fun hHeld => ?_)
         clear hK K
         refine norm_ (a' := ?_) ?_ ?_
         rotate_left
         ·show Act.put _ (some 8) _ = _
          simp only [Act.put, List.setIfInBounds_toArray, List.set_cons_zero, List.set_cons_succ, i64_w, i32_w]
          rfl
         refine one_ (i := 5) (N := some 29) #[true, true, true, true, true, true, false, false, false, true, false, false] rfl rfl (one_of HT_.out (by kernel_rfl)) (by decide) (fun K hK => ?_)
         refine goes_ Try.func38 (by kernel_rfl) rfl #[.agg #[.int .i64 t491, .slice Ao49 t492.length co49], .agg #[.int .i64 t495, .int .i64 t496, .int .i64 t497, .int .i64 t498, .int .i64 t499, .int .i64 t500, .int .i64 t501, .int .i64 t502, .int .i64 t503, .int .i64 t504, .int .i64 t505, .int .i64 t506, .int .i64 t507, .int .i64 t508], .int .i64 a2] (by rfl) rfl rfl Gv.lm ?_
         with_reducible refine (spec_TablePut.calls k t491 _ _ t492 t495 t496 t497 t498 t499 t500 t501 t502 t503 t504 t505 t506 t507 t508 a2 t509 t510 t513 _ ?side1 ?side2 A13.out).mono ?_
         (case side1 => repeat (first | exact (Kd.R_reads' HO494.out).2.2 | (with_reducible refine Kd.C_alloc ?_ _) | (with_reducible refine Kd.C_drewN ?_ _) | (with_reducible refine Kd.C_drew ?_)))
         (case side2 => exact (Kd.R_reads' HO494.out).2.1)
         rintro e w50 ⟨v511, rfl, ho0, hb⟩
         refine ⟨_, rfl, ?_⟩
         have HO512 := Gv.a0 (Kd.R_lower (Kd.R_new' ho0 (Kd.R_lt HO494.out)) (below_size HB.out))
         replace HO494 := Gv.a0 (Kd.R_elder' HO494.out (Kd.R_base ho0) hb)
         replace BK488 := Gv.b1 BK488 hb
         replace BK489 := Gv.b1 BK489 hb
         replace BK514 := Gv.b1 BK514 hb
         replace HB := Gv.a0 (below_step HB.out hb)
         (try clear hb)
         (try clear hb2)
         (try clear hk)
         (try clear hi)
         (try clear ho0)
         refine hK.out _ _ ⟨Gv.q BK488.out, Gv.q BK488.out, Gv.q BK489.out, Gv.q BK489.out, Gv.q BK489.out, Gv.q BK489.out, Gv.q BK489.out, Gv.q BK489.out, Gv.q BK489.out, Gv.q BK489.out, Gv.q BK489.out, Gv.q BK489.out, Gv.q BK489.out, Gv.q BK489.out, Gv.q BK489.out, Gv.q BK489.out⟩ (fun hHeld => ?_)
         clear hK K
         refine norm_ (a' := ?_) ?_ ?_
         rotate_left
         ·show Act.put _ (some 29) _ = _
          simp only [Act.put, List.setIfInBounds_toArray, List.set_cons_zero, List.set_cons_succ, i64_w, i32_w]
          rfl
         refine Gv.pu 6 (some 23) HT_ ?_
         refine Gv.pu 7 (some 30) HT_ ?_
         refine Gv.pu 8 (some 31) HT_ ?_
         exact norm_ (by simp only [putAll, Act.put, List.setIfInBounds_toArray, List.set_cons_zero, List.set_cons_succ]) (hCont (.slice Ao49 t492.length co49, v511, gb514) _ ⟨hHeld, (by (with_reducible repeat (first | apply Kd.R_alloc | apply Kd.R_drewN | apply Kd.R_drew)); exact Kd.R_mono HO494.out (fun _ hk => hk.2)), (by (with_reducible repeat (first | apply Kd.R_alloc | apply Kd.R_drewN | apply Kd.R_drew)); exact Kd.R_mono HO512.out (fun _ hk => hk.2)), BK488.out, BK489.out, BK514.out, GW514.out, GE514.out, NB488_514.out, NB514_488.out, NB489_514.out, NB514_489.out, HB.out⟩)
       ·skip
        refine box_step ?hg (N := 8) ?hd (cs := #[.int .i64 0, .slice none 0 0]) (t := 40) ?hr ?_; (case hd => rfl); (case hg => rfl); (case hr => first | (go_simp; done) | (go_simp; rfl))
        intro gb514 hg w47 hbox hb
        replace HO494 := Gv.a0 (Kd.R_below HO494.out hb)
        have BK514 := Gv.a0 (hbox)
        have GW514 := Gv.a0 (Gv.ble hg HB.out : w.heap.size ≤ gb514)
        have GE514 := Gv.a0 (Gv.ble hg HB.out : w.heap.size ≤ gb514)
        replace HB := Gv.a0 (below_step HB.out hb)
        have NB488_514 := Gv.a0 (Gv.nlt hg BK488.out : gb488 ≠ gb514)
        have NB514_488 := Gv.a0 (Gv.ngt hg BK488.out : gb514 ≠ gb488)
        replace BK488 := Gv.b1 BK488 hb
        have NB489_514 := Gv.a0 (Gv.nlt hg BK489.out : gb489 ≠ gb514)
        have NB514_489 := Gv.a0 (Gv.ngt hg BK489.out : gb514 ≠ gb489)
        replace BK489 := Gv.b1 BK489 hb
        clear hb hbox hg
        refine hK.out _ _ ⟨Gv.q BK488.out, Gv.q BK488.out, Gv.q BK489.out, Gv.q BK489.out, Gv.q BK489.out, Gv.q BK489.out, Gv.q BK489.out, Gv.q BK489.out, Gv.q BK489.out, Gv.q BK489.out, Gv.q BK489.out, Gv.q BK489.out, Gv.q BK489.out, Gv.q BK489.out, Gv.q BK489.out, Gv.q BK489.out⟩ (fun hHeld => ?_)
        clear hK K
        refine norm_ (a' := ?_) ?_ ?_
        rotate_left
        ·show Act.put _ (some 8) _ = _
         simp only [Act.put, List.setIfInBounds_toArray, List.set_cons_zero, List.set_cons_succ, i64_w, i32_w]
         rfl
        refine one_ (i := 3) (N := some 27) #[true, true, true, true, true, false, false, false, false, true, false, false] rfl rfl (one_of HT_.out (by kernel_rfl)) (by decide) (fun K hK => ?_)
        refine goes_ Try.func14 (by kernel_rfl) rfl #[.agg #[.int .i64 a1_0, .int .i64 a1_1, .int .i64 a1_2, .int .i64 a1_3, .int .i64 a1_4, .int .i64 a1_5, .int .i64 a1_6, .int .i64 a1_7, .int .i64 a1_8, .int .i64 a1_9, .int .i64 a1_10, .int .i64 a1_11, .int .i64 a1_12, .int .i64 a1_13]] (by rfl) rfl rfl Gv.lm ?_
        with_reducible refine (laws_toFlowKey.calls a1_0 a1_1 a1_2 a1_3 a1_4 a1_5 a1_6 a1_7 a1_8 a1_9 a1_10 a1_11 a1_12 a1_13 t495 t496 t497 t498 t499 t500 t501 t502 t503 t504 t505 t506 t507 t508 _ A12.out).mono ?_
        rintro e w48 ⟨rfl, hb⟩
        refine ⟨_, rfl, ?_⟩
        replace HO494 := Gv.a0 (Kd.R_below HO494.out hb)
        replace BK488 := Gv.b1 BK488 hb
        replace BK489 := Gv.b1 BK489 hb
        replace BK514 := Gv.b1 BK514 hb
        replace HB := Gv.a0 (below_step HB.out hb)
        (try clear hb)
        (try clear hb2)
        (try clear hk)
        (try clear hi)
        obtain ⟨Ao49, co49, eo49⟩ := Kd.R_slice HO494.out
        (first | subst eo49 | (injection eo49 with f1_ f2_ f3_; have f4_ := f1_.symm; have f5_ := f3_.symm; clear f1_ f2_ f3_; subst f4_; subst f5_))
        refine hK.out _ _ ⟨Gv.q BK488.out, Gv.q BK488.out, Gv.q BK489.out, Gv.q BK489.out, Gv.q BK489.out, Gv.q BK489.out, Gv.q BK489.out, Gv.q BK489.out, Gv.q BK489.out, Gv.q BK489.out, Gv.q BK489.out, Gv.q BK489.out, Gv.q BK489.out, Gv.q BK489.out, Gv.q BK489.out, Gv.q BK489.out⟩ (fun hHeld => ?_)
        clear hK K
        refine norm_ (a' := ?_) ?_ ?_
        rotate_left
        ·show Act.put _ (some 27) _ = _
         simp only [Act.put, List.setIfInBounds_toArray, List.set_cons_zero, List.set_cons_succ, i64_w, i32_w]
         rfl
        refine one_ (i := 5) (N := some 29) #[true, true, true, true, true, true, false, false, false, true, false, false] rfl rfl (one_of HT_.out (by kernel_rfl)) (by decide) (fun K hK => ?_)
        refine goes_ Try.func38 (by kernel_rfl) rfl #[.agg #[.int .i64 t491, .slice Ao49 t492.length co49], .agg #[.int .i64 t495, .int .i64 t496, .int .i64 t497, .int .i64 t498, .int .i64 t499, .int .i64 t500, .int .i64 t501, .int .i64 t502, .int .i64 t503, .int .i64 t504, .int .i64 t505, .int .i64 t506, .int .i64 t507, .int .i64 t508], .int .i64 a2] (by rfl) rfl rfl Gv.lm ?_
        with_reducible refine (spec_TablePut.calls k t491 _ _ t492 t495 t496 t497 t498 t499 t500 t501 t502 t503 t504 t505 t506 t507 t508 a2 t509 t510 t513 _ ?side1 ?side2 A13.out).mono ?_
        (case side1 => repeat (first | exact (Kd.R_reads' HO494.out).2.2 | (with_reducible refine Kd.C_alloc ?_ _) | (with_reducible refine Kd.C_drewN ?_ _) | (with_reducible refine Kd.C_drew ?_)))
        (case side2 => exact (Kd.R_reads' HO494.out).2.1)
        rintro e w50 ⟨v511, rfl, ho0, hb⟩
        refine ⟨_, rfl, ?_⟩
        have HO512 := Gv.a0 (Kd.R_lower (Kd.R_new' ho0 (Kd.R_lt HO494.out)) (below_size HB.out))
        replace HO494 := Gv.a0 (Kd.R_elder' HO494.out (Kd.R_base ho0) hb)
        replace BK488 := Gv.b1 BK488 hb
        replace BK489 := Gv.b1 BK489 hb
        replace BK514 := Gv.b1 BK514 hb
        replace HB := Gv.a0 (below_step HB.out hb)
        (try clear hb)
        (try clear hb2)
        (try clear hk)
        (try clear hi)
        (try clear ho0)
        refine hK.out _ _ ⟨Gv.q BK488.out, Gv.q BK488.out, Gv.q BK489.out, Gv.q BK489.out, Gv.q BK489.out, Gv.q BK489.out, Gv.q BK489.out, Gv.q BK489.out, Gv.q BK489.out, Gv.q BK489.out, Gv.q BK489.out, Gv.q BK489.out, Gv.q BK489.out, Gv.q BK489.out, Gv.q BK489.out, Gv.q BK489.out⟩ (fun hHeld => ?_)
        clear hK K
        refine norm_ (a' := ?_) ?_ ?_
        rotate_left
        ·show Act.put _ (some 29) _ = _
         simp only [Act.put, List.setIfInBounds_toArray, List.set_cons_zero, List.set_cons_succ, i64_w, i32_w]
         rfl
        refine Gv.pu 6 (some 23) HT_ ?_
        refine Gv.pu 7 (some 30) HT_ ?_
        refine Gv.pu 8 (some 31) HT_ ?_
        exact norm_ (by simp only [putAll, Act.put, List.setIfInBounds_toArray, List.set_cons_zero, List.set_cons_succ]) (hCont (.slice Ao49 t492.length co49, v511, gb514) _ ⟨hHeld, (by (with_reducible repeat (first | apply Kd.R_alloc | apply Kd.R_drewN | apply Kd.R_drew)); exact Kd.R_mono HO494.out (fun _ hk => hk.2)), (by (with_reducible repeat (first | apply Kd.R_alloc | apply Kd.R_drewN | apply Kd.R_drew)); exact Kd.R_mono HO512.out (fun _ hk => hk.2)), BK488.out, BK489.out, BK514.out, GW514.out, GE514.out, NB488_514.out, NB514_488.out, NB489_514.out, NB514_489.out, HB.out⟩)
      ·skip
       refine box_step ?hg (N := 8) ?hd (cs := #[.int .i64 0, .slice none 0 0]) (t := 40) ?hr ?_; (case hd => rfl); (case hg => rfl); (case hr => first | (go_simp; done) | (go_simp; rfl))
       intro gb514 hg w46 hbox hb
       have BK514 := Gv.a0 (hbox)
       have GW514 := Gv.a0 (Gv.ble hg HB.out : w.heap.size ≤ gb514)
       have GE514 := Gv.a0 (Gv.ble hg HB.out : w.heap.size ≤ gb514)
       replace HB := Gv.a0 (below_step HB.out hb)
       have NB488_514 := Gv.a0 (Gv.nlt hg BK488.out : gb488 ≠ gb514)
       have NB514_488 := Gv.a0 (Gv.ngt hg BK488.out : gb514 ≠ gb488)
       replace BK488 := Gv.b1 BK488 hb
       have NB489_514 := Gv.a0 (Gv.nlt hg BK489.out : gb489 ≠ gb514)
       have NB514_489 := Gv.a0 (Gv.ngt hg BK489.out : gb514 ≠ gb489)
       replace BK489 := Gv.b1 BK489 hb
       clear hb hbox hg
       refine hK.out _ _ ⟨Gv.q BK488.out, Gv.q BK488.out, Gv.q BK489.out, Gv.q BK489.out, Gv.q BK489.out, Gv.q BK489.out, Gv.q BK489.out, Gv.q BK489.out, Gv.q BK489.out, Gv.q BK489.out, Gv.q BK489.out, Gv.q BK489.out, Gv.q BK489.out, Gv.q BK489.out, Gv.q BK489.out, Gv.q BK489.out⟩ (fun hHeld => ?_)
       clear hK K
       refine norm_ (a' := ?_) ?_ ?_
       rotate_left
       ·show Act.put _ (some 8) _ = _
        simp only [Act.put, List.setIfInBounds_toArray, List.set_cons_zero, List.set_cons_succ, i64_w, i32_w]
        rfl
       refine one_ (i := 1) (N := some 25) #[true, true, true, false, true, false, false, false, false, true, false, false] rfl rfl (one_of HT_.out (by kernel_rfl)) (by decide) (fun K hK => ?_)
       refine goes_ Try.func25 (by kernel_rfl) rfl #[.agg #[.int .i64 a0_0, .slice A0_1 l0_1.length c0_1]] (by rfl) rfl rfl Gv.lm ?_
       with_reducible refine (laws_toTable.calls k a0_0 _ _ l0_1 t491 t492 _ ?side1 ?side2 A11.out).mono ?_
       (case side1 => exact Gv.sd (Kd.C_below HR0_1.out HB.out))
       (case side2 => exact HC0_1.out)
       rintro e w47 ⟨v493, rfl, ho0, hb⟩
       refine ⟨_, rfl, ?_⟩
       have HO494 := Gv.a0 (Kd.R_lower ho0 (below_size HB.out))
       replace BK488 := Gv.b1 BK488 hb
       replace BK489 := Gv.b1 BK489 hb
       replace BK514 := Gv.b1 BK514 hb
       replace HB := Gv.a0 (below_step HB.out hb)
       (try clear hb)
       (try clear hb2)
       (try clear hk)
       (try clear hi)
       (try clear ho0)
       refine hK.out _ _ ⟨Gv.q BK488.out, Gv.q BK488.out, Gv.q BK489.out, Gv.q BK489.out, Gv.q BK489.out, Gv.q BK489.out, Gv.q BK489.out, Gv.q BK489.out, Gv.q BK489.out, Gv.q BK489.out, Gv.q BK489.out, Gv.q BK489.out, Gv.q BK489.out, Gv.q BK489.out, Gv.q BK489.out, Gv.q BK489.out⟩ (fun hHeld => ?_)
       clear hK K
       refine norm_ (a' := ?_) ?_ ?_
       rotate_left
       ·show Act.put _ (some 25) _ = _
        simp only [Act.put, List.setIfInBounds_toArray, List.set_cons_zero, List.set_cons_succ, i64_w, i32_w]
        rfl
       refine one_ (i := 3) (N := some 27) #[true, true, true, true, true, false, false, false, false, true, false, false] rfl rfl (one_of HT_.out (by kernel_rfl)) (by decide) (fun K hK => ?_)
       refine goes_ Try.func14 (by kernel_rfl) rfl #[.agg #[.int .i64 a1_0, .int .i64 a1_1, .int .i64 a1_2, .int .i64 a1_3, .int .i64 a1_4, .int .i64 a1_5, .int .i64 a1_6, .int .i64 a1_7, .int .i64 a1_8, .int .i64 a1_9, .int .i64 a1_10, .int .i64 a1_11, .int .i64 a1_12, .int .i64 a1_13]] (by rfl) rfl rfl Gv.lm ?_
       with_reducible refine (laws_toFlowKey.calls a1_0 a1_1 a1_2 a1_3 a1_4 a1_5 a1_6 a1_7 a1_8 a1_9 a1_10 a1_11 a1_12 a1_13 t495 t496 t497 t498 t499 t500 t501 t502 t503 t504 t505 t506 t507 t508 _ A12.out).mono ?_
       rintro e w48 ⟨rfl, hb⟩
       refine ⟨_, rfl, ?_⟩
       replace HO494 := Gv.a0 (Kd.R_below HO494.out hb)
       replace BK488 := Gv.b1 BK488 hb
       replace BK489 := Gv.b1 BK489 hb
       replace BK514 := Gv.b1 BK514 hb
       replace HB := Gv.a0 (below_step HB.out hb)
       (try clear hb)
       (try clear hb2)
       (try clear hk)
       (try clear hi)
       obtain ⟨Ao49, co49, eo49⟩ := Kd.R_slice HO494.out
       (first | subst eo49 | (injection eo49 with f1_ f2_ f3_; have f4_ := f1_.symm; have f5_ := f3_.symm; clear f1_ f2_ f3_; subst f4_; subst f5_))
       refine hK.out _ _ ⟨Gv.q BK488.out, Gv.q BK488.out, Gv.q BK489.out, Gv.q BK489.out, Gv.q BK489.out, Gv.q BK489.out, Gv.q BK489.out, Gv.q BK489.out, Gv.q BK489.out, Gv.q BK489.out, Gv.q BK489.out, Gv.q BK489.out, Gv.q BK489.out, Gv.q BK489.out, Gv.q BK489.out, Gv.q BK489.out⟩ (fun hHeld => ?_)
       clear hK K
       refine norm_ (a' := ?_) ?_ ?_
       rotate_left
       ·show Act.put _ (some 27) _ = _
        simp only [Act.put, List.setIfInBounds_toArray, List.set_cons_zero, List.set_cons_succ, i64_w, i32_w]
        rfl
       refine one_ (i := 5) (N := some 29) #[true, true, true, true, true, true, false, false, false, true, false, false] rfl rfl (one_of HT_.out (by kernel_rfl)) (by decide) (fun K hK => ?_)
       refine goes_ Try.func38 (by kernel_rfl) rfl #[.agg #[.int .i64 t491, .slice Ao49 t492.length co49], .agg #[.int .i64 t495, .int .i64 t496, .int .i64 t497, .int .i64 t498, .int .i64 t499, .int .i64 t500, .int .i64 t501, .int .i64 t502, .int .i64 t503, .int .i64 t504, .int .i64 t505, .int .i64 t506, .int .i64 t507, .int .i64 t508], .int .i64 a2] (by rfl) rfl rfl Gv.lm ?_
       with_reducible refine (spec_TablePut.calls k t491 _ _ t492 t495 t496 t497 t498 t499 t500 t501 t502 t503 t504 t505 t506 t507 t508 a2 t509 t510 t513 _ ?side1 ?side2 A13.out).mono ?_
       (case side1 => repeat (first | exact (Kd.R_reads' HO494.out).2.2 | (with_reducible refine Kd.C_alloc ?_ _) | (with_reducible refine Kd.C_drewN ?_ _) | (with_reducible refine Kd.C_drew ?_)))
       (case side2 => exact (Kd.R_reads' HO494.out).2.1)
       rintro e w50 ⟨v511, rfl, ho0, hb⟩
       refine ⟨_, rfl, ?_⟩
       have HO512 := Gv.a0 (Kd.R_lower (Kd.R_new' ho0 (Kd.R_lt HO494.out)) (below_size HB.out))
       replace HO494 := Gv.a0 (Kd.R_elder' HO494.out (Kd.R_base ho0) hb)
       replace BK488 := Gv.b1 BK488 hb
       replace BK489 := Gv.b1 BK489 hb
       replace BK514 := Gv.b1 BK514 hb
       replace HB := Gv.a0 (below_step HB.out hb)
       (try clear hb)
       (try clear hb2)
       (try clear hk)
       (try clear hi)
       (try clear ho0)
       refine hK.out _ _ ⟨Gv.q BK488.out, Gv.q BK488.out, Gv.q BK489.out, Gv.q BK489.out, Gv.q BK489.out, Gv.q BK489.out, Gv.q BK489.out, Gv.q BK489.out, Gv.q BK489.out, Gv.q BK489.out, Gv.q BK489.out, Gv.q BK489.out, Gv.q BK489.out, Gv.q BK489.out, Gv.q BK489.out, Gv.q BK489.out⟩ (fun hHeld => ?_)
       clear hK K
       refine norm_ (a' := ?_) ?_ ?_
       rotate_left
       ·show Act.put _ (some 29) _ = _
        simp only [Act.put, List.setIfInBounds_toArray, List.set_cons_zero, List.set_cons_succ, i64_w, i32_w]
        rfl
       refine Gv.pu 6 (some 23) HT_ ?_
       refine Gv.pu 7 (some 30) HT_ ?_
       refine Gv.pu 8 (some 31) HT_ ?_
       exact norm_ (by simp only [putAll, Act.put, List.setIfInBounds_toArray, List.set_cons_zero, List.set_cons_succ]) (hCont (.slice Ao49 t492.length co49, v511, gb514) _ ⟨hHeld, (by (with_reducible repeat (first | apply Kd.R_alloc | apply Kd.R_drewN | apply Kd.R_drew)); exact Kd.R_mono HO494.out (fun _ hk => hk.2)), (by (with_reducible repeat (first | apply Kd.R_alloc | apply Kd.R_drewN | apply Kd.R_drew)); exact Kd.R_mono HO512.out (fun _ hk => hk.2)), BK488.out, BK489.out, BK514.out, GW514.out, GE514.out, NB488_514.out, NB514_488.out, NB489_514.out, NB514_489.out, HB.out⟩)
     rintro ⟨v493, v511, gb514⟩ w51 ⟨hS_, h0_, h1_, h2_, h3_, h4_, h5_, h6_, h7_, h8_, h9_, h10_, h11_⟩
     have n0_ : Aside0 (Kd.R k75 75 w51 w.heap.size (fun k_ => some k_ ≠ (v511 : Value).ownBlock) v493 t492) := ⟨h0_⟩
     have n1_ : Aside0 (Kd.R k75 75 w51 w.heap.size (fun k_ => some k_ ≠ (v493 : Value).ownBlock) v511 t510) := ⟨h1_⟩
     have n2_ : Aside0 (w51.heap[gb488]? = some (.cells #[.int .i64 a0_0, .slice A0_1 l0_1.length c0_1] 47 (0, 0))) := ⟨h2_⟩
     have n3_ : Aside0 (w51.heap[gb489]? = some (.cells #[.int .i64 a1_0, .int .i64 a1_1, .int .i64 a1_2, .int .i64 a1_3, .int .i64 a1_4, .int .i64 a1_5, .int .i64 a1_6, .int .i64 a1_7, .int .i64 a1_8, .int .i64 a1_9, .int .i64 a1_10, .int .i64 a1_11, .int .i64 a1_12, .int .i64 a1_13] 27 (0, 0))) := ⟨h3_⟩
     have n4_ : Aside0 (w51.heap[gb514]? = some (.cells #[.int .i64 0, .slice none 0 0] 40 (0, 0))) := ⟨h4_⟩
     have n5_ : Aside0 (w.heap.size ≤ gb514) := ⟨h5_⟩
     have n6_ : Aside0 (w.heap.size ≤ gb514) := ⟨h6_⟩
     have n7_ : Aside0 (gb488 ≠ gb514) := ⟨h7_⟩
     have n8_ : Aside0 (gb514 ≠ gb488) := ⟨h8_⟩
     have n9_ : Aside0 (gb489 ≠ gb514) := ⟨h9_⟩
     have n10_ : Aside0 (gb514 ≠ gb489) := ⟨h10_⟩
     have n11_ : Aside0 (Below w.heap.size w w51) := ⟨h11_⟩
     clear BK488 BK489 HB h0_ h1_ h2_ h3_ h4_ h5_ h6_ h7_ h8_ h9_ h10_ h11_
     have HO494 := n0_
     have HO512 := n1_
     have BK488 := n2_
     have BK489 := n3_
     have BK514 := n4_
     have GW514 := n5_
     have GE514 := n6_
     have NB488_514 := n7_
     have NB514_488 := n8_
     have NB489_514 := n9_
     have NB514_489 := n10_
     have HB := n11_
     clear n0_ n1_ n2_ n3_ n4_ n5_ n6_ n7_ n8_ n9_ n10_ n11_
     have hHeld : w51.cell? ⟨gb488, 0, none⟩ = some (.int .i64 a0_0) ∧ w51.cell? ⟨gb488, 1, none⟩ = some (.slice A0_1 l0_1.length c0_1) ∧ w51.cell? ⟨gb489, 0, none⟩ = some (.int .i64 a1_0) ∧ w51.cell? ⟨gb489, 1, none⟩ = some (.int .i64 a1_1) ∧ w51.cell? ⟨gb489, 2, none⟩ = some (.int .i64 a1_2) ∧ w51.cell? ⟨gb489, 3, none⟩ = some (.int .i64 a1_3) ∧ w51.cell? ⟨gb489, 4, none⟩ = some (.int .i64 a1_4) ∧ w51.cell? ⟨gb489, 5, none⟩ = some (.int .i64 a1_5) ∧ w51.cell? ⟨gb489, 6, none⟩ = some (.int .i64 a1_6) ∧ w51.cell? ⟨gb489, 7, none⟩ = some (.int .i64 a1_7) ∧ w51.cell? ⟨gb489, 8, none⟩ = some (.int .i64 a1_8) ∧ w51.cell? ⟨gb489, 9, none⟩ = some (.int .i64 a1_9) ∧ w51.cell? ⟨gb489, 10, none⟩ = some (.int .i64 a1_10) ∧ w51.cell? ⟨gb489, 11, none⟩ = some (.int .i64 a1_11) ∧ w51.cell? ⟨gb489, 12, none⟩ = some (.int .i64 a1_12) ∧ w51.cell? ⟨gb489, 13, none⟩ = some (.int .i64 a1_13) := hS_
     obtain ⟨Ao53, co53, eo53⟩ := Kd.R_slice HO512.out
     (first | subst eo53 | (injection eo53 with f1_ f2_ f3_; have f4_ := f1_.symm; have f5_ := f3_.symm; clear f1_ f2_ f3_; subst f4_; subst f5_))
     refine norm_ (a' := ?_) ?_ ?_
     rotate_left
     ·simp only [putAll, Act.put, List.setIfInBounds_toArray, List.set_cons_zero, List.set_cons_succ]
      rfl
     refine one_ (i := 10) (N := none) #[true, true, true, true, true, true, true, true, true, true, true, false] rfl rfl (one_of HT_.out (by kernel_rfl)) (by decide) (fun K hK => ?_)
     have hs52 : w51.cell? ⟨gb514, 0, none⟩ = some (.int .i64 0) := (blk_cell BK514.out 0).trans rfl
     have hfs52 := blk_frozen BK514.out 0
     have hns52_0 := NB488_514.out
     have hns52_1 := NB489_514.out
     have hms52_0 := NB514_488.out
     have hms52_1 := NB514_489.out
     have hs54 : w51.cell? ⟨gb514, 1, none⟩ = some (.slice none 0 0) := (blk_cell BK514.out 1).trans rfl
     have hfs54 := blk_frozen BK514.out 1
     have hns54_0 := NB488_514.out
     have hns54_1 := NB489_514.out
     have hms54_0 := NB514_488.out
     have hms54_1 := NB514_489.out
     refine skip_ (w1 := ?_) (by rfl) rfl ?_ ?_
     rotate_left
     ·go_simp
      rfl
     refine hK.out _ _ ⟨((cell_far (p := ⟨gb514, _, none⟩) NB488_514.out _).trans (((cell_far (p := ⟨gb514, _, none⟩) NB488_514.out _).trans (hHeld.1)))), ((cell_far (p := ⟨gb514, _, none⟩) NB488_514.out _).trans (((cell_far (p := ⟨gb514, _, none⟩) NB488_514.out _).trans (hHeld.2.1)))), ((cell_far (p := ⟨gb514, _, none⟩) NB489_514.out _).trans (((cell_far (p := ⟨gb514, _, none⟩) NB489_514.out _).trans (hHeld.2.2.1)))), ((cell_far (p := ⟨gb514, _, none⟩) NB489_514.out _).trans (((cell_far (p := ⟨gb514, _, none⟩) NB489_514.out _).trans (hHeld.2.2.2.1)))), ((cell_far (p := ⟨gb514, _, none⟩) NB489_514.out _).trans (((cell_far (p := ⟨gb514, _, none⟩) NB489_514.out _).trans (hHeld.2.2.2.2.1)))), ((cell_far (p := ⟨gb514, _, none⟩) NB489_514.out _).trans (((cell_far (p := ⟨gb514, _, none⟩) NB489_514.out _).trans (hHeld.2.2.2.2.2.1)))), ((cell_far (p := ⟨gb514, _, none⟩) NB489_514.out _).trans (((cell_far (p := ⟨gb514, _, none⟩) NB489_514.out _).trans (hHeld.2.2.2.2.2.2.1)))), ((cell_far (p := ⟨gb514, _, none⟩) NB489_514.out _).trans (((cell_far (p := ⟨gb514, _, none⟩) NB489_514.out _).trans (hHeld.2.2.2.2.2.2.2.1)))), ((cell_far (p := ⟨gb514, _, none⟩) NB489_514.out _).trans (((cell_far (p := ⟨gb514, _, none⟩) NB489_514.out _).trans (hHeld.2.2.2.2.2.2.2.2.1)))), ((cell_far (p := ⟨gb514, _, none⟩) NB489_514.out _).trans (((cell_far (p := ⟨gb514, _, none⟩) NB489_514.out _).trans (hHeld.2.2.2.2.2.2.2.2.2.1)))), ((cell_far (p := ⟨gb514, _, none⟩) NB489_514.out _).trans (((cell_far (p := ⟨gb514, _, none⟩) NB489_514.out _).trans (hHeld.2.2.2.2.2.2.2.2.2.2.1)))), ((cell_far (p := ⟨gb514, _, none⟩) NB489_514.out _).trans (((cell_far (p := ⟨gb514, _, none⟩) NB489_514.out _).trans (hHeld.2.2.2.2.2.2.2.2.2.2.2.1)))), ((cell_far (p := ⟨gb514, _, none⟩) NB489_514.out _).trans (((cell_far (p := ⟨gb514, _, none⟩) NB489_514.out _).trans (hHeld.2.2.2.2.2.2.2.2.2.2.2.2.1)))), ((cell_far (p := ⟨gb514, _, none⟩) NB489_514.out _).trans (((cell_far (p := ⟨gb514, _, none⟩) NB489_514.out _).trans (hHeld.2.2.2.2.2.2.2.2.2.2.2.2.2.1)))), ((cell_far (p := ⟨gb514, _, none⟩) NB489_514.out _).trans (((cell_far (p := ⟨gb514, _, none⟩) NB489_514.out _).trans (hHeld.2.2.2.2.2.2.2.2.2.2.2.2.2.2.1)))), ((cell_far (p := ⟨gb514, _, none⟩) NB489_514.out _).trans (((cell_far (p := ⟨gb514, _, none⟩) NB489_514.out _).trans (hHeld.2.2.2.2.2.2.2.2.2.2.2.2.2.2.2))))⟩ (fun hHeld => ?_)
     clear hK K
     refine Gv.pu 11 (some 9) HT_ ?_
     refine done_ (done_of HT_.out (by kernel_rfl)) ?_
     have hnb55 := NB488_514.out
     have hnc55 := NB514_488.out
     have hcz56_0 : w51.cell? ⟨gb488, 0, none⟩ = some (.int .i64 a0_0) := (blk_cell BK488.out 0).trans rfl
     have hcz56_1 : w51.cell? ⟨gb488, 1, none⟩ = some (.slice A0_1 l0_1.length c0_1) := (blk_cell BK488.out 1).trans rfl
     have hfz56_0 := blk_frozen BK488.out 0
     have hfz56_1 := blk_frozen BK488.out 1
     try go_wp2_with (first | ((with_reducible refine gate_callee (f := 25) rfl ?_); refine goesL_ (some 33) rfl rfl Try.func25 (by kernel_rfl) rfl #[.agg #[.int .i64 a0_0, .slice A0_1 l0_1.length c0_1]] rfl Gv.lm ?_; (with_reducible refine (laws_toTable.calls k a0_0 _ _ l0_1 t515 t516 _ ?side1 ?side2 A14.out).mono ?_); (case side1 => exact Kd.C_below HR0_1.out Gv.bw); (case side2 => exact HC0_1.out); rintro e w57 ⟨v517, rfl, ho0, hb⟩; refine ⟨_, rfl, ?_⟩; have HO518 := Gv.a0 (Kd.R_lower (Kd.R_new' (Kd.R_new' ho0 (Kd.R_lt (by (with_reducible repeat (first | apply Kd.R_alloc | apply Kd.R_drewN | apply Kd.R_drew)); exact (Kd.R_mono (Kd.R_far (p := ⟨gb514, 1, none⟩) (Kd.R_far (p := ⟨gb514, 0, none⟩) (Kd.R_types HO494.out BK514.out (by decide)) (fun _ hk => hk.2) (.int .i64 t509)) (fun _ hk => hk.2) (.slice Ao53 t510.length co53)) (fun _ h_ => h_.1))))) (Kd.R_lt (by (with_reducible repeat (first | apply Kd.R_alloc | apply Kd.R_drewN | apply Kd.R_drew)); exact (Kd.R_mono (Kd.R_far (p := ⟨gb514, 1, none⟩) (Kd.R_far (p := ⟨gb514, 0, none⟩) (Kd.R_types HO512.out BK514.out (by decide)) (fun _ hk => hk.2) (.int .i64 t509)) (fun _ hk => hk.2) (.slice Ao53 t510.length co53)) (fun _ h_ => h_.1))))) (below_size Gv.bw)); replace HO494 := Gv.a0 (Kd.R_elder' (by (with_reducible repeat (first | apply Kd.R_alloc | apply Kd.R_drewN | apply Kd.R_drew)); exact (Kd.R_mono (Kd.R_far (p := ⟨gb514, 1, none⟩) (Kd.R_far (p := ⟨gb514, 0, none⟩) (Kd.R_types HO494.out BK514.out (by decide)) (fun _ hk => hk.2) (.int .i64 t509)) (fun _ hk => hk.2) (.slice Ao53 t510.length co53)) (fun _ h_ => h_.1))) (Kd.R_base ho0) hb); replace HO512 := Gv.a0 (Kd.R_elder' (by (with_reducible repeat (first | apply Kd.R_alloc | apply Kd.R_drewN | apply Kd.R_drew)); exact (Kd.R_mono (Kd.R_far (p := ⟨gb514, 1, none⟩) (Kd.R_far (p := ⟨gb514, 0, none⟩) (Kd.R_types HO512.out BK514.out (by decide)) (fun _ hk => hk.2) (.int .i64 t509)) (fun _ hk => hk.2) (.slice Ao53 t510.length co53)) (fun _ h_ => h_.1))) (Kd.R_base ho0) hb); replace BK488 := Gv.a0 (blk_below (g := gb488) (o := .cells #[.int .i64 a0_0, .slice A0_1 l0_1.length c0_1] 47 (0, 0)) Gv.bkf hb); replace BK489 := Gv.a0 (blk_below (g := gb489) (o := .cells #[.int .i64 a1_0, .int .i64 a1_1, .int .i64 a1_2, .int .i64 a1_3, .int .i64 a1_4, .int .i64 a1_5, .int .i64 a1_6, .int .i64 a1_7, .int .i64 a1_8, .int .i64 a1_9, .int .i64 a1_10, .int .i64 a1_11, .int .i64 a1_12, .int .i64 a1_13] 27 (0, 0)) Gv.bkf hb); replace BK514 := Gv.a0 (blk_below (g := gb514) (o := .cells #[.int .i64 t509, .slice Ao53 t510.length co53] 40 (0, 0)) (by (with_reducible repeat (first | refine blk_drewN ?_ _ | refine blk_drew ?_ | refine blk_alloc ?_ _)); refine blk_put (cs := #[.int .i64 t509, .slice none 0 0]) ?_ 1 _ rfl; (with_reducible repeat (first | refine blk_drewN ?_ _ | refine blk_drew ?_ | refine blk_alloc ?_ _)); refine blk_put (cs := #[.int .i64 0, .slice none 0 0]) ?_ 0 _ rfl; (with_reducible repeat (first | refine blk_drewN ?_ _ | refine blk_drew ?_ | refine blk_alloc ?_ _)); exact BK514.out) hb); replace HB := Gv.a0 (below_step Gv.bw hb); clear hb ho0) | ((with_reducible refine gate_dst (N := 10) rfl ?_); refine Gv.bev 10 40 #[.int .i64 0, .slice none 0 0] ?_; intro gb519 hg w58 hbox hb; replace HO494 := Gv.a0 (Kd.R_below (Gv.kr HO494.out) hb); replace HO512 := Gv.a0 (Kd.R_below (Gv.kr HO512.out) hb); replace HO518 := Gv.a0 (Kd.R_below (Gv.kr HO518.out) hb); have BK519 := Gv.a0 (hbox); have GW519 := Gv.a0 ((Gv.ble hg Gv.bw : w.heap.size ≤ gb519)); have GE519 := Gv.a0 ((Gv.ble hg Gv.bw : w.heap.size ≤ gb519)); replace HB := Gv.a0 (below_step Gv.bw hb); have NB488_519 := Gv.a0 ((Gv.nlt hg (Gv.kb BK488.out) : gb488 ≠ gb519)); have NB519_488 := Gv.a0 ((Gv.ngt hg (Gv.kb BK488.out) : gb519 ≠ gb488)); replace BK488 := Gv.b1 BK488 hb; have NB489_519 := Gv.a0 ((Gv.nlt hg (Gv.kb BK489.out) : gb489 ≠ gb519)); have NB519_489 := Gv.a0 ((Gv.ngt hg (Gv.kb BK489.out) : gb519 ≠ gb489)); replace BK489 := Gv.b1 BK489 hb; have NB514_519 := Gv.a0 ((Gv.nlt hg (Gv.kb BK514.out) : gb514 ≠ gb519)); have NB519_514 := Gv.a0 ((Gv.ngt hg (Gv.kb BK514.out) : gb519 ≠ gb514)); replace BK514 := Gv.b1 BK514 hb; clear hb hbox hg; have hnb59 := NB519_488.out; have hnc59 := NB488_519.out; have hnb60 := NB519_489.out; have hnc60 := NB489_519.out; have hnb61 := NB519_514.out; have hnc61 := NB514_519.out; have hcz62_0 : w58.cell? ⟨gb519, 0, none⟩ = some (.int .i64 0) := (blk_cell BK519.out 0).trans rfl; have hcz62_1 : w58.cell? ⟨gb519, 1, none⟩ = some (.slice none 0 0) := (blk_cell BK519.out 1).trans rfl; have hfz62_0 := blk_frozen BK519.out 0; have hfz62_1 := blk_frozen BK519.out 1; obtain ⟨Ao63, co63, eo63⟩ := Kd.R_slice HO518.out; subst eo63))
     have n0_ : Aside0 (Kd.R k75 75 ((w58.setCell ⟨gb519, 0, none⟩ (.int .i64 t515)).setCell ⟨gb519, 1, none⟩ (.slice Ao63 t516.length co63)) w.heap.size (fun k_ => some k_ ≠ (.slice Ao53 t510.length co53 : Value).ownBlock ∧ some k_ ≠ (.slice Ao63 t516.length co63 : Value).ownBlock) v493 t492) := ⟨by (with_reducible repeat (first | apply Kd.R_alloc | apply Kd.R_drewN | apply Kd.R_drew)); exact Kd.R_mono (Kd.R_far (p := ⟨gb519, 1, none⟩) (Kd.R_far (p := ⟨gb519, 0, none⟩) (Kd.R_types HO494.out BK519.out (by decide)) (fun _ hk => hk.2) (.int .i64 t515)) (fun _ hk => hk.2) (.slice Ao63 t516.length co63)) (fun _ hk => ⟨hk.1.1, hk.1.2⟩)⟩
     have n1_ : Aside0 (Kd.R k75 75 ((w58.setCell ⟨gb519, 0, none⟩ (.int .i64 t515)).setCell ⟨gb519, 1, none⟩ (.slice Ao63 t516.length co63)) w.heap.size (fun k_ => some k_ ≠ (v493 : Value).ownBlock ∧ some k_ ≠ (.slice Ao63 t516.length co63 : Value).ownBlock) (.slice Ao53 t510.length co53) t510) := ⟨by (with_reducible repeat (first | apply Kd.R_alloc | apply Kd.R_drewN | apply Kd.R_drew)); exact Kd.R_mono (Kd.R_far (p := ⟨gb519, 1, none⟩) (Kd.R_far (p := ⟨gb519, 0, none⟩) (Kd.R_types HO512.out BK519.out (by decide)) (fun _ hk => hk.2) (.int .i64 t515)) (fun _ hk => hk.2) (.slice Ao63 t516.length co63)) (fun _ hk => ⟨hk.1.1, hk.1.2⟩)⟩
     have n2_ : Aside0 (Kd.R k75 75 ((w58.setCell ⟨gb519, 0, none⟩ (.int .i64 t515)).setCell ⟨gb519, 1, none⟩ (.slice Ao63 t516.length co63)) w.heap.size (fun k_ => some k_ ≠ (v493 : Value).ownBlock ∧ some k_ ≠ (.slice Ao53 t510.length co53 : Value).ownBlock) (.slice Ao63 t516.length co63) t516) := ⟨by (with_reducible repeat (first | apply Kd.R_alloc | apply Kd.R_drewN | apply Kd.R_drew)); exact Kd.R_mono (Kd.R_far (p := ⟨gb519, 1, none⟩) (Kd.R_far (p := ⟨gb519, 0, none⟩) (Kd.R_types HO518.out BK519.out (by decide)) (fun _ hk => hk.2) (.int .i64 t515)) (fun _ hk => hk.2) (.slice Ao63 t516.length co63)) (fun _ hk => ⟨hk.1.1.2, hk.1.2⟩)⟩
     have n3_ : Aside0 (((w58.setCell ⟨gb519, 0, none⟩ (.int .i64 t515)).setCell ⟨gb519, 1, none⟩ (.slice Ao63 t516.length co63)).heap[gb488]? = some (.cells #[.int .i64 a0_0, .slice A0_1 l0_1.length c0_1] 47 (0, 0))) := ⟨by (with_reducible repeat (first | refine blk_drewN ?_ _ | refine blk_drew ?_ | refine blk_alloc ?_ _)); refine blk_far ?_ NB488_519.out _; (with_reducible repeat (first | refine blk_drewN ?_ _ | refine blk_drew ?_ | refine blk_alloc ?_ _)); refine blk_far ?_ NB488_519.out _; (with_reducible repeat (first | refine blk_drewN ?_ _ | refine blk_drew ?_ | refine blk_alloc ?_ _)); exact BK488.out⟩
     have n4_ : Aside0 (((w58.setCell ⟨gb519, 0, none⟩ (.int .i64 t515)).setCell ⟨gb519, 1, none⟩ (.slice Ao63 t516.length co63)).heap[gb489]? = some (.cells #[.int .i64 a1_0, .int .i64 a1_1, .int .i64 a1_2, .int .i64 a1_3, .int .i64 a1_4, .int .i64 a1_5, .int .i64 a1_6, .int .i64 a1_7, .int .i64 a1_8, .int .i64 a1_9, .int .i64 a1_10, .int .i64 a1_11, .int .i64 a1_12, .int .i64 a1_13] 27 (0, 0))) := ⟨by (with_reducible repeat (first | refine blk_drewN ?_ _ | refine blk_drew ?_ | refine blk_alloc ?_ _)); refine blk_far ?_ NB489_519.out _; (with_reducible repeat (first | refine blk_drewN ?_ _ | refine blk_drew ?_ | refine blk_alloc ?_ _)); refine blk_far ?_ NB489_519.out _; (with_reducible repeat (first | refine blk_drewN ?_ _ | refine blk_drew ?_ | refine blk_alloc ?_ _)); exact BK489.out⟩
     have n5_ : Aside0 (((w58.setCell ⟨gb519, 0, none⟩ (.int .i64 t515)).setCell ⟨gb519, 1, none⟩ (.slice Ao63 t516.length co63)).heap[gb514]? = some (.cells #[.int .i64 t509, .slice Ao53 t510.length co53] 40 (0, 0))) := ⟨by (with_reducible repeat (first | refine blk_drewN ?_ _ | refine blk_drew ?_ | refine blk_alloc ?_ _)); refine blk_far ?_ NB514_519.out _; (with_reducible repeat (first | refine blk_drewN ?_ _ | refine blk_drew ?_ | refine blk_alloc ?_ _)); refine blk_far ?_ NB514_519.out _; (with_reducible repeat (first | refine blk_drewN ?_ _ | refine blk_drew ?_ | refine blk_alloc ?_ _)); exact BK514.out⟩
     have n6_ : Aside0 (((w58.setCell ⟨gb519, 0, none⟩ (.int .i64 t515)).setCell ⟨gb519, 1, none⟩ (.slice Ao63 t516.length co63)).heap[gb519]? = some (.cells #[.int .i64 t515, .slice Ao63 t516.length co63] 40 (0, 0))) := ⟨by (with_reducible repeat (first | refine blk_drewN ?_ _ | refine blk_drew ?_ | refine blk_alloc ?_ _)); refine blk_put (cs := #[.int .i64 t515, .slice none 0 0]) ?_ 1 _ rfl; (with_reducible repeat (first | refine blk_drewN ?_ _ | refine blk_drew ?_ | refine blk_alloc ?_ _)); refine blk_put (cs := #[.int .i64 0, .slice none 0 0]) ?_ 0 _ rfl; (with_reducible repeat (first | refine blk_drewN ?_ _ | refine blk_drew ?_ | refine blk_alloc ?_ _)); exact BK519.out⟩
     have n7_ : Aside0 (Below w.heap.size w ((w58.setCell ⟨gb519, 0, none⟩ (.int .i64 t515)).setCell ⟨gb519, 1, none⟩ (.slice Ao63 t516.length co63))) := ⟨Gv.bw⟩
     (try clear HO494)
     (try clear HO512)
     (try clear HO518)
     (try clear BK488)
     (try clear BK489)
     (try clear BK514)
     (try clear BK519)
     (try clear HB)
     generalize ((w58.setCell ⟨gb519, 0, none⟩ (.int .i64 t515)).setCell ⟨gb519, 1, none⟩ (.slice Ao63 t516.length co63)) = w64 at n0_ n1_ n2_ n3_ n4_ n5_ n6_ n7_ ⊢
     have HO494 := n0_
     have HO512 := n1_
     have HO518 := n2_
     have BK488 := n3_
     have BK489 := n4_
     have BK514 := n5_
     have BK519 := n6_
     have HB := n7_
     clear n0_ n1_ n2_ n3_ n4_ n5_ n6_ n7_
     replace HO494 := Gv.a0 (Kd.R_drew HO494.out)
     replace HO512 := Gv.a0 (Kd.R_drew HO512.out)
     replace HO518 := Gv.a0 (Kd.R_drew HO518.out)
     replace BK488 := Gv.a0 (blk_drew BK488.out)
     replace BK489 := Gv.a0 (blk_drew BK489.out)
     replace BK514 := Gv.a0 (blk_drew BK514.out)
     replace BK519 := Gv.a0 (blk_drew BK519.out)
     replace HB := Gv.a0 (below_drew1 HB.out)
     refine start_ (n := 11) (S := fun w' => w'.cell? ⟨gb519, 0, none⟩ = some (.int .i64 t515) ∧ w'.cell? ⟨gb519, 1, none⟩ = some (.slice Ao63 t516.length co63) ∧ w'.cell? ⟨gb489, 0, none⟩ = some (.int .i64 a1_0) ∧ w'.cell? ⟨gb489, 1, none⟩ = some (.int .i64 a1_1) ∧ w'.cell? ⟨gb489, 2, none⟩ = some (.int .i64 a1_2) ∧ w'.cell? ⟨gb489, 3, none⟩ = some (.int .i64 a1_3) ∧ w'.cell? ⟨gb489, 4, none⟩ = some (.int .i64 a1_4) ∧ w'.cell? ⟨gb489, 5, none⟩ = some (.int .i64 a1_5) ∧ w'.cell? ⟨gb489, 6, none⟩ = some (.int .i64 a1_6) ∧ w'.cell? ⟨gb489, 7, none⟩ = some (.int .i64 a1_7) ∧ w'.cell? ⟨gb489, 8, none⟩ = some (.int .i64 a1_8) ∧ w'.cell? ⟨gb489, 9, none⟩ = some (.int .i64 a1_9) ∧ w'.cell? ⟨gb489, 10, none⟩ = some (.int .i64 a1_10) ∧ w'.cell? ⟨gb489, 11, none⟩ = some (.int .i64 a1_11) ∧ w'.cell? ⟨gb489, 12, none⟩ = some (.int .i64 a1_12) ∧ w'.cell? ⟨gb489, 13, none⟩ = some (.int .i64 a1_13)) (ds := []) #[false, false, false, false, false, false, false, false, false, false, false] (by kernel_rfl) rfl rfl ⟨Gv.q BK519.out, Gv.q BK519.out, Gv.q BK489.out, Gv.q BK489.out, Gv.q BK489.out, Gv.q BK489.out, Gv.q BK489.out, Gv.q BK489.out, Gv.q BK489.out, Gv.q BK489.out, Gv.q BK489.out, Gv.q BK489.out, Gv.q BK489.out, Gv.q BK489.out, Gv.q BK489.out, Gv.q BK489.out⟩ (fun hHeld => ?_); refine with_tabW laws_FnExactTablePut.tab7 laws_FnExactTablePut.bits7 (fun HT_ HW_ => ?_)
     generalize w64.drew = w65 at HO494 HO512 HO518 BK488 BK489 BK514 BK519 HB hHeld ⊢
     refine Gv.pu 3 (some 38) HT_ ?_
     refine take_ (i := 0) (N := some 35) (v := ?_) (a' := ?_) #[true, false, false, true, false, false, false, false, false, false, false] rfl rfl (take_ofW HT_.out HW_.out (by kernel_rfl)) (fun _ _ _ h => h) (Or.inl ⟨by rfl, ?_⟩) hHeld ?_ ?_
     rotate_left
     ·rintro w' ⟨s0, s1, s2, s3, s4, s5, s6, s7, s8, s9, s10, s11, s12, s13, s14, s15⟩
      first | ((refine Gv.load_run (t := 27) (A := ⟨gb489, 0, none⟩) (cs := [_, _, _, _, _, _, _, _, _, _, _, _, _, _]) (x := ?xx33_) ?ho33_ ?hx33_ ⟨s2, s3, s4, s5, s6, s7, s8, s9, s10, s11, s12, s13, s14, s15, trivial⟩ Try.underlying27 rfl (by kernel_rfl)); (case ho33_ => rfl); (case hx33_ => rfl)) | (go_simp; with_reducible rfl)
     rotate_left
     ·simp only [Act.put, List.setIfInBounds_toArray, List.set_cons_zero, List.set_cons_succ, i64_w, i32_w]
      rfl
     refine take_ (i := 1) (N := some 36) (v := ?_) (a' := ?_) #[true, true, false, true, false, false, false, false, false, false, false] rfl rfl (take_ofW HT_.out HW_.out (by kernel_rfl)) (fun _ _ _ h => h) (Or.inl ⟨by rfl, ?_⟩) hHeld ?_ ?_
     rotate_left
     ·rintro w' ⟨s0, s1, s2, s3, s4, s5, s6, s7, s8, s9, s10, s11, s12, s13, s14, s15⟩
      first | ((refine Gv.load_run (t := 27) (A := ⟨gb489, 0, none⟩) (cs := [_, _, _, _, _, _, _, _, _, _, _, _, _, _]) (x := ?xx35_) ?ho35_ ?hx35_ ⟨s2, s3, s4, s5, s6, s7, s8, s9, s10, s11, s12, s13, s14, s15, trivial⟩ Try.underlying27 rfl (by kernel_rfl)); (case ho35_ => rfl); (case hx35_ => rfl)) | (go_simp; with_reducible rfl)
     rotate_left
     ·simp only [Act.put, List.setIfInBounds_toArray, List.set_cons_zero, List.set_cons_succ, i64_w, i32_w]
      rfl
     refine join_ (σ := Value × Nat) 2 #[true, true, true, true, true, true, true, true, true, false, false] (fun s_ => [(37, .agg #[.int .i64 t520, .int .i64 t521, .int .i64 t522, .int .i64 t523, .int .i64 t524, .int .i64 t525, .int .i64 t526, .int .i64 t527, .int .i64 t528, .int .i64 t529, .int .i64 t530, .int .i64 t531, .int .i64 t532, .int .i64 t533]), (39, .tuple #[.agg #[.int .i64 t534, s_.1], .int .i64 t538]), (11, .pointer (some ⟨s_.2, 0, none⟩)), (34, .tuple #[.agg #[.int .i64 t534, s_.1], .int .i64 t538]), (40, .agg #[.int .i64 t534, s_.1]), (41, .int .i64 t538)]) (fun s_ w' => (w'.cell? ⟨gb519, 0, none⟩ = some (.int .i64 t515) ∧ w'.cell? ⟨gb519, 1, none⟩ = some (.slice Ao63 t516.length co63) ∧ w'.cell? ⟨gb489, 0, none⟩ = some (.int .i64 a1_0) ∧ w'.cell? ⟨gb489, 1, none⟩ = some (.int .i64 a1_1) ∧ w'.cell? ⟨gb489, 2, none⟩ = some (.int .i64 a1_2) ∧ w'.cell? ⟨gb489, 3, none⟩ = some (.int .i64 a1_3) ∧ w'.cell? ⟨gb489, 4, none⟩ = some (.int .i64 a1_4) ∧ w'.cell? ⟨gb489, 5, none⟩ = some (.int .i64 a1_5) ∧ w'.cell? ⟨gb489, 6, none⟩ = some (.int .i64 a1_6) ∧ w'.cell? ⟨gb489, 7, none⟩ = some (.int .i64 a1_7) ∧ w'.cell? ⟨gb489, 8, none⟩ = some (.int .i64 a1_8) ∧ w'.cell? ⟨gb489, 9, none⟩ = some (.int .i64 a1_9) ∧ w'.cell? ⟨gb489, 10, none⟩ = some (.int .i64 a1_10) ∧ w'.cell? ⟨gb489, 11, none⟩ = some (.int .i64 a1_11) ∧ w'.cell? ⟨gb489, 12, none⟩ = some (.int .i64 a1_12) ∧ w'.cell? ⟨gb489, 13, none⟩ = some (.int .i64 a1_13)) ∧ (Kd.R k75 75 w' w.heap.size (fun k_ => some k_ ≠ (.slice Ao53 t510.length co53 : Value).ownBlock ∧ some k_ ≠ (.slice Ao63 t516.length co63 : Value).ownBlock ∧ some k_ ≠ (s_.1 : Value).ownBlock) v493 t492) ∧ (Kd.R k75 75 w' w.heap.size (fun k_ => some k_ ≠ (v493 : Value).ownBlock ∧ some k_ ≠ (.slice Ao63 t516.length co63 : Value).ownBlock ∧ some k_ ≠ (s_.1 : Value).ownBlock) (.slice Ao53 t510.length co53) t510) ∧ (Kd.R k75 75 w' w.heap.size (fun k_ => some k_ ≠ (v493 : Value).ownBlock ∧ some k_ ≠ (.slice Ao53 t510.length co53 : Value).ownBlock ∧ some k_ ≠ (s_.1 : Value).ownBlock) (.slice Ao63 t516.length co63) t516) ∧ (Kd.R k75 75 w' w.heap.size (fun k_ => some k_ ≠ (v493 : Value).ownBlock ∧ some k_ ≠ (.slice Ao53 t510.length co53 : Value).ownBlock ∧ some k_ ≠ (.slice Ao63 t516.length co63 : Value).ownBlock) s_.1 t535) ∧ (w'.heap[gb488]? = some (.cells #[.int .i64 a0_0, .slice A0_1 l0_1.length c0_1] 47 (0, 0))) ∧ (w'.heap[gb489]? = some (.cells #[.int .i64 a1_0, .int .i64 a1_1, .int .i64 a1_2, .int .i64 a1_3, .int .i64 a1_4, .int .i64 a1_5, .int .i64 a1_6, .int .i64 a1_7, .int .i64 a1_8, .int .i64 a1_9, .int .i64 a1_10, .int .i64 a1_11, .int .i64 a1_12, .int .i64 a1_13] 27 (0, 0))) ∧ (w'.heap[gb514]? = some (.cells #[.int .i64 t509, .slice Ao53 t510.length co53] 40 (0, 0))) ∧ (w'.heap[gb519]? = some (.cells #[.int .i64 t515, .slice Ao63 t516.length co63] 40 (0, 0))) ∧ (w'.heap[s_.2]? = some (.cells #[.int .i64 0, .slice none 0 0] 40 (0, 0))) ∧ (w.heap.size ≤ s_.2) ∧ (w.heap.size ≤ s_.2) ∧ (gb488 ≠ s_.2) ∧ (s_.2 ≠ gb488) ∧ (gb489 ≠ s_.2) ∧ (s_.2 ≠ gb489) ∧ (gb514 ≠ s_.2) ∧ (s_.2 ≠ gb514) ∧ (gb519 ≠ s_.2) ∧ (s_.2 ≠ gb519) ∧ (Below w.heap.size w w')) ?_ ?_
     rotate_left
     ·intro hCont
      refine two_ (i := 2) (j := 8) (Ni := some 37) (Nj := some 11) #[true, true, true, true, false, false, false, false, false, false, false] #[true, true, false, true, false, false, false, false, true, false, false] rfl rfl rfl rfl (two_of HT_.out (by kernel_rfl)) (by decide) (by decide) (fun K hK => ?_) (fun K hK => ?_)
      ·skip
       refine goes_ Try.func14 (by kernel_rfl) rfl #[.agg #[.int .i64 a1_0, .int .i64 a1_1, .int .i64 a1_2, .int .i64 a1_3, .int .i64 a1_4, .int .i64 a1_5, .int .i64 a1_6, .int .i64 a1_7, .int .i64 a1_8, .int .i64 a1_9, .int .i64 a1_10, .int .i64 a1_11, .int .i64 a1_12, .int .i64 a1_13]] (by rfl) rfl rfl Gv.lm ?_
       with_reducible refine (laws_toFlowKey.calls a1_0 a1_1 a1_2 a1_3 a1_4 a1_5 a1_6 a1_7 a1_8 a1_9 a1_10 a1_11 a1_12 a1_13 t520 t521 t522 t523 t524 t525 t526 t527 t528 t529 t530 t531 t532 t533 _ A15.out).mono ?_
       rintro e w66 ⟨rfl, hb⟩
       refine ⟨_, rfl, ?_⟩
       replace HO494 := Gv.a0 (Kd.R_below HO494.out hb)
       replace HO512 := Gv.a0 (Kd.R_below HO512.out hb)
       replace HO518 := Gv.a0 (Kd.R_below HO518.out hb)
       replace BK488 := Gv.b1 BK488 hb
       replace BK489 := Gv.b1 BK489 hb
       replace BK514 := Gv.b1 BK514 hb
       replace BK519 := Gv.b1 BK519 hb
       replace HB := Gv.a0 (below_step HB.out hb)
       (try clear hb)
       (try clear hb2)
       (try clear hk)
       (try clear hi)
       refine hK.out _ _ ⟨Gv.q BK519.out, Gv.q BK519.out, Gv.q BK489.out, Gv.q BK489.out, Gv.q BK489.out, Gv.q BK489.out, Gv.q BK489.out, Gv.q BK489.out, Gv.q BK489.out, Gv.q BK489.out, Gv.q BK489.out, Gv.q BK489.out, Gv.q BK489.out, Gv.q BK489.out, Gv.q BK489.out, Gv.q BK489.out⟩ (fun hHeld => ?_)
       clear hK K
       refine norm_ (a' := ?_) ?_ ?_
       rotate_left
       ·show Act.put _ (some 37) _ = _
        simp only [Act.put, List.setIfInBounds_toArray, List.set_cons_zero, List.set_cons_succ, i64_w, i32_w]
        rfl
       refine two_ (i := 4) (j := 8) (Ni := some 39) (Nj := some 11) #[true, true, true, true, true, false, false, false, false, false, false] #[true, true, true, true, false, false, false, false, true, false, false] rfl rfl rfl rfl (two_of HT_.out (by kernel_rfl)) (by decide) (by decide) (fun K hK => ?_) (fun K hK => ?_)
       ·skip
        refine goes_ Try.func39 (by kernel_rfl) rfl #[.agg #[.int .i64 t515, .slice Ao63 t516.length co63], .agg #[.int .i64 t520, .int .i64 t521, .int .i64 t522, .int .i64 t523, .int .i64 t524, .int .i64 t525, .int .i64 t526, .int .i64 t527, .int .i64 t528, .int .i64 t529, .int .i64 t530, .int .i64 t531, .int .i64 t532, .int .i64 t533], .int .i64 a2] (by rfl) rfl rfl Gv.lm ?_
        with_reducible refine (impl_TablePut.calls k t515 _ _ t516 t520 t521 t522 t523 t524 t525 t526 t527 t528 t529 t530 t531 t532 t533 a2 t534 t535 t538 _ ?side1 ?side2 A16.out).mono ?_
        (case side1 => repeat (first | exact (Kd.R_reads' HO518.out).2.2 | (with_reducible refine Kd.C_alloc ?_ _) | (with_reducible refine Kd.C_drewN ?_ _) | (with_reducible refine Kd.C_drew ?_)))
        (case side2 => exact (Kd.R_reads' HO518.out).2.1)
        rintro e w67 ⟨v536, rfl, ho0, hb⟩
        refine ⟨_, rfl, ?_⟩
        have HO537 := Gv.a0 (Kd.R_lower (Kd.R_new' (Kd.R_new' (Kd.R_new' ho0 (Kd.R_lt HO494.out)) (Kd.R_lt HO512.out)) (Kd.R_lt HO518.out)) (below_size HB.out))
        replace HO494 := Gv.a0 (Kd.R_elder' HO494.out (Kd.R_base ho0) hb)
        replace HO512 := Gv.a0 (Kd.R_elder' HO512.out (Kd.R_base ho0) hb)
        replace HO518 := Gv.a0 (Kd.R_elder' HO518.out (Kd.R_base ho0) hb)
        replace BK488 := Gv.b1 BK488 hb
        replace BK489 := Gv.b1 BK489 hb
        replace BK514 := Gv.b1 BK514 hb
        replace BK519 := Gv.b1 BK519 hb
        replace HB := Gv.a0 (below_step HB.out hb)
        (try clear hb)
        (try clear hb2)
        (try clear hk)
        (try clear hi)
        (try clear ho0)
        refine hK.out _ _ ⟨Gv.q BK519.out, Gv.q BK519.out, Gv.q BK489.out, Gv.q BK489.out, Gv.q BK489.out, Gv.q BK489.out, Gv.q BK489.out, Gv.q BK489.out, Gv.q BK489.out, Gv.q BK489.out, Gv.q BK489.out, Gv.q BK489.out, Gv.q BK489.out, Gv.q BK489.out, Gv.q BK489.out, Gv.q BK489.out⟩ (fun hHeld => ?_)
        clear hK K
        refine norm_ (a' := ?_) ?_ ?_
        rotate_left
        ·show Act.put _ (some 39) _ = _
         simp only [Act.put, List.setIfInBounds_toArray, List.set_cons_zero, List.set_cons_succ, i64_w, i32_w]
         rfl
        refine Gv.pu 5 (some 34) HT_ ?_
        refine Gv.pu 6 (some 40) HT_ ?_
        refine Gv.pu 7 (some 41) HT_ ?_
        refine one_ (i := 8) (N := some 11) #[true, true, true, true, true, true, true, true, true, false, false] rfl rfl (one_of HT_.out (by kernel_rfl)) (by decide) (fun K hK => ?_)
        refine box_step ?hg (N := 11) ?hd (cs := #[.int .i64 0, .slice none 0 0]) (t := 40) ?hr ?_; (case hd => rfl); (case hg => rfl); (case hr => first | (go_simp; done) | (go_simp; rfl))
        intro gb539 hg w68 hbox hb
        replace HO494 := Gv.a0 (Kd.R_below HO494.out hb)
        replace HO512 := Gv.a0 (Kd.R_below HO512.out hb)
        replace HO518 := Gv.a0 (Kd.R_below HO518.out hb)
        replace HO537 := Gv.a0 (Kd.R_below HO537.out hb)
        have BK539 := Gv.a0 (hbox)
        have GW539 := Gv.a0 (Gv.ble hg HB.out : w.heap.size ≤ gb539)
        have GE539 := Gv.a0 (Gv.ble hg HB.out : w.heap.size ≤ gb539)
        replace HB := Gv.a0 (below_step HB.out hb)
        have NB488_539 := Gv.a0 (Gv.nlt hg BK488.out : gb488 ≠ gb539)
        have NB539_488 := Gv.a0 (Gv.ngt hg BK488.out : gb539 ≠ gb488)
        replace BK488 := Gv.b1 BK488 hb
        have NB489_539 := Gv.a0 (Gv.nlt hg BK489.out : gb489 ≠ gb539)
        have NB539_489 := Gv.a0 (Gv.ngt hg BK489.out : gb539 ≠ gb489)
        replace BK489 := Gv.b1 BK489 hb
        have NB514_539 := Gv.a0 (Gv.nlt hg BK514.out : gb514 ≠ gb539)
        have NB539_514 := Gv.a0 (Gv.ngt hg BK514.out : gb539 ≠ gb514)
        replace BK514 := Gv.b1 BK514 hb
        have NB519_539 := Gv.a0 (Gv.nlt hg BK519.out : gb519 ≠ gb539)
        have NB539_519 := Gv.a0 (Gv.ngt hg BK519.out : gb539 ≠ gb519)
        replace BK519 := Gv.b1 BK519 hb
        clear hb hbox hg
        refine hK.out _ _ ⟨Gv.q BK519.out, Gv.q BK519.out, Gv.q BK489.out, Gv.q BK489.out, Gv.q BK489.out, Gv.q BK489.out, Gv.q BK489.out, Gv.q BK489.out, Gv.q BK489.out, Gv.q BK489.out, Gv.q BK489.out, Gv.q BK489.out, Gv.q BK489.out, Gv.q BK489.out, Gv.q BK489.out, Gv.q BK489.out⟩ (fun hHeld => ?_)
        clear hK K
        refine norm_ (a' := ?_) ?_ ?_
        rotate_left
        ·show Act.put _ (some 11) _ = _
         simp only [Act.put, List.setIfInBounds_toArray, List.set_cons_zero, List.set_cons_succ, i64_w, i32_w]
         rfl
        exact norm_ (by simp only [putAll, Act.put, List.setIfInBounds_toArray, List.set_cons_zero, List.set_cons_succ]) (hCont (v536, gb539) _ ⟨hHeld, (by (with_reducible repeat (first | apply Kd.R_alloc | apply Kd.R_drewN | apply Kd.R_drew)); exact Kd.R_mono HO494.out (fun _ hk => ⟨hk.1.1, ⟨hk.1.2, hk.2⟩⟩)), (by (with_reducible repeat (first | apply Kd.R_alloc | apply Kd.R_drewN | apply Kd.R_drew)); exact Kd.R_mono HO512.out (fun _ hk => ⟨hk.1.1, ⟨hk.1.2, hk.2⟩⟩)), (by (with_reducible repeat (first | apply Kd.R_alloc | apply Kd.R_drewN | apply Kd.R_drew)); exact Kd.R_mono HO518.out (fun _ hk => ⟨hk.1.1, ⟨hk.1.2, hk.2⟩⟩)), (by (with_reducible repeat (first | apply Kd.R_alloc | apply Kd.R_drewN | apply Kd.R_drew)); exact Kd.R_mono HO537.out (fun _ hk => ⟨hk.1.1.2, ⟨hk.1.2, hk.2⟩⟩)), BK488.out, BK489.out, BK514.out, BK519.out, BK539.out, GW539.out, GE539.out, NB488_539.out, NB539_488.out, NB489_539.out, NB539_489.out, NB514_539.out, NB539_514.out, NB519_539.out, NB539_519.out, HB.out⟩)
       ·skip
        refine box_step ?hg (N := 11) ?hd (cs := #[.int .i64 0, .slice none 0 0]) (t := 40) ?hr ?_; (case hd => rfl); (case hg => rfl); (case hr => first | (go_simp; done) | (go_simp; rfl))
        intro gb539 hg w67 hbox hb
        replace HO494 := Gv.a0 (Kd.R_below HO494.out hb)
        replace HO512 := Gv.a0 (Kd.R_below HO512.out hb)
        replace HO518 := Gv.a0 (Kd.R_below HO518.out hb)
        have BK539 := Gv.a0 (hbox)
        have GW539 := Gv.a0 (Gv.ble hg HB.out : w.heap.size ≤ gb539)
        have GE539 := Gv.a0 (Gv.ble hg HB.out : w.heap.size ≤ gb539)
        replace HB := Gv.a0 (below_step HB.out hb)
        have NB488_539 := Gv.a0 (Gv.nlt hg BK488.out : gb488 ≠ gb539)
        have NB539_488 := Gv.a0 (Gv.ngt hg BK488.out : gb539 ≠ gb488)
        replace BK488 := Gv.b1 BK488 hb
        have NB489_539 := Gv.a0 (Gv.nlt hg BK489.out : gb489 ≠ gb539)
        have NB539_489 := Gv.a0 (Gv.ngt hg BK489.out : gb539 ≠ gb489)
        replace BK489 := Gv.b1 BK489 hb
        have NB514_539 := Gv.a0 (Gv.nlt hg BK514.out : gb514 ≠ gb539)
        have NB539_514 := Gv.a0 (Gv.ngt hg BK514.out : gb539 ≠ gb514)
        replace BK514 := Gv.b1 BK514 hb
        have NB519_539 := Gv.a0 (Gv.nlt hg BK519.out : gb519 ≠ gb539)
        have NB539_519 := Gv.a0 (Gv.ngt hg BK519.out : gb539 ≠ gb519)
        replace BK519 := Gv.b1 BK519 hb
        clear hb hbox hg
        refine hK.out _ _ ⟨Gv.q BK519.out, Gv.q BK519.out, Gv.q BK489.out, Gv.q BK489.out, Gv.q BK489.out, Gv.q BK489.out, Gv.q BK489.out, Gv.q BK489.out, Gv.q BK489.out, Gv.q BK489.out, Gv.q BK489.out, Gv.q BK489.out, Gv.q BK489.out, Gv.q BK489.out, Gv.q BK489.out, Gv.q BK489.out⟩ (fun hHeld => ?_)
        clear hK K
        refine norm_ (a' := ?_) ?_ ?_
        rotate_left
        ·show Act.put _ (some 11) _ = _
         simp only [Act.put, List.setIfInBounds_toArray, List.set_cons_zero, List.set_cons_succ, i64_w, i32_w]
         rfl
        refine one_ (i := 4) (N := some 39) #[true, true, true, true, true, false, false, false, true, false, false] rfl rfl (one_of HT_.out (by kernel_rfl)) (by decide) (fun K hK => ?_)
        refine goes_ Try.func39 (by kernel_rfl) rfl #[.agg #[.int .i64 t515, .slice Ao63 t516.length co63], .agg #[.int .i64 t520, .int .i64 t521, .int .i64 t522, .int .i64 t523, .int .i64 t524, .int .i64 t525, .int .i64 t526, .int .i64 t527, .int .i64 t528, .int .i64 t529, .int .i64 t530, .int .i64 t531, .int .i64 t532, .int .i64 t533], .int .i64 a2] (by rfl) rfl rfl Gv.lm ?_
        with_reducible refine (impl_TablePut.calls k t515 _ _ t516 t520 t521 t522 t523 t524 t525 t526 t527 t528 t529 t530 t531 t532 t533 a2 t534 t535 t538 _ ?side1 ?side2 A16.out).mono ?_
        (case side1 => repeat (first | exact (Kd.R_reads' HO518.out).2.2 | (with_reducible refine Kd.C_alloc ?_ _) | (with_reducible refine Kd.C_drewN ?_ _) | (with_reducible refine Kd.C_drew ?_)))
        (case side2 => exact (Kd.R_reads' HO518.out).2.1)
        rintro e w68 ⟨v536, rfl, ho0, hb⟩
        refine ⟨_, rfl, ?_⟩
        have HO537 := Gv.a0 (Kd.R_lower (Kd.R_new' (Kd.R_new' (Kd.R_new' ho0 (Kd.R_lt HO494.out)) (Kd.R_lt HO512.out)) (Kd.R_lt HO518.out)) (below_size HB.out))
        replace HO494 := Gv.a0 (Kd.R_elder' HO494.out (Kd.R_base ho0) hb)
        replace HO512 := Gv.a0 (Kd.R_elder' HO512.out (Kd.R_base ho0) hb)
        replace HO518 := Gv.a0 (Kd.R_elder' HO518.out (Kd.R_base ho0) hb)
        replace BK488 := Gv.b1 BK488 hb
        replace BK489 := Gv.b1 BK489 hb
        replace BK514 := Gv.b1 BK514 hb
        replace BK519 := Gv.b1 BK519 hb
        replace BK539 := Gv.b1 BK539 hb
        replace HB := Gv.a0 (below_step HB.out hb)
        (try clear hb)
        (try clear hb2)
        (try clear hk)
        (try clear hi)
        (try clear ho0)
        refine hK.out _ _ ⟨Gv.q BK519.out, Gv.q BK519.out, Gv.q BK489.out, Gv.q BK489.out, Gv.q BK489.out, Gv.q BK489.out, Gv.q BK489.out, Gv.q BK489.out, Gv.q BK489.out, Gv.q BK489.out, Gv.q BK489.out, Gv.q BK489.out, Gv.q BK489.out, Gv.q BK489.out, Gv.q BK489.out, Gv.q BK489.out⟩ (fun hHeld => ?_)
        clear hK K
        refine norm_ (a' := ?_) ?_ ?_
        rotate_left
        ·show Act.put _ (some 39) _ = _
         simp only [Act.put, List.setIfInBounds_toArray, List.set_cons_zero, List.set_cons_succ, i64_w, i32_w]
         rfl
        refine Gv.pu 5 (some 34) HT_ ?_
        refine Gv.pu 6 (some 40) HT_ ?_
        refine Gv.pu 7 (some 41) HT_ ?_
        exact norm_ (by simp only [putAll, Act.put, List.setIfInBounds_toArray, List.set_cons_zero, List.set_cons_succ]) (hCont (v536, gb539) _ ⟨hHeld, (by (with_reducible repeat (first | apply Kd.R_alloc | apply Kd.R_drewN | apply Kd.R_drew)); exact Kd.R_mono HO494.out (fun _ hk => ⟨hk.1.1, ⟨hk.1.2, hk.2⟩⟩)), (by (with_reducible repeat (first | apply Kd.R_alloc | apply Kd.R_drewN | apply Kd.R_drew)); exact Kd.R_mono HO512.out (fun _ hk => ⟨hk.1.1, ⟨hk.1.2, hk.2⟩⟩)), (by (with_reducible repeat (first | apply Kd.R_alloc | apply Kd.R_drewN | apply Kd.R_drew)); exact Kd.R_mono HO518.out (fun _ hk => ⟨hk.1.1, ⟨hk.1.2, hk.2⟩⟩)), (by (with_reducible repeat (first | apply Kd.R_alloc | apply Kd.R_drewN | apply Kd.R_drew)); exact Kd.R_mono HO537.out (fun _ hk => ⟨hk.1.1.2, ⟨hk.1.2, hk.2⟩⟩)), BK488.out, BK489.out, BK514.out, BK519.out, BK539.out, GW539.out, GE539.out, NB488_539.out, NB539_488.out, NB489_539.out, NB539_489.out, NB514_539.out, NB539_514.out, NB519_539.out, NB539_519.out, HB.out⟩)
      ·skip
       refine box_step ?hg (N := 11) ?hd (cs := #[.int .i64 0, .slice none 0 0]) (t := 40) ?hr ?_; (case hd => rfl); (case hg => rfl); (case hr => first | (go_simp; done) | (go_simp; rfl))
       intro gb539 hg w66 hbox hb
       replace HO494 := Gv.a0 (Kd.R_below HO494.out hb)
       replace HO512 := Gv.a0 (Kd.R_below HO512.out hb)
       replace HO518 := Gv.a0 (Kd.R_below HO518.out hb)
       have BK539 := Gv.a0 (hbox)
       have GW539 := Gv.a0 (Gv.ble hg HB.out : w.heap.size ≤ gb539)
       have GE539 := Gv.a0 (Gv.ble hg HB.out : w.heap.size ≤ gb539)
       replace HB := Gv.a0 (below_step HB.out hb)
       have NB488_539 := Gv.a0 (Gv.nlt hg BK488.out : gb488 ≠ gb539)
       have NB539_488 := Gv.a0 (Gv.ngt hg BK488.out : gb539 ≠ gb488)
       replace BK488 := Gv.b1 BK488 hb
       have NB489_539 := Gv.a0 (Gv.nlt hg BK489.out : gb489 ≠ gb539)
       have NB539_489 := Gv.a0 (Gv.ngt hg BK489.out : gb539 ≠ gb489)
       replace BK489 := Gv.b1 BK489 hb
       have NB514_539 := Gv.a0 (Gv.nlt hg BK514.out : gb514 ≠ gb539)
       have NB539_514 := Gv.a0 (Gv.ngt hg BK514.out : gb539 ≠ gb514)
       replace BK514 := Gv.b1 BK514 hb
       have NB519_539 := Gv.a0 (Gv.nlt hg BK519.out : gb519 ≠ gb539)
       have NB539_519 := Gv.a0 (Gv.ngt hg BK519.out : gb539 ≠ gb519)
       replace BK519 := Gv.b1 BK519 hb
       clear hb hbox hg
       refine hK.out _ _ ⟨Gv.q BK519.out, Gv.q BK519.out, Gv.q BK489.out, Gv.q BK489.out, Gv.q BK489.out, Gv.q BK489.out, Gv.q BK489.out, Gv.q BK489.out, Gv.q BK489.out, Gv.q BK489.out, Gv.q BK489.out, Gv.q BK489.out, Gv.q BK489.out, Gv.q BK489.out, Gv.q BK489.out, Gv.q BK489.out⟩ (fun hHeld => ?_)
       clear hK K
       refine norm_ (a' := ?_) ?_ ?_
       rotate_left
       ·show Act.put _ (some 11) _ = _
        simp only [Act.put, List.setIfInBounds_toArray, List.set_cons_zero, List.set_cons_succ, i64_w, i32_w]
        rfl
       refine one_ (i := 2) (N := some 37) #[true, true, true, true, false, false, false, false, true, false, false] rfl rfl (one_of HT_.out (by kernel_rfl)) (by decide) (fun K hK => ?_)
       refine goes_ Try.func14 (by kernel_rfl) rfl #[.agg #[.int .i64 a1_0, .int .i64 a1_1, .int .i64 a1_2, .int .i64 a1_3, .int .i64 a1_4, .int .i64 a1_5, .int .i64 a1_6, .int .i64 a1_7, .int .i64 a1_8, .int .i64 a1_9, .int .i64 a1_10, .int .i64 a1_11, .int .i64 a1_12, .int .i64 a1_13]] (by rfl) rfl rfl Gv.lm ?_
       with_reducible refine (laws_toFlowKey.calls a1_0 a1_1 a1_2 a1_3 a1_4 a1_5 a1_6 a1_7 a1_8 a1_9 a1_10 a1_11 a1_12 a1_13 t520 t521 t522 t523 t524 t525 t526 t527 t528 t529 t530 t531 t532 t533 _ A15.out).mono ?_
       rintro e w67 ⟨rfl, hb⟩
       refine ⟨_, rfl, ?_⟩
       replace HO494 := Gv.a0 (Kd.R_below HO494.out hb)
       replace HO512 := Gv.a0 (Kd.R_below HO512.out hb)
       replace HO518 := Gv.a0 (Kd.R_below HO518.out hb)
       replace BK488 := Gv.b1 BK488 hb
       replace BK489 := Gv.b1 BK489 hb
       replace BK514 := Gv.b1 BK514 hb
       replace BK519 := Gv.b1 BK519 hb
       replace BK539 := Gv.b1 BK539 hb
       replace HB := Gv.a0 (below_step HB.out hb)
       (try clear hb)
       (try clear hb2)
       (try clear hk)
       (try clear hi)
       refine hK.out _ _ ⟨Gv.q BK519.out, Gv.q BK519.out, Gv.q BK489.out, Gv.q BK489.out, Gv.q BK489.out, Gv.q BK489.out, Gv.q BK489.out, Gv.q BK489.out, Gv.q BK489.out, Gv.q BK489.out, Gv.q BK489.out, Gv.q BK489.out, Gv.q BK489.out, Gv.q BK489.out, Gv.q BK489.out, Gv.q BK489.out⟩ (fun hHeld => ?_)
       clear hK K
       refine norm_ (a' := ?_) ?_ ?_
       rotate_left
       ·show Act.put _ (some 37) _ = _
        simp only [Act.put, List.setIfInBounds_toArray, List.set_cons_zero, List.set_cons_succ, i64_w, i32_w]
        rfl
       refine one_ (i := 4) (N := some 39) #[true, true, true, true, true, false, false, false, true, false, false] rfl rfl (one_of HT_.out (by kernel_rfl)) (by decide) (fun K hK => ?_)
       refine goes_ Try.func39 (by kernel_rfl) rfl #[.agg #[.int .i64 t515, .slice Ao63 t516.length co63], .agg #[.int .i64 t520, .int .i64 t521, .int .i64 t522, .int .i64 t523, .int .i64 t524, .int .i64 t525, .int .i64 t526, .int .i64 t527, .int .i64 t528, .int .i64 t529, .int .i64 t530, .int .i64 t531, .int .i64 t532, .int .i64 t533], .int .i64 a2] (by rfl) rfl rfl Gv.lm ?_
       with_reducible refine (impl_TablePut.calls k t515 _ _ t516 t520 t521 t522 t523 t524 t525 t526 t527 t528 t529 t530 t531 t532 t533 a2 t534 t535 t538 _ ?side1 ?side2 A16.out).mono ?_
       (case side1 => repeat (first | exact (Kd.R_reads' HO518.out).2.2 | (with_reducible refine Kd.C_alloc ?_ _) | (with_reducible refine Kd.C_drewN ?_ _) | (with_reducible refine Kd.C_drew ?_)))
       (case side2 => exact (Kd.R_reads' HO518.out).2.1)
       rintro e w68 ⟨v536, rfl, ho0, hb⟩
       refine ⟨_, rfl, ?_⟩
       have HO537 := Gv.a0 (Kd.R_lower (Kd.R_new' (Kd.R_new' (Kd.R_new' ho0 (Kd.R_lt HO494.out)) (Kd.R_lt HO512.out)) (Kd.R_lt HO518.out)) (below_size HB.out))
       replace HO494 := Gv.a0 (Kd.R_elder' HO494.out (Kd.R_base ho0) hb)
       replace HO512 := Gv.a0 (Kd.R_elder' HO512.out (Kd.R_base ho0) hb)
       replace HO518 := Gv.a0 (Kd.R_elder' HO518.out (Kd.R_base ho0) hb)
       replace BK488 := Gv.b1 BK488 hb
       replace BK489 := Gv.b1 BK489 hb
       replace BK514 := Gv.b1 BK514 hb
       replace BK519 := Gv.b1 BK519 hb
       replace BK539 := Gv.b1 BK539 hb
       replace HB := Gv.a0 (below_step HB.out hb)
       (try clear hb)
       (try clear hb2)
       (try clear hk)
       (try clear hi)
       (try clear ho0)
       refine hK.out _ _ ⟨Gv.q BK519.out, Gv.q BK519.out, Gv.q BK489.out, Gv.q BK489.out, Gv.q BK489.out, Gv.q BK489.out, Gv.q BK489.out, Gv.q BK489.out, Gv.q BK489.out, Gv.q BK489.out, Gv.q BK489.out, Gv.q BK489.out, Gv.q BK489.out, Gv.q BK489.out, Gv.q BK489.out, Gv.q BK489.out⟩ (fun hHeld => ?_)
       clear hK K
       refine norm_ (a' := ?_) ?_ ?_
       rotate_left
       ·show Act.put _ (some 39) _ = _
        simp only [Act.put, List.setIfInBounds_toArray, List.set_cons_zero, List.set_cons_succ, i64_w, i32_w]
        rfl
       refine Gv.pu 5 (some 34) HT_ ?_
       refine Gv.pu 6 (some 40) HT_ ?_
       refine Gv.pu 7 (some 41) HT_ ?_
       exact norm_ (by simp only [putAll, Act.put, List.setIfInBounds_toArray, List.set_cons_zero, List.set_cons_succ]) (hCont (v536, gb539) _ ⟨hHeld, (by (with_reducible repeat (first | apply Kd.R_alloc | apply Kd.R_drewN | apply Kd.R_drew)); exact Kd.R_mono HO494.out (fun _ hk => ⟨hk.1.1, ⟨hk.1.2, hk.2⟩⟩)), (by (with_reducible repeat (first | apply Kd.R_alloc | apply Kd.R_drewN | apply Kd.R_drew)); exact Kd.R_mono HO512.out (fun _ hk => ⟨hk.1.1, ⟨hk.1.2, hk.2⟩⟩)), (by (with_reducible repeat (first | apply Kd.R_alloc | apply Kd.R_drewN | apply Kd.R_drew)); exact Kd.R_mono HO518.out (fun _ hk => ⟨hk.1.1, ⟨hk.1.2, hk.2⟩⟩)), (by (with_reducible repeat (first | apply Kd.R_alloc | apply Kd.R_drewN | apply Kd.R_drew)); exact Kd.R_mono HO537.out (fun _ hk => ⟨hk.1.1.2, ⟨hk.1.2, hk.2⟩⟩)), BK488.out, BK489.out, BK514.out, BK519.out, BK539.out, GW539.out, GE539.out, NB488_539.out, NB539_488.out, NB489_539.out, NB539_489.out, NB514_539.out, NB539_514.out, NB519_539.out, NB539_519.out, HB.out⟩)
     rintro ⟨v536, gb539⟩ w69 ⟨hS_, h0_, h1_, h2_, h3_, h4_, h5_, h6_, h7_, h8_, h9_, h10_, h11_, h12_, h13_, h14_, h15_, h16_, h17_, h18_, h19_⟩
     have n0_ : Aside0 (Kd.R k75 75 w69 w.heap.size (fun k_ => some k_ ≠ (.slice Ao53 t510.length co53 : Value).ownBlock ∧ some k_ ≠ (.slice Ao63 t516.length co63 : Value).ownBlock ∧ some k_ ≠ (v536 : Value).ownBlock) v493 t492) := ⟨h0_⟩
     have n1_ : Aside0 (Kd.R k75 75 w69 w.heap.size (fun k_ => some k_ ≠ (v493 : Value).ownBlock ∧ some k_ ≠ (.slice Ao63 t516.length co63 : Value).ownBlock ∧ some k_ ≠ (v536 : Value).ownBlock) (.slice Ao53 t510.length co53) t510) := ⟨h1_⟩
     have n2_ : Aside0 (Kd.R k75 75 w69 w.heap.size (fun k_ => some k_ ≠ (v493 : Value).ownBlock ∧ some k_ ≠ (.slice Ao53 t510.length co53 : Value).ownBlock ∧ some k_ ≠ (v536 : Value).ownBlock) (.slice Ao63 t516.length co63) t516) := ⟨h2_⟩
     have n3_ : Aside0 (Kd.R k75 75 w69 w.heap.size (fun k_ => some k_ ≠ (v493 : Value).ownBlock ∧ some k_ ≠ (.slice Ao53 t510.length co53 : Value).ownBlock ∧ some k_ ≠ (.slice Ao63 t516.length co63 : Value).ownBlock) v536 t535) := ⟨h3_⟩
     have n4_ : Aside0 (w69.heap[gb488]? = some (.cells #[.int .i64 a0_0, .slice A0_1 l0_1.length c0_1] 47 (0, 0))) := ⟨h4_⟩
     have n5_ : Aside0 (w69.heap[gb489]? = some (.cells #[.int .i64 a1_0, .int .i64 a1_1, .int .i64 a1_2, .int .i64 a1_3, .int .i64 a1_4, .int .i64 a1_5, .int .i64 a1_6, .int .i64 a1_7, .int .i64 a1_8, .int .i64 a1_9, .int .i64 a1_10, .int .i64 a1_11, .int .i64 a1_12, .int .i64 a1_13] 27 (0, 0))) := ⟨h5_⟩
     have n6_ : Aside0 (w69.heap[gb514]? = some (.cells #[.int .i64 t509, .slice Ao53 t510.length co53] 40 (0, 0))) := ⟨h6_⟩
     have n7_ : Aside0 (w69.heap[gb519]? = some (.cells #[.int .i64 t515, .slice Ao63 t516.length co63] 40 (0, 0))) := ⟨h7_⟩
     have n8_ : Aside0 (w69.heap[gb539]? = some (.cells #[.int .i64 0, .slice none 0 0] 40 (0, 0))) := ⟨h8_⟩
     have n9_ : Aside0 (w.heap.size ≤ gb539) := ⟨h9_⟩
     have n10_ : Aside0 (w.heap.size ≤ gb539) := ⟨h10_⟩
     have n11_ : Aside0 (gb488 ≠ gb539) := ⟨h11_⟩
     have n12_ : Aside0 (gb539 ≠ gb488) := ⟨h12_⟩
     have n13_ : Aside0 (gb489 ≠ gb539) := ⟨h13_⟩
     have n14_ : Aside0 (gb539 ≠ gb489) := ⟨h14_⟩
     have n15_ : Aside0 (gb514 ≠ gb539) := ⟨h15_⟩
     have n16_ : Aside0 (gb539 ≠ gb514) := ⟨h16_⟩
     have n17_ : Aside0 (gb519 ≠ gb539) := ⟨h17_⟩
     have n18_ : Aside0 (gb539 ≠ gb519) := ⟨h18_⟩
     have n19_ : Aside0 (Below w.heap.size w w69) := ⟨h19_⟩
     clear HO494 HO512 HO518 BK488 BK489 BK514 BK519 HB h0_ h1_ h2_ h3_ h4_ h5_ h6_ h7_ h8_ h9_ h10_ h11_ h12_ h13_ h14_ h15_ h16_ h17_ h18_ h19_
     have HO494 := n0_
     have HO512 := n1_
     have HO518 := n2_
     have HO537 := n3_
     have BK488 := n4_
     have BK489 := n5_
     have BK514 := n6_
     have BK519 := n7_
     have BK539 := n8_
     have GW539 := n9_
     have GE539 := n10_
     have NB488_539 := n11_
     have NB539_488 := n12_
     have NB489_539 := n13_
     have NB539_489 := n14_
     have NB514_539 := n15_
     have NB539_514 := n16_
     have NB519_539 := n17_
     have NB539_519 := n18_
     have HB := n19_
     clear n0_ n1_ n2_ n3_ n4_ n5_ n6_ n7_ n8_ n9_ n10_ n11_ n12_ n13_ n14_ n15_ n16_ n17_ n18_ n19_
     have hHeld : w69.cell? ⟨gb519, 0, none⟩ = some (.int .i64 t515) ∧ w69.cell? ⟨gb519, 1, none⟩ = some (.slice Ao63 t516.length co63) ∧ w69.cell? ⟨gb489, 0, none⟩ = some (.int .i64 a1_0) ∧ w69.cell? ⟨gb489, 1, none⟩ = some (.int .i64 a1_1) ∧ w69.cell? ⟨gb489, 2, none⟩ = some (.int .i64 a1_2) ∧ w69.cell? ⟨gb489, 3, none⟩ = some (.int .i64 a1_3) ∧ w69.cell? ⟨gb489, 4, none⟩ = some (.int .i64 a1_4) ∧ w69.cell? ⟨gb489, 5, none⟩ = some (.int .i64 a1_5) ∧ w69.cell? ⟨gb489, 6, none⟩ = some (.int .i64 a1_6) ∧ w69.cell? ⟨gb489, 7, none⟩ = some (.int .i64 a1_7) ∧ w69.cell? ⟨gb489, 8, none⟩ = some (.int .i64 a1_8) ∧ w69.cell? ⟨gb489, 9, none⟩ = some (.int .i64 a1_9) ∧ w69.cell? ⟨gb489, 10, none⟩ = some (.int .i64 a1_10) ∧ w69.cell? ⟨gb489, 11, none⟩ = some (.int .i64 a1_11) ∧ w69.cell? ⟨gb489, 12, none⟩ = some (.int .i64 a1_12) ∧ w69.cell? ⟨gb489, 13, none⟩ = some (.int .i64 a1_13) := hS_
     obtain ⟨Ao71, co71, eo71⟩ := Kd.R_slice HO537.out
     (first | subst eo71 | (injection eo71 with f1_ f2_ f3_; have f4_ := f1_.symm; have f5_ := f3_.symm; clear f1_ f2_ f3_; subst f4_; subst f5_))
     refine norm_ (a' := ?_) ?_ ?_
     rotate_left
     ·simp only [putAll, Act.put, List.setIfInBounds_toArray, List.set_cons_zero, List.set_cons_succ]
      rfl
     refine one_ (i := 9) (N := none) #[true, true, true, true, true, true, true, true, true, true, false] rfl rfl (one_of HT_.out (by kernel_rfl)) (by decide) (fun K hK => ?_)
     have hs70 : w69.cell? ⟨gb539, 0, none⟩ = some (.int .i64 0) := (blk_cell BK539.out 0).trans rfl
     have hfs70 := blk_frozen BK539.out 0
     have hns70_0 := NB488_539.out
     have hns70_1 := NB489_539.out
     have hns70_2 := NB514_539.out
     have hns70_3 := NB519_539.out
     have hms70_0 := NB539_488.out
     have hms70_1 := NB539_489.out
     have hms70_2 := NB539_514.out
     have hms70_3 := NB539_519.out
     have hs72 : w69.cell? ⟨gb539, 1, none⟩ = some (.slice none 0 0) := (blk_cell BK539.out 1).trans rfl
     have hfs72 := blk_frozen BK539.out 1
     have hns72_0 := NB488_539.out
     have hns72_1 := NB489_539.out
     have hns72_2 := NB514_539.out
     have hns72_3 := NB519_539.out
     have hms72_0 := NB539_488.out
     have hms72_1 := NB539_489.out
     have hms72_2 := NB539_514.out
     have hms72_3 := NB539_519.out
     refine skip_ (w1 := ?_) (by rfl) rfl ?_ ?_
     rotate_left
     ·go_simp
      rfl
     refine hK.out _ _ ⟨((cell_far (p := ⟨gb539, _, none⟩) NB519_539.out _).trans (((cell_far (p := ⟨gb539, _, none⟩) NB519_539.out _).trans (hHeld.1)))), ((cell_far (p := ⟨gb539, _, none⟩) NB519_539.out _).trans (((cell_far (p := ⟨gb539, _, none⟩) NB519_539.out _).trans (hHeld.2.1)))), ((cell_far (p := ⟨gb539, _, none⟩) NB489_539.out _).trans (((cell_far (p := ⟨gb539, _, none⟩) NB489_539.out _).trans (hHeld.2.2.1)))), ((cell_far (p := ⟨gb539, _, none⟩) NB489_539.out _).trans (((cell_far (p := ⟨gb539, _, none⟩) NB489_539.out _).trans (hHeld.2.2.2.1)))), ((cell_far (p := ⟨gb539, _, none⟩) NB489_539.out _).trans (((cell_far (p := ⟨gb539, _, none⟩) NB489_539.out _).trans (hHeld.2.2.2.2.1)))), ((cell_far (p := ⟨gb539, _, none⟩) NB489_539.out _).trans (((cell_far (p := ⟨gb539, _, none⟩) NB489_539.out _).trans (hHeld.2.2.2.2.2.1)))), ((cell_far (p := ⟨gb539, _, none⟩) NB489_539.out _).trans (((cell_far (p := ⟨gb539, _, none⟩) NB489_539.out _).trans (hHeld.2.2.2.2.2.2.1)))), ((cell_far (p := ⟨gb539, _, none⟩) NB489_539.out _).trans (((cell_far (p := ⟨gb539, _, none⟩) NB489_539.out _).trans (hHeld.2.2.2.2.2.2.2.1)))), ((cell_far (p := ⟨gb539, _, none⟩) NB489_539.out _).trans (((cell_far (p := ⟨gb539, _, none⟩) NB489_539.out _).trans (hHeld.2.2.2.2.2.2.2.2.1)))), ((cell_far (p := ⟨gb539, _, none⟩) NB489_539.out _).trans (((cell_far (p := ⟨gb539, _, none⟩) NB489_539.out _).trans (hHeld.2.2.2.2.2.2.2.2.2.1)))), ((cell_far (p := ⟨gb539, _, none⟩) NB489_539.out _).trans (((cell_far (p := ⟨gb539, _, none⟩) NB489_539.out _).trans (hHeld.2.2.2.2.2.2.2.2.2.2.1)))), ((cell_far (p := ⟨gb539, _, none⟩) NB489_539.out _).trans (((cell_far (p := ⟨gb539, _, none⟩) NB489_539.out _).trans (hHeld.2.2.2.2.2.2.2.2.2.2.2.1)))), ((cell_far (p := ⟨gb539, _, none⟩) NB489_539.out _).trans (((cell_far (p := ⟨gb539, _, none⟩) NB489_539.out _).trans (hHeld.2.2.2.2.2.2.2.2.2.2.2.2.1)))), ((cell_far (p := ⟨gb539, _, none⟩) NB489_539.out _).trans (((cell_far (p := ⟨gb539, _, none⟩) NB489_539.out _).trans (hHeld.2.2.2.2.2.2.2.2.2.2.2.2.2.1)))), ((cell_far (p := ⟨gb539, _, none⟩) NB489_539.out _).trans (((cell_far (p := ⟨gb539, _, none⟩) NB489_539.out _).trans (hHeld.2.2.2.2.2.2.2.2.2.2.2.2.2.2.1)))), ((cell_far (p := ⟨gb539, _, none⟩) NB489_539.out _).trans (((cell_far (p := ⟨gb539, _, none⟩) NB489_539.out _).trans (hHeld.2.2.2.2.2.2.2.2.2.2.2.2.2.2.2))))⟩ (fun hHeld => ?_)
     clear hK K
     refine Gv.pu 10 (some 12) HT_ ?_
     refine done_ (done_of HT_.out (by kernel_rfl)) ?_
     have hnb73 := NB539_488.out
     have hnc73 := NB488_539.out
     have hnb74 := NB539_489.out
     have hnc74 := NB489_539.out
     have hnb75 := NB539_514.out
     have hnc75 := NB514_539.out
     have hnb76 := NB539_519.out
     have hnc76 := NB519_539.out
     have hcz77_0 : w69.cell? ⟨gb539, 0, none⟩ = some (.int .i64 0) := (blk_cell BK539.out 0).trans rfl
     have hcz77_1 : w69.cell? ⟨gb539, 1, none⟩ = some (.slice none 0 0) := (blk_cell BK539.out 1).trans rfl
     have hfz77_0 := blk_frozen BK539.out 0
     have hfz77_1 := blk_frozen BK539.out 1
     have hnb78 := NB514_489.out
     have hnc78 := NB489_514.out
     have hcz79_0 : w69.cell? ⟨gb514, 0, none⟩ = some (.int .i64 t509) := (blk_cell BK514.out 0).trans rfl
     have hcz79_1 : w69.cell? ⟨gb514, 1, none⟩ = some (.slice Ao53 t510.length co53) := (blk_cell BK514.out 1).trans rfl
     have hfz79_0 := blk_frozen BK514.out 0
     have hfz79_1 := blk_frozen BK514.out 1
     try go_wp2_with (first | ((with_reducible refine gate_callee (f := 20) rfl ?_); refine goesL_ (some 44) rfl rfl Try.func20 (by kernel_rfl) rfl #[.agg #[.int .i64 t534, .slice Ao71 t535.length co71], .agg #[.int .i64 t509, .slice Ao53 t510.length co53]] rfl Gv.lm ?_; (with_reducible refine (laws_eqTable.calls k t534 _ _ t535 t509 _ _ t510 true _ ?side1 ?side2 ?side3 ?side4 A17.out).mono ?_); (case side1 => refine (Kd.R_reads' (e := 75) (base := w.heap.size) (ok := fun k_ => (some k_ ≠ (v493 : Value).ownBlock ∧ (some k_ ≠ (.slice Ao53 t510.length co53 : Value).ownBlock ∧ some k_ ≠ (.slice Ao63 t516.length co63 : Value).ownBlock))) (n := t535.length) (c := co71) ?_).2.2; exact (by (with_reducible repeat (first | apply Kd.R_alloc | apply Kd.R_drewN | apply Kd.R_drew)); exact (Kd.R_mono (Kd.R_far (p := ⟨gb539, 1, none⟩) (Kd.R_far (p := ⟨gb539, 0, none⟩) (Kd.R_types HO537.out BK539.out (by decide)) (fun _ hk => hk.2) (.int .i64 t534)) (fun _ hk => hk.2) (.slice Ao71 t535.length co71)) (fun _ h_ => h_.1)))); (case side2 => exact (Kd.R_reads' HO537.out).2.1); (case side3 => refine (Kd.R_reads' (e := 75) (base := w.heap.size) (ok := fun k_ => (some k_ ≠ (v493 : Value).ownBlock ∧ (some k_ ≠ (.slice Ao63 t516.length co63 : Value).ownBlock ∧ some k_ ≠ (.slice Ao71 t535.length co71 : Value).ownBlock))) (n := t510.length) (c := co53) ?_).2.2; exact (by (with_reducible repeat (first | apply Kd.R_alloc | apply Kd.R_drewN | apply Kd.R_drew)); exact (Kd.R_mono (Kd.R_far (p := ⟨gb539, 1, none⟩) (Kd.R_far (p := ⟨gb539, 0, none⟩) (Kd.R_types HO512.out BK539.out (by decide)) (fun _ hk => hk.2) (.int .i64 t534)) (fun _ hk => hk.2) (.slice Ao71 t535.length co71)) (fun _ h_ => h_.1)))); (case side4 => exact (Kd.R_reads' HO512.out).2.1); rintro e w80 ⟨rfl, hb⟩; refine ⟨_, rfl, ?_⟩; replace HO494 := Gv.a0 (Kd.R_below (by (with_reducible repeat (first | apply Kd.R_alloc | apply Kd.R_drewN | apply Kd.R_drew)); exact (Kd.R_mono (Kd.R_far (p := ⟨gb539, 1, none⟩) (Kd.R_far (p := ⟨gb539, 0, none⟩) (Kd.R_types HO494.out BK539.out (by decide)) (fun _ hk => hk.2) (.int .i64 t534)) (fun _ hk => hk.2) (.slice Ao71 t535.length co71)) (fun _ h_ => h_.1))) hb); replace HO512 := Gv.a0 (Kd.R_below (by (with_reducible repeat (first | apply Kd.R_alloc | apply Kd.R_drewN | apply Kd.R_drew)); exact (Kd.R_mono (Kd.R_far (p := ⟨gb539, 1, none⟩) (Kd.R_far (p := ⟨gb539, 0, none⟩) (Kd.R_types HO512.out BK539.out (by decide)) (fun _ hk => hk.2) (.int .i64 t534)) (fun _ hk => hk.2) (.slice Ao71 t535.length co71)) (fun _ h_ => h_.1))) hb); replace HO518 := Gv.a0 (Kd.R_below (by (with_reducible repeat (first | apply Kd.R_alloc | apply Kd.R_drewN | apply Kd.R_drew)); exact (Kd.R_mono (Kd.R_far (p := ⟨gb539, 1, none⟩) (Kd.R_far (p := ⟨gb539, 0, none⟩) (Kd.R_types HO518.out BK539.out (by decide)) (fun _ hk => hk.2) (.int .i64 t534)) (fun _ hk => hk.2) (.slice Ao71 t535.length co71)) (fun _ h_ => h_.1))) hb); replace HO537 := Gv.a0 (Kd.R_below (by (with_reducible repeat (first | apply Kd.R_alloc | apply Kd.R_drewN | apply Kd.R_drew)); exact (Kd.R_mono (Kd.R_far (p := ⟨gb539, 1, none⟩) (Kd.R_far (p := ⟨gb539, 0, none⟩) (Kd.R_types HO537.out BK539.out (by decide)) (fun _ hk => hk.2) (.int .i64 t534)) (fun _ hk => hk.2) (.slice Ao71 t535.length co71)) (fun _ h_ => h_.1))) hb); replace BK488 := Gv.a0 (blk_below (g := gb488) (o := .cells #[.int .i64 a0_0, .slice A0_1 l0_1.length c0_1] 47 (0, 0)) Gv.bkf hb); replace BK489 := Gv.a0 (blk_below (g := gb489) (o := .cells #[.int .i64 a1_0, .int .i64 a1_1, .int .i64 a1_2, .int .i64 a1_3, .int .i64 a1_4, .int .i64 a1_5, .int .i64 a1_6, .int .i64 a1_7, .int .i64 a1_8, .int .i64 a1_9, .int .i64 a1_10, .int .i64 a1_11, .int .i64 a1_12, .int .i64 a1_13] 27 (0, 0)) Gv.bkf hb); replace BK514 := Gv.a0 (blk_below (g := gb514) (o := .cells #[.int .i64 t509, .slice Ao53 t510.length co53] 40 (0, 0)) Gv.bkf hb); replace BK519 := Gv.a0 (blk_below (g := gb519) (o := .cells #[.int .i64 t515, .slice Ao63 t516.length co63] 40 (0, 0)) Gv.bkf hb); replace BK539 := Gv.a0 (blk_below (g := gb539) (o := .cells #[.int .i64 t534, .slice Ao71 t535.length co71] 40 (0, 0)) (by (with_reducible repeat (first | refine blk_drewN ?_ _ | refine blk_drew ?_ | refine blk_alloc ?_ _)); refine blk_put (cs := #[.int .i64 t534, .slice none 0 0]) ?_ 1 _ rfl; (with_reducible repeat (first | refine blk_drewN ?_ _ | refine blk_drew ?_ | refine blk_alloc ?_ _)); refine blk_put (cs := #[.int .i64 0, .slice none 0 0]) ?_ 0 _ rfl; (with_reducible repeat (first | refine blk_drewN ?_ _ | refine blk_drew ?_ | refine blk_alloc ?_ _)); exact BK539.out) hb); replace HB := Gv.a0 (below_step Gv.bw hb); clear hb))
     replace HO494 := Gv.a0 (Kd.R_drew HO494.out)
     replace HO512 := Gv.a0 (Kd.R_drew HO512.out)
     replace HO518 := Gv.a0 (Kd.R_drew HO518.out)
     replace HO537 := Gv.a0 (Kd.R_drew HO537.out)
     replace BK488 := Gv.a0 (blk_drew BK488.out)
     replace BK489 := Gv.a0 (blk_drew BK489.out)
     replace BK514 := Gv.a0 (blk_drew BK514.out)
     replace BK519 := Gv.a0 (blk_drew BK519.out)
     replace BK539 := Gv.a0 (blk_drew BK539.out)
     replace HB := Gv.a0 (below_drew1 HB.out)
     refine start_ (n := 5) (S := fun w' => w'.cell? ⟨gb519, 0, none⟩ = some (.int .i64 t515) ∧ w'.cell? ⟨gb519, 1, none⟩ = some (.slice Ao63 t516.length co63) ∧ w'.cell? ⟨gb488, 0, none⟩ = some (.int .i64 a0_0) ∧ w'.cell? ⟨gb488, 1, none⟩ = some (.slice A0_1 l0_1.length c0_1)) (ds := []) #[false, false, false, false, false] (by kernel_rfl) rfl rfl ⟨Gv.q BK519.out, Gv.q BK519.out, Gv.q BK488.out, Gv.q BK488.out⟩ (fun hHeld => ?_)
     generalize w80.drew = w81 at HO494 HO512 HO518 HO537 BK488 BK489 BK514 BK519 BK539 HB hHeld ⊢
     refine take_ (i := 0) (N := some 51) (v := ?_) (a' := ?_) #[true, false, false, false, false] rfl rfl (by kernel_rfl) (fun _ _ _ h => h) (Or.inl ⟨by rfl, ?_⟩) hHeld ?_ ?_
     rotate_left
     ·rintro w' ⟨s0, s1, s2, s3⟩
      go_simp
      with_reducible rfl
     rotate_left
     ·simp only [Act.put, List.setIfInBounds_toArray, List.set_cons_zero, List.set_cons_succ, i64_w, i32_w]
      rfl
     refine take_ (i := 1) (N := some 52) (v := ?_) (a' := ?_) #[true, true, false, false, false] rfl rfl (by kernel_rfl) (fun _ _ _ h => h) (Or.inl ⟨by rfl, ?_⟩) hHeld ?_ ?_
     rotate_left
     ·rintro w' ⟨s0, s1, s2, s3⟩
      go_simp
      with_reducible rfl
     rotate_left
     ·simp only [Act.put, List.setIfInBounds_toArray, List.set_cons_zero, List.set_cons_succ, i64_w, i32_w]
      rfl
     refine one_ (i := 2) (N := some 53) #[true, true, true, false, false] rfl rfl (by kernel_rfl) (by decide) (fun K hK => ?_)
     refine goes_ Try.func25 (by kernel_rfl) rfl #[.agg #[.int .i64 a0_0, .slice A0_1 l0_1.length c0_1]] (by rfl) rfl rfl Gv.lm ?_
     with_reducible refine (laws_toTable.calls k a0_0 _ _ l0_1 t541 t542 _ ?side1 ?side2 A20.out).mono ?_
     (case side1 => exact Gv.sd (Kd.C_below HR0_1.out HB.out))
     (case side2 => exact HC0_1.out)
     rintro e w82 ⟨v543, rfl, ho0, hb⟩
     refine ⟨_, rfl, ?_⟩
     have HO544 := Gv.a0 (Kd.R_lower (Kd.R_new' (Kd.R_new' (Kd.R_new' (Kd.R_new' ho0 (Kd.R_lt HO494.out)) (Kd.R_lt HO512.out)) (Kd.R_lt HO518.out)) (Kd.R_lt HO537.out)) (below_size HB.out))
     replace HO494 := Gv.a0 (Kd.R_elder' HO494.out (Kd.R_base ho0) hb)
     replace HO512 := Gv.a0 (Kd.R_elder' HO512.out (Kd.R_base ho0) hb)
     replace HO518 := Gv.a0 (Kd.R_elder' HO518.out (Kd.R_base ho0) hb)
     replace HO537 := Gv.a0 (Kd.R_elder' HO537.out (Kd.R_base ho0) hb)
     replace BK488 := Gv.b1 BK488 hb
     replace BK489 := Gv.b1 BK489 hb
     replace BK514 := Gv.b1 BK514 hb
     replace BK519 := Gv.b1 BK519 hb
     replace BK539 := Gv.b1 BK539 hb
     replace HB := Gv.a0 (below_step HB.out hb)
     (try clear hb)
     (try clear hb2)
     (try clear hk)
     (try clear hi)
     (try clear ho0)
     obtain ⟨Ao83, co83, eo83⟩ := Kd.R_slice HO544.out
     (first | subst eo83 | (injection eo83 with f1_ f2_ f3_; have f4_ := f1_.symm; have f5_ := f3_.symm; clear f1_ f2_ f3_; subst f4_; subst f5_))
     refine hK.out _ _ ⟨Gv.q BK519.out, Gv.q BK519.out, Gv.q BK488.out, Gv.q BK488.out⟩ (fun hHeld => ?_)
     clear hK K
     refine norm_ (a' := ?_) ?_ ?_
     rotate_left
     ·show Act.put _ (some 53) _ = _
      simp only [Act.put, List.setIfInBounds_toArray, List.set_cons_zero, List.set_cons_succ, i64_w, i32_w]
      rfl
     refine one_ (i := 3) (N := some 54) #[true, true, true, true, false] rfl rfl (by kernel_rfl) (by decide) (fun K hK => ?_)
     refine goes_ Try.func20 (by kernel_rfl) rfl #[.agg #[.int .i64 t515, .slice Ao63 t516.length co63], .agg #[.int .i64 t541, .slice Ao83 t542.length co83]] (by rfl) rfl rfl Gv.lm ?_
     with_reducible refine (laws_eqTable.calls k t515 _ _ t516 t541 _ _ t542 true _ ?side1 ?side2 ?side3 ?side4 A21.out).mono ?_
     (case side1 => repeat (first | exact (Kd.R_reads' HO518.out).2.2 | (with_reducible refine Kd.C_alloc ?_ _) | (with_reducible refine Kd.C_drewN ?_ _) | (with_reducible refine Kd.C_drew ?_)))
     (case side2 => exact (Kd.R_reads' HO518.out).2.1)
     (case side3 => repeat (first | exact (Kd.R_reads' HO544.out).2.2 | (with_reducible refine Kd.C_alloc ?_ _) | (with_reducible refine Kd.C_drewN ?_ _) | (with_reducible refine Kd.C_drew ?_)))
     (case side4 => exact (Kd.R_reads' HO544.out).2.1)
     rintro e w84 ⟨rfl, hb⟩
     refine ⟨_, rfl, ?_⟩
     replace HO494 := Gv.a0 (Kd.R_below HO494.out hb)
     replace HO512 := Gv.a0 (Kd.R_below HO512.out hb)
     replace HO518 := Gv.a0 (Kd.R_below HO518.out hb)
     replace HO537 := Gv.a0 (Kd.R_below HO537.out hb)
     replace HO544 := Gv.a0 (Kd.R_below HO544.out hb)
     replace BK488 := Gv.b1 BK488 hb
     replace BK489 := Gv.b1 BK489 hb
     replace BK514 := Gv.b1 BK514 hb
     replace BK519 := Gv.b1 BK519 hb
     replace BK539 := Gv.b1 BK539 hb
     replace HB := Gv.a0 (below_step HB.out hb)
     (try clear hb)
     (try clear hb2)
     (try clear hk)
     (try clear hi)
     refine hK.out _ _ ⟨Gv.q BK519.out, Gv.q BK519.out, Gv.q BK488.out, Gv.q BK488.out⟩ (fun hHeld => ?_)
     clear hK K
     refine norm_ (a' := ?_) ?_ ?_
     rotate_left
     ·show Act.put _ (some 54) _ = _
      simp only [Act.put, List.setIfInBounds_toArray, List.set_cons_zero, List.set_cons_succ, i64_w, i32_w]
      rfl
     refine pure_ (i := 4) (N := some 55) (v := ?_) (a' := ?_) #[true, true, true, true, true] rfl rfl (by kernel_rfl) (fun _ _ _ h => h) (Or.inl ⟨by rfl, ?_⟩) ?_ ?_
     rotate_left
     ·intro w'
      go_simp
      with_reducible rfl
     rotate_left
     ·simp only [Act.put, List.setIfInBounds_toArray, List.set_cons_zero, List.set_cons_succ, i64_w, i32_w]
      rfl
     refine done_ (by kernel_rfl) ?_
     have hcz85_0 : w84.cell? ⟨gb519, 0, none⟩ = some (.int .i64 t515) := (blk_cell BK519.out 0).trans rfl
     have hcz85_1 : w84.cell? ⟨gb519, 1, none⟩ = some (.slice Ao63 t516.length co63) := (blk_cell BK519.out 1).trans rfl
     have hfz85_0 := blk_frozen BK519.out 0
     have hfz85_1 := blk_frozen BK519.out 1
     try go_wp2_with (first | ((with_reducible refine gate_callee (f := 21) rfl ?_); refine goesL_ (some 58) rfl rfl Try.func21 (by kernel_rfl) rfl #[.agg #[.int .i64 t515, .slice Ao63 t516.length co63], .int .i64 1] rfl Gv.lm ?_; (with_reducible refine (laws_markTable.calls t515 (fun k_ => some k_ = (.slice Ao63 t516.length co63 : Value).ownBlock) (.slice Ao63 t516.length co63) t516 1 t546 t547 w _ ?side1 ?side2 A23.out).mono ?_); (case side1 => repeat (first | (with_reducible first | exact HB.out | apply below_alloc | apply pw_below_drewN | apply below_drew1 | refine below_set ?_ GE488.out | refine below_set ?_ GE489.out | refine below_set ?_ GE514.out | refine below_set ?_ GE519.out | refine below_set ?_ GE539.out) | exact HB.out)); (case side2 => exact Kd.R_tight rfl HO518.out); rintro e w86 ⟨rfl, hy0, hb, hkp⟩; refine ⟨_, rfl, ?_⟩; replace BK488 := Gv.a0 (blk_kept Gv.bk hkp (fun hs_ => (fun e_ => (Kd.R_ne HO518.out BK488.out (by decide)) e_) hs_)); replace BK489 := Gv.a0 (blk_kept Gv.bk hkp (fun hs_ => (fun e_ => (Kd.R_ne HO518.out BK489.out (by decide)) e_) hs_)); replace HO494 := Gv.a0 (Kd.R_mono (ok' := fun k_ => some k_ ≠ (.slice Ao53 t510.length co53 : Value).ownBlock ∧ some k_ ≠ (.slice Ao63 t516.length co63 : Value).ownBlock ∧ some k_ ≠ (.slice Ao71 t535.length co71 : Value).ownBlock ∧ some k_ ≠ (.slice Ao83 t542.length co83 : Value).ownBlock) (Kd.R_keptB (HO494.out) hkp (fun k_ hk_ hs_ => (hk_.1.2.1) hs_)) (fun k_ hk_ => ⟨hk_.1.1.1, hk_.1.1.2.1, hk_.1.1.2.2, hk_.1.2⟩)); replace HO512 := Gv.a0 (Kd.R_mono (ok' := fun k_ => some k_ ≠ (v493 : Value).ownBlock ∧ some k_ ≠ (.slice Ao63 t516.length co63 : Value).ownBlock ∧ some k_ ≠ (.slice Ao71 t535.length co71 : Value).ownBlock ∧ some k_ ≠ (.slice Ao83 t542.length co83 : Value).ownBlock) (Kd.R_keptB (HO512.out) hkp (fun k_ hk_ hs_ => (hk_.1.2.1) hs_)) (fun k_ hk_ => ⟨hk_.1.1.1, hk_.1.1.2.1, hk_.1.1.2.2, hk_.1.2⟩)); replace BK514 := Gv.a0 (blk_kept Gv.bk hkp (fun hs_ => (fun e_ => (Kd.R_ne HO518.out BK514.out (by decide)) e_) hs_)); replace BK519 := Gv.a0 (blk_kept Gv.bk hkp (fun hs_ => (fun e_ => (Kd.R_ne HO518.out BK519.out (by decide)) e_) hs_)); replace HO537 := Gv.a0 (Kd.R_mono (ok' := fun k_ => some k_ ≠ (v493 : Value).ownBlock ∧ some k_ ≠ (.slice Ao53 t510.length co53 : Value).ownBlock ∧ some k_ ≠ (.slice Ao63 t516.length co63 : Value).ownBlock ∧ some k_ ≠ (.slice Ao83 t542.length co83 : Value).ownBlock) (Kd.R_keptB (HO537.out) hkp (fun k_ hk_ hs_ => (hk_.1.2.2) hs_)) (fun k_ hk_ => ⟨hk_.1.1.1, hk_.1.1.2.1, hk_.1.1.2.2, hk_.1.2⟩)); replace BK539 := Gv.a0 (blk_kept Gv.bk hkp (fun hs_ => (fun e_ => (Kd.R_ne HO518.out BK539.out (by decide)) e_) hs_)); replace HO518 := Gv.a0 (Kd.R_reok rfl hy0 (fun k_ e_ => HO518.out.1 k_ e_)); replace HO544 := Gv.a0 (Kd.R_mono (ok' := fun k_ => some k_ ≠ (v493 : Value).ownBlock ∧ some k_ ≠ (.slice Ao53 t510.length co53 : Value).ownBlock ∧ some k_ ≠ (.slice Ao63 t516.length co63 : Value).ownBlock ∧ some k_ ≠ (.slice Ao71 t535.length co71 : Value).ownBlock) (Kd.R_keptB (HO544.out) hkp (fun k_ hk_ hs_ => (hk_.1.2) hs_)) (fun k_ hk_ => ⟨hk_.1.1.1.1.2, hk_.1.1.1.2, hk_.1.1.2, hk_.1.2⟩)); replace HB := Gv.a0 (hb); clear hb; (try clear hkp); (try clear hy0); have hcz87_0 : w86.cell? ⟨gb539, 0, none⟩ = some (.int .i64 t534) := (blk_cell BK539.out 0).trans rfl; have hcz87_1 : w86.cell? ⟨gb539, 1, none⟩ = some (.slice Ao71 t535.length co71) := (blk_cell BK539.out 1).trans rfl; have hfz87_0 := blk_frozen BK539.out 0; have hfz87_1 := blk_frozen BK539.out 1; have hcz88_0 : w86.cell? ⟨gb514, 0, none⟩ = some (.int .i64 t509) := (blk_cell BK514.out 0).trans rfl; have hcz88_1 : w86.cell? ⟨gb514, 1, none⟩ = some (.slice Ao53 t510.length co53) := (blk_cell BK514.out 1).trans rfl; have hfz88_0 := blk_frozen BK514.out 0; have hfz88_1 := blk_frozen BK514.out 1) | (go_at_call 20; (with_reducible refine (laws_eqTable.calls k t534 _ _ t535 t509 _ _ t510 true _ ?side1 ?side2 ?side3 ?side4 A25.out).mono ?_); (case side1 => repeat (first | exact (Kd.R_reads' HO537.out).2.2 | (with_reducible refine Kd.C_alloc ?_ _) | (with_reducible refine Kd.C_drewN ?_ _) | (with_reducible refine Kd.C_drew ?_))); (case side2 => exact (Kd.R_reads' HO537.out).2.1); (case side3 => repeat (first | exact (Kd.R_reads' HO512.out).2.2 | (with_reducible refine Kd.C_alloc ?_ _) | (with_reducible refine Kd.C_drewN ?_ _) | (with_reducible refine Kd.C_drew ?_))); (case side4 => exact (Kd.R_reads' HO512.out).2.1); rintro e w89 ⟨rfl, hb⟩; replace HO494 := Gv.a0 (Kd.R_below (Gv.kr HO494.out) hb); replace HO512 := Gv.a0 (Kd.R_below (Gv.kr HO512.out) hb); replace HO518 := Gv.a0 (Kd.R_below (Gv.kr HO518.out) hb); replace HO537 := Gv.a0 (Kd.R_below (Gv.kr HO537.out) hb); replace HO544 := Gv.a0 (Kd.R_below (Gv.kr HO544.out) hb); replace BK488 := Gv.b1 BK488 hb; replace BK489 := Gv.b1 BK489 hb; replace BK514 := Gv.b1 BK514 hb; replace BK519 := Gv.b1 BK519 hb; replace BK539 := Gv.b1 BK539 hb; replace HB := Gv.a0 (below_step Gv.bw hb); clear hb; have hcz90_0 : w89.cell? ⟨gb539, 0, none⟩ = some (.int .i64 t534) := (blk_cell BK539.out 0).trans rfl; have hcz90_1 : w89.cell? ⟨gb539, 1, none⟩ = some (.slice Ao71 t535.length co71) := (blk_cell BK539.out 1).trans rfl; have hfz90_0 := blk_frozen BK539.out 0; have hfz90_1 := blk_frozen BK539.out 1) | ((with_reducible refine gate_callee (f := 21) rfl ?_); refine goesL_ (some 74) rfl rfl Try.func21 (by kernel_rfl) rfl #[.agg #[.int .i64 t534, .slice Ao71 t535.length co71], .int .i64 1] rfl Gv.lm ?_; (with_reducible refine (laws_markTable.calls t534 (fun k_ => some k_ = (.slice Ao71 t535.length co71 : Value).ownBlock) (.slice Ao71 t535.length co71) t535 1 t549 t550 w _ ?side1 ?side2 A27.out).mono ?_); (case side1 => repeat (first | (with_reducible first | exact HB.out | apply below_alloc | apply pw_below_drewN | apply below_drew1 | refine below_set ?_ GE488.out | refine below_set ?_ GE489.out | refine below_set ?_ GE514.out | refine below_set ?_ GE519.out | refine below_set ?_ GE539.out) | exact HB.out)); (case side2 => exact Kd.R_tight rfl HO537.out); rintro e w91 ⟨rfl, hy0, hb, hkp⟩; refine ⟨_, rfl, ?_⟩; replace BK488 := Gv.a0 (blk_kept Gv.bk hkp (fun hs_ => (fun e_ => (Kd.R_ne HO537.out BK488.out (by decide)) e_) hs_)); replace BK489 := Gv.a0 (blk_kept Gv.bk hkp (fun hs_ => (fun e_ => (Kd.R_ne HO537.out BK489.out (by decide)) e_) hs_)); replace HO494 := Gv.a0 (Kd.R_mono (ok' := fun k_ => some k_ ≠ (.slice Ao53 t510.length co53 : Value).ownBlock ∧ some k_ ≠ (.slice Ao63 t516.length co63 : Value).ownBlock ∧ some k_ ≠ (.slice Ao71 t535.length co71 : Value).ownBlock ∧ some k_ ≠ (.slice Ao83 t542.length co83 : Value).ownBlock) (Kd.R_keptB (HO494.out) hkp (fun k_ hk_ hs_ => (hk_.2.2.1) hs_)) (fun k_ hk_ => ⟨hk_.1.1, hk_.1.2.1, hk_.1.2.2.1, hk_.1.2.2.2⟩)); replace HO512 := Gv.a0 (Kd.R_mono (ok' := fun k_ => some k_ ≠ (v493 : Value).ownBlock ∧ some k_ ≠ (.slice Ao63 t516.length co63 : Value).ownBlock ∧ some k_ ≠ (.slice Ao71 t535.length co71 : Value).ownBlock ∧ some k_ ≠ (.slice Ao83 t542.length co83 : Value).ownBlock) (Kd.R_keptB (HO512.out) hkp (fun k_ hk_ hs_ => (hk_.2.2.1) hs_)) (fun k_ hk_ => ⟨hk_.1.1, hk_.1.2.1, hk_.1.2.2.1, hk_.1.2.2.2⟩)); replace BK514 := Gv.a0 (blk_kept Gv.bk hkp (fun hs_ => (fun e_ => (Kd.R_ne HO537.out BK514.out (by decide)) e_) hs_)); replace HO518 := Gv.a0 (Kd.R_mono (ok' := fun k_ => some k_ ≠ (v493 : Value).ownBlock ∧ some k_ ≠ (.slice Ao53 t510.length co53 : Value).ownBlock ∧ some k_ ≠ (.slice Ao71 t535.length co71 : Value).ownBlock ∧ some k_ ≠ (.slice Ao83 t542.length co83 : Value).ownBlock) (Kd.R_keptB (HO518.out) hkp (fun k_ hk_ hs_ => (hk_.1.2.2) hs_)) (fun k_ hk_ => ⟨hk_.1.1.1, hk_.1.1.2.1, hk_.1.1.2.2, hk_.1.2⟩)); replace BK519 := Gv.a0 (blk_kept Gv.bk hkp (fun hs_ => (fun e_ => (Kd.R_ne HO537.out BK519.out (by decide)) e_) hs_)); replace BK539 := Gv.a0 (blk_kept Gv.bk hkp (fun hs_ => (fun e_ => (Kd.R_ne HO537.out BK539.out (by decide)) e_) hs_)); replace HO537 := Gv.a0 (Kd.R_reok rfl hy0 (fun k_ e_ => HO537.out.1 k_ e_)); replace HO544 := Gv.a0 (Kd.R_mono (ok' := fun k_ => some k_ ≠ (v493 : Value).ownBlock ∧ some k_ ≠ (.slice Ao53 t510.length co53 : Value).ownBlock ∧ some k_ ≠ (.slice Ao63 t516.length co63 : Value).ownBlock ∧ some k_ ≠ (.slice Ao71 t535.length co71 : Value).ownBlock) (Kd.R_keptB (HO544.out) hkp (fun k_ hk_ hs_ => (hk_.2.2.2) hs_)) (fun k_ hk_ => ⟨hk_.1.1, hk_.1.2.1, hk_.1.2.2.1, hk_.1.2.2.2⟩)); replace HB := Gv.a0 (hb); clear hb; (try clear hkp); (try clear hy0); have hcz92_0 : w91.cell? ⟨gb539, 0, none⟩ = some (.int .i64 t534) := (blk_cell BK539.out 0).trans rfl; have hcz92_1 : w91.cell? ⟨gb539, 1, none⟩ = some (.slice Ao71 t535.length co71) := (blk_cell BK539.out 1).trans rfl; have hfz92_0 := blk_frozen BK539.out 0; have hfz92_1 := blk_frozen BK539.out 1) | ((with_reducible refine gate_callee (f := 22) rfl ?_); refine goesL_ (some 77) rfl rfl Try.func22 (by kernel_rfl) rfl #[.agg #[.int .i64 t534, .slice Ao71 t550.length co71], .int .i64 1] rfl (by (try simp only [List.map_toArray, List.map_cons, List.map_nil]); first | done | (rw [show t550.length = t535.length from (Kd.R_reads' HO537.out).1.symm] <;> rfl) | rfl | (simp only [List.length_drop, List.length_take]; rfl)) ?_; (with_reducible refine (laws_heldTable.calls t534 _ _ t550 1 t551 _ ?side1 ?side2 A28.out).mono ?_); (case side1 => repeat (first | exact (Kd.R_reads' HO537.out).2.2 | (with_reducible refine Kd.C_alloc ?_ _) | (with_reducible refine Kd.C_drewN ?_ _) | (with_reducible refine Kd.C_drew ?_))); (case side2 => rw [show t550.length = t535.length from (Kd.R_reads' HO537.out).1.symm]; exact (Kd.R_reads' HO537.out).2.1); rintro e w93 ⟨rfl, hb⟩; refine ⟨_, rfl, ?_⟩; replace HO494 := Gv.a0 (Kd.R_below (Gv.kr HO494.out) hb); replace HO512 := Gv.a0 (Kd.R_below (Gv.kr HO512.out) hb); replace HO518 := Gv.a0 (Kd.R_below (Gv.kr HO518.out) hb); replace HO537 := Gv.a0 (Kd.R_below (Gv.kr HO537.out) hb); replace HO544 := Gv.a0 (Kd.R_below (Gv.kr HO544.out) hb); replace BK488 := Gv.b1 BK488 hb; replace BK489 := Gv.b1 BK489 hb; replace BK514 := Gv.b1 BK514 hb; replace BK519 := Gv.b1 BK519 hb; replace BK539 := Gv.b1 BK539 hb; replace HB := Gv.a0 (below_step Gv.bw hb); clear hb))
     replace HO494 := Gv.a0 (Kd.R_drew HO494.out)
     replace HO512 := Gv.a0 (Kd.R_drew HO512.out)
     replace HO518 := Gv.a0 (Kd.R_drew HO518.out)
     replace HO537 := Gv.a0 (Kd.R_drew HO537.out)
     replace HO544 := Gv.a0 (Kd.R_drew HO544.out)
     replace BK488 := Gv.a0 (blk_drew BK488.out)
     replace BK489 := Gv.a0 (blk_drew BK489.out)
     replace BK514 := Gv.a0 (blk_drew BK514.out)
     replace BK519 := Gv.a0 (blk_drew BK519.out)
     replace BK539 := Gv.a0 (blk_drew BK539.out)
     replace HB := Gv.a0 (below_drew1 HB.out)
     refine start_ (n := 12) (S := fun w' => w'.cell? ⟨gb488, 0, none⟩ = some (.int .i64 a0_0) ∧ w'.cell? ⟨gb488, 1, none⟩ = some (.slice A0_1 l0_1.length c0_1) ∧ w'.cell? ⟨gb489, 0, none⟩ = some (.int .i64 a1_0) ∧ w'.cell? ⟨gb489, 1, none⟩ = some (.int .i64 a1_1) ∧ w'.cell? ⟨gb489, 2, none⟩ = some (.int .i64 a1_2) ∧ w'.cell? ⟨gb489, 3, none⟩ = some (.int .i64 a1_3) ∧ w'.cell? ⟨gb489, 4, none⟩ = some (.int .i64 a1_4) ∧ w'.cell? ⟨gb489, 5, none⟩ = some (.int .i64 a1_5) ∧ w'.cell? ⟨gb489, 6, none⟩ = some (.int .i64 a1_6) ∧ w'.cell? ⟨gb489, 7, none⟩ = some (.int .i64 a1_7) ∧ w'.cell? ⟨gb489, 8, none⟩ = some (.int .i64 a1_8) ∧ w'.cell? ⟨gb489, 9, none⟩ = some (.int .i64 a1_9) ∧ w'.cell? ⟨gb489, 10, none⟩ = some (.int .i64 a1_10) ∧ w'.cell? ⟨gb489, 11, none⟩ = some (.int .i64 a1_11) ∧ w'.cell? ⟨gb489, 12, none⟩ = some (.int .i64 a1_12) ∧ w'.cell? ⟨gb489, 13, none⟩ = some (.int .i64 a1_13)) (ds := []) #[false, false, false, false, false, false, false, false, false, false, false, false] (by kernel_rfl) rfl rfl ⟨Gv.q BK488.out, Gv.q BK488.out, Gv.q BK489.out, Gv.q BK489.out, Gv.q BK489.out, Gv.q BK489.out, Gv.q BK489.out, Gv.q BK489.out, Gv.q BK489.out, Gv.q BK489.out, Gv.q BK489.out, Gv.q BK489.out, Gv.q BK489.out, Gv.q BK489.out, Gv.q BK489.out, Gv.q BK489.out⟩ (fun hHeld => ?_); refine with_tabW laws_FnExactTablePut.tab24 laws_FnExactTablePut.bits24 (fun HT_ HW_ => ?_)
     generalize w93.drew = w94 at HO494 HO512 HO518 HO537 HO544 BK488 BK489 BK514 BK519 BK539 HB hHeld ⊢
     refine Gv.pu 4 (some 88) HT_ ?_
     refine take_ (i := 0) (N := some 84) (v := ?_) (a' := ?_) #[true, false, false, false, true, false, false, false, false, false, false, false] rfl rfl (take_ofW HT_.out HW_.out (by kernel_rfl)) (fun _ _ _ h => h) (Or.inl ⟨by rfl, ?_⟩) hHeld ?_ ?_
     rotate_left
     ·rintro w' ⟨s0, s1, s2, s3, s4, s5, s6, s7, s8, s9, s10, s11, s12, s13, s14, s15⟩
      first | ((refine Gv.load_run (t := 27) (A := ⟨gb489, 0, none⟩) (cs := [_, _, _, _, _, _, _, _, _, _, _, _, _, _]) (x := ?xx37_) ?ho37_ ?hx37_ ⟨s2, s3, s4, s5, s6, s7, s8, s9, s10, s11, s12, s13, s14, s15, trivial⟩ Try.underlying27 rfl (by kernel_rfl)); (case ho37_ => rfl); (case hx37_ => rfl)) | (go_simp; with_reducible rfl)
     rotate_left
     ·simp only [Act.put, List.setIfInBounds_toArray, List.set_cons_zero, List.set_cons_succ, i64_w, i32_w]
      rfl
     refine take_ (i := 2) (N := some 86) (v := ?_) (a' := ?_) #[true, false, true, false, true, false, false, false, false, false, false, false] rfl rfl (take_ofW HT_.out HW_.out (by kernel_rfl)) (fun _ _ _ h => h) (Or.inl ⟨by rfl, ?_⟩) hHeld ?_ ?_
     rotate_left
     ·rintro w' ⟨s0, s1, s2, s3, s4, s5, s6, s7, s8, s9, s10, s11, s12, s13, s14, s15⟩
      first | ((refine Gv.load_run (t := 27) (A := ⟨gb489, 0, none⟩) (cs := [_, _, _, _, _, _, _, _, _, _, _, _, _, _]) (x := ?xx39_) ?ho39_ ?hx39_ ⟨s2, s3, s4, s5, s6, s7, s8, s9, s10, s11, s12, s13, s14, s15, trivial⟩ Try.underlying27 rfl (by kernel_rfl)); (case ho39_ => rfl); (case hx39_ => rfl)) | (go_simp; with_reducible rfl)
     rotate_left
     ·simp only [Act.put, List.setIfInBounds_toArray, List.set_cons_zero, List.set_cons_succ, i64_w, i32_w]
      rfl
     refine join_ (σ := Value × Value × Nat) 2 #[true, true, true, true, true, true, true, true, true, true, false, false] (fun s_ => [(85, .agg #[.int .i64 t552, s_.1]), (87, .agg #[.int .i64 t556, .int .i64 t557, .int .i64 t558, .int .i64 t559, .int .i64 t560, .int .i64 t561, .int .i64 t562, .int .i64 t563, .int .i64 t564, .int .i64 t565, .int .i64 t566, .int .i64 t567, .int .i64 t568, .int .i64 t569]), (89, .tuple #[.agg #[.int .i64 t570, s_.2.1], .int .i64 t574]), (16, .pointer (some ⟨s_.2.2, 0, none⟩)), (83, .tuple #[.agg #[.int .i64 t570, s_.2.1], .int .i64 t574]), (90, .agg #[.int .i64 t570, s_.2.1]), (91, .int .i64 t574)]) (fun s_ w' => (w'.cell? ⟨gb488, 0, none⟩ = some (.int .i64 a0_0) ∧ w'.cell? ⟨gb488, 1, none⟩ = some (.slice A0_1 l0_1.length c0_1) ∧ w'.cell? ⟨gb489, 0, none⟩ = some (.int .i64 a1_0) ∧ w'.cell? ⟨gb489, 1, none⟩ = some (.int .i64 a1_1) ∧ w'.cell? ⟨gb489, 2, none⟩ = some (.int .i64 a1_2) ∧ w'.cell? ⟨gb489, 3, none⟩ = some (.int .i64 a1_3) ∧ w'.cell? ⟨gb489, 4, none⟩ = some (.int .i64 a1_4) ∧ w'.cell? ⟨gb489, 5, none⟩ = some (.int .i64 a1_5) ∧ w'.cell? ⟨gb489, 6, none⟩ = some (.int .i64 a1_6) ∧ w'.cell? ⟨gb489, 7, none⟩ = some (.int .i64 a1_7) ∧ w'.cell? ⟨gb489, 8, none⟩ = some (.int .i64 a1_8) ∧ w'.cell? ⟨gb489, 9, none⟩ = some (.int .i64 a1_9) ∧ w'.cell? ⟨gb489, 10, none⟩ = some (.int .i64 a1_10) ∧ w'.cell? ⟨gb489, 11, none⟩ = some (.int .i64 a1_11) ∧ w'.cell? ⟨gb489, 12, none⟩ = some (.int .i64 a1_12) ∧ w'.cell? ⟨gb489, 13, none⟩ = some (.int .i64 a1_13)) ∧ (Kd.R k75 75 w' w.heap.size (fun k_ => some k_ ≠ (.slice Ao53 t510.length co53 : Value).ownBlock ∧ some k_ ≠ (.slice Ao63 t516.length co63 : Value).ownBlock ∧ some k_ ≠ (.slice Ao71 t535.length co71 : Value).ownBlock ∧ some k_ ≠ (.slice Ao83 t542.length co83 : Value).ownBlock ∧ some k_ ≠ (s_.1 : Value).ownBlock ∧ some k_ ≠ (s_.2.1 : Value).ownBlock) v493 t492) ∧ (Kd.R k75 75 w' w.heap.size (fun k_ => some k_ ≠ (v493 : Value).ownBlock ∧ some k_ ≠ (.slice Ao63 t516.length co63 : Value).ownBlock ∧ some k_ ≠ (.slice Ao71 t535.length co71 : Value).ownBlock ∧ some k_ ≠ (.slice Ao83 t542.length co83 : Value).ownBlock ∧ some k_ ≠ (s_.1 : Value).ownBlock ∧ some k_ ≠ (s_.2.1 : Value).ownBlock) (.slice Ao53 t510.length co53) t510) ∧ (Kd.R k75 75 w' w.heap.size (fun k_ => some k_ ≠ (v493 : Value).ownBlock ∧ some k_ ≠ (.slice Ao53 t510.length co53 : Value).ownBlock ∧ some k_ ≠ (.slice Ao71 t535.length co71 : Value).ownBlock ∧ some k_ ≠ (.slice Ao83 t542.length co83 : Value).ownBlock ∧ some k_ ≠ (s_.1 : Value).ownBlock ∧ some k_ ≠ (s_.2.1 : Value).ownBlock) (.slice Ao63 t516.length co63) t547) ∧ (Kd.R k75 75 w' w.heap.size (fun k_ => some k_ ≠ (v493 : Value).ownBlock ∧ some k_ ≠ (.slice Ao53 t510.length co53 : Value).ownBlock ∧ some k_ ≠ (.slice Ao63 t516.length co63 : Value).ownBlock ∧ some k_ ≠ (.slice Ao83 t542.length co83 : Value).ownBlock ∧ some k_ ≠ (s_.1 : Value).ownBlock ∧ some k_ ≠ (s_.2.1 : Value).ownBlock) (.slice Ao71 t535.length co71) t550) ∧ (Kd.R k75 75 w' w.heap.size (fun k_ => some k_ ≠ (v493 : Value).ownBlock ∧ some k_ ≠ (.slice Ao53 t510.length co53 : Value).ownBlock ∧ some k_ ≠ (.slice Ao63 t516.length co63 : Value).ownBlock ∧ some k_ ≠ (.slice Ao71 t535.length co71 : Value).ownBlock ∧ some k_ ≠ (s_.1 : Value).ownBlock ∧ some k_ ≠ (s_.2.1 : Value).ownBlock) (.slice Ao83 t542.length co83) t542) ∧ (Kd.R k75 75 w' w.heap.size (fun k_ => some k_ ≠ (v493 : Value).ownBlock ∧ some k_ ≠ (.slice Ao53 t510.length co53 : Value).ownBlock ∧ some k_ ≠ (.slice Ao63 t516.length co63 : Value).ownBlock ∧ some k_ ≠ (.slice Ao71 t535.length co71 : Value).ownBlock ∧ some k_ ≠ (.slice Ao83 t542.length co83 : Value).ownBlock ∧ some k_ ≠ (s_.2.1 : Value).ownBlock) s_.1 t553) ∧ (Kd.R k75 75 w' w.heap.size (fun k_ => some k_ ≠ (v493 : Value).ownBlock ∧ some k_ ≠ (.slice Ao53 t510.length co53 : Value).ownBlock ∧ some k_ ≠ (.slice Ao63 t516.length co63 : Value).ownBlock ∧ some k_ ≠ (.slice Ao71 t535.length co71 : Value).ownBlock ∧ some k_ ≠ (.slice Ao83 t542.length co83 : Value).ownBlock ∧ some k_ ≠ (s_.1 : Value).ownBlock) s_.2.1 t571) ∧ (w'.heap[gb488]? = some (.cells #[.int .i64 a0_0, .slice A0_1 l0_1.length c0_1] 47 (0, 0))) ∧ (w'.heap[gb489]? = some (.cells #[.int .i64 a1_0, .int .i64 a1_1, .int .i64 a1_2, .int .i64 a1_3, .int .i64 a1_4, .int .i64 a1_5, .int .i64 a1_6, .int .i64 a1_7, .int .i64 a1_8, .int .i64 a1_9, .int .i64 a1_10, .int .i64 a1_11, .int .i64 a1_12, .int .i64 a1_13] 27 (0, 0))) ∧ (w'.heap[gb514]? = some (.cells #[.int .i64 t509, .slice Ao53 t510.length co53] 40 (0, 0))) ∧ (w'.heap[gb519]? = some (.cells #[.int .i64 t515, .slice Ao63 t516.length co63] 40 (0, 0))) ∧ (w'.heap[gb539]? = some (.cells #[.int .i64 t534, .slice Ao71 t535.length co71] 40 (0, 0))) ∧ (w'.heap[s_.2.2]? = some (.cells #[.int .i64 0, .slice none 0 0] 40 (0, 0))) ∧ (w.heap.size ≤ s_.2.2) ∧ (w.heap.size ≤ s_.2.2) ∧ (gb488 ≠ s_.2.2) ∧ (s_.2.2 ≠ gb488) ∧ (gb489 ≠ s_.2.2) ∧ (s_.2.2 ≠ gb489) ∧ (gb514 ≠ s_.2.2) ∧ (s_.2.2 ≠ gb514) ∧ (gb519 ≠ s_.2.2) ∧ (s_.2.2 ≠ gb519) ∧ (gb539 ≠ s_.2.2) ∧ (s_.2.2 ≠ gb539) ∧ (Below w.heap.size w w')) ?_ ?_
     rotate_left
     ·intro hCont
      refine two_ (i := 1) (j := 9) (Ni := some 85) (Nj := some 16) #[true, true, true, false, true, false, false, false, false, false, false, false] #[true, false, true, false, true, false, false, false, false, true, false, false] rfl rfl rfl rfl (two_of HT_.out (by kernel_rfl)) (by decide) (by decide) (fun K hK => ?_) (fun K hK => ?_)
      ·skip
       refine goes_ Try.func25 (by kernel_rfl) rfl #[.agg #[.int .i64 a0_0, .slice A0_1 l0_1.length c0_1]] (by rfl) rfl rfl Gv.lm ?_
       with_reducible refine (laws_toTable.calls k a0_0 _ _ l0_1 t552 t553 _ ?side1 ?side2 A31.out).mono ?_
       (case side1 => exact Gv.sd (Kd.C_below HR0_1.out HB.out))
       (case side2 => exact HC0_1.out)
       rintro e w95 ⟨v554, rfl, ho0, hb⟩
       refine ⟨_, rfl, ?_⟩
       have HO555 := Gv.a0 (Kd.R_lower (Kd.R_new' (Kd.R_new' (Kd.R_new' (Kd.R_new' (Kd.R_new' ho0 (Kd.R_lt HO494.out)) (Kd.R_lt HO512.out)) (Kd.R_lt HO518.out)) (Kd.R_lt HO537.out)) (Kd.R_lt HO544.out)) (below_size HB.out))
       replace HO494 := Gv.a0 (Kd.R_elder' HO494.out (Kd.R_base ho0) hb)
       replace HO512 := Gv.a0 (Kd.R_elder' HO512.out (Kd.R_base ho0) hb)
       replace HO518 := Gv.a0 (Kd.R_elder' HO518.out (Kd.R_base ho0) hb)
       replace HO537 := Gv.a0 (Kd.R_elder' HO537.out (Kd.R_base ho0) hb)
       replace HO544 := Gv.a0 (Kd.R_elder' HO544.out (Kd.R_base ho0) hb)
       replace BK488 := Gv.b1 BK488 hb
       replace BK489 := Gv.b1 BK489 hb
       replace BK514 := Gv.b1 BK514 hb
       replace BK519 := Gv.b1 BK519 hb
       replace BK539 := Gv.b1 BK539 hb
       replace HB := Gv.a0 (below_step HB.out hb)
       (try clear hb)
       (try clear hb2)
       (try clear hk)
       (try clear hi)
       (try clear ho0)
       refine hK.out _ _ ⟨Gv.q BK488.out, Gv.q BK488.out, Gv.q BK489.out, Gv.q BK489.out, Gv.q BK489.out, Gv.q BK489.out, Gv.q BK489.out, Gv.q BK489.out, Gv.q BK489.out, Gv.q BK489.out, Gv.q BK489.out, Gv.q BK489.out, Gv.q BK489.out, Gv.q BK489.out, Gv.q BK489.out, Gv.q BK489.out⟩ (fun hHeld => ?_)
       clear hK K
       refine norm_ (a' := ?_) ?_ ?_
       rotate_left
       ·show Act.put _ (some 85) _ = _
        simp only [Act.put, List.setIfInBounds_toArray, List.set_cons_zero, List.set_cons_succ, i64_w, i32_w]
        rfl
       refine two_ (i := 3) (j := 9) (Ni := some 87) (Nj := some 16) #[true, true, true, true, true, false, false, false, false, false, false, false] #[true, true, true, false, true, false, false, false, false, true, false, false] rfl rfl rfl rfl (two_of HT_.out (by kernel_rfl)) (by decide) (by decide) (fun K hK => ?_) (fun K hK => ?_)
       ·skip
        refine goes_ Try.func14 (by kernel_rfl) rfl #[.agg #[.int .i64 a1_0, .int .i64 a1_1, .int .i64 a1_2, .int .i64 a1_3, .int .i64 a1_4, .int .i64 a1_5, .int .i64 a1_6, .int .i64 a1_7, .int .i64 a1_8, .int .i64 a1_9, .int .i64 a1_10, .int .i64 a1_11, .int .i64 a1_12, .int .i64 a1_13]] (by rfl) rfl rfl Gv.lm ?_
        with_reducible refine (laws_toFlowKey.calls a1_0 a1_1 a1_2 a1_3 a1_4 a1_5 a1_6 a1_7 a1_8 a1_9 a1_10 a1_11 a1_12 a1_13 t556 t557 t558 t559 t560 t561 t562 t563 t564 t565 t566 t567 t568 t569 _ A32.out).mono ?_
        rintro e w96 ⟨rfl, hb⟩
        refine ⟨_, rfl, ?_⟩
        replace HO494 := Gv.a0 (Kd.R_below HO494.out hb)
        replace HO512 := Gv.a0 (Kd.R_below HO512.out hb)
        replace HO518 := Gv.a0 (Kd.R_below HO518.out hb)
        replace HO537 := Gv.a0 (Kd.R_below HO537.out hb)
        replace HO544 := Gv.a0 (Kd.R_below HO544.out hb)
        replace HO555 := Gv.a0 (Kd.R_below HO555.out hb)
        replace BK488 := Gv.b1 BK488 hb
        replace BK489 := Gv.b1 BK489 hb
        replace BK514 := Gv.b1 BK514 hb
        replace BK519 := Gv.b1 BK519 hb
        replace BK539 := Gv.b1 BK539 hb
        replace HB := Gv.a0 (below_step HB.out hb)
        (try clear hb)
        (try clear hb2)
        (try clear hk)
        (try clear hi)
        obtain ⟨Ao97, co97, eo97⟩ := Kd.R_slice HO555.out
        (first | subst eo97 | (injection eo97 with f1_ f2_ f3_; have f4_ := f1_.symm; have f5_ := f3_.symm; clear f1_ f2_ f3_; subst f4_; subst f5_))
        refine hK.out _ _ ⟨Gv.q BK488.out, Gv.q BK488.out, Gv.q BK489.out, Gv.q BK489.out, Gv.q BK489.out, Gv.q BK489.out, Gv.q BK489.out, Gv.q BK489.out, Gv.q BK489.out, Gv.q BK489.out, Gv.q BK489.out, Gv.q BK489.out, Gv.q BK489.out, Gv.q BK489.out, Gv.q BK489.out, Gv.q BK489.out⟩ (fun hHeld => ?_)
        clear hK K
        refine norm_ (a' := ?_) ?_ ?_
        rotate_left
        ·show Act.put _ (some 87) _ = _
         simp only [Act.put, List.setIfInBounds_toArray, List.set_cons_zero, List.set_cons_succ, i64_w, i32_w]
         rfl
        refine two_ (i := 5) (j := 9) (Ni := some 89) (Nj := some 16) #[true, true, true, true, true, true, false, false, false, false, false, false] #[true, true, true, true, true, false, false, false, false, true, false, false] rfl rfl rfl rfl (two_of HT_.out (by kernel_rfl)) (by decide) (by decide) (fun K hK => ?_) (fun K hK => ?_)
        ·skip
         refine goes_ Try.func39 (by kernel_rfl) rfl #[.agg #[.int .i64 t552, .slice Ao97 t553.length co97], .agg #[.int .i64 t556, .int .i64 t557, .int .i64 t558, .int .i64 t559, .int .i64 t560, .int .i64 t561, .int .i64 t562, .int .i64 t563, .int .i64 t564, .int .i64 t565, .int .i64 t566, .int .i64 t567, .int .i64 t568, .int .i64 t569], .int .i64 a2] (by rfl) rfl rfl Gv.lm ?_
         with_reducible refine (impl_TablePut.calls k t552 _ _ t553 t556 t557 t558 t559 t560 t561 t562 t563 t564 t565 t566 t567 t568 t569 a2 t570 t571 t574 _ ?side1 ?side2 A33.out).mono ?_
         (case side1 => repeat (first | exact (Kd.R_reads' HO555.out).2.2 | (with_reducible refine Kd.C_alloc ?_ _) | (with_reducible refine Kd.C_drewN ?_ _) | (with_reducible refine Kd.C_drew ?_)))
         (case side2 => exact (Kd.R_reads' HO555.out).2.1)
         rintro e w98 ⟨v572, rfl, ho0, hb⟩
         refine ⟨_, rfl, ?_⟩
         have HO573 := Gv.a0 (Kd.R_lower (Kd.R_new' (Kd.R_new' (Kd.R_new' (Kd.R_new' (Kd.R_new' (Kd.R_new' ho0 (Kd.R_lt HO494.out)) (Kd.R_lt HO512.out)) (Kd.R_lt HO518.out)) (Kd.R_lt HO537.out)) (Kd.R_lt HO544.out)) (Kd.R_lt HO555.out)) (below_size HB.out))
         replace HO494 := Gv.a0 (Kd.R_elder' HO494.out (Kd.R_base ho0) hb)
         replace HO512 := Gv.a0 (Kd.R_elder' HO512.out (Kd.R_base ho0) hb)
         replace HO518 := Gv.a0 (Kd.R_elder' HO518.out (Kd.R_base ho0) hb)
         replace HO537 := Gv.a0 (Kd.R_elder' HO537.out (Kd.R_base ho0) hb)
         replace HO544 := Gv.a0 (Kd.R_elder' HO544.out (Kd.R_base ho0) hb)
         replace HO555 := Gv.a0 (Kd.R_elder' HO555.out (Kd.R_base ho0) hb)
         replace BK488 := Gv.b1 BK488 hb
         replace BK489 := Gv.b1 BK489 hb
         replace BK514 := Gv.b1 BK514 hb
         replace BK519 := Gv.b1 BK519 hb
         replace BK539 := Gv.b1 BK539 hb
         replace HB := Gv.a0 (below_step HB.out hb)
         (try clear hb)
         (try clear hb2)
         (try clear hk)
         (try clear hi)
         (try clear ho0)
         refine hK.out _ _ ⟨Gv.q BK488.out, Gv.q BK488.out, Gv.q BK489.out, Gv.q BK489.out, Gv.q BK489.out, Gv.q BK489.out, Gv.q BK489.out, Gv.q BK489.out, Gv.q BK489.out, Gv.q BK489.out, Gv.q BK489.out, Gv.q BK489.out, Gv.q BK489.out, Gv.q BK489.out, Gv.q BK489.out, Gv.q BK489.out⟩ (fun hHeld => ?_)
         clear hK K
         refine norm_ (a' := ?_) ?_ ?_
         rotate_left
         ·show Act.put _ (some 89) _ = _
          simp only [Act.put, List.setIfInBounds_toArray, List.set_cons_zero, List.set_cons_succ, i64_w, i32_w]
          rfl
         refine Gv.pu 6 (some 83) HT_ ?_
         refine Gv.pu 7 (some 90) HT_ ?_
         refine Gv.pu 8 (some 91) HT_ ?_
         refine one_ (i := 9) (N := some 16) #[true, true, true, true, true, true, true, true, true, true, false, false] rfl rfl (one_of HT_.out (by kernel_rfl)) (by decide) (fun K hK => ?_)
         refine box_step ?hg (N := 16) ?hd (cs := #[.int .i64 0, .slice none 0 0]) (t := 40) ?hr ?_; (case hd => rfl); (case hg => rfl); (case hr => first | (go_simp; done) | (go_simp; rfl))
         intro gb575 hg w99 hbox hb
         replace HO494 := Gv.a0 (Kd.R_below HO494.out hb)
         replace HO512 := Gv.a0 (Kd.R_below HO512.out hb)
         replace HO518 := Gv.a0 (Kd.R_below HO518.out hb)
         replace HO537 := Gv.a0 (Kd.R_below HO537.out hb)
         replace HO544 := Gv.a0 (Kd.R_below HO544.out hb)
         replace HO555 := Gv.a0 (Kd.R_below HO555.out hb)
         replace HO573 := Gv.a0 (Kd.R_below HO573.out hb)
         have BK575 := Gv.a0 (hbox)
         have GW575 := Gv.a0 (Gv.ble hg HB.out : w.heap.size ≤ gb575)
         have GE575 := Gv.a0 (Gv.ble hg HB.out : w.heap.size ≤ gb575)
         replace HB := Gv.a0 (below_step HB.out hb)
         have NB488_575 := Gv.a0 (Gv.nlt hg BK488.out : gb488 ≠ gb575)
         have NB575_488 := Gv.a0 (Gv.ngt hg BK488.out : gb575 ≠ gb488)
         replace BK488 := Gv.b1 BK488 hb
         have NB489_575 := Gv.a0 (Gv.nlt hg BK489.out : gb489 ≠ gb575)
         have NB575_489 := Gv.a0 (Gv.ngt hg BK489.out : gb575 ≠ gb489)
         replace BK489 := Gv.b1 BK489 hb
         have NB514_575 := Gv.a0 (Gv.nlt hg BK514.out : gb514 ≠ gb575)
         have NB575_514 := Gv.a0 (Gv.ngt hg BK514.out : gb575 ≠ gb514)
         replace BK514 := Gv.b1 BK514 hb
         have NB519_575 := Gv.a0 (Gv.nlt hg BK519.out : gb519 ≠ gb575)
         have NB575_519 := Gv.a0 (Gv.ngt hg BK519.out : gb575 ≠ gb519)
         replace BK519 := Gv.b1 BK519 hb
         have NB539_575 := Gv.a0 (Gv.nlt hg BK539.out : gb539 ≠ gb575)
         have NB575_539 := Gv.a0 (Gv.ngt hg BK539.out : gb575 ≠ gb539)
         replace BK539 := Gv.b1 BK539 hb
         clear hb hbox hg
         refine hK.out _ _ ⟨Gv.q BK488.out, Gv.q BK488.out, Gv.q BK489.out, Gv.q BK489.out, Gv.q BK489.out, Gv.q BK489.out, Gv.q BK489.out, Gv.q BK489.out, Gv.q BK489.out, Gv.q BK489.out, Gv.q BK489.out, Gv.q BK489.out, Gv.q BK489.out, Gv.q BK489.out, Gv.q BK489.out, Gv.q BK489.out⟩ (fun hHeld => ?_)
         clear hK K
         refine norm_ (a' := ?_) ?_ ?_
         rotate_left
         ·show Act.put _ (some 16) _ = _
          simp only [Act.put, List.setIfInBounds_toArray, List.set_cons_zero, List.set_cons_succ, i64_w, i32_w]
          rfl
         exact norm_ (by simp only [putAll, Act.put, List.setIfInBounds_toArray, List.set_cons_zero, List.set_cons_succ]) (hCont (.slice Ao97 t553.length co97, v572, gb575) _ ⟨hHeld, (by (with_reducible repeat (first | apply Kd.R_alloc | apply Kd.R_drewN | apply Kd.R_drew)); exact Kd.R_mono HO494.out (fun _ hk => ⟨hk.1.1.1, ⟨hk.1.1.2.1, ⟨hk.1.1.2.2.1, ⟨hk.1.1.2.2.2, ⟨hk.1.2, hk.2⟩⟩⟩⟩⟩)), (by (with_reducible repeat (first | apply Kd.R_alloc | apply Kd.R_drewN | apply Kd.R_drew)); exact Kd.R_mono HO512.out (fun _ hk => ⟨hk.1.1.1, ⟨hk.1.1.2.1, ⟨hk.1.1.2.2.1, ⟨hk.1.1.2.2.2, ⟨hk.1.2, hk.2⟩⟩⟩⟩⟩)), (by (with_reducible repeat (first | apply Kd.R_alloc | apply Kd.R_drewN | apply Kd.R_drew)); exact Kd.R_mono HO518.out (fun _ hk => ⟨hk.1.1.1, ⟨hk.1.1.2.1, ⟨hk.1.1.2.2.1, ⟨hk.1.1.2.2.2, ⟨hk.1.2, hk.2⟩⟩⟩⟩⟩)), (by (with_reducible repeat (first | apply Kd.R_alloc | apply Kd.R_drewN | apply Kd.R_drew)); exact Kd.R_mono HO537.out (fun _ hk => ⟨hk.1.1.1, ⟨hk.1.1.2.1, ⟨hk.1.1.2.2.1, ⟨hk.1.1.2.2.2, ⟨hk.1.2, hk.2⟩⟩⟩⟩⟩)), (by (with_reducible repeat (first | apply Kd.R_alloc | apply Kd.R_drewN | apply Kd.R_drew)); exact Kd.R_mono HO544.out (fun _ hk => ⟨hk.1.1.1, ⟨hk.1.1.2.1, ⟨hk.1.1.2.2.1, ⟨hk.1.1.2.2.2, ⟨hk.1.2, hk.2⟩⟩⟩⟩⟩)), (by (with_reducible repeat (first | apply Kd.R_alloc | apply Kd.R_drewN | apply Kd.R_drew)); exact Kd.R_mono HO555.out (fun _ hk => ⟨hk.1.1.1.1.1.2, ⟨hk.1.1.1.1.2, ⟨hk.1.1.1.2, ⟨hk.1.1.2, ⟨hk.1.2, hk.2⟩⟩⟩⟩⟩)), (by (with_reducible repeat (first | apply Kd.R_alloc | apply Kd.R_drewN | apply Kd.R_drew)); exact Kd.R_mono HO573.out (fun _ hk => ⟨hk.1.1.1.1.1.2, ⟨hk.1.1.1.1.2, ⟨hk.1.1.1.2, ⟨hk.1.1.2, ⟨hk.1.2, hk.2⟩⟩⟩⟩⟩)), BK488.out, BK489.out, BK514.out, BK519.out, BK539.out, BK575.out, GW575.out, GE575.out, NB488_575.out, NB575_488.out, NB489_575.out, NB575_489.out, NB514_575.out, NB575_514.out, NB519_575.out, NB575_519.out, NB539_575.out, NB575_539.out, HB.out⟩)
        ·skip
         refine box_step ?hg (N := 16) ?hd (cs := #[.int .i64 0, .slice none 0 0]) (t := 40) ?hr ?_; (case hd => rfl); (case hg => rfl); (case hr => first | (go_simp; done) | (go_simp; rfl))
         intro gb575 hg w97 hbox hb
         replace HO494 := Gv.a0 (Kd.R_below HO494.out hb)
         replace HO512 := Gv.a0 (Kd.R_below HO512.out hb)
         replace HO518 := Gv.a0 (Kd.R_below HO518.out hb)
         replace HO537 := Gv.a0 (Kd.R_below HO537.out hb)
         replace HO544 := Gv.a0 (Kd.R_below HO544.out hb)
         replace HO555 := Gv.a0 (Kd.R_below HO555.out hb)
         have BK575 := Gv.a0 (hbox)
         have GW575 := Gv.a0 (Gv.ble hg HB.out : w.heap.size ≤ gb575)
         have GE575 := Gv.a0 (Gv.ble hg HB.out : w.heap.size ≤ gb575)
         replace HB := Gv.a0 (below_step HB.out hb)
         have NB488_575 := Gv.a0 (Gv.nlt hg BK488.out : gb488 ≠ gb575)
         have NB575_488 := Gv.a0 (Gv.ngt hg BK488.out : gb575 ≠ gb488)
         replace BK488 := Gv.b1 BK488 hb
         have NB489_575 := Gv.a0 (Gv.nlt hg BK489.out : gb489 ≠ gb575)
         have NB575_489 := Gv.a0 (Gv.ngt hg BK489.out : gb575 ≠ gb489)
         replace BK489 := Gv.b1 BK489 hb
         have NB514_575 := Gv.a0 (Gv.nlt hg BK514.out : gb514 ≠ gb575)
         have NB575_514 := Gv.a0 (Gv.ngt hg BK514.out : gb575 ≠ gb514)
         replace BK514 := Gv.b1 BK514 hb
         have NB519_575 := Gv.a0 (Gv.nlt hg BK519.out : gb519 ≠ gb575)
         have NB575_519 := Gv.a0 (Gv.ngt hg BK519.out : gb575 ≠ gb519)
         replace BK519 := Gv.b1 BK519 hb
         have NB539_575 := Gv.a0 (Gv.nlt hg BK539.out : gb539 ≠ gb575)
         have NB575_539 := Gv.a0 (Gv.ngt hg BK539.out : gb575 ≠ gb539)
         replace BK539 := Gv.b1 BK539 hb
         clear hb hbox hg
         obtain ⟨Ao98, co98, eo98⟩ := Kd.R_slice HO555.out
         (first | subst eo98 | (injection eo98 with f1_ f2_ f3_; have f4_ := f1_.symm; have f5_ := f3_.symm; clear f1_ f2_ f3_; subst f4_; subst f5_))
         refine hK.out _ _ ⟨Gv.q BK488.out, Gv.q BK488.out, Gv.q BK489.out, Gv.q BK489.out, Gv.q BK489.out, Gv.q BK489.out, Gv.q BK489.out, Gv.q BK489.out, Gv.q BK489.out, Gv.q BK489.out, Gv.q BK489.out, Gv.q BK489.out, Gv.q BK489.out, Gv.q BK489.out, Gv.q BK489.out, Gv.q BK489.out⟩ (fun hHeld => ?_)
         clear hK K
         refine norm_ (a' := ?_) ?_ ?_
         rotate_left
         ·show Act.put _ (some 16) _ = _
          simp only [Act.put, List.setIfInBounds_toArray, List.set_cons_zero, List.set_cons_succ, i64_w, i32_w]
          rfl
         refine one_ (i := 5) (N := some 89) #[true, true, true, true, true, true, false, false, false, true, false, false] rfl rfl (one_of HT_.out (by kernel_rfl)) (by decide) (fun K hK => ?_)
         refine goes_ Try.func39 (by kernel_rfl) rfl #[.agg #[.int .i64 t552, .slice Ao98 t553.length co98], .agg #[.int .i64 t556, .int .i64 t557, .int .i64 t558, .int .i64 t559, .int .i64 t560, .int .i64 t561, .int .i64 t562, .int .i64 t563, .int .i64 t564, .int .i64 t565, .int .i64 t566, .int .i64 t567, .int .i64 t568, .int .i64 t569], .int .i64 a2] (by rfl) rfl rfl Gv.lm ?_
         with_reducible refine (impl_TablePut.calls k t552 _ _ t553 t556 t557 t558 t559 t560 t561 t562 t563 t564 t565 t566 t567 t568 t569 a2 t570 t571 t574 _ ?side1 ?side2 A33.out).mono ?_
         (case side1 => repeat (first | exact (Kd.R_reads' HO555.out).2.2 | (with_reducible refine Kd.C_alloc ?_ _) | (with_reducible refine Kd.C_drewN ?_ _) | (with_reducible refine Kd.C_drew ?_)))
         (case side2 => exact (Kd.R_reads' HO555.out).2.1)
         rintro e w99 ⟨v572, rfl, ho0, hb⟩
         refine ⟨_, rfl, ?_⟩
         have HO573 := Gv.a0 (Kd.R_lower (Kd.R_new' (Kd.R_new' (Kd.R_new' (Kd.R_new' (Kd.R_new' (Kd.R_new' ho0 (Kd.R_lt HO494.out)) (Kd.R_lt HO512.out)) (Kd.R_lt HO518.out)) (Kd.R_lt HO537.out)) (Kd.R_lt HO544.out)) (Kd.R_lt HO555.out)) (below_size HB.out))
         replace HO494 := Gv.a0 (Kd.R_elder' HO494.out (Kd.R_base ho0) hb)
         replace HO512 := Gv.a0 (Kd.R_elder' HO512.out (Kd.R_base ho0) hb)
         replace HO518 := Gv.a0 (Kd.R_elder' HO518.out (Kd.R_base ho0) hb)
         replace HO537 := Gv.a0 (Kd.R_elder' HO537.out (Kd.R_base ho0) hb)
         replace HO544 := Gv.a0 (Kd.R_elder' HO544.out (Kd.R_base ho0) hb)
         replace HO555 := Gv.a0 (Kd.R_elder' HO555.out (Kd.R_base ho0) hb)
         replace BK488 := Gv.b1 BK488 hb
         replace BK489 := Gv.b1 BK489 hb
         replace BK514 := Gv.b1 BK514 hb
         replace BK519 := Gv.b1 BK519 hb
         replace BK539 := Gv.b1 BK539 hb
         replace BK575 := Gv.b1 BK575 hb
         replace HB := Gv.a0 (below_step HB.out hb)
         (try clear hb)
         (try clear hb2)
         (try clear hk)
         (try clear hi)
         (try clear ho0)
         refine hK.out _ _ ⟨Gv.q BK488.out, Gv.q BK488.out, Gv.q BK489.out, Gv.q BK489.out, Gv.q BK489.out, Gv.q BK489.out, Gv.q BK489.out, Gv.q BK489.out, Gv.q BK489.out, Gv.q BK489.out, Gv.q BK489.out, Gv.q BK489.out, Gv.q BK489.out, Gv.q BK489.out, Gv.q BK489.out, Gv.q BK489.out⟩ (fun hHeld => ?_)
         clear hK K
         refine norm_ (a' := ?_) ?_ ?_
         rotate_left
         ·show Act.put _ (some 89) _ = _
          simp only [Act.put, List.setIfInBounds_toArray, List.set_cons_zero, List.set_cons_succ, i64_w, i32_w]
          rfl
         refine Gv.pu 6 (some 83) HT_ ?_
         refine Gv.pu 7 (some 90) HT_ ?_
         refine Gv.pu 8 (some 91) HT_ ?_
         exact norm_ (by simp only [putAll, Act.put, List.setIfInBounds_toArray, List.set_cons_zero, List.set_cons_succ]) (hCont (.slice Ao98 t553.length co98, v572, gb575) _ ⟨hHeld, (by (with_reducible repeat (first | apply Kd.R_alloc | apply Kd.R_drewN | apply Kd.R_drew)); exact Kd.R_mono HO494.out (fun _ hk => ⟨hk.1.1.1, ⟨hk.1.1.2.1, ⟨hk.1.1.2.2.1, ⟨hk.1.1.2.2.2, ⟨hk.1.2, hk.2⟩⟩⟩⟩⟩)), (by (with_reducible repeat (first | apply Kd.R_alloc | apply Kd.R_drewN | apply Kd.R_drew)); exact Kd.R_mono HO512.out (fun _ hk => ⟨hk.1.1.1, ⟨hk.1.1.2.1, ⟨hk.1.1.2.2.1, ⟨hk.1.1.2.2.2, ⟨hk.1.2, hk.2⟩⟩⟩⟩⟩)), (by (with_reducible repeat (first | apply Kd.R_alloc | apply Kd.R_drewN | apply Kd.R_drew)); exact Kd.R_mono HO518.out (fun _ hk => ⟨hk.1.1.1, ⟨hk.1.1.2.1, ⟨hk.1.1.2.2.1, ⟨hk.1.1.2.2.2, ⟨hk.1.2, hk.2⟩⟩⟩⟩⟩)), (by (with_reducible repeat (first | apply Kd.R_alloc | apply Kd.R_drewN | apply Kd.R_drew)); exact Kd.R_mono HO537.out (fun _ hk => ⟨hk.1.1.1, ⟨hk.1.1.2.1, ⟨hk.1.1.2.2.1, ⟨hk.1.1.2.2.2, ⟨hk.1.2, hk.2⟩⟩⟩⟩⟩)), (by (with_reducible repeat (first | apply Kd.R_alloc | apply Kd.R_drewN | apply Kd.R_drew)); exact Kd.R_mono HO544.out (fun _ hk => ⟨hk.1.1.1, ⟨hk.1.1.2.1, ⟨hk.1.1.2.2.1, ⟨hk.1.1.2.2.2, ⟨hk.1.2, hk.2⟩⟩⟩⟩⟩)), (by (with_reducible repeat (first | apply Kd.R_alloc | apply Kd.R_drewN | apply Kd.R_drew)); exact Kd.R_mono HO555.out (fun _ hk => ⟨hk.1.1.1.1.1.2, ⟨hk.1.1.1.1.2, ⟨hk.1.1.1.2, ⟨hk.1.1.2, ⟨hk.1.2, hk.2⟩⟩⟩⟩⟩)), (by (with_reducible repeat (first | apply Kd.R_alloc | apply Kd.R_drewN | apply Kd.R_drew)); exact Kd.R_mono HO573.out (fun _ hk => ⟨hk.1.1.1.1.1.2, ⟨hk.1.1.1.1.2, ⟨hk.1.1.1.2, ⟨hk.1.1.2, ⟨hk.1.2, hk.2⟩⟩⟩⟩⟩)), BK488.out, BK489.out, BK514.out, BK519.out, BK539.out, BK575.out, GW575.out, GE575.out, NB488_575.out, NB575_488.out, NB489_575.out, NB575_489.out, NB514_575.out, NB575_514.out, NB519_575.out, NB575_519.out, NB539_575.out, NB575_539.out, HB.out⟩)
       ·skip
        refine box_step ?hg (N := 16) ?hd (cs := #[.int .i64 0, .slice none 0 0]) (t := 40) ?hr ?_; (case hd => rfl); (case hg => rfl); (case hr => first | (go_simp; done) | (go_simp; rfl))
        intro gb575 hg w96 hbox hb
        replace HO494 := Gv.a0 (Kd.R_below HO494.out hb)
        replace HO512 := Gv.a0 (Kd.R_below HO512.out hb)
        replace HO518 := Gv.a0 (Kd.R_below HO518.out hb)
        replace HO537 := Gv.a0 (Kd.R_below HO537.out hb)
        replace HO544 := Gv.a0 (Kd.R_below HO544.out hb)
        replace HO555 := Gv.a0 (Kd.R_below HO555.out hb)
        have BK575 := Gv.a0 (hbox)
        have GW575 := Gv.a0 (Gv.ble hg HB.out : w.heap.size ≤ gb575)
        have GE575 := Gv.a0 (Gv.ble hg HB.out : w.heap.size ≤ gb575)
        replace HB := Gv.a0 (below_step HB.out hb)
        have NB488_575 := Gv.a0 (Gv.nlt hg BK488.out : gb488 ≠ gb575)
        have NB575_488 := Gv.a0 (Gv.ngt hg BK488.out : gb575 ≠ gb488)
        replace BK488 := Gv.b1 BK488 hb
        have NB489_575 := Gv.a0 (Gv.nlt hg BK489.out : gb489 ≠ gb575)
        have NB575_489 := Gv.a0 (Gv.ngt hg BK489.out : gb575 ≠ gb489)
        replace BK489 := Gv.b1 BK489 hb
        have NB514_575 := Gv.a0 (Gv.nlt hg BK514.out : gb514 ≠ gb575)
        have NB575_514 := Gv.a0 (Gv.ngt hg BK514.out : gb575 ≠ gb514)
        replace BK514 := Gv.b1 BK514 hb
        have NB519_575 := Gv.a0 (Gv.nlt hg BK519.out : gb519 ≠ gb575)
        have NB575_519 := Gv.a0 (Gv.ngt hg BK519.out : gb575 ≠ gb519)
        replace BK519 := Gv.b1 BK519 hb
        have NB539_575 := Gv.a0 (Gv.nlt hg BK539.out : gb539 ≠ gb575)
        have NB575_539 := Gv.a0 (Gv.ngt hg BK539.out : gb575 ≠ gb539)
        replace BK539 := Gv.b1 BK539 hb
        clear hb hbox hg
        refine hK.out _ _ ⟨Gv.q BK488.out, Gv.q BK488.out, Gv.q BK489.out, Gv.q BK489.out, Gv.q BK489.out, Gv.q BK489.out, Gv.q BK489.out, Gv.q BK489.out, Gv.q BK489.out, Gv.q BK489.out, Gv.q BK489.out, Gv.q BK489.out, Gv.q BK489.out, Gv.q BK489.out, Gv.q BK489.out, Gv.q BK489.out⟩ (fun hHeld => ?_)
        clear hK K
        refine norm_ (a' := ?_) ?_ ?_
        rotate_left
        ·show Act.put _ (some 16) _ = _
         simp only [Act.put, List.setIfInBounds_toArray, List.set_cons_zero, List.set_cons_succ, i64_w, i32_w]
         rfl
        refine one_ (i := 3) (N := some 87) #[true, true, true, true, true, false, false, false, false, true, false, false] rfl rfl (one_of HT_.out (by kernel_rfl)) (by decide) (fun K hK => ?_)
        refine goes_ Try.func14 (by kernel_rfl) rfl #[.agg #[.int .i64 a1_0, .int .i64 a1_1, .int .i64 a1_2, .int .i64 a1_3, .int .i64 a1_4, .int .i64 a1_5, .int .i64 a1_6, .int .i64 a1_7, .int .i64 a1_8, .int .i64 a1_9, .int .i64 a1_10, .int .i64 a1_11, .int .i64 a1_12, .int .i64 a1_13]] (by rfl) rfl rfl Gv.lm ?_
        with_reducible refine (laws_toFlowKey.calls a1_0 a1_1 a1_2 a1_3 a1_4 a1_5 a1_6 a1_7 a1_8 a1_9 a1_10 a1_11 a1_12 a1_13 t556 t557 t558 t559 t560 t561 t562 t563 t564 t565 t566 t567 t568 t569 _ A32.out).mono ?_
        rintro e w97 ⟨rfl, hb⟩
        refine ⟨_, rfl, ?_⟩
        replace HO494 := Gv.a0 (Kd.R_below HO494.out hb)
        replace HO512 := Gv.a0 (Kd.R_below HO512.out hb)
        replace HO518 := Gv.a0 (Kd.R_below HO518.out hb)
        replace HO537 := Gv.a0 (Kd.R_below HO537.out hb)
        replace HO544 := Gv.a0 (Kd.R_below HO544.out hb)
        replace HO555 := Gv.a0 (Kd.R_below HO555.out hb)
        replace BK488 := Gv.b1 BK488 hb
        replace BK489 := Gv.b1 BK489 hb
        replace BK514 := Gv.b1 BK514 hb
        replace BK519 := Gv.b1 BK519 hb
        replace BK539 := Gv.b1 BK539 hb
        replace BK575 := Gv.b1 BK575 hb
        replace HB := Gv.a0 (below_step HB.out hb)
        (try clear hb)
        (try clear hb2)
        (try clear hk)
        (try clear hi)
        obtain ⟨Ao98, co98, eo98⟩ := Kd.R_slice HO555.out
        (first | subst eo98 | (injection eo98 with f1_ f2_ f3_; have f4_ := f1_.symm; have f5_ := f3_.symm; clear f1_ f2_ f3_; subst f4_; subst f5_))
        refine hK.out _ _ ⟨Gv.q BK488.out, Gv.q BK488.out, Gv.q BK489.out, Gv.q BK489.out, Gv.q BK489.out, Gv.q BK489.out, Gv.q BK489.out, Gv.q BK489.out, Gv.q BK489.out, Gv.q BK489.out, Gv.q BK489.out, Gv.q BK489.out, Gv.q BK489.out, Gv.q BK489.out, Gv.q BK489.out, Gv.q BK489.out⟩ (fun hHeld => ?_)
        clear hK K
        refine norm_ (a' := ?_) ?_ ?_
        rotate_left
        ·show Act.put _ (some 87) _ = _
         simp only [Act.put, List.setIfInBounds_toArray, List.set_cons_zero, List.set_cons_succ, i64_w, i32_w]
         rfl
        refine one_ (i := 5) (N := some 89) #[true, true, true, true, true, true, false, false, false, true, false, false] rfl rfl (one_of HT_.out (by kernel_rfl)) (by decide) (fun K hK => ?_)
        refine goes_ Try.func39 (by kernel_rfl) rfl #[.agg #[.int .i64 t552, .slice Ao98 t553.length co98], .agg #[.int .i64 t556, .int .i64 t557, .int .i64 t558, .int .i64 t559, .int .i64 t560, .int .i64 t561, .int .i64 t562, .int .i64 t563, .int .i64 t564, .int .i64 t565, .int .i64 t566, .int .i64 t567, .int .i64 t568, .int .i64 t569], .int .i64 a2] (by rfl) rfl rfl Gv.lm ?_
        with_reducible refine (impl_TablePut.calls k t552 _ _ t553 t556 t557 t558 t559 t560 t561 t562 t563 t564 t565 t566 t567 t568 t569 a2 t570 t571 t574 _ ?side1 ?side2 A33.out).mono ?_
        (case side1 => repeat (first | exact (Kd.R_reads' HO555.out).2.2 | (with_reducible refine Kd.C_alloc ?_ _) | (with_reducible refine Kd.C_drewN ?_ _) | (with_reducible refine Kd.C_drew ?_)))
        (case side2 => exact (Kd.R_reads' HO555.out).2.1)
        rintro e w99 ⟨v572, rfl, ho0, hb⟩
        refine ⟨_, rfl, ?_⟩
        have HO573 := Gv.a0 (Kd.R_lower (Kd.R_new' (Kd.R_new' (Kd.R_new' (Kd.R_new' (Kd.R_new' (Kd.R_new' ho0 (Kd.R_lt HO494.out)) (Kd.R_lt HO512.out)) (Kd.R_lt HO518.out)) (Kd.R_lt HO537.out)) (Kd.R_lt HO544.out)) (Kd.R_lt HO555.out)) (below_size HB.out))
        replace HO494 := Gv.a0 (Kd.R_elder' HO494.out (Kd.R_base ho0) hb)
        replace HO512 := Gv.a0 (Kd.R_elder' HO512.out (Kd.R_base ho0) hb)
        replace HO518 := Gv.a0 (Kd.R_elder' HO518.out (Kd.R_base ho0) hb)
        replace HO537 := Gv.a0 (Kd.R_elder' HO537.out (Kd.R_base ho0) hb)
        replace HO544 := Gv.a0 (Kd.R_elder' HO544.out (Kd.R_base ho0) hb)
        replace HO555 := Gv.a0 (Kd.R_elder' HO555.out (Kd.R_base ho0) hb)
        replace BK488 := Gv.b1 BK488 hb
        replace BK489 := Gv.b1 BK489 hb
        replace BK514 := Gv.b1 BK514 hb
        replace BK519 := Gv.b1 BK519 hb
        replace BK539 := Gv.b1 BK539 hb
        replace BK575 := Gv.b1 BK575 hb
        replace HB := Gv.a0 (below_step HB.out hb)
        (try clear hb)
        (try clear hb2)
        (try clear hk)
        (try clear hi)
        (try clear ho0)
        refine hK.out _ _ ⟨Gv.q BK488.out, Gv.q BK488.out, Gv.q BK489.out, Gv.q BK489.out, Gv.q BK489.out, Gv.q BK489.out, Gv.q BK489.out, Gv.q BK489.out, Gv.q BK489.out, Gv.q BK489.out, Gv.q BK489.out, Gv.q BK489.out, Gv.q BK489.out, Gv.q BK489.out, Gv.q BK489.out, Gv.q BK489.out⟩ (fun hHeld => ?_)
        clear hK K
        refine norm_ (a' := ?_) ?_ ?_
        rotate_left
        ·show Act.put _ (some 89) _ = _
         simp only [Act.put, List.setIfInBounds_toArray, List.set_cons_zero, List.set_cons_succ, i64_w, i32_w]
         rfl
        refine Gv.pu 6 (some 83) HT_ ?_
        refine Gv.pu 7 (some 90) HT_ ?_
        refine Gv.pu 8 (some 91) HT_ ?_
        exact norm_ (by simp only [putAll, Act.put, List.setIfInBounds_toArray, List.set_cons_zero, List.set_cons_succ]) (hCont (.slice Ao98 t553.length co98, v572, gb575) _ ⟨hHeld, (by (with_reducible repeat (first | apply Kd.R_alloc | apply Kd.R_drewN | apply Kd.R_drew)); exact Kd.R_mono HO494.out (fun _ hk => ⟨hk.1.1.1, ⟨hk.1.1.2.1, ⟨hk.1.1.2.2.1, ⟨hk.1.1.2.2.2, ⟨hk.1.2, hk.2⟩⟩⟩⟩⟩)), (by (with_reducible repeat (first | apply Kd.R_alloc | apply Kd.R_drewN | apply Kd.R_drew)); exact Kd.R_mono HO512.out (fun _ hk => ⟨hk.1.1.1, ⟨hk.1.1.2.1, ⟨hk.1.1.2.2.1, ⟨hk.1.1.2.2.2, ⟨hk.1.2, hk.2⟩⟩⟩⟩⟩)), (by (with_reducible repeat (first | apply Kd.R_alloc | apply Kd.R_drewN | apply Kd.R_drew)); exact Kd.R_mono HO518.out (fun _ hk => ⟨hk.1.1.1, ⟨hk.1.1.2.1, ⟨hk.1.1.2.2.1, ⟨hk.1.1.2.2.2, ⟨hk.1.2, hk.2⟩⟩⟩⟩⟩)), (by (with_reducible repeat (first | apply Kd.R_alloc | apply Kd.R_drewN | apply Kd.R_drew)); exact Kd.R_mono HO537.out (fun _ hk => ⟨hk.1.1.1, ⟨hk.1.1.2.1, ⟨hk.1.1.2.2.1, ⟨hk.1.1.2.2.2, ⟨hk.1.2, hk.2⟩⟩⟩⟩⟩)), (by (with_reducible repeat (first | apply Kd.R_alloc | apply Kd.R_drewN | apply Kd.R_drew)); exact Kd.R_mono HO544.out (fun _ hk => ⟨hk.1.1.1, ⟨hk.1.1.2.1, ⟨hk.1.1.2.2.1, ⟨hk.1.1.2.2.2, ⟨hk.1.2, hk.2⟩⟩⟩⟩⟩)), (by (with_reducible repeat (first | apply Kd.R_alloc | apply Kd.R_drewN | apply Kd.R_drew)); exact Kd.R_mono HO555.out (fun _ hk => ⟨hk.1.1.1.1.1.2, ⟨hk.1.1.1.1.2, ⟨hk.1.1.1.2, ⟨hk.1.1.2, ⟨hk.1.2, hk.2⟩⟩⟩⟩⟩)), (by (with_reducible repeat (first | apply Kd.R_alloc | apply Kd.R_drewN | apply Kd.R_drew)); exact Kd.R_mono HO573.out (fun _ hk => ⟨hk.1.1.1.1.1.2, ⟨hk.1.1.1.1.2, ⟨hk.1.1.1.2, ⟨hk.1.1.2, ⟨hk.1.2, hk.2⟩⟩⟩⟩⟩)), BK488.out, BK489.out, BK514.out, BK519.out, BK539.out, BK575.out, GW575.out, GE575.out, NB488_575.out, NB575_488.out, NB489_575.out, NB575_489.out, NB514_575.out, NB575_514.out, NB519_575.out, NB575_519.out, NB539_575.out, NB575_539.out, HB.out⟩)
      ·skip
       refine box_step ?hg (N := 16) ?hd (cs := #[.int .i64 0, .slice none 0 0]) (t := 40) ?hr ?_; (case hd => rfl); (case hg => rfl); (case hr => first | (go_simp; done) | (go_simp; rfl))
       intro gb575 hg w95 hbox hb
       replace HO494 := Gv.a0 (Kd.R_below HO494.out hb)
       replace HO512 := Gv.a0 (Kd.R_below HO512.out hb)
       replace HO518 := Gv.a0 (Kd.R_below HO518.out hb)
       replace HO537 := Gv.a0 (Kd.R_below HO537.out hb)
       replace HO544 := Gv.a0 (Kd.R_below HO544.out hb)
       have BK575 := Gv.a0 (hbox)
       have GW575 := Gv.a0 (Gv.ble hg HB.out : w.heap.size ≤ gb575)
       have GE575 := Gv.a0 (Gv.ble hg HB.out : w.heap.size ≤ gb575)
       replace HB := Gv.a0 (below_step HB.out hb)
       have NB488_575 := Gv.a0 (Gv.nlt hg BK488.out : gb488 ≠ gb575)
       have NB575_488 := Gv.a0 (Gv.ngt hg BK488.out : gb575 ≠ gb488)
       replace BK488 := Gv.b1 BK488 hb
       have NB489_575 := Gv.a0 (Gv.nlt hg BK489.out : gb489 ≠ gb575)
       have NB575_489 := Gv.a0 (Gv.ngt hg BK489.out : gb575 ≠ gb489)
       replace BK489 := Gv.b1 BK489 hb
       have NB514_575 := Gv.a0 (Gv.nlt hg BK514.out : gb514 ≠ gb575)
       have NB575_514 := Gv.a0 (Gv.ngt hg BK514.out : gb575 ≠ gb514)
       replace BK514 := Gv.b1 BK514 hb
       have NB519_575 := Gv.a0 (Gv.nlt hg BK519.out : gb519 ≠ gb575)
       have NB575_519 := Gv.a0 (Gv.ngt hg BK519.out : gb575 ≠ gb519)
       replace BK519 := Gv.b1 BK519 hb
       have NB539_575 := Gv.a0 (Gv.nlt hg BK539.out : gb539 ≠ gb575)
       have NB575_539 := Gv.a0 (Gv.ngt hg BK539.out : gb575 ≠ gb539)
       replace BK539 := Gv.b1 BK539 hb
       clear hb hbox hg
       refine hK.out _ _ ⟨Gv.q BK488.out, Gv.q BK488.out, Gv.q BK489.out, Gv.q BK489.out, Gv.q BK489.out, Gv.q BK489.out, Gv.q BK489.out, Gv.q BK489.out, Gv.q BK489.out, Gv.q BK489.out, Gv.q BK489.out, Gv.q BK489.out, Gv.q BK489.out, Gv.q BK489.out, Gv.q BK489.out, Gv.q BK489.out⟩ (fun hHeld => ?_)
       clear hK K
       refine norm_ (a' := ?_) ?_ ?_
       rotate_left
       ·show Act.put _ (some 16) _ = _
        simp only [Act.put, List.setIfInBounds_toArray, List.set_cons_zero, List.set_cons_succ, i64_w, i32_w]
        rfl
       refine one_ (i := 1) (N := some 85) #[true, true, true, false, true, false, false, false, false, true, false, false] rfl rfl (one_of HT_.out (by kernel_rfl)) (by decide) (fun K hK => ?_)
       refine goes_ Try.func25 (by kernel_rfl) rfl #[.agg #[.int .i64 a0_0, .slice A0_1 l0_1.length c0_1]] (by rfl) rfl rfl Gv.lm ?_
       with_reducible refine (laws_toTable.calls k a0_0 _ _ l0_1 t552 t553 _ ?side1 ?side2 A31.out).mono ?_
       (case side1 => exact Gv.sd (Kd.C_below HR0_1.out HB.out))
       (case side2 => exact HC0_1.out)
       rintro e w96 ⟨v554, rfl, ho0, hb⟩
       refine ⟨_, rfl, ?_⟩
       have HO555 := Gv.a0 (Kd.R_lower (Kd.R_new' (Kd.R_new' (Kd.R_new' (Kd.R_new' (Kd.R_new' ho0 (Kd.R_lt HO494.out)) (Kd.R_lt HO512.out)) (Kd.R_lt HO518.out)) (Kd.R_lt HO537.out)) (Kd.R_lt HO544.out)) (below_size HB.out))
       replace HO494 := Gv.a0 (Kd.R_elder' HO494.out (Kd.R_base ho0) hb)
       replace HO512 := Gv.a0 (Kd.R_elder' HO512.out (Kd.R_base ho0) hb)
       replace HO518 := Gv.a0 (Kd.R_elder' HO518.out (Kd.R_base ho0) hb)
       replace HO537 := Gv.a0 (Kd.R_elder' HO537.out (Kd.R_base ho0) hb)
       replace HO544 := Gv.a0 (Kd.R_elder' HO544.out (Kd.R_base ho0) hb)
       replace BK488 := Gv.b1 BK488 hb
       replace BK489 := Gv.b1 BK489 hb
       replace BK514 := Gv.b1 BK514 hb
       replace BK519 := Gv.b1 BK519 hb
       replace BK539 := Gv.b1 BK539 hb
       replace BK575 := Gv.b1 BK575 hb
       replace HB := Gv.a0 (below_step HB.out hb)
       (try clear hb)
       (try clear hb2)
       (try clear hk)
       (try clear hi)
       (try clear ho0)
       refine hK.out _ _ ⟨Gv.q BK488.out, Gv.q BK488.out, Gv.q BK489.out, Gv.q BK489.out, Gv.q BK489.out, Gv.q BK489.out, Gv.q BK489.out, Gv.q BK489.out, Gv.q BK489.out, Gv.q BK489.out, Gv.q BK489.out, Gv.q BK489.out, Gv.q BK489.out, Gv.q BK489.out, Gv.q BK489.out, Gv.q BK489.out⟩ (fun hHeld => ?_)
       clear hK K
       refine norm_ (a' := ?_) ?_ ?_
       rotate_left
       ·show Act.put _ (some 85) _ = _
        simp only [Act.put, List.setIfInBounds_toArray, List.set_cons_zero, List.set_cons_succ, i64_w, i32_w]
        rfl
       refine one_ (i := 3) (N := some 87) #[true, true, true, true, true, false, false, false, false, true, false, false] rfl rfl (one_of HT_.out (by kernel_rfl)) (by decide) (fun K hK => ?_)
       refine goes_ Try.func14 (by kernel_rfl) rfl #[.agg #[.int .i64 a1_0, .int .i64 a1_1, .int .i64 a1_2, .int .i64 a1_3, .int .i64 a1_4, .int .i64 a1_5, .int .i64 a1_6, .int .i64 a1_7, .int .i64 a1_8, .int .i64 a1_9, .int .i64 a1_10, .int .i64 a1_11, .int .i64 a1_12, .int .i64 a1_13]] (by rfl) rfl rfl Gv.lm ?_
       with_reducible refine (laws_toFlowKey.calls a1_0 a1_1 a1_2 a1_3 a1_4 a1_5 a1_6 a1_7 a1_8 a1_9 a1_10 a1_11 a1_12 a1_13 t556 t557 t558 t559 t560 t561 t562 t563 t564 t565 t566 t567 t568 t569 _ A32.out).mono ?_
       rintro e w97 ⟨rfl, hb⟩
       refine ⟨_, rfl, ?_⟩
       replace HO494 := Gv.a0 (Kd.R_below HO494.out hb)
       replace HO512 := Gv.a0 (Kd.R_below HO512.out hb)
       replace HO518 := Gv.a0 (Kd.R_below HO518.out hb)
       replace HO537 := Gv.a0 (Kd.R_below HO537.out hb)
       replace HO544 := Gv.a0 (Kd.R_below HO544.out hb)
       replace HO555 := Gv.a0 (Kd.R_below HO555.out hb)
       replace BK488 := Gv.b1 BK488 hb
       replace BK489 := Gv.b1 BK489 hb
       replace BK514 := Gv.b1 BK514 hb
       replace BK519 := Gv.b1 BK519 hb
       replace BK539 := Gv.b1 BK539 hb
       replace BK575 := Gv.b1 BK575 hb
       replace HB := Gv.a0 (below_step HB.out hb)
       (try clear hb)
       (try clear hb2)
       (try clear hk)
       (try clear hi)
       obtain ⟨Ao98, co98, eo98⟩ := Kd.R_slice HO555.out
       (first | subst eo98 | (injection eo98 with f1_ f2_ f3_; have f4_ := f1_.symm; have f5_ := f3_.symm; clear f1_ f2_ f3_; subst f4_; subst f5_))
       refine hK.out _ _ ⟨Gv.q BK488.out, Gv.q BK488.out, Gv.q BK489.out, Gv.q BK489.out, Gv.q BK489.out, Gv.q BK489.out, Gv.q BK489.out, Gv.q BK489.out, Gv.q BK489.out, Gv.q BK489.out, Gv.q BK489.out, Gv.q BK489.out, Gv.q BK489.out, Gv.q BK489.out, Gv.q BK489.out, Gv.q BK489.out⟩ (fun hHeld => ?_)
       clear hK K
       refine norm_ (a' := ?_) ?_ ?_
       rotate_left
       ·show Act.put _ (some 87) _ = _
        simp only [Act.put, List.setIfInBounds_toArray, List.set_cons_zero, List.set_cons_succ, i64_w, i32_w]
        rfl
       refine one_ (i := 5) (N := some 89) #[true, true, true, true, true, true, false, false, false, true, false, false] rfl rfl (one_of HT_.out (by kernel_rfl)) (by decide) (fun K hK => ?_)
       refine goes_ Try.func39 (by kernel_rfl) rfl #[.agg #[.int .i64 t552, .slice Ao98 t553.length co98], .agg #[.int .i64 t556, .int .i64 t557, .int .i64 t558, .int .i64 t559, .int .i64 t560, .int .i64 t561, .int .i64 t562, .int .i64 t563, .int .i64 t564, .int .i64 t565, .int .i64 t566, .int .i64 t567, .int .i64 t568, .int .i64 t569], .int .i64 a2] (by rfl) rfl rfl Gv.lm ?_
       with_reducible refine (impl_TablePut.calls k t552 _ _ t553 t556 t557 t558 t559 t560 t561 t562 t563 t564 t565 t566 t567 t568 t569 a2 t570 t571 t574 _ ?side1 ?side2 A33.out).mono ?_
       (case side1 => repeat (first | exact (Kd.R_reads' HO555.out).2.2 | (with_reducible refine Kd.C_alloc ?_ _) | (with_reducible refine Kd.C_drewN ?_ _) | (with_reducible refine Kd.C_drew ?_)))
       (case side2 => exact (Kd.R_reads' HO555.out).2.1)
       rintro e w99 ⟨v572, rfl, ho0, hb⟩
       refine ⟨_, rfl, ?_⟩
       have HO573 := Gv.a0 (Kd.R_lower (Kd.R_new' (Kd.R_new' (Kd.R_new' (Kd.R_new' (Kd.R_new' (Kd.R_new' ho0 (Kd.R_lt HO494.out)) (Kd.R_lt HO512.out)) (Kd.R_lt HO518.out)) (Kd.R_lt HO537.out)) (Kd.R_lt HO544.out)) (Kd.R_lt HO555.out)) (below_size HB.out))
       replace HO494 := Gv.a0 (Kd.R_elder' HO494.out (Kd.R_base ho0) hb)
       replace HO512 := Gv.a0 (Kd.R_elder' HO512.out (Kd.R_base ho0) hb)
       replace HO518 := Gv.a0 (Kd.R_elder' HO518.out (Kd.R_base ho0) hb)
       replace HO537 := Gv.a0 (Kd.R_elder' HO537.out (Kd.R_base ho0) hb)
       replace HO544 := Gv.a0 (Kd.R_elder' HO544.out (Kd.R_base ho0) hb)
       replace HO555 := Gv.a0 (Kd.R_elder' HO555.out (Kd.R_base ho0) hb)
       replace BK488 := Gv.b1 BK488 hb
       replace BK489 := Gv.b1 BK489 hb
       replace BK514 := Gv.b1 BK514 hb
       replace BK519 := Gv.b1 BK519 hb
       replace BK539 := Gv.b1 BK539 hb
       replace BK575 := Gv.b1 BK575 hb
       replace HB := Gv.a0 (below_step HB.out hb)
       (try clear hb)
       (try clear hb2)
       (try clear hk)
       (try clear hi)
       (try clear ho0)
       refine hK.out _ _ ⟨Gv.q BK488.out, Gv.q BK488.out, Gv.q BK489.out, Gv.q BK489.out, Gv.q BK489.out, Gv.q BK489.out, Gv.q BK489.out, Gv.q BK489.out, Gv.q BK489.out, Gv.q BK489.out, Gv.q BK489.out, Gv.q BK489.out, Gv.q BK489.out, Gv.q BK489.out, Gv.q BK489.out, Gv.q BK489.out⟩ (fun hHeld => ?_)
       clear hK K
       refine norm_ (a' := ?_) ?_ ?_
       rotate_left
       ·show Act.put _ (some 89) _ = _
        simp only [Act.put, List.setIfInBounds_toArray, List.set_cons_zero, List.set_cons_succ, i64_w, i32_w]
        rfl
       refine Gv.pu 6 (some 83) HT_ ?_
       refine Gv.pu 7 (some 90) HT_ ?_
       refine Gv.pu 8 (some 91) HT_ ?_
       exact norm_ (by simp only [putAll, Act.put, List.setIfInBounds_toArray, List.set_cons_zero, List.set_cons_succ]) (hCont (.slice Ao98 t553.length co98, v572, gb575) _ ⟨hHeld, (by (with_reducible repeat (first | apply Kd.R_alloc | apply Kd.R_drewN | apply Kd.R_drew)); exact Kd.R_mono HO494.out (fun _ hk => ⟨hk.1.1.1, ⟨hk.1.1.2.1, ⟨hk.1.1.2.2.1, ⟨hk.1.1.2.2.2, ⟨hk.1.2, hk.2⟩⟩⟩⟩⟩)), (by (with_reducible repeat (first | apply Kd.R_alloc | apply Kd.R_drewN | apply Kd.R_drew)); exact Kd.R_mono HO512.out (fun _ hk => ⟨hk.1.1.1, ⟨hk.1.1.2.1, ⟨hk.1.1.2.2.1, ⟨hk.1.1.2.2.2, ⟨hk.1.2, hk.2⟩⟩⟩⟩⟩)), (by (with_reducible repeat (first | apply Kd.R_alloc | apply Kd.R_drewN | apply Kd.R_drew)); exact Kd.R_mono HO518.out (fun _ hk => ⟨hk.1.1.1, ⟨hk.1.1.2.1, ⟨hk.1.1.2.2.1, ⟨hk.1.1.2.2.2, ⟨hk.1.2, hk.2⟩⟩⟩⟩⟩)), (by (with_reducible repeat (first | apply Kd.R_alloc | apply Kd.R_drewN | apply Kd.R_drew)); exact Kd.R_mono HO537.out (fun _ hk => ⟨hk.1.1.1, ⟨hk.1.1.2.1, ⟨hk.1.1.2.2.1, ⟨hk.1.1.2.2.2, ⟨hk.1.2, hk.2⟩⟩⟩⟩⟩)), (by (with_reducible repeat (first | apply Kd.R_alloc | apply Kd.R_drewN | apply Kd.R_drew)); exact Kd.R_mono HO544.out (fun _ hk => ⟨hk.1.1.1, ⟨hk.1.1.2.1, ⟨hk.1.1.2.2.1, ⟨hk.1.1.2.2.2, ⟨hk.1.2, hk.2⟩⟩⟩⟩⟩)), (by (with_reducible repeat (first | apply Kd.R_alloc | apply Kd.R_drewN | apply Kd.R_drew)); exact Kd.R_mono HO555.out (fun _ hk => ⟨hk.1.1.1.1.1.2, ⟨hk.1.1.1.1.2, ⟨hk.1.1.1.2, ⟨hk.1.1.2, ⟨hk.1.2, hk.2⟩⟩⟩⟩⟩)), (by (with_reducible repeat (first | apply Kd.R_alloc | apply Kd.R_drewN | apply Kd.R_drew)); exact Kd.R_mono HO573.out (fun _ hk => ⟨hk.1.1.1.1.1.2, ⟨hk.1.1.1.1.2, ⟨hk.1.1.1.2, ⟨hk.1.1.2, ⟨hk.1.2, hk.2⟩⟩⟩⟩⟩)), BK488.out, BK489.out, BK514.out, BK519.out, BK539.out, BK575.out, GW575.out, GE575.out, NB488_575.out, NB575_488.out, NB489_575.out, NB575_489.out, NB514_575.out, NB575_514.out, NB519_575.out, NB575_519.out, NB539_575.out, NB575_539.out, HB.out⟩)
     rintro ⟨v554, v572, gb575⟩ w100 ⟨hS_, h0_, h1_, h2_, h3_, h4_, h5_, h6_, h7_, h8_, h9_, h10_, h11_, h12_, h13_, h14_, h15_, h16_, h17_, h18_, h19_, h20_, h21_, h22_, h23_, h24_, h25_⟩
     have n0_ : Aside0 (Kd.R k75 75 w100 w.heap.size (fun k_ => some k_ ≠ (.slice Ao53 t510.length co53 : Value).ownBlock ∧ some k_ ≠ (.slice Ao63 t516.length co63 : Value).ownBlock ∧ some k_ ≠ (.slice Ao71 t535.length co71 : Value).ownBlock ∧ some k_ ≠ (.slice Ao83 t542.length co83 : Value).ownBlock ∧ some k_ ≠ (v554 : Value).ownBlock ∧ some k_ ≠ (v572 : Value).ownBlock) v493 t492) := ⟨h0_⟩
     have n1_ : Aside0 (Kd.R k75 75 w100 w.heap.size (fun k_ => some k_ ≠ (v493 : Value).ownBlock ∧ some k_ ≠ (.slice Ao63 t516.length co63 : Value).ownBlock ∧ some k_ ≠ (.slice Ao71 t535.length co71 : Value).ownBlock ∧ some k_ ≠ (.slice Ao83 t542.length co83 : Value).ownBlock ∧ some k_ ≠ (v554 : Value).ownBlock ∧ some k_ ≠ (v572 : Value).ownBlock) (.slice Ao53 t510.length co53) t510) := ⟨h1_⟩
     have n2_ : Aside0 (Kd.R k75 75 w100 w.heap.size (fun k_ => some k_ ≠ (v493 : Value).ownBlock ∧ some k_ ≠ (.slice Ao53 t510.length co53 : Value).ownBlock ∧ some k_ ≠ (.slice Ao71 t535.length co71 : Value).ownBlock ∧ some k_ ≠ (.slice Ao83 t542.length co83 : Value).ownBlock ∧ some k_ ≠ (v554 : Value).ownBlock ∧ some k_ ≠ (v572 : Value).ownBlock) (.slice Ao63 t516.length co63) t547) := ⟨h2_⟩
     have n3_ : Aside0 (Kd.R k75 75 w100 w.heap.size (fun k_ => some k_ ≠ (v493 : Value).ownBlock ∧ some k_ ≠ (.slice Ao53 t510.length co53 : Value).ownBlock ∧ some k_ ≠ (.slice Ao63 t516.length co63 : Value).ownBlock ∧ some k_ ≠ (.slice Ao83 t542.length co83 : Value).ownBlock ∧ some k_ ≠ (v554 : Value).ownBlock ∧ some k_ ≠ (v572 : Value).ownBlock) (.slice Ao71 t535.length co71) t550) := ⟨h3_⟩
     have n4_ : Aside0 (Kd.R k75 75 w100 w.heap.size (fun k_ => some k_ ≠ (v493 : Value).ownBlock ∧ some k_ ≠ (.slice Ao53 t510.length co53 : Value).ownBlock ∧ some k_ ≠ (.slice Ao63 t516.length co63 : Value).ownBlock ∧ some k_ ≠ (.slice Ao71 t535.length co71 : Value).ownBlock ∧ some k_ ≠ (v554 : Value).ownBlock ∧ some k_ ≠ (v572 : Value).ownBlock) (.slice Ao83 t542.length co83) t542) := ⟨h4_⟩
     have n5_ : Aside0 (Kd.R k75 75 w100 w.heap.size (fun k_ => some k_ ≠ (v493 : Value).ownBlock ∧ some k_ ≠ (.slice Ao53 t510.length co53 : Value).ownBlock ∧ some k_ ≠ (.slice Ao63 t516.length co63 : Value).ownBlock ∧ some k_ ≠ (.slice Ao71 t535.length co71 : Value).ownBlock ∧ some k_ ≠ (.slice Ao83 t542.length co83 : Value).ownBlock ∧ some k_ ≠ (v572 : Value).ownBlock) v554 t553) := ⟨h5_⟩
     have n6_ : Aside0 (Kd.R k75 75 w100 w.heap.size (fun k_ => some k_ ≠ (v493 : Value).ownBlock ∧ some k_ ≠ (.slice Ao53 t510.length co53 : Value).ownBlock ∧ some k_ ≠ (.slice Ao63 t516.length co63 : Value).ownBlock ∧ some k_ ≠ (.slice Ao71 t535.length co71 : Value).ownBlock ∧ some k_ ≠ (.slice Ao83 t542.length co83 : Value).ownBlock ∧ some k_ ≠ (v554 : Value).ownBlock) v572 t571) := ⟨h6_⟩
     have n7_ : Aside0 (w100.heap[gb488]? = some (.cells #[.int .i64 a0_0, .slice A0_1 l0_1.length c0_1] 47 (0, 0))) := ⟨h7_⟩
     have n8_ : Aside0 (w100.heap[gb489]? = some (.cells #[.int .i64 a1_0, .int .i64 a1_1, .int .i64 a1_2, .int .i64 a1_3, .int .i64 a1_4, .int .i64 a1_5, .int .i64 a1_6, .int .i64 a1_7, .int .i64 a1_8, .int .i64 a1_9, .int .i64 a1_10, .int .i64 a1_11, .int .i64 a1_12, .int .i64 a1_13] 27 (0, 0))) := ⟨h8_⟩
     have n9_ : Aside0 (w100.heap[gb514]? = some (.cells #[.int .i64 t509, .slice Ao53 t510.length co53] 40 (0, 0))) := ⟨h9_⟩
     have n10_ : Aside0 (w100.heap[gb519]? = some (.cells #[.int .i64 t515, .slice Ao63 t516.length co63] 40 (0, 0))) := ⟨h10_⟩
     have n11_ : Aside0 (w100.heap[gb539]? = some (.cells #[.int .i64 t534, .slice Ao71 t535.length co71] 40 (0, 0))) := ⟨h11_⟩
     have n12_ : Aside0 (w100.heap[gb575]? = some (.cells #[.int .i64 0, .slice none 0 0] 40 (0, 0))) := ⟨h12_⟩
     have n13_ : Aside0 (w.heap.size ≤ gb575) := ⟨h13_⟩
     have n14_ : Aside0 (w.heap.size ≤ gb575) := ⟨h14_⟩
     have n15_ : Aside0 (gb488 ≠ gb575) := ⟨h15_⟩
     have n16_ : Aside0 (gb575 ≠ gb488) := ⟨h16_⟩
     have n17_ : Aside0 (gb489 ≠ gb575) := ⟨h17_⟩
     have n18_ : Aside0 (gb575 ≠ gb489) := ⟨h18_⟩
     have n19_ : Aside0 (gb514 ≠ gb575) := ⟨h19_⟩
     have n20_ : Aside0 (gb575 ≠ gb514) := ⟨h20_⟩
     have n21_ : Aside0 (gb519 ≠ gb575) := ⟨h21_⟩
     have n22_ : Aside0 (gb575 ≠ gb519) := ⟨h22_⟩
     have n23_ : Aside0 (gb539 ≠ gb575) := ⟨h23_⟩
     have n24_ : Aside0 (gb575 ≠ gb539) := ⟨h24_⟩
     have n25_ : Aside0 (Below w.heap.size w w100) := ⟨h25_⟩
     clear HO494 HO512 HO518 HO537 HO544 BK488 BK489 BK514 BK519 BK539 HB h0_ h1_ h2_ h3_ h4_ h5_ h6_ h7_ h8_ h9_ h10_ h11_ h12_ h13_ h14_ h15_ h16_ h17_ h18_ h19_ h20_ h21_ h22_ h23_ h24_ h25_
     have HO494 := n0_
     have HO512 := n1_
     have HO518 := n2_
     have HO537 := n3_
     have HO544 := n4_
     have HO555 := n5_
     have HO573 := n6_
     have BK488 := n7_
     have BK489 := n8_
     have BK514 := n9_
     have BK519 := n10_
     have BK539 := n11_
     have BK575 := n12_
     have GW575 := n13_
     have GE575 := n14_
     have NB488_575 := n15_
     have NB575_488 := n16_
     have NB489_575 := n17_
     have NB575_489 := n18_
     have NB514_575 := n19_
     have NB575_514 := n20_
     have NB519_575 := n21_
     have NB575_519 := n22_
     have NB539_575 := n23_
     have NB575_539 := n24_
     have HB := n25_
     clear n0_ n1_ n2_ n3_ n4_ n5_ n6_ n7_ n8_ n9_ n10_ n11_ n12_ n13_ n14_ n15_ n16_ n17_ n18_ n19_ n20_ n21_ n22_ n23_ n24_ n25_
     have hHeld : w100.cell? ⟨gb488, 0, none⟩ = some (.int .i64 a0_0) ∧ w100.cell? ⟨gb488, 1, none⟩ = some (.slice A0_1 l0_1.length c0_1) ∧ w100.cell? ⟨gb489, 0, none⟩ = some (.int .i64 a1_0) ∧ w100.cell? ⟨gb489, 1, none⟩ = some (.int .i64 a1_1) ∧ w100.cell? ⟨gb489, 2, none⟩ = some (.int .i64 a1_2) ∧ w100.cell? ⟨gb489, 3, none⟩ = some (.int .i64 a1_3) ∧ w100.cell? ⟨gb489, 4, none⟩ = some (.int .i64 a1_4) ∧ w100.cell? ⟨gb489, 5, none⟩ = some (.int .i64 a1_5) ∧ w100.cell? ⟨gb489, 6, none⟩ = some (.int .i64 a1_6) ∧ w100.cell? ⟨gb489, 7, none⟩ = some (.int .i64 a1_7) ∧ w100.cell? ⟨gb489, 8, none⟩ = some (.int .i64 a1_8) ∧ w100.cell? ⟨gb489, 9, none⟩ = some (.int .i64 a1_9) ∧ w100.cell? ⟨gb489, 10, none⟩ = some (.int .i64 a1_10) ∧ w100.cell? ⟨gb489, 11, none⟩ = some (.int .i64 a1_11) ∧ w100.cell? ⟨gb489, 12, none⟩ = some (.int .i64 a1_12) ∧ w100.cell? ⟨gb489, 13, none⟩ = some (.int .i64 a1_13) := hS_
     obtain ⟨Ao102, co102, eo102⟩ := Kd.R_slice HO573.out
     (first | subst eo102 | (injection eo102 with f1_ f2_ f3_; have f4_ := f1_.symm; have f5_ := f3_.symm; clear f1_ f2_ f3_; subst f4_; subst f5_))
     refine norm_ (a' := ?_) ?_ ?_
     rotate_left
     ·simp only [putAll, Act.put, List.setIfInBounds_toArray, List.set_cons_zero, List.set_cons_succ]
      rfl
     refine one_ (i := 10) (N := none) #[true, true, true, true, true, true, true, true, true, true, true, false] rfl rfl (one_of HT_.out (by kernel_rfl)) (by decide) (fun K hK => ?_)
     have hs101 : w100.cell? ⟨gb575, 0, none⟩ = some (.int .i64 0) := (blk_cell BK575.out 0).trans rfl
     have hfs101 := blk_frozen BK575.out 0
     have hns101_0 := NB488_575.out
     have hns101_1 := NB489_575.out
     have hns101_2 := NB514_575.out
     have hns101_3 := NB519_575.out
     have hns101_4 := NB539_575.out
     have hms101_0 := NB575_488.out
     have hms101_1 := NB575_489.out
     have hms101_2 := NB575_514.out
     have hms101_3 := NB575_519.out
     have hms101_4 := NB575_539.out
     have hs103 : w100.cell? ⟨gb575, 1, none⟩ = some (.slice none 0 0) := (blk_cell BK575.out 1).trans rfl
     have hfs103 := blk_frozen BK575.out 1
     have hns103_0 := NB488_575.out
     have hns103_1 := NB489_575.out
     have hns103_2 := NB514_575.out
     have hns103_3 := NB519_575.out
     have hns103_4 := NB539_575.out
     have hms103_0 := NB575_488.out
     have hms103_1 := NB575_489.out
     have hms103_2 := NB575_514.out
     have hms103_3 := NB575_519.out
     have hms103_4 := NB575_539.out
     refine skip_ (w1 := ?_) (by rfl) rfl ?_ ?_
     rotate_left
     ·go_simp
      rfl
     refine hK.out _ _ ⟨((cell_far (p := ⟨gb575, _, none⟩) NB488_575.out _).trans (((cell_far (p := ⟨gb575, _, none⟩) NB488_575.out _).trans (hHeld.1)))), ((cell_far (p := ⟨gb575, _, none⟩) NB488_575.out _).trans (((cell_far (p := ⟨gb575, _, none⟩) NB488_575.out _).trans (hHeld.2.1)))), ((cell_far (p := ⟨gb575, _, none⟩) NB489_575.out _).trans (((cell_far (p := ⟨gb575, _, none⟩) NB489_575.out _).trans (hHeld.2.2.1)))), ((cell_far (p := ⟨gb575, _, none⟩) NB489_575.out _).trans (((cell_far (p := ⟨gb575, _, none⟩) NB489_575.out _).trans (hHeld.2.2.2.1)))), ((cell_far (p := ⟨gb575, _, none⟩) NB489_575.out _).trans (((cell_far (p := ⟨gb575, _, none⟩) NB489_575.out _).trans (hHeld.2.2.2.2.1)))), ((cell_far (p := ⟨gb575, _, none⟩) NB489_575.out _).trans (((cell_far (p := ⟨gb575, _, none⟩) NB489_575.out _).trans (hHeld.2.2.2.2.2.1)))), ((cell_far (p := ⟨gb575, _, none⟩) NB489_575.out _).trans (((cell_far (p := ⟨gb575, _, none⟩) NB489_575.out _).trans (hHeld.2.2.2.2.2.2.1)))), ((cell_far (p := ⟨gb575, _, none⟩) NB489_575.out _).trans (((cell_far (p := ⟨gb575, _, none⟩) NB489_575.out _).trans (hHeld.2.2.2.2.2.2.2.1)))), ((cell_far (p := ⟨gb575, _, none⟩) NB489_575.out _).trans (((cell_far (p := ⟨gb575, _, none⟩) NB489_575.out _).trans (hHeld.2.2.2.2.2.2.2.2.1)))), ((cell_far (p := ⟨gb575, _, none⟩) NB489_575.out _).trans (((cell_far (p := ⟨gb575, _, none⟩) NB489_575.out _).trans (hHeld.2.2.2.2.2.2.2.2.2.1)))), ((cell_far (p := ⟨gb575, _, none⟩) NB489_575.out _).trans (((cell_far (p := ⟨gb575, _, none⟩) NB489_575.out _).trans (hHeld.2.2.2.2.2.2.2.2.2.2.1)))), ((cell_far (p := ⟨gb575, _, none⟩) NB489_575.out _).trans (((cell_far (p := ⟨gb575, _, none⟩) NB489_575.out _).trans (hHeld.2.2.2.2.2.2.2.2.2.2.2.1)))), ((cell_far (p := ⟨gb575, _, none⟩) NB489_575.out _).trans (((cell_far (p := ⟨gb575, _, none⟩) NB489_575.out _).trans (hHeld.2.2.2.2.2.2.2.2.2.2.2.2.1)))), ((cell_far (p := ⟨gb575, _, none⟩) NB489_575.out _).trans (((cell_far (p := ⟨gb575, _, none⟩) NB489_575.out _).trans (hHeld.2.2.2.2.2.2.2.2.2.2.2.2.2.1)))), ((cell_far (p := ⟨gb575, _, none⟩) NB489_575.out _).trans (((cell_far (p := ⟨gb575, _, none⟩) NB489_575.out _).trans (hHeld.2.2.2.2.2.2.2.2.2.2.2.2.2.2.1)))), ((cell_far (p := ⟨gb575, _, none⟩) NB489_575.out _).trans (((cell_far (p := ⟨gb575, _, none⟩) NB489_575.out _).trans (hHeld.2.2.2.2.2.2.2.2.2.2.2.2.2.2.2))))⟩ (fun hHeld => ?_)
     clear hK K
     refine Gv.pu 11 (some 17) HT_ ?_
     refine done_ (done_of HT_.out (by kernel_rfl)) ?_
     have hnb104 := NB575_488.out
     have hnc104 := NB488_575.out
     have hnb105 := NB575_489.out
     have hnc105 := NB489_575.out
     have hnb106 := NB575_514.out
     have hnc106 := NB514_575.out
     have hnb107 := NB575_519.out
     have hnc107 := NB519_575.out
     have hnb108 := NB575_539.out
     have hnc108 := NB539_575.out
     have hcz109_0 : w100.cell? ⟨gb575, 0, none⟩ = some (.int .i64 0) := (blk_cell BK575.out 0).trans rfl
     have hcz109_1 : w100.cell? ⟨gb575, 1, none⟩ = some (.slice none 0 0) := (blk_cell BK575.out 1).trans rfl
     have hfz109_0 := blk_frozen BK575.out 0
     have hfz109_1 := blk_frozen BK575.out 1
     have hcz110_0 : w100.cell? ⟨gb514, 0, none⟩ = some (.int .i64 t509) := (blk_cell BK514.out 0).trans rfl
     have hcz110_1 : w100.cell? ⟨gb514, 1, none⟩ = some (.slice Ao53 t510.length co53) := (blk_cell BK514.out 1).trans rfl
     have hfz110_0 := blk_frozen BK514.out 0
     have hfz110_1 := blk_frozen BK514.out 1
     try go_wp2_with (first | ((with_reducible refine gate_callee (f := 20) rfl ?_); refine goesL_ (some 94) rfl rfl Try.func20 (by kernel_rfl) rfl #[.agg #[.int .i64 t570, .slice Ao102 t571.length co102], .agg #[.int .i64 t509, .slice Ao53 t510.length co53]] rfl Gv.lm ?_; (with_reducible refine (laws_eqTable.calls k t570 _ _ t571 t509 _ _ t510 true _ ?side1 ?side2 ?side3 ?side4 A34.out).mono ?_); (case side1 => refine (Kd.R_reads' (e := 75) (base := w.heap.size) (ok := fun k_ => (some k_ ≠ (v493 : Value).ownBlock ∧ (some k_ ≠ (.slice Ao53 t510.length co53 : Value).ownBlock ∧ (some k_ ≠ (.slice Ao63 t516.length co63 : Value).ownBlock ∧ (some k_ ≠ (.slice Ao71 t535.length co71 : Value).ownBlock ∧ (some k_ ≠ (.slice Ao83 t542.length co83 : Value).ownBlock ∧ some k_ ≠ (v554 : Value).ownBlock)))))) (n := t571.length) (c := co102) ?_).2.2; exact (by (with_reducible repeat (first | apply Kd.R_alloc | apply Kd.R_drewN | apply Kd.R_drew)); exact (Kd.R_mono (Kd.R_far (p := ⟨gb575, 1, none⟩) (Kd.R_far (p := ⟨gb575, 0, none⟩) (Kd.R_types HO573.out BK575.out (by decide)) (fun _ hk => hk.2) (.int .i64 t570)) (fun _ hk => hk.2) (.slice Ao102 t571.length co102)) (fun _ h_ => h_.1)))); (case side2 => exact (Kd.R_reads' HO573.out).2.1); (case side3 => refine (Kd.R_reads' (e := 75) (base := w.heap.size) (ok := fun k_ => (some k_ ≠ (v493 : Value).ownBlock ∧ (some k_ ≠ (.slice Ao63 t516.length co63 : Value).ownBlock ∧ (some k_ ≠ (.slice Ao71 t535.length co71 : Value).ownBlock ∧ (some k_ ≠ (.slice Ao83 t542.length co83 : Value).ownBlock ∧ (some k_ ≠ (v554 : Value).ownBlock ∧ some k_ ≠ (.slice Ao102 t571.length co102 : Value).ownBlock)))))) (n := t510.length) (c := co53) ?_).2.2; exact (by (with_reducible repeat (first | apply Kd.R_alloc | apply Kd.R_drewN | apply Kd.R_drew)); exact (Kd.R_mono (Kd.R_far (p := ⟨gb575, 1, none⟩) (Kd.R_far (p := ⟨gb575, 0, none⟩) (Kd.R_types HO512.out BK575.out (by decide)) (fun _ hk => hk.2) (.int .i64 t570)) (fun _ hk => hk.2) (.slice Ao102 t571.length co102)) (fun _ h_ => h_.1)))); (case side4 => exact (Kd.R_reads' HO512.out).2.1); rintro e w111 ⟨rfl, hb⟩; refine ⟨_, rfl, ?_⟩; replace HO494 := Gv.a0 (Kd.R_below (by (with_reducible repeat (first | apply Kd.R_alloc | apply Kd.R_drewN | apply Kd.R_drew)); exact (Kd.R_mono (Kd.R_far (p := ⟨gb575, 1, none⟩) (Kd.R_far (p := ⟨gb575, 0, none⟩) (Kd.R_types HO494.out BK575.out (by decide)) (fun _ hk => hk.2) (.int .i64 t570)) (fun _ hk => hk.2) (.slice Ao102 t571.length co102)) (fun _ h_ => h_.1))) hb); replace HO512 := Gv.a0 (Kd.R_below (by (with_reducible repeat (first | apply Kd.R_alloc | apply Kd.R_drewN | apply Kd.R_drew)); exact (Kd.R_mono (Kd.R_far (p := ⟨gb575, 1, none⟩) (Kd.R_far (p := ⟨gb575, 0, none⟩) (Kd.R_types HO512.out BK575.out (by decide)) (fun _ hk => hk.2) (.int .i64 t570)) (fun _ hk => hk.2) (.slice Ao102 t571.length co102)) (fun _ h_ => h_.1))) hb); replace HO518 := Gv.a0 (Kd.R_below (by (with_reducible repeat (first | apply Kd.R_alloc | apply Kd.R_drewN | apply Kd.R_drew)); exact (Kd.R_mono (Kd.R_far (p := ⟨gb575, 1, none⟩) (Kd.R_far (p := ⟨gb575, 0, none⟩) (Kd.R_types HO518.out BK575.out (by decide)) (fun _ hk => hk.2) (.int .i64 t570)) (fun _ hk => hk.2) (.slice Ao102 t571.length co102)) (fun _ h_ => h_.1))) hb); replace HO537 := Gv.a0 (Kd.R_below (by (with_reducible repeat (first | apply Kd.R_alloc | apply Kd.R_drewN | apply Kd.R_drew)); exact (Kd.R_mono (Kd.R_far (p := ⟨gb575, 1, none⟩) (Kd.R_far (p := ⟨gb575, 0, none⟩) (Kd.R_types HO537.out BK575.out (by decide)) (fun _ hk => hk.2) (.int .i64 t570)) (fun _ hk => hk.2) (.slice Ao102 t571.length co102)) (fun _ h_ => h_.1))) hb); replace HO544 := Gv.a0 (Kd.R_below (by (with_reducible repeat (first | apply Kd.R_alloc | apply Kd.R_drewN | apply Kd.R_drew)); exact (Kd.R_mono (Kd.R_far (p := ⟨gb575, 1, none⟩) (Kd.R_far (p := ⟨gb575, 0, none⟩) (Kd.R_types HO544.out BK575.out (by decide)) (fun _ hk => hk.2) (.int .i64 t570)) (fun _ hk => hk.2) (.slice Ao102 t571.length co102)) (fun _ h_ => h_.1))) hb); replace HO555 := Gv.a0 (Kd.R_below (by (with_reducible repeat (first | apply Kd.R_alloc | apply Kd.R_drewN | apply Kd.R_drew)); exact (Kd.R_mono (Kd.R_far (p := ⟨gb575, 1, none⟩) (Kd.R_far (p := ⟨gb575, 0, none⟩) (Kd.R_types HO555.out BK575.out (by decide)) (fun _ hk => hk.2) (.int .i64 t570)) (fun _ hk => hk.2) (.slice Ao102 t571.length co102)) (fun _ h_ => h_.1))) hb); replace HO573 := Gv.a0 (Kd.R_below (by (with_reducible repeat (first | apply Kd.R_alloc | apply Kd.R_drewN | apply Kd.R_drew)); exact (Kd.R_mono (Kd.R_far (p := ⟨gb575, 1, none⟩) (Kd.R_far (p := ⟨gb575, 0, none⟩) (Kd.R_types HO573.out BK575.out (by decide)) (fun _ hk => hk.2) (.int .i64 t570)) (fun _ hk => hk.2) (.slice Ao102 t571.length co102)) (fun _ h_ => h_.1))) hb); replace BK488 := Gv.a0 (blk_below (g := gb488) (o := .cells #[.int .i64 a0_0, .slice A0_1 l0_1.length c0_1] 47 (0, 0)) Gv.bkf hb); replace BK489 := Gv.a0 (blk_below (g := gb489) (o := .cells #[.int .i64 a1_0, .int .i64 a1_1, .int .i64 a1_2, .int .i64 a1_3, .int .i64 a1_4, .int .i64 a1_5, .int .i64 a1_6, .int .i64 a1_7, .int .i64 a1_8, .int .i64 a1_9, .int .i64 a1_10, .int .i64 a1_11, .int .i64 a1_12, .int .i64 a1_13] 27 (0, 0)) Gv.bkf hb); replace BK514 := Gv.a0 (blk_below (g := gb514) (o := .cells #[.int .i64 t509, .slice Ao53 t510.length co53] 40 (0, 0)) Gv.bkf hb); replace BK519 := Gv.a0 (blk_below (g := gb519) (o := .cells #[.int .i64 t515, .slice Ao63 t516.length co63] 40 (0, 0)) Gv.bkf hb); replace BK539 := Gv.a0 (blk_below (g := gb539) (o := .cells #[.int .i64 t534, .slice Ao71 t535.length co71] 40 (0, 0)) Gv.bkf hb); replace BK575 := Gv.a0 (blk_below (g := gb575) (o := .cells #[.int .i64 t570, .slice Ao102 t571.length co102] 40 (0, 0)) (by (with_reducible repeat (first | refine blk_drewN ?_ _ | refine blk_drew ?_ | refine blk_alloc ?_ _)); refine blk_put (cs := #[.int .i64 t570, .slice none 0 0]) ?_ 1 _ rfl; (with_reducible repeat (first | refine blk_drewN ?_ _ | refine blk_drew ?_ | refine blk_alloc ?_ _)); refine blk_put (cs := #[.int .i64 0, .slice none 0 0]) ?_ 0 _ rfl; (with_reducible repeat (first | refine blk_drewN ?_ _ | refine blk_drew ?_ | refine blk_alloc ?_ _)); exact BK575.out) hb); replace HB := Gv.a0 (below_step Gv.bw hb); clear hb; have hcz112_0 : w111.cell? ⟨gb539, 0, none⟩ = some (.int .i64 t534) := (blk_cell BK539.out 0).trans rfl; have hcz112_1 : w111.cell? ⟨gb539, 1, none⟩ = some (.slice Ao71 t535.length co71) := (blk_cell BK539.out 1).trans rfl; have hfz112_0 := blk_frozen BK539.out 0; have hfz112_1 := blk_frozen BK539.out 1) | ((with_reducible refine gate_callee (f := 22) rfl ?_); refine goesL_ (some 103) rfl rfl Try.func22 (by kernel_rfl) rfl #[.agg #[.int .i64 t534, .slice Ao71 t550.length co71], .int .i64 1] rfl (by (try simp only [List.map_toArray, List.map_cons, List.map_nil]); first | done | (rw [show t550.length = t535.length from (Kd.R_reads' HO537.out).1.symm] <;> rfl) | rfl | (simp only [List.length_drop, List.length_take]; rfl)) ?_; (with_reducible refine (laws_heldTable.calls t534 _ _ t550 1 t577 _ ?side1 ?side2 A37.out).mono ?_); (case side1 => repeat (first | exact (Kd.R_reads' HO537.out).2.2 | (with_reducible refine Kd.C_alloc ?_ _) | (with_reducible refine Kd.C_drewN ?_ _) | (with_reducible refine Kd.C_drew ?_))); (case side2 => rw [show t550.length = t535.length from (Kd.R_reads' HO537.out).1.symm]; exact (Kd.R_reads' HO537.out).2.1); rintro e w113 ⟨rfl, hb⟩; refine ⟨_, rfl, ?_⟩; replace HO494 := Gv.a0 (Kd.R_below (Gv.kr HO494.out) hb); replace HO512 := Gv.a0 (Kd.R_below (Gv.kr HO512.out) hb); replace HO518 := Gv.a0 (Kd.R_below (Gv.kr HO518.out) hb); replace HO537 := Gv.a0 (Kd.R_below (Gv.kr HO537.out) hb); replace HO544 := Gv.a0 (Kd.R_below (Gv.kr HO544.out) hb); replace HO555 := Gv.a0 (Kd.R_below (Gv.kr HO555.out) hb); replace HO573 := Gv.a0 (Kd.R_below (Gv.kr HO573.out) hb); replace BK488 := Gv.b1 BK488 hb; replace BK489 := Gv.b1 BK489 hb; replace BK514 := Gv.b1 BK514 hb; replace BK519 := Gv.b1 BK519 hb; replace BK539 := Gv.b1 BK539 hb; replace BK575 := Gv.b1 BK575 hb; replace HB := Gv.a0 (below_step Gv.bw hb); clear hb))
     go_ret
     exact ⟨Gv.rt, Gv.bw⟩
end Go.Proofs.Ytfnpodebjejhpaa.PTp
