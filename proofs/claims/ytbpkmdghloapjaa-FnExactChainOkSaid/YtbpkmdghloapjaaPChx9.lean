/- Plain Lean functions of a law's Go functions, their contracts, by a program of this session (wip/pr.py over the kit's print). -/
import Derived.Test.YtbpkmdghloapjaaPChx0
import Derived.Test.YtbpkmdghloapjaaPChx4
import Derived.Test.YtbpkmdghloapjaaPChx6
import Derived.Test.YtbpkmdghloapjaaPChx8
namespace Go.Proofs.Ytbpkmdghloapjaa.PCh
open Go.RowKit Go.Proofs.YtbpkmdghloapjaaW.PrintWords Go.Proofs.YtbpkmdghloapjaaW.PrintLast Go.Proofs.YtbpkmdghloapjaaW.PrintMore
attribute [local go_sem] max2_int min2_int max_two min_two max_three min_three max_four min_four   -- for this text's walks alone
set_option linter.unusedVariables false
set_option linter.unusedSimpArgs false

/-! ### laws_eqPrefix: function 72 -/
def laws_eqPrefix.f (a0_0 : Int) (a0_1 : Int) (a0_2 : Int) (a0_3 : Int) (a0_4 : Int) (a0_5 : Int) (a1_0 : Int) (a1_1 : Int) (a1_2 : Int) (a1_3 : Int) (a1_4 : Int) (a1_5 : Int) : Option (Bool) := (laws_eqAddr.f a0_0 a0_1 a0_2 a0_3 a0_4 a1_0 a1_1 a1_2 a1_3 a1_4).bind fun t363 => (if t363 = true then (if a0_5 = a1_5 then (some true) else (none)) else (none))
set_option maxHeartbeats 8000000 in
set_option maxRecDepth 100000 in
theorem laws_eqPrefix.calls (a0_0 : Int) (a0_1 : Int) (a0_2 : Int) (a0_3 : Int) (a0_4 : Int) (a0_5 : Int) (a1_0 : Int) (a1_1 : Int) (a1_2 : Int) (a1_3 : Int) (a1_4 : Int) (a1_5 : Int) (r : Bool) (w : World) (h : laws_eqPrefix.f a0_0 a0_1 a0_2 a0_3 a0_4 a0_5 a1_0 a1_1 a1_2 a1_3 a1_4 a1_5 = some r) :
  Calls Try.prog 72 #[.agg #[.int .i64 a0_0, .int .i64 a0_1, .int .i64 a0_2, .int .i64 a0_3, .int .i64 a0_4, .int .i64 a0_5], .agg #[.int .i64 a1_0, .int .i64 a1_1, .int .i64 a1_2, .int .i64 a1_3, .int .i64 a1_4, .int .i64 a1_5]] w fun e w' => e = .returned (.bool r) ∧ Below w.heap.size w w' := by
 have hu29 := Try.underlying29
 have hu26 := Try.underlying26
 have HB := Gv.a0 (Below.refl w.heap.size w)
 have H : ((laws_eqAddr.f a0_0 a0_1 a0_2 a0_3 a0_4 a1_0 a1_1 a1_2 a1_3 a1_4).bind fun t363 => (if t363 = true then (if a0_5 = a1_5 then (some true) else (none)) else (none))) = some r := h
 clear h
 replace H := Option.bind_eq_some_iff.mp H
 obtain ⟨t363, A30, H⟩ := H
 replace H : (if t363 = true then (if a0_5 = a1_5 then (some true) else (none)) else (none)) = some r := H
 have A3 := Gv.a0 A30
 clear A30
 by_cases c4 : t363 = true
 ·subst c4
  have H1 : (if a0_5 = a1_5 then (some true) else (none)) = some r := by rw [if_pos rfl] at H; exact H
  clear H
  have H := H1
  clear H1
  by_cases c5 : a0_5 = a1_5
  ·rw [if_pos c5] at H
   have c5b0 : (a0_5 == a1_5) = true := beq_iff_eq.mpr c5
   have c5b1 : (a0_5 != a1_5) = false := bne_eq_false_iff_eq.mpr c5
   clear c5
   obtain rfl := Option.some.inj H
   go_enter Try.func72, Try.ntmps72
   go_wp2_with (first | ((with_reducible refine gate_dst (N := 2) rfl ?_); refine box_event ?hg (N := 2) ?hd (cs := #[.int .i64 a0_0, .int .i64 a0_1, .int .i64 a0_2, .int .i64 a0_3, .int .i64 a0_4, .int .i64 a0_5]) (t := 29) ?hr ?_; (case hd => rfl); (case hg => rfl); (case hr => first | (go_simp; done) | (go_simp; rfl)); intro gb361 hg w6 hbox hb; have n0_ := Gv.a0 (below_step Gv.bw hb); have n1_ := Gv.a0 (hbox); have n2_ := Gv.a0 ((Gv.ble hg Gv.bw : w.heap.size ≤ gb361)); have n3_ := Gv.a0 ((Gv.ble hg Gv.bw : w.heap.size ≤ gb361)); clear HB; have HB := n0_; have BK361 := n1_; have GW361 := n2_; have GE361 := n3_; clear n0_ n1_ n2_ n3_; clear hb hbox hg) | ((with_reducible refine gate_dst (N := 3) rfl ?_); refine box_event ?hg (N := 3) ?hd (cs := #[.int .i64 a1_0, .int .i64 a1_1, .int .i64 a1_2, .int .i64 a1_3, .int .i64 a1_4, .int .i64 a1_5]) (t := 29) ?hr ?_; (case hd => rfl); (case hg => rfl); (case hr => first | (go_simp; done) | (go_simp; rfl)); intro gb362 hg w7 hbox hb; have n0_ := Gv.a0 (Gv.bb BK361.out hb); have n1_ := Gv.a0 (below_step Gv.bw hb); have n2_ := Gv.a0 (hbox); have n3_ := Gv.a0 ((Gv.ble hg Gv.bw : w.heap.size ≤ gb362)); have n4_ := Gv.a0 ((Gv.ble hg Gv.bw : w.heap.size ≤ gb362)); have n5_ := Gv.a0 ((Gv.nlt hg (Gv.kb BK361.out) : gb361 ≠ gb362)); have n6_ := Gv.a0 ((Gv.ngt hg (Gv.kb BK361.out) : gb362 ≠ gb361)); clear BK361; clear HB; have BK361 := n0_; have HB := n1_; have BK362 := n2_; have GW362 := n3_; have GE362 := n4_; have NB361_362 := n5_; have NB362_361 := n6_; clear n0_ n1_ n2_ n3_ n4_ n5_ n6_; clear hb hbox hg; have hnb8 := NB361_362.out; have hnc8 := NB362_361.out; obtain ⟨hcz9_0, hcz9_1, hcz9_2, hcz9_3, hcz9_4, hcz9_5⟩ := Gv.c6 BK361.out; obtain ⟨hfz9_0, hfz9_1, hfz9_2, hfz9_3, hfz9_4, hfz9_5⟩ := Gv.f6 BK361.out; obtain ⟨hcz10_0, hcz10_1, hcz10_2, hcz10_3, hcz10_4, hcz10_5⟩ := Gv.c6 BK362.out; obtain ⟨hfz10_0, hfz10_1, hfz10_2, hfz10_3, hfz10_4, hfz10_5⟩ := Gv.f6 BK362.out) | ((with_reducible refine gate_callee (f := 12) rfl ?_); refine goesL_ (some 9) rfl rfl Try.func12 (by kernel_rfl) rfl #[.agg #[.int .i64 a0_0, .int .i64 a0_1, .int .i64 a0_2, .int .i64 a0_3, .int .i64 a0_4], .agg #[.int .i64 a1_0, .int .i64 a1_1, .int .i64 a1_2, .int .i64 a1_3, .int .i64 a1_4]] rfl Gv.lm ?_; (with_reducible refine (laws_eqAddr.calls a0_0 a0_1 a0_2 a0_3 a0_4 a1_0 a1_1 a1_2 a1_3 a1_4 true _ A3.out).mono ?_); rintro e w11 ⟨rfl, hb⟩; refine ⟨_, rfl, ?_⟩; have n0_ := Gv.a0 (Gv.bb BK361.out hb); have n1_ := Gv.a0 (Gv.bb BK362.out hb); have n2_ := Gv.a0 (below_step Gv.bw hb); clear BK361; clear BK362; clear HB; have BK361 := n0_; have BK362 := n1_; have HB := n2_; clear n0_ n1_ n2_; (try clear hb); (try clear hb2); (try clear hk); (try clear hi); obtain ⟨hcz12_0, hcz12_1, hcz12_2, hcz12_3, hcz12_4, hcz12_5⟩ := Gv.c6 BK361.out; obtain ⟨hfz12_0, hfz12_1, hfz12_2, hfz12_3, hfz12_4, hfz12_5⟩ := Gv.f6 BK361.out; obtain ⟨hcz13_0, hcz13_1, hcz13_2, hcz13_3, hcz13_4, hcz13_5⟩ := Gv.c6 BK362.out; obtain ⟨hfz13_0, hfz13_1, hfz13_2, hfz13_3, hfz13_4, hfz13_5⟩ := Gv.f6 BK362.out))
   go_ret
   exact ⟨by first | rfl | (simp [errW_none, errW_some] <;> rfl) | (simp [*, errW_none, errW_some] <;> rfl), by repeat (first | (with_reducible first | exact HB.out | apply below_alloc | apply pw_below_drewN | apply below_drew1 | refine below_set ?_ GE361.out | refine below_set ?_ GE362.out) | exact HB.out)⟩
  ·rw [if_neg c5] at H
   exact absurd H (by simp)
 ·replace c4 := Bool.eq_false_iff.mpr c4
  subst c4
  have H1 : (none) = some r := by rw [if_neg (show ¬ (false = true) by decide)] at H; exact H
  clear H
  have H := H1
  clear H1
  exact absurd H (by simp)

/-! ### laws_eqModule: function 48 -/
def laws_eqModule.f (a0_0 : Int) (a0_1 : Int) (a0_2 : Int) (a0_3 : Int) (a0_4 : Int) (a0_5 : Int) (a0_6 : Int) (a0_7 : Int) (a0_8 : Int) (a0_9 : Int) (a0_10 : Int) (a0_11 : Int) (a0_12 : Int) (a0_13 : Int) (a0_14 : Int) (a0_15 : Int) (a0_16 : Int) (a1_0 : Int) (a1_1 : Int) (a1_2 : Int) (a1_3 : Int) (a1_4 : Int) (a1_5 : Int) (a1_6 : Int) (a1_7 : Int) (a1_8 : Int) (a1_9 : Int) (a1_10 : Int) (a1_11 : Int) (a1_12 : Int) (a1_13 : Int) (a1_14 : Int) (a1_15 : Int) (a1_16 : Int) : Option (Bool) := if a0_0 = a1_0 then ((laws_eqPrefix.f a0_1 a0_2 a0_3 a0_4 a0_5 a0_6 a1_1 a1_2 a1_3 a1_4 a1_5 a1_6).bind fun t366 => (if t366 = true then ((laws_eqPrefix.f a0_7 a0_8 a0_9 a0_10 a0_11 a0_12 a1_7 a1_8 a1_9 a1_10 a1_11 a1_12).bind fun t367 => (if t367 = true then (if a0_13 = a1_13 then (if a0_14 = a1_14 then (if a0_15 = a1_15 then (if a0_16 = a1_16 then (some true) else (none)) else (none)) else (none)) else (none)) else (none))) else (none))) else (none)
set_option maxHeartbeats 8000000 in
set_option maxRecDepth 100000 in
theorem laws_eqModule.calls (a0_0 : Int) (a0_1 : Int) (a0_2 : Int) (a0_3 : Int) (a0_4 : Int) (a0_5 : Int) (a0_6 : Int) (a0_7 : Int) (a0_8 : Int) (a0_9 : Int) (a0_10 : Int) (a0_11 : Int) (a0_12 : Int) (a0_13 : Int) (a0_14 : Int) (a0_15 : Int) (a0_16 : Int) (a1_0 : Int) (a1_1 : Int) (a1_2 : Int) (a1_3 : Int) (a1_4 : Int) (a1_5 : Int) (a1_6 : Int) (a1_7 : Int) (a1_8 : Int) (a1_9 : Int) (a1_10 : Int) (a1_11 : Int) (a1_12 : Int) (a1_13 : Int) (a1_14 : Int) (a1_15 : Int) (a1_16 : Int) (r : Bool) (w : World) (h : laws_eqModule.f a0_0 a0_1 a0_2 a0_3 a0_4 a0_5 a0_6 a0_7 a0_8 a0_9 a0_10 a0_11 a0_12 a0_13 a0_14 a0_15 a0_16 a1_0 a1_1 a1_2 a1_3 a1_4 a1_5 a1_6 a1_7 a1_8 a1_9 a1_10 a1_11 a1_12 a1_13 a1_14 a1_15 a1_16 = some r) :
  Calls Try.prog 48 #[.agg #[.int .i64 a0_0, .int .i64 a0_1, .int .i64 a0_2, .int .i64 a0_3, .int .i64 a0_4, .int .i64 a0_5, .int .i64 a0_6, .int .i64 a0_7, .int .i64 a0_8, .int .i64 a0_9, .int .i64 a0_10, .int .i64 a0_11, .int .i64 a0_12, .int .i64 a0_13, .int .i64 a0_14, .int .i64 a0_15, .int .i64 a0_16], .agg #[.int .i64 a1_0, .int .i64 a1_1, .int .i64 a1_2, .int .i64 a1_3, .int .i64 a1_4, .int .i64 a1_5, .int .i64 a1_6, .int .i64 a1_7, .int .i64 a1_8, .int .i64 a1_9, .int .i64 a1_10, .int .i64 a1_11, .int .i64 a1_12, .int .i64 a1_13, .int .i64 a1_14, .int .i64 a1_15, .int .i64 a1_16]] w fun e w' => e = .returned (.bool r) ∧ Below w.heap.size w w' := by
 have hu38 := Try.underlying38
 have hu29 := Try.underlying29
 have HB := Gv.a0 (Below.refl w.heap.size w)
 have H : (if a0_0 = a1_0 then ((laws_eqPrefix.f a0_1 a0_2 a0_3 a0_4 a0_5 a0_6 a1_1 a1_2 a1_3 a1_4 a1_5 a1_6).bind fun t366 => (if t366 = true then ((laws_eqPrefix.f a0_7 a0_8 a0_9 a0_10 a0_11 a0_12 a1_7 a1_8 a1_9 a1_10 a1_11 a1_12).bind fun t367 => (if t367 = true then (if a0_13 = a1_13 then (if a0_14 = a1_14 then (if a0_15 = a1_15 then (if a0_16 = a1_16 then (some true) else (none)) else (none)) else (none)) else (none)) else (none))) else (none))) else (none)) = some r := h
 clear h
 by_cases c3 : a0_0 = a1_0
 ·rw [if_pos c3] at H
  have c3b0 : (a0_0 == a1_0) = true := beq_iff_eq.mpr c3
  have c3b1 : (a0_0 != a1_0) = false := bne_eq_false_iff_eq.mpr c3
  clear c3
  replace H := Option.bind_eq_some_iff.mp H
  obtain ⟨t366, A40, H⟩ := H
  replace H : (if t366 = true then ((laws_eqPrefix.f a0_7 a0_8 a0_9 a0_10 a0_11 a0_12 a1_7 a1_8 a1_9 a1_10 a1_11 a1_12).bind fun t367 => (if t367 = true then (if a0_13 = a1_13 then (if a0_14 = a1_14 then (if a0_15 = a1_15 then (if a0_16 = a1_16 then (some true) else (none)) else (none)) else (none)) else (none)) else (none))) else (none)) = some r := H
  have A4 := Gv.a0 A40
  clear A40
  by_cases c5 : t366 = true
  ·subst c5
   have H1 : ((laws_eqPrefix.f a0_7 a0_8 a0_9 a0_10 a0_11 a0_12 a1_7 a1_8 a1_9 a1_10 a1_11 a1_12).bind fun t367 => (if t367 = true then (if a0_13 = a1_13 then (if a0_14 = a1_14 then (if a0_15 = a1_15 then (if a0_16 = a1_16 then (some true) else (none)) else (none)) else (none)) else (none)) else (none))) = some r := by rw [if_pos rfl] at H; exact H
   clear H
   have H := H1
   clear H1
   replace H := Option.bind_eq_some_iff.mp H
   obtain ⟨t367, A60, H⟩ := H
   replace H : (if t367 = true then (if a0_13 = a1_13 then (if a0_14 = a1_14 then (if a0_15 = a1_15 then (if a0_16 = a1_16 then (some true) else (none)) else (none)) else (none)) else (none)) else (none)) = some r := H
   have A6 := Gv.a0 A60
   clear A60
   by_cases c7 : t367 = true
   ·subst c7
    have H1 : (if a0_13 = a1_13 then (if a0_14 = a1_14 then (if a0_15 = a1_15 then (if a0_16 = a1_16 then (some true) else (none)) else (none)) else (none)) else (none)) = some r := by rw [if_pos rfl] at H; exact H
    clear H
    have H := H1
    clear H1
    by_cases c8 : a0_13 = a1_13
    ·rw [if_pos c8] at H
     have c8b0 : (a0_13 == a1_13) = true := beq_iff_eq.mpr c8
     have c8b1 : (a0_13 != a1_13) = false := bne_eq_false_iff_eq.mpr c8
     clear c8
     by_cases c9 : a0_14 = a1_14
     ·rw [if_pos c9] at H
      have c9b0 : (a0_14 == a1_14) = true := beq_iff_eq.mpr c9
      have c9b1 : (a0_14 != a1_14) = false := bne_eq_false_iff_eq.mpr c9
      clear c9
      by_cases c10 : a0_15 = a1_15
      ·rw [if_pos c10] at H
       have c10b0 : (a0_15 == a1_15) = true := beq_iff_eq.mpr c10
       have c10b1 : (a0_15 != a1_15) = false := bne_eq_false_iff_eq.mpr c10
       clear c10
       by_cases c11 : a0_16 = a1_16
       ·rw [if_pos c11] at H
        have c11b0 : (a0_16 == a1_16) = true := beq_iff_eq.mpr c11
        have c11b1 : (a0_16 != a1_16) = false := bne_eq_false_iff_eq.mpr c11
        clear c11
        obtain rfl := Option.some.inj H
        go_enter Try.func48, Try.ntmps48
        go_wp2_with (first | ((with_reducible refine gate_dst (N := 2) rfl ?_); refine box_event ?hg (N := 2) ?hd (cs := #[.int .i64 a0_0, .int .i64 a0_1, .int .i64 a0_2, .int .i64 a0_3, .int .i64 a0_4, .int .i64 a0_5, .int .i64 a0_6, .int .i64 a0_7, .int .i64 a0_8, .int .i64 a0_9, .int .i64 a0_10, .int .i64 a0_11, .int .i64 a0_12, .int .i64 a0_13, .int .i64 a0_14, .int .i64 a0_15, .int .i64 a0_16]) (t := 38) ?hr ?_; (case hd => rfl); (case hg => rfl); (case hr => first | (go_simp; done) | (go_simp; rfl)); intro gb364 hg w12 hbox hb; have n0_ := Gv.a0 (below_step Gv.bw hb); have n1_ := Gv.a0 (hbox); have n2_ := Gv.a0 ((Gv.ble hg Gv.bw : w.heap.size ≤ gb364)); have n3_ := Gv.a0 ((Gv.ble hg Gv.bw : w.heap.size ≤ gb364)); clear HB; have HB := n0_; have BK364 := n1_; have GW364 := n2_; have GE364 := n3_; clear n0_ n1_ n2_ n3_; clear hb hbox hg) | ((with_reducible refine gate_dst (N := 3) rfl ?_); refine box_event ?hg (N := 3) ?hd (cs := #[.int .i64 a1_0, .int .i64 a1_1, .int .i64 a1_2, .int .i64 a1_3, .int .i64 a1_4, .int .i64 a1_5, .int .i64 a1_6, .int .i64 a1_7, .int .i64 a1_8, .int .i64 a1_9, .int .i64 a1_10, .int .i64 a1_11, .int .i64 a1_12, .int .i64 a1_13, .int .i64 a1_14, .int .i64 a1_15, .int .i64 a1_16]) (t := 38) ?hr ?_; (case hd => rfl); (case hg => rfl); (case hr => first | (go_simp; done) | (go_simp; rfl)); intro gb365 hg w13 hbox hb; have n0_ := Gv.a0 (Gv.bb BK364.out hb); have n1_ := Gv.a0 (below_step Gv.bw hb); have n2_ := Gv.a0 (hbox); have n3_ := Gv.a0 ((Gv.ble hg Gv.bw : w.heap.size ≤ gb365)); have n4_ := Gv.a0 ((Gv.ble hg Gv.bw : w.heap.size ≤ gb365)); have n5_ := Gv.a0 ((Gv.nlt hg (Gv.kb BK364.out) : gb364 ≠ gb365)); have n6_ := Gv.a0 ((Gv.ngt hg (Gv.kb BK364.out) : gb365 ≠ gb364)); clear BK364; clear HB; have BK364 := n0_; have HB := n1_; have BK365 := n2_; have GW365 := n3_; have GE365 := n4_; have NB364_365 := n5_; have NB365_364 := n6_; clear n0_ n1_ n2_ n3_ n4_ n5_ n6_; clear hb hbox hg; have hnb14 := NB364_365.out; have hnc14 := NB365_364.out; obtain ⟨hcz15_0, hcz15_1, hcz15_2, hcz15_3, hcz15_4, hcz15_5, hcz15_6, hcz15_7, hcz15_8, hcz15_9, hcz15_10, hcz15_11, hcz15_12, hcz15_13, hcz15_14, hcz15_15, hcz15_16⟩ := Gv.c17 BK364.out; obtain ⟨hfz15_0, hfz15_1, hfz15_2, hfz15_3, hfz15_4, hfz15_5, hfz15_6, hfz15_7, hfz15_8, hfz15_9, hfz15_10, hfz15_11, hfz15_12, hfz15_13, hfz15_14, hfz15_15, hfz15_16⟩ := Gv.f17 BK364.out; obtain ⟨hcz16_0, hcz16_1, hcz16_2, hcz16_3, hcz16_4, hcz16_5, hcz16_6, hcz16_7, hcz16_8, hcz16_9, hcz16_10, hcz16_11, hcz16_12, hcz16_13, hcz16_14, hcz16_15, hcz16_16⟩ := Gv.c17 BK365.out; obtain ⟨hfz16_0, hfz16_1, hfz16_2, hfz16_3, hfz16_4, hfz16_5, hfz16_6, hfz16_7, hfz16_8, hfz16_9, hfz16_10, hfz16_11, hfz16_12, hfz16_13, hfz16_14, hfz16_15, hfz16_16⟩ := Gv.f17 BK365.out) | ((with_reducible refine gate_callee (f := 72) rfl ?_); refine goesL_ (some 14) rfl rfl Try.func72 (by kernel_rfl) rfl #[.agg #[.int .i64 a0_1, .int .i64 a0_2, .int .i64 a0_3, .int .i64 a0_4, .int .i64 a0_5, .int .i64 a0_6], .agg #[.int .i64 a1_1, .int .i64 a1_2, .int .i64 a1_3, .int .i64 a1_4, .int .i64 a1_5, .int .i64 a1_6]] rfl Gv.lm ?_; (with_reducible refine (laws_eqPrefix.calls a0_1 a0_2 a0_3 a0_4 a0_5 a0_6 a1_1 a1_2 a1_3 a1_4 a1_5 a1_6 true _ A4.out).mono ?_); rintro e w17 ⟨rfl, hb⟩; refine ⟨_, rfl, ?_⟩; have n0_ := Gv.a0 (Gv.bb BK364.out hb); have n1_ := Gv.a0 (Gv.bb BK365.out hb); have n2_ := Gv.a0 (below_step Gv.bw hb); clear BK364; clear BK365; clear HB; have BK364 := n0_; have BK365 := n1_; have HB := n2_; clear n0_ n1_ n2_; (try clear hb); (try clear hb2); (try clear hk); (try clear hi); obtain ⟨hcz18_0, hcz18_1, hcz18_2, hcz18_3, hcz18_4, hcz18_5, hcz18_6, hcz18_7, hcz18_8, hcz18_9, hcz18_10, hcz18_11, hcz18_12, hcz18_13, hcz18_14, hcz18_15, hcz18_16⟩ := Gv.c17 BK364.out; obtain ⟨hfz18_0, hfz18_1, hfz18_2, hfz18_3, hfz18_4, hfz18_5, hfz18_6, hfz18_7, hfz18_8, hfz18_9, hfz18_10, hfz18_11, hfz18_12, hfz18_13, hfz18_14, hfz18_15, hfz18_16⟩ := Gv.f17 BK364.out; obtain ⟨hcz19_0, hcz19_1, hcz19_2, hcz19_3, hcz19_4, hcz19_5, hcz19_6, hcz19_7, hcz19_8, hcz19_9, hcz19_10, hcz19_11, hcz19_12, hcz19_13, hcz19_14, hcz19_15, hcz19_16⟩ := Gv.c17 BK365.out; obtain ⟨hfz19_0, hfz19_1, hfz19_2, hfz19_3, hfz19_4, hfz19_5, hfz19_6, hfz19_7, hfz19_8, hfz19_9, hfz19_10, hfz19_11, hfz19_12, hfz19_13, hfz19_14, hfz19_15, hfz19_16⟩ := Gv.f17 BK365.out) | ((with_reducible refine gate_callee (f := 72) rfl ?_); refine goesL_ (some 20) rfl rfl Try.func72 (by kernel_rfl) rfl #[.agg #[.int .i64 a0_7, .int .i64 a0_8, .int .i64 a0_9, .int .i64 a0_10, .int .i64 a0_11, .int .i64 a0_12], .agg #[.int .i64 a1_7, .int .i64 a1_8, .int .i64 a1_9, .int .i64 a1_10, .int .i64 a1_11, .int .i64 a1_12]] rfl Gv.lm ?_; (with_reducible refine (laws_eqPrefix.calls a0_7 a0_8 a0_9 a0_10 a0_11 a0_12 a1_7 a1_8 a1_9 a1_10 a1_11 a1_12 true _ A6.out).mono ?_); rintro e w20 ⟨rfl, hb⟩; refine ⟨_, rfl, ?_⟩; have n0_ := Gv.a0 (Gv.bb BK364.out hb); have n1_ := Gv.a0 (Gv.bb BK365.out hb); have n2_ := Gv.a0 (below_step Gv.bw hb); clear BK364; clear BK365; clear HB; have BK364 := n0_; have BK365 := n1_; have HB := n2_; clear n0_ n1_ n2_; (try clear hb); (try clear hb2); (try clear hk); (try clear hi); obtain ⟨hcz21_0, hcz21_1, hcz21_2, hcz21_3, hcz21_4, hcz21_5, hcz21_6, hcz21_7, hcz21_8, hcz21_9, hcz21_10, hcz21_11, hcz21_12, hcz21_13, hcz21_14, hcz21_15, hcz21_16⟩ := Gv.c17 BK364.out; obtain ⟨hfz21_0, hfz21_1, hfz21_2, hfz21_3, hfz21_4, hfz21_5, hfz21_6, hfz21_7, hfz21_8, hfz21_9, hfz21_10, hfz21_11, hfz21_12, hfz21_13, hfz21_14, hfz21_15, hfz21_16⟩ := Gv.f17 BK364.out; obtain ⟨hcz22_0, hcz22_1, hcz22_2, hcz22_3, hcz22_4, hcz22_5, hcz22_6, hcz22_7, hcz22_8, hcz22_9, hcz22_10, hcz22_11, hcz22_12, hcz22_13, hcz22_14, hcz22_15, hcz22_16⟩ := Gv.c17 BK365.out; obtain ⟨hfz22_0, hfz22_1, hfz22_2, hfz22_3, hfz22_4, hfz22_5, hfz22_6, hfz22_7, hfz22_8, hfz22_9, hfz22_10, hfz22_11, hfz22_12, hfz22_13, hfz22_14, hfz22_15, hfz22_16⟩ := Gv.f17 BK365.out))
        go_ret
        exact ⟨by first | rfl | (simp [errW_none, errW_some] <;> rfl) | (simp [*, errW_none, errW_some] <;> rfl), by repeat (first | (with_reducible first | exact HB.out | apply below_alloc | apply pw_below_drewN | apply below_drew1 | refine below_set ?_ GE364.out | refine below_set ?_ GE365.out) | exact HB.out)⟩
       ·rw [if_neg c11] at H
        exact absurd H (by simp)
      ·rw [if_neg c10] at H
       exact absurd H (by simp)
     ·rw [if_neg c9] at H
      exact absurd H (by simp)
    ·rw [if_neg c8] at H
     exact absurd H (by simp)
   ·replace c7 := Bool.eq_false_iff.mpr c7
    subst c7
    have H1 : (none) = some r := by rw [if_neg (show ¬ (false = true) by decide)] at H; exact H
    clear H
    have H := H1
    clear H1
    exact absurd H (by simp)
  ·replace c5 := Bool.eq_false_iff.mpr c5
   subst c5
   have H1 : (none) = some r := by rw [if_neg (show ¬ (false = true) by decide)] at H; exact H
   clear H
   have H := H1
   clear H1
   exact absurd H (by simp)
 ·rw [if_neg c3] at H
  exact absurd H (by simp)

/-! ### laws_eqModuleS: function 20 -/
def laws_eqModuleS.l0 : Nat → List (S38) → List (S38) → Int → Option (Bool)
 | 0, _, _, _ => none
 | k + 1, x0, x1, x5 => if x5 < (x0.length : Int) then (if 0 ≤ x5 then (if x5 < (x1.length : Int) then ((laws_eqModule.f ((rd_T38 x0 x5).f0) ((rd_T38 x0 x5).f1.f0.f0) ((rd_T38 x0 x5).f1.f0.f1) ((rd_T38 x0 x5).f1.f0.f2) ((rd_T38 x0 x5).f1.f0.f3) ((rd_T38 x0 x5).f1.f0.f4) ((rd_T38 x0 x5).f1.f1) ((rd_T38 x0 x5).f2.f0.f0) ((rd_T38 x0 x5).f2.f0.f1) ((rd_T38 x0 x5).f2.f0.f2) ((rd_T38 x0 x5).f2.f0.f3) ((rd_T38 x0 x5).f2.f0.f4) ((rd_T38 x0 x5).f2.f1) ((rd_T38 x0 x5).f3) ((rd_T38 x0 x5).f4) ((rd_T38 x0 x5).f5) ((rd_T38 x0 x5).f6) ((rd_T38 x1 x5).f0) ((rd_T38 x1 x5).f1.f0.f0) ((rd_T38 x1 x5).f1.f0.f1) ((rd_T38 x1 x5).f1.f0.f2) ((rd_T38 x1 x5).f1.f0.f3) ((rd_T38 x1 x5).f1.f0.f4) ((rd_T38 x1 x5).f1.f1) ((rd_T38 x1 x5).f2.f0.f0) ((rd_T38 x1 x5).f2.f0.f1) ((rd_T38 x1 x5).f2.f0.f2) ((rd_T38 x1 x5).f2.f0.f3) ((rd_T38 x1 x5).f2.f0.f4) ((rd_T38 x1 x5).f2.f1) ((rd_T38 x1 x5).f3) ((rd_T38 x1 x5).f4) ((rd_T38 x1 x5).f5) ((rd_T38 x1 x5).f6)).bind fun t370 => (if t370 = true then (laws_eqModuleS.l0 k x0 x1 (wrap64 (x5 + 1))) else (none))) else (none)) else (none)) else (some true)
def laws_eqModuleS.f (k : Nat) (l0 : List (S38)) (l1 : List (S38)) : Option (Bool) := if (l0.length : Int) = (l1.length : Int) then (laws_eqModuleS.l0 k l0 l1 0) else (none)
theorem laws_eqModuleS.mono_l : ∀ k, (∀ y0 y1 y2, LeO (laws_eqModuleS.l0 k y0 y1 y2) (laws_eqModuleS.l0 (k + 1) y0 y1 y2))
 | 0 => fun _ _ _ r h => by simp [laws_eqModuleS.l0] at h
 | k + 1 => by
  have ih0 := laws_eqModuleS.mono_l k
  ·intro y0 y1 y2
   unfold laws_eqModuleS.l0
   repeat' first
   | (with_reducible exact ih0 _ _ _)
   | (with_reducible exact LeO.refl _)
   | (with_reducible exact LeO.none _)
   | (with_reducible refine LeO.ite ?_ ?_)
   | (with_reducible refine LeO.bind ?_ (fun _ => ?_))
   | exact ih0 _ _ _
   | exact LeO.none _
   | refine LeO.ite ?_ ?_
   | refine LeO.bind ?_ (fun _ => ?_)
theorem laws_eqModuleS.mono : ∀ a0 a1 k, LeO (laws_eqModuleS.f k a0 a1) (laws_eqModuleS.f (k + 1) a0 a1) := by
 intro a0 a1 k
 have ih0 := laws_eqModuleS.mono_l k
 unfold laws_eqModuleS.f
 repeat' first
   | (with_reducible exact ih0 _ _ _)
   | (with_reducible exact LeO.refl _)
   | (with_reducible exact LeO.none _)
   | (with_reducible refine LeO.ite ?_ ?_)
   | (with_reducible refine LeO.bind ?_ (fun _ => ?_))
   | exact ih0 _ _ _
   | exact LeO.none _
   | refine LeO.ite ?_ ?_
   | refine LeO.bind ?_ (fun _ => ?_)
def laws_eqModuleS.T6 : Bool × List (List Nat × List Nat) := (true, [([], []), ([], []), ([0, 1], [0, 1]), ([2], [2]), ([], []), ([], []), ([4, 5], [4, 5]), ([6], [6]), ([3, 7], [3, 7]), ([8], [8])])
def laws_eqModuleS.B6 : List Nat := [0, 0, 3, 7, 0, 0, 48, 112, 255, 511]
theorem laws_eqModuleS.tab6 : rtab .any (opsOf Try.f20 6) = laws_eqModuleS.T6 := by kernel_rfl
theorem laws_eqModuleS.bits6 : waitsOk laws_eqModuleS.T6.2 laws_eqModuleS.B6 = true := by kernel_rfl
set_option maxHeartbeats 8000000 in
set_option maxRecDepth 100000 in
theorem laws_eqModuleS.calls (k : Nat) (A0 : Option Addr) (c0 : Nat) (l0 : List (S38)) (A1 : Option Addr) (c1 : Nat) (l1 : List (S38)) (r : Bool) (w : World) (hr0 : Kd.C k38 w A0 l0.length l0) (hc0 : l0.length ≤ c0) (hr1 : Kd.C k38 w A1 l1.length l1) (hc1 : l1.length ≤ c1) (h : laws_eqModuleS.f k l0 l1 = some r) :
  Calls Try.prog 20 #[.slice A0 l0.length c0, .slice A1 l1.length c1] w fun e w' => e = .returned (.bool r) ∧ Below w.heap.size w w' := by
 have hu38 := Try.underlying38
 have HR0 := Gv.a0 hr0
 have HC0 := Gv.a0 hc0
 clear hr0 hc0
 have HR1 := Gv.a0 hr1
 have HC1 := Gv.a0 hc1
 clear hr1 hc1
 have HB := Gv.a0 (Below.refl w.heap.size w)
 have H : (if (l0.length : Int) = (l1.length : Int) then (laws_eqModuleS.l0 k l0 l1 0) else (none)) = some r := h
 clear h
 by_cases c3 : (l0.length : Int) = (l1.length : Int)
 ·rw [if_pos c3] at H
  have c3b0 : ((l0.length : Int) == (l1.length : Int)) = true := beq_iff_eq.mpr c3
  have c3b1 : ((l0.length : Int) != (l1.length : Int)) = false := bne_eq_false_iff_eq.mpr c3
  have c3b2 : (l0.length == l1.length) = true := by first | simpa using c3 | (simp at c3 ⊢; omega)
  clear c3
  have H' := Gv.a0 H
  clear H
  go_enter Try.func20, Try.ntmps20
  go_wp2
  go_loopg [5] k (fun kq v5 w' => ∃ (x5_1 : Int), v5 = .int .i64 x5_1 ∧ Aside0 (laws_eqModuleS.l0 kq l0 l1 x5_1 = some r) ∧ Aside0 (kq ≤ k) ∧ Aside0 (Below w.heap.size w w'))
  case atStart => exact ⟨(0), (by first | rfl | (simp; done) | (simp [Int.tdiv_eq_ediv_of_nonneg]; done) | (simp [*]; done)), H', ⟨Nat.le_refl _⟩, ⟨by repeat (first | (with_reducible first | exact HB.out | apply below_alloc | apply pw_below_drewN | apply below_drew1) | exact HB.out)⟩⟩
  case round =>
   clear H'
   try clear c1
   try clear c2
   try clear p2
   try clear c3
   try clear c3b0
   try clear c3b1
   try clear c3b2
   obtain ⟨x5_1, rfl, HA, HK1, HB⟩ := hrel
   cases gk with
   | zero => exact absurd HA.out (by simp [laws_eqModuleS.l0])
   | succ k1 =>
    have H := HA.out
    clear HA
    simp only [laws_eqModuleS.l0] at H
    by_cases c4 : x5_1 < (l0.length : Int)
    ·rw [if_pos c4] at H
     have c4b0 : decide (x5_1 < (l0.length : Int)) = true := decide_eq_true c4
     clear c4
     by_cases c5 : 0 ≤ x5_1
     ·rw [if_pos c5] at H
      have c5b0 : decide (0 ≤ x5_1) = true := decide_eq_true c5
      clear c5
      by_cases c6 : x5_1 < (l1.length : Int)
      ·rw [if_pos c6] at H
       have c6b0 : decide (x5_1 < (l1.length : Int)) = true := decide_eq_true c6
       clear c6
       replace H := Option.bind_eq_some_iff.mp H
       obtain ⟨t370, A70, H⟩ := H
       replace H : (if t370 = true then (laws_eqModuleS.l0 k1 l0 l1 (wrap64 (x5_1 + 1))) else (none)) = some r := H
       have A7 := Gv.a0 A70
       clear A70
       by_cases c8 : t370 = true
       ·subst c8
        have H1 : (laws_eqModuleS.l0 k1 l0 l1 (wrap64 (x5_1 + 1))) = some r := by rw [if_pos rfl] at H; exact H
        clear H
        have H := H1
        clear H1
        have H' := Gv.a0 H
        clear H
        try go_wp2
        have n0_ := Gv.a0 (below_drew1 HB.out)
        clear HB
        have HB := n0_
        clear n0_
        have p368 : 0 ≤ (x5_1 : Int) := of_decide_eq_true (by first | (with_reducible assumption) | assumption)
        have q368 : x5_1 < (l0.length : Int) := of_decide_eq_true (by first | (with_reducible assumption) | assumption)
        obtain ⟨ad368, e368, hx368_0, hx368_1, hx368_2, hx368_3, hx368_4, hx368_5, hx368_6, hx368_7, hx368_8, hx368_9, hx368_10, hx368_11, hx368_12, hx368_13, hx368_14, hx368_15, hx368_16⟩ := at_T38 HR0.out x5_1 p368 q368
        have hw368_16 := hx368_16
        have hw368_15 := hx368_15
        have hw368_14 := hx368_14
        have hw368_13 := hx368_13
        have hw368_12 := hx368_12
        have hw368_11 := hx368_11
        have hw368_10 := hx368_10
        have hw368_9 := hx368_9
        have hw368_8 := hx368_8
        have hw368_7 := hx368_7
        have hw368_6 := hx368_6
        have hw368_5 := hx368_5
        have hw368_4 := hx368_4
        have hw368_3 := hx368_3
        have hw368_2 := hx368_2
        have hw368_1 := hx368_1
        have hw368_0 := hx368_0
        cases e368
        replace hx368_0 := Gv.bx HB.out hx368_0
        replace hx368_1 := Gv.bx HB.out hx368_1
        replace hx368_2 := Gv.bx HB.out hx368_2
        replace hx368_3 := Gv.bx HB.out hx368_3
        replace hx368_4 := Gv.bx HB.out hx368_4
        replace hx368_5 := Gv.bx HB.out hx368_5
        replace hx368_6 := Gv.bx HB.out hx368_6
        replace hx368_7 := Gv.bx HB.out hx368_7
        replace hx368_8 := Gv.bx HB.out hx368_8
        replace hx368_9 := Gv.bx HB.out hx368_9
        replace hx368_10 := Gv.bx HB.out hx368_10
        replace hx368_11 := Gv.bx HB.out hx368_11
        replace hx368_12 := Gv.bx HB.out hx368_12
        replace hx368_13 := Gv.bx HB.out hx368_13
        replace hx368_14 := Gv.bx HB.out hx368_14
        replace hx368_15 := Gv.bx HB.out hx368_15
        replace hx368_16 := Gv.bx HB.out hx368_16
        replace p368 := eq_true p368
        replace q368 := eq_true q368
        have p369 : 0 ≤ (x5_1 : Int) := of_decide_eq_true (by first | (with_reducible assumption) | assumption)
        have q369 : x5_1 < (l1.length : Int) := of_decide_eq_true (by first | (with_reducible assumption) | assumption)
        obtain ⟨ad369, e369, hx369_0, hx369_1, hx369_2, hx369_3, hx369_4, hx369_5, hx369_6, hx369_7, hx369_8, hx369_9, hx369_10, hx369_11, hx369_12, hx369_13, hx369_14, hx369_15, hx369_16⟩ := at_T38 HR1.out x5_1 p369 q369
        have hw369_16 := hx369_16
        have hw369_15 := hx369_15
        have hw369_14 := hx369_14
        have hw369_13 := hx369_13
        have hw369_12 := hx369_12
        have hw369_11 := hx369_11
        have hw369_10 := hx369_10
        have hw369_9 := hx369_9
        have hw369_8 := hx369_8
        have hw369_7 := hx369_7
        have hw369_6 := hx369_6
        have hw369_5 := hx369_5
        have hw369_4 := hx369_4
        have hw369_3 := hx369_3
        have hw369_2 := hx369_2
        have hw369_1 := hx369_1
        have hw369_0 := hx369_0
        cases e369
        replace hx369_0 := Gv.bx HB.out hx369_0
        replace hx369_1 := Gv.bx HB.out hx369_1
        replace hx369_2 := Gv.bx HB.out hx369_2
        replace hx369_3 := Gv.bx HB.out hx369_3
        replace hx369_4 := Gv.bx HB.out hx369_4
        replace hx369_5 := Gv.bx HB.out hx369_5
        replace hx369_6 := Gv.bx HB.out hx369_6
        replace hx369_7 := Gv.bx HB.out hx369_7
        replace hx369_8 := Gv.bx HB.out hx369_8
        replace hx369_9 := Gv.bx HB.out hx369_9
        replace hx369_10 := Gv.bx HB.out hx369_10
        replace hx369_11 := Gv.bx HB.out hx369_11
        replace hx369_12 := Gv.bx HB.out hx369_12
        replace hx369_13 := Gv.bx HB.out hx369_13
        replace hx369_14 := Gv.bx HB.out hx369_14
        replace hx369_15 := Gv.bx HB.out hx369_15
        replace hx369_16 := Gv.bx HB.out hx369_16
        replace p369 := eq_true p369
        replace q369 := eq_true q369
        refine start_ (n := 10) (S := fun w' => w'.cell? (ad368.add ((x5_1).toNat * 17)) = some (.int .i64 ((rd_T38 l0 x5_1).f0)) ∧ w'.cell? ⟨(ad368.add ((x5_1).toNat * 17)).block, (ad368.add ((x5_1).toNat * 17)).off + 1, none⟩ = some (.int .i64 ((rd_T38 l0 x5_1).f1.f0.f0)) ∧ w'.cell? ⟨(ad368.add ((x5_1).toNat * 17)).block, (ad368.add ((x5_1).toNat * 17)).off + 2, none⟩ = some (.int .i64 ((rd_T38 l0 x5_1).f1.f0.f1)) ∧ w'.cell? ⟨(ad368.add ((x5_1).toNat * 17)).block, (ad368.add ((x5_1).toNat * 17)).off + 3, none⟩ = some (.int .i64 ((rd_T38 l0 x5_1).f1.f0.f2)) ∧ w'.cell? ⟨(ad368.add ((x5_1).toNat * 17)).block, (ad368.add ((x5_1).toNat * 17)).off + 4, none⟩ = some (.int .i64 ((rd_T38 l0 x5_1).f1.f0.f3)) ∧ w'.cell? ⟨(ad368.add ((x5_1).toNat * 17)).block, (ad368.add ((x5_1).toNat * 17)).off + 5, none⟩ = some (.int .i64 ((rd_T38 l0 x5_1).f1.f0.f4)) ∧ w'.cell? ⟨(ad368.add ((x5_1).toNat * 17)).block, (ad368.add ((x5_1).toNat * 17)).off + 6, none⟩ = some (.int .i64 ((rd_T38 l0 x5_1).f1.f1)) ∧ w'.cell? ⟨(ad368.add ((x5_1).toNat * 17)).block, (ad368.add ((x5_1).toNat * 17)).off + 7, none⟩ = some (.int .i64 ((rd_T38 l0 x5_1).f2.f0.f0)) ∧ w'.cell? ⟨(ad368.add ((x5_1).toNat * 17)).block, (ad368.add ((x5_1).toNat * 17)).off + 8, none⟩ = some (.int .i64 ((rd_T38 l0 x5_1).f2.f0.f1)) ∧ w'.cell? ⟨(ad368.add ((x5_1).toNat * 17)).block, (ad368.add ((x5_1).toNat * 17)).off + 9, none⟩ = some (.int .i64 ((rd_T38 l0 x5_1).f2.f0.f2)) ∧ w'.cell? ⟨(ad368.add ((x5_1).toNat * 17)).block, (ad368.add ((x5_1).toNat * 17)).off + 10, none⟩ = some (.int .i64 ((rd_T38 l0 x5_1).f2.f0.f3)) ∧ w'.cell? ⟨(ad368.add ((x5_1).toNat * 17)).block, (ad368.add ((x5_1).toNat * 17)).off + 11, none⟩ = some (.int .i64 ((rd_T38 l0 x5_1).f2.f0.f4)) ∧ w'.cell? ⟨(ad368.add ((x5_1).toNat * 17)).block, (ad368.add ((x5_1).toNat * 17)).off + 12, none⟩ = some (.int .i64 ((rd_T38 l0 x5_1).f2.f1)) ∧ w'.cell? ⟨(ad368.add ((x5_1).toNat * 17)).block, (ad368.add ((x5_1).toNat * 17)).off + 13, none⟩ = some (.int .i64 ((rd_T38 l0 x5_1).f3)) ∧ w'.cell? ⟨(ad368.add ((x5_1).toNat * 17)).block, (ad368.add ((x5_1).toNat * 17)).off + 14, none⟩ = some (.int .i64 ((rd_T38 l0 x5_1).f4)) ∧ w'.cell? ⟨(ad368.add ((x5_1).toNat * 17)).block, (ad368.add ((x5_1).toNat * 17)).off + 15, none⟩ = some (.int .i64 ((rd_T38 l0 x5_1).f5)) ∧ w'.cell? ⟨(ad368.add ((x5_1).toNat * 17)).block, (ad368.add ((x5_1).toNat * 17)).off + 16, none⟩ = some (.int .i64 ((rd_T38 l0 x5_1).f6)) ∧ w'.cell? (ad369.add ((x5_1).toNat * 17)) = some (.int .i64 ((rd_T38 l1 x5_1).f0)) ∧ w'.cell? ⟨(ad369.add ((x5_1).toNat * 17)).block, (ad369.add ((x5_1).toNat * 17)).off + 1, none⟩ = some (.int .i64 ((rd_T38 l1 x5_1).f1.f0.f0)) ∧ w'.cell? ⟨(ad369.add ((x5_1).toNat * 17)).block, (ad369.add ((x5_1).toNat * 17)).off + 2, none⟩ = some (.int .i64 ((rd_T38 l1 x5_1).f1.f0.f1)) ∧ w'.cell? ⟨(ad369.add ((x5_1).toNat * 17)).block, (ad369.add ((x5_1).toNat * 17)).off + 3, none⟩ = some (.int .i64 ((rd_T38 l1 x5_1).f1.f0.f2)) ∧ w'.cell? ⟨(ad369.add ((x5_1).toNat * 17)).block, (ad369.add ((x5_1).toNat * 17)).off + 4, none⟩ = some (.int .i64 ((rd_T38 l1 x5_1).f1.f0.f3)) ∧ w'.cell? ⟨(ad369.add ((x5_1).toNat * 17)).block, (ad369.add ((x5_1).toNat * 17)).off + 5, none⟩ = some (.int .i64 ((rd_T38 l1 x5_1).f1.f0.f4)) ∧ w'.cell? ⟨(ad369.add ((x5_1).toNat * 17)).block, (ad369.add ((x5_1).toNat * 17)).off + 6, none⟩ = some (.int .i64 ((rd_T38 l1 x5_1).f1.f1)) ∧ w'.cell? ⟨(ad369.add ((x5_1).toNat * 17)).block, (ad369.add ((x5_1).toNat * 17)).off + 7, none⟩ = some (.int .i64 ((rd_T38 l1 x5_1).f2.f0.f0)) ∧ w'.cell? ⟨(ad369.add ((x5_1).toNat * 17)).block, (ad369.add ((x5_1).toNat * 17)).off + 8, none⟩ = some (.int .i64 ((rd_T38 l1 x5_1).f2.f0.f1)) ∧ w'.cell? ⟨(ad369.add ((x5_1).toNat * 17)).block, (ad369.add ((x5_1).toNat * 17)).off + 9, none⟩ = some (.int .i64 ((rd_T38 l1 x5_1).f2.f0.f2)) ∧ w'.cell? ⟨(ad369.add ((x5_1).toNat * 17)).block, (ad369.add ((x5_1).toNat * 17)).off + 10, none⟩ = some (.int .i64 ((rd_T38 l1 x5_1).f2.f0.f3)) ∧ w'.cell? ⟨(ad369.add ((x5_1).toNat * 17)).block, (ad369.add ((x5_1).toNat * 17)).off + 11, none⟩ = some (.int .i64 ((rd_T38 l1 x5_1).f2.f0.f4)) ∧ w'.cell? ⟨(ad369.add ((x5_1).toNat * 17)).block, (ad369.add ((x5_1).toNat * 17)).off + 12, none⟩ = some (.int .i64 ((rd_T38 l1 x5_1).f2.f1)) ∧ w'.cell? ⟨(ad369.add ((x5_1).toNat * 17)).block, (ad369.add ((x5_1).toNat * 17)).off + 13, none⟩ = some (.int .i64 ((rd_T38 l1 x5_1).f3)) ∧ w'.cell? ⟨(ad369.add ((x5_1).toNat * 17)).block, (ad369.add ((x5_1).toNat * 17)).off + 14, none⟩ = some (.int .i64 ((rd_T38 l1 x5_1).f4)) ∧ w'.cell? ⟨(ad369.add ((x5_1).toNat * 17)).block, (ad369.add ((x5_1).toNat * 17)).off + 15, none⟩ = some (.int .i64 ((rd_T38 l1 x5_1).f5)) ∧ w'.cell? ⟨(ad369.add ((x5_1).toNat * 17)).block, (ad369.add ((x5_1).toNat * 17)).off + 16, none⟩ = some (.int .i64 ((rd_T38 l1 x5_1).f6))) (ds := []) #[false, false, false, false, false, false, false, false, false, false] (by kernel_rfl) rfl rfl ⟨(Gv.bx HB.out hw368_0), (Gv.bx HB.out hw368_1), (Gv.bx HB.out hw368_2), (Gv.bx HB.out hw368_3), (Gv.bx HB.out hw368_4), (Gv.bx HB.out hw368_5), (Gv.bx HB.out hw368_6), (Gv.bx HB.out hw368_7), (Gv.bx HB.out hw368_8), (Gv.bx HB.out hw368_9), (Gv.bx HB.out hw368_10), (Gv.bx HB.out hw368_11), (Gv.bx HB.out hw368_12), (Gv.bx HB.out hw368_13), (Gv.bx HB.out hw368_14), (Gv.bx HB.out hw368_15), (Gv.bx HB.out hw368_16), (Gv.bx HB.out hw369_0), (Gv.bx HB.out hw369_1), (Gv.bx HB.out hw369_2), (Gv.bx HB.out hw369_3), (Gv.bx HB.out hw369_4), (Gv.bx HB.out hw369_5), (Gv.bx HB.out hw369_6), (Gv.bx HB.out hw369_7), (Gv.bx HB.out hw369_8), (Gv.bx HB.out hw369_9), (Gv.bx HB.out hw369_10), (Gv.bx HB.out hw369_11), (Gv.bx HB.out hw369_12), (Gv.bx HB.out hw369_13), (Gv.bx HB.out hw369_14), (Gv.bx HB.out hw369_15), (Gv.bx HB.out hw369_16)⟩ (fun hHeld => ?_); refine with_tabW laws_eqModuleS.tab6 laws_eqModuleS.bits6 (fun HT_ HW_ => ?_)
        generalize wr.drew = w9 at HB hx368_0 hx368_1 hx368_10 hx368_11 hx368_12 hx368_13 hx368_14 hx368_15 hx368_16 hx368_2 hx368_3 hx368_4 hx368_5 hx368_6 hx368_7 hx368_8 hx368_9 hx369_0 hx369_1 hx369_10 hx369_11 hx369_12 hx369_13 hx369_14 hx369_15 hx369_16 hx369_2 hx369_3 hx369_4 hx369_5 hx369_6 hx369_7 hx369_8 hx369_9 hHeld ⊢
        refine pure_ (i := 0) (N := some 17) (v := ?_) (a' := ?_) #[true, false, false, false, false, false, false, false, false, false] rfl rfl (any_of HT_.out (by kernel_rfl)) (fun _ _ _ h => h) (Or.inl ⟨by rfl, ?_⟩) ?_ ?_
        rotate_left
        ·intro w'
         go_simp
         with_reducible rfl
        rotate_left
        ·simp only [Act.put, List.setIfInBounds_toArray, List.set_cons_zero, List.set_cons_succ, i64_w, i32_w]
         rfl
        refine pure_ (i := 1) (N := some 18) (v := ?_) (a' := ?_) #[true, true, false, false, false, false, false, false, false, false] rfl rfl (any_of HT_.out (by kernel_rfl)) (fun _ _ _ h => h) (Or.inl ⟨by rfl, ?_⟩) ?_ ?_
        rotate_left
        ·intro w'
         go_simp
         with_reducible rfl
        rotate_left
        ·simp only [Act.put, List.setIfInBounds_toArray, List.set_cons_zero, List.set_cons_succ, i64_w, i32_w]
         rfl
        refine pure_ (i := 2) (N := some 19) (v := ?_) (a' := ?_) #[true, true, true, false, false, false, false, false, false, false] rfl rfl (any_of HT_.out (by kernel_rfl)) (fun _ _ _ h => h) (Or.inl ⟨by rfl, ?_⟩) ?_ ?_
        rotate_left
        ·intro w'
         go_simp
         with_reducible rfl
        rotate_left
        ·simp only [Act.put, List.setIfInBounds_toArray, List.set_cons_zero, List.set_cons_succ, i64_w, i32_w]
         rfl
        refine pure_ (i := 4) (N := some 21) (v := ?_) (a' := ?_) #[true, true, true, false, true, false, false, false, false, false] rfl rfl (any_of HT_.out (by kernel_rfl)) (fun _ _ _ h => h) (Or.inl ⟨by rfl, ?_⟩) ?_ ?_
        rotate_left
        ·intro w'
         go_simp
         with_reducible rfl
        rotate_left
        ·simp only [Act.put, List.setIfInBounds_toArray, List.set_cons_zero, List.set_cons_succ, i64_w, i32_w]
         rfl
        refine pure_ (i := 5) (N := some 22) (v := ?_) (a' := ?_) #[true, true, true, false, true, true, false, false, false, false] rfl rfl (any_of HT_.out (by kernel_rfl)) (fun _ _ _ h => h) (Or.inl ⟨by rfl, ?_⟩) ?_ ?_
        rotate_left
        ·intro w'
         go_simp
         with_reducible rfl
        rotate_left
        ·simp only [Act.put, List.setIfInBounds_toArray, List.set_cons_zero, List.set_cons_succ, i64_w, i32_w]
         rfl
        refine pure_ (i := 6) (N := some 23) (v := ?_) (a' := ?_) #[true, true, true, false, true, true, true, false, false, false] rfl rfl (any_of HT_.out (by kernel_rfl)) (fun _ _ _ h => h) (Or.inl ⟨by rfl, ?_⟩) ?_ ?_
        rotate_left
        ·intro w'
         go_simp
         with_reducible rfl
        rotate_left
        ·simp only [Act.put, List.setIfInBounds_toArray, List.set_cons_zero, List.set_cons_succ, i64_w, i32_w]
         rfl
        refine take_ (i := 3) (N := some 20) (v := ?_) (a' := ?_) #[true, true, true, true, true, true, true, false, false, false] rfl rfl (take_ofW HT_.out HW_.out (by kernel_rfl)) (fun _ _ _ h => h) (Or.inl ⟨by rfl, ?_⟩) hHeld ?_ ?_
        rotate_left
        ·rintro w' ⟨s0, s1, s2, s3, s4, s5, s6, s7, s8, s9, s10, s11, s12, s13, s14, s15, s16, s17, s18, s19, s20, s21, s22, s23, s24, s25, s26, s27, s28, s29, s30, s31, s32, s33⟩
         go_simp
         with_reducible rfl
        rotate_left
        ·simp only [Act.put, List.setIfInBounds_toArray, List.set_cons_zero, List.set_cons_succ, i64_w, i32_w]
         rfl
        refine take_ (i := 7) (N := some 24) (v := ?_) (a' := ?_) #[true, true, true, true, true, true, true, true, false, false] rfl rfl (take_ofW HT_.out HW_.out (by kernel_rfl)) (fun _ _ _ h => h) (Or.inl ⟨by rfl, ?_⟩) hHeld ?_ ?_
        rotate_left
        ·rintro w' ⟨s0, s1, s2, s3, s4, s5, s6, s7, s8, s9, s10, s11, s12, s13, s14, s15, s16, s17, s18, s19, s20, s21, s22, s23, s24, s25, s26, s27, s28, s29, s30, s31, s32, s33⟩
         go_simp
         with_reducible rfl
        rotate_left
        ·simp only [Act.put, List.setIfInBounds_toArray, List.set_cons_zero, List.set_cons_succ, i64_w, i32_w]
         rfl
        refine one_ (i := 8) (N := some 25) #[true, true, true, true, true, true, true, true, true, false] rfl rfl (one_of HT_.out (by kernel_rfl)) (by decide) (fun K hK => ?_)
        refine goes_ Try.func48 (by kernel_rfl) rfl #[.agg #[.int .i64 ((rd_T38 l0 x5_1).f0), .int .i64 ((rd_T38 l0 x5_1).f1.f0.f0), .int .i64 ((rd_T38 l0 x5_1).f1.f0.f1), .int .i64 ((rd_T38 l0 x5_1).f1.f0.f2), .int .i64 ((rd_T38 l0 x5_1).f1.f0.f3), .int .i64 ((rd_T38 l0 x5_1).f1.f0.f4), .int .i64 ((rd_T38 l0 x5_1).f1.f1), .int .i64 ((rd_T38 l0 x5_1).f2.f0.f0), .int .i64 ((rd_T38 l0 x5_1).f2.f0.f1), .int .i64 ((rd_T38 l0 x5_1).f2.f0.f2), .int .i64 ((rd_T38 l0 x5_1).f2.f0.f3), .int .i64 ((rd_T38 l0 x5_1).f2.f0.f4), .int .i64 ((rd_T38 l0 x5_1).f2.f1), .int .i64 ((rd_T38 l0 x5_1).f3), .int .i64 ((rd_T38 l0 x5_1).f4), .int .i64 ((rd_T38 l0 x5_1).f5), .int .i64 ((rd_T38 l0 x5_1).f6)], .agg #[.int .i64 ((rd_T38 l1 x5_1).f0), .int .i64 ((rd_T38 l1 x5_1).f1.f0.f0), .int .i64 ((rd_T38 l1 x5_1).f1.f0.f1), .int .i64 ((rd_T38 l1 x5_1).f1.f0.f2), .int .i64 ((rd_T38 l1 x5_1).f1.f0.f3), .int .i64 ((rd_T38 l1 x5_1).f1.f0.f4), .int .i64 ((rd_T38 l1 x5_1).f1.f1), .int .i64 ((rd_T38 l1 x5_1).f2.f0.f0), .int .i64 ((rd_T38 l1 x5_1).f2.f0.f1), .int .i64 ((rd_T38 l1 x5_1).f2.f0.f2), .int .i64 ((rd_T38 l1 x5_1).f2.f0.f3), .int .i64 ((rd_T38 l1 x5_1).f2.f0.f4), .int .i64 ((rd_T38 l1 x5_1).f2.f1), .int .i64 ((rd_T38 l1 x5_1).f3), .int .i64 ((rd_T38 l1 x5_1).f4), .int .i64 ((rd_T38 l1 x5_1).f5), .int .i64 ((rd_T38 l1 x5_1).f6)]] (by rfl) rfl rfl Gv.lm ?_
        with_reducible refine (laws_eqModule.calls ((rd_T38 l0 x5_1).f0) ((rd_T38 l0 x5_1).f1.f0.f0) ((rd_T38 l0 x5_1).f1.f0.f1) ((rd_T38 l0 x5_1).f1.f0.f2) ((rd_T38 l0 x5_1).f1.f0.f3) ((rd_T38 l0 x5_1).f1.f0.f4) ((rd_T38 l0 x5_1).f1.f1) ((rd_T38 l0 x5_1).f2.f0.f0) ((rd_T38 l0 x5_1).f2.f0.f1) ((rd_T38 l0 x5_1).f2.f0.f2) ((rd_T38 l0 x5_1).f2.f0.f3) ((rd_T38 l0 x5_1).f2.f0.f4) ((rd_T38 l0 x5_1).f2.f1) ((rd_T38 l0 x5_1).f3) ((rd_T38 l0 x5_1).f4) ((rd_T38 l0 x5_1).f5) ((rd_T38 l0 x5_1).f6) ((rd_T38 l1 x5_1).f0) ((rd_T38 l1 x5_1).f1.f0.f0) ((rd_T38 l1 x5_1).f1.f0.f1) ((rd_T38 l1 x5_1).f1.f0.f2) ((rd_T38 l1 x5_1).f1.f0.f3) ((rd_T38 l1 x5_1).f1.f0.f4) ((rd_T38 l1 x5_1).f1.f1) ((rd_T38 l1 x5_1).f2.f0.f0) ((rd_T38 l1 x5_1).f2.f0.f1) ((rd_T38 l1 x5_1).f2.f0.f2) ((rd_T38 l1 x5_1).f2.f0.f3) ((rd_T38 l1 x5_1).f2.f0.f4) ((rd_T38 l1 x5_1).f2.f1) ((rd_T38 l1 x5_1).f3) ((rd_T38 l1 x5_1).f4) ((rd_T38 l1 x5_1).f5) ((rd_T38 l1 x5_1).f6) true _ A7.out).mono ?_
        rintro e w10 ⟨rfl, hb⟩
        refine ⟨_, rfl, ?_⟩
        have n0_ := Gv.a0 (below_step Gv.bw hb)
        clear HB
        have HB := n0_
        clear n0_
        (try clear hb)
        (try clear hb2)
        (try clear hk)
        (try clear hi)
        refine hK.out _ _ ⟨(Gv.bx HB.out hw368_0), (Gv.bx HB.out hw368_1), (Gv.bx HB.out hw368_2), (Gv.bx HB.out hw368_3), (Gv.bx HB.out hw368_4), (Gv.bx HB.out hw368_5), (Gv.bx HB.out hw368_6), (Gv.bx HB.out hw368_7), (Gv.bx HB.out hw368_8), (Gv.bx HB.out hw368_9), (Gv.bx HB.out hw368_10), (Gv.bx HB.out hw368_11), (Gv.bx HB.out hw368_12), (Gv.bx HB.out hw368_13), (Gv.bx HB.out hw368_14), (Gv.bx HB.out hw368_15), (Gv.bx HB.out hw368_16), (Gv.bx HB.out hw369_0), (Gv.bx HB.out hw369_1), (Gv.bx HB.out hw369_2), (Gv.bx HB.out hw369_3), (Gv.bx HB.out hw369_4), (Gv.bx HB.out hw369_5), (Gv.bx HB.out hw369_6), (Gv.bx HB.out hw369_7), (Gv.bx HB.out hw369_8), (Gv.bx HB.out hw369_9), (Gv.bx HB.out hw369_10), (Gv.bx HB.out hw369_11), (Gv.bx HB.out hw369_12), (Gv.bx HB.out hw369_13), (Gv.bx HB.out hw369_14), (Gv.bx HB.out hw369_15), (Gv.bx HB.out hw369_16)⟩ (fun hHeld => ?_)
        clear hK K
        refine norm_ (a' := ?_) ?_ ?_
        rotate_left
        ·show Act.put _ (some 25) _ = _
         simp only [Act.put, List.setIfInBounds_toArray, List.set_cons_zero, List.set_cons_succ, i64_w, i32_w]
         rfl
        refine pure_ (i := 9) (N := some 26) (v := ?_) (a' := ?_) #[true, true, true, true, true, true, true, true, true, true] rfl rfl (any_of HT_.out (by kernel_rfl)) (fun _ _ _ h => h) (Or.inl ⟨by rfl, ?_⟩) ?_ ?_
        rotate_left
        ·intro w'
         go_simp
         with_reducible rfl
        rotate_left
        ·simp only [Act.put, List.setIfInBounds_toArray, List.set_cons_zero, List.set_cons_succ, i64_w, i32_w]
         rfl
        refine done_ (done_of HT_.out (by kernel_rfl)) ?_
        try go_wp2
        go_roundg k1
        case measure => have := HK1.out; omega
        case rel => exact ⟨(wrap64 (x5_1 + 1)), (by first | rfl | (simp; done) | (simp [Int.tdiv_eq_ediv_of_nonneg]; done) | (simp [*]; done)), H', ⟨by have := HK1.out; omega⟩, ⟨by repeat (first | (with_reducible first | exact HB.out | apply below_alloc | apply pw_below_drewN | apply below_drew1) | exact HB.out)⟩⟩
       ·replace c8 := Bool.eq_false_iff.mpr c8
        subst c8
        have H1 : (none) = some r := by rw [if_neg (show ¬ (false = true) by decide)] at H; exact H
        clear H
        have H := H1
        clear H1
        exact absurd H (by simp)
      ·rw [if_neg c6] at H
       exact absurd H (by simp)
     ·rw [if_neg c5] at H
      exact absurd H (by simp)
    ·rw [if_neg c4] at H
     have c4b0 : decide (x5_1 < (l0.length : Int)) = false := decide_eq_false c4
     clear c4
     obtain rfl := Option.some.inj H
     go_wp2
     go_ret
     exact ⟨by first | rfl | (simp [errW_none, errW_some] <;> rfl) | (simp [*, errW_none, errW_some] <;> rfl), by repeat (first | (with_reducible first | exact HB.out | apply below_alloc | apply pw_below_drewN | apply below_drew1) | exact HB.out)⟩
 ·rw [if_neg c3] at H
  exact absurd H (by simp)

/-! ### laws_FnExactChainOk: function 5 -/
def laws_FnExactChainOk.f (k : Nat) (l0 : List (S35)) : Option (Bool) := (laws_szModuleS.f l0 1048576).bind fun t371 => (if t371 < 0 then (some true) else ((laws_toModuleS.f k l0).bind fun t372 => ((spec_ChainOk.f k t372).bind fun t375 => ((laws_toModuleS.f k l0).bind fun t376 => ((impl_ChainOk.f k t376).bind fun t379 => (if (t379 != t375) = true then (none) else ((laws_toModuleS.f k l0).bind fun t380 => ((laws_eqModuleS.f k t376 t380).bind fun t383 => (if t383 = true then (some true) else (none))))))))))
theorem laws_FnExactChainOk.mono : ∀ a0 k, LeO (laws_FnExactChainOk.f k a0) (laws_FnExactChainOk.f (k + 1) a0) := by
 intro a0 k
 unfold laws_FnExactChainOk.f
 repeat' first
   | (with_reducible exact impl_ChainOk.mono _ _)
   | (with_reducible exact laws_eqModuleS.mono _ _ _)
   | (with_reducible exact laws_toModuleS.mono _ _)
   | (with_reducible exact spec_ChainOk.mono _ _)
   | (with_reducible exact LeO.refl _)
   | (with_reducible exact LeO.none _)
   | (with_reducible refine LeO.ite ?_ ?_)
   | (with_reducible refine LeO.bind ?_ (fun _ => ?_))
   | exact impl_ChainOk.mono _ _
   | exact laws_eqModuleS.mono _ _ _
   | exact laws_toModuleS.mono _ _
   | exact spec_ChainOk.mono _ _
   | exact LeO.none _
   | refine LeO.ite ?_ ?_
   | refine LeO.bind ?_ (fun _ => ?_)
set_option maxHeartbeats 8000000 in
set_option maxRecDepth 100000 in
theorem laws_FnExactChainOk.calls (k : Nat) (A0 : Option Addr) (c0 : Nat) (l0 : List (S35)) (r : Bool) (w : World) (hr0 : Kd.C k35 w A0 l0.length l0) (hc0 : l0.length ≤ c0) (h : laws_FnExactChainOk.f k l0 = some r) :
  Calls Try.prog 5 #[.slice A0 l0.length c0] w fun e w' => e = .returned (.bool r) ∧ Below w.heap.size w w' := by
 have HR0 := Gv.a0 hr0
 have HC0 := Gv.a0 hc0
 clear hr0 hc0
 have HB := Gv.a0 (Below.refl w.heap.size w)
 have H : ((laws_szModuleS.f l0 1048576).bind fun t371 => (if t371 < 0 then (some true) else ((laws_toModuleS.f k l0).bind fun t372 => ((spec_ChainOk.f k t372).bind fun t375 => ((laws_toModuleS.f k l0).bind fun t376 => ((impl_ChainOk.f k t376).bind fun t379 => (if (t379 != t375) = true then (none) else ((laws_toModuleS.f k l0).bind fun t380 => ((laws_eqModuleS.f k t376 t380).bind fun t383 => (if t383 = true then (some true) else (none))))))))))) = some r := h
 clear h
 replace H := Option.bind_eq_some_iff.mp H
 obtain ⟨t371, A20, H⟩ := H
 replace H : (if t371 < 0 then (some true) else ((laws_toModuleS.f k l0).bind fun t372 => ((spec_ChainOk.f k t372).bind fun t375 => ((laws_toModuleS.f k l0).bind fun t376 => ((impl_ChainOk.f k t376).bind fun t379 => (if (t379 != t375) = true then (none) else ((laws_toModuleS.f k l0).bind fun t380 => ((laws_eqModuleS.f k t376 t380).bind fun t383 => (if t383 = true then (some true) else (none)))))))))) = some r := H
 have A2 := Gv.a0 A20
 clear A20
 by_cases c3 : t371 < 0
 ·rw [if_pos c3] at H
  have c3b0 : decide (t371 < 0) = true := decide_eq_true c3
  clear c3
  obtain rfl := Option.some.inj H
  go_enter Try.func5, Try.ntmps5
  go_wp2_with (first | ((with_reducible refine gate_callee (f := 16) rfl ?_); refine goesL_ (some 9) rfl rfl Try.func16 (by kernel_rfl) rfl #[.slice A0 l0.length c0, .int .i64 1048576] rfl Gv.lm ?_; (with_reducible refine (laws_szModuleS.calls _ _ l0 1048576 t371 _ ?side1 ?side2 A2.out).mono ?_); (case side1 => repeat (first | exact HR0.out | (with_reducible refine Kd.C_alloc ?_ _) | (with_reducible refine Kd.C_drewN ?_ _) | (with_reducible refine Kd.C_drew ?_))); (case side2 => exact HC0.out); rintro e w' ⟨rfl, ⟨nd, rfl⟩⟩; refine ⟨_, rfl, ?_⟩))
  go_ret
  exact ⟨by first | rfl | (simp [errW_none, errW_some] <;> rfl) | (simp [*, errW_none, errW_some] <;> rfl), by repeat (first | (with_reducible first | exact HB.out | apply below_alloc | apply pw_below_drewN | apply below_drew1) | exact HB.out)⟩
 ·rw [if_neg c3] at H
  have c3b0 : decide (t371 < 0) = false := decide_eq_false c3
  clear c3
  replace H := Option.bind_eq_some_iff.mp H
  obtain ⟨t372, A40, H⟩ := H
  replace H : ((spec_ChainOk.f k t372).bind fun t375 => ((laws_toModuleS.f k l0).bind fun t376 => ((impl_ChainOk.f k t376).bind fun t379 => (if (t379 != t375) = true then (none) else ((laws_toModuleS.f k l0).bind fun t380 => ((laws_eqModuleS.f k t376 t380).bind fun t383 => (if t383 = true then (some true) else (none)))))))) = some r := H
  have A4 := Gv.a0 A40
  clear A40
  replace H := Option.bind_eq_some_iff.mp H
  obtain ⟨t375, A50, H⟩ := H
  replace H : ((laws_toModuleS.f k l0).bind fun t376 => ((impl_ChainOk.f k t376).bind fun t379 => (if (t379 != t375) = true then (none) else ((laws_toModuleS.f k l0).bind fun t380 => ((laws_eqModuleS.f k t376 t380).bind fun t383 => (if t383 = true then (some true) else (none))))))) = some r := H
  have A5 := Gv.a0 A50
  clear A50
  replace H := Option.bind_eq_some_iff.mp H
  obtain ⟨t376, A60, H⟩ := H
  replace H : ((impl_ChainOk.f k t376).bind fun t379 => (if (t379 != t375) = true then (none) else ((laws_toModuleS.f k l0).bind fun t380 => ((laws_eqModuleS.f k t376 t380).bind fun t383 => (if t383 = true then (some true) else (none)))))) = some r := H
  have A6 := Gv.a0 A60
  clear A60
  replace H := Option.bind_eq_some_iff.mp H
  obtain ⟨t379, A70, H⟩ := H
  replace H : (if (t379 != t375) = true then (none) else ((laws_toModuleS.f k l0).bind fun t380 => ((laws_eqModuleS.f k t376 t380).bind fun t383 => (if t383 = true then (some true) else (none))))) = some r := H
  have A7 := Gv.a0 A70
  clear A70
  by_cases c8 : (t379 != t375) = true
  ·rw [if_pos c8] at H
   exact absurd H (by simp)
  ·rw [if_neg c8] at H
   have c8b0 : (t379 != t375) = false := by simpa using c8
   (try (have c8b1 : decide (t379 = t375) = true := by simpa using c8))
   (try (have c8b2 : (t379 == t375) = true := by simpa using c8))
   clear c8
   replace H := Option.bind_eq_some_iff.mp H
   obtain ⟨t380, A90, H⟩ := H
   replace H : ((laws_eqModuleS.f k t376 t380).bind fun t383 => (if t383 = true then (some true) else (none))) = some r := H
   have A9 := Gv.a0 A90
   clear A90
   replace H := Option.bind_eq_some_iff.mp H
   obtain ⟨t383, A100, H⟩ := H
   replace H : (if t383 = true then (some true) else (none)) = some r := H
   have A10 := Gv.a0 A100
   clear A100
   by_cases c11 : t383 = true
   ·subst c11
    have H1 : (some true) = some r := by rw [if_pos rfl] at H; exact H
    clear H
    have H := H1
    clear H1
    obtain rfl := Option.some.inj H
    go_enter Try.func5, Try.ntmps5
    go_wp2_with (first | ((with_reducible refine gate_callee (f := 16) rfl ?_); refine goesL_ (some 9) rfl rfl Try.func16 (by kernel_rfl) rfl #[.slice A0 l0.length c0, .int .i64 1048576] rfl Gv.lm ?_; (with_reducible refine (laws_szModuleS.calls _ _ l0 1048576 t371 _ ?side1 ?side2 A2.out).mono ?_); (case side1 => repeat (first | exact HR0.out | (with_reducible refine Kd.C_alloc ?_ _) | (with_reducible refine Kd.C_drewN ?_ _) | (with_reducible refine Kd.C_drew ?_))); (case side2 => exact HC0.out); rintro e w' ⟨rfl, ⟨nd, rfl⟩⟩; refine ⟨_, rfl, ?_⟩) | ((with_reducible refine gate_callee (f := 18) rfl ?_); refine goesL_ (some 13) rfl rfl Try.func18 (by kernel_rfl) rfl #[.slice A0 l0.length c0] rfl Gv.lm ?_; (with_reducible refine (laws_toModuleS.calls k _ _ l0 t372 _ ?side1 ?side2 A4.out).mono ?_); (case side1 => repeat (first | exact HR0.out | (with_reducible refine Kd.C_alloc ?_ _) | (with_reducible refine Kd.C_drewN ?_ _) | (with_reducible refine Kd.C_drew ?_))); (case side2 => exact HC0.out); rintro e w12 ⟨v373, rfl, ho0, hb⟩; refine ⟨_, rfl, ?_⟩; have n0_ := Gv.a0 (Kd.R_lower ho0 (below_size Gv.bw)); have n1_ := Gv.a0 (below_step Gv.bw hb); clear HB; have HO374 := n0_; have HB := n1_; clear n0_ n1_; (try clear hb); (try clear hb2); (try clear hk); (try clear hi); (try clear ho0); obtain ⟨Ao13, co13, eo13⟩ := Kd.R_slice HO374.out; subst eo13) | ((with_reducible refine gate_callee (f := 17) rfl ?_); refine goesL_ (some 14) rfl rfl Try.func17 (by kernel_rfl) rfl #[.slice Ao13 t372.length co13] rfl Gv.lm ?_; (with_reducible refine (spec_ChainOk.calls k _ _ t372 t375 _ ?side1 ?side2 A5.out).mono ?_); (case side1 => repeat (first | exact (Kd.R_reads' HO374.out).2.2 | (with_reducible refine Kd.C_alloc ?_ _) | (with_reducible refine Kd.C_drewN ?_ _) | (with_reducible refine Kd.C_drew ?_))); (case side2 => exact (Kd.R_reads' HO374.out).2.1); rintro e w14 ⟨rfl, hb⟩; refine ⟨_, rfl, ?_⟩; have n0_ := Gv.a0 (Kd.R_below (Gv.kr HO374.out) hb); have n1_ := Gv.a0 (below_step Gv.bw hb); clear HO374; clear HB; have HO374 := n0_; have HB := n1_; clear n0_ n1_; (try clear hb); (try clear hb2); (try clear hk); (try clear hi)) | ((with_reducible refine gate_callee (f := 18) rfl ?_); refine goesL_ (some 16) rfl rfl Try.func18 (by kernel_rfl) rfl #[.slice A0 l0.length c0] rfl Gv.lm ?_; (with_reducible refine (laws_toModuleS.calls k _ _ l0 t376 _ ?side1 ?side2 A6.out).mono ?_); (case side1 => repeat (first | exact (Kd.C_below HR0.out HB.out) | (with_reducible refine Kd.C_alloc ?_ _) | (with_reducible refine Kd.C_drewN ?_ _) | (with_reducible refine Kd.C_drew ?_))); (case side2 => exact HC0.out); rintro e w15 ⟨v377, rfl, ho0, hb⟩; refine ⟨_, rfl, ?_⟩; have n0_ := Gv.a0 (Kd.R_elder' (Gv.kr HO374.out) (Kd.R_base ho0) hb); have n1_ := Gv.a0 (Kd.R_lower (Kd.R_new' ho0 (Kd.R_lt (Gv.kr HO374.out))) (below_size Gv.bw)); have n2_ := Gv.a0 (below_step Gv.bw hb); clear HO374; clear HB; have HO374 := n0_; have HO378 := n1_; have HB := n2_; clear n0_ n1_ n2_; (try clear hb); (try clear hb2); (try clear hk); (try clear hi); (try clear ho0); obtain ⟨Ao16, co16, eo16⟩ := Kd.R_slice HO378.out; subst eo16) | ((with_reducible refine gate_callee (f := 19) rfl ?_); refine goesL_ (some 18) rfl rfl Try.func19 (by kernel_rfl) rfl #[.slice Ao16 t376.length co16] rfl Gv.lm ?_; (with_reducible refine (impl_ChainOk.calls k _ _ t376 t379 _ ?side1 ?side2 A7.out).mono ?_); (case side1 => repeat (first | exact (Kd.R_reads' HO378.out).2.2 | (with_reducible refine Kd.C_alloc ?_ _) | (with_reducible refine Kd.C_drewN ?_ _) | (with_reducible refine Kd.C_drew ?_))); (case side2 => exact (Kd.R_reads' HO378.out).2.1); rintro e w17 ⟨rfl, hb⟩; refine ⟨_, rfl, ?_⟩; have n0_ := Gv.a0 (Kd.R_below (Gv.kr HO374.out) hb); have n1_ := Gv.a0 (Kd.R_below (Gv.kr HO378.out) hb); have n2_ := Gv.a0 (below_step Gv.bw hb); clear HO374; clear HO378; clear HB; have HO374 := n0_; have HO378 := n1_; have HB := n2_; clear n0_ n1_ n2_; (try clear hb); (try clear hb2); (try clear hk); (try clear hi)) | ((with_reducible refine gate_callee (f := 18) rfl ?_); refine goesL_ (some 24) rfl rfl Try.func18 (by kernel_rfl) rfl #[.slice A0 l0.length c0] rfl Gv.lm ?_; (with_reducible refine (laws_toModuleS.calls k _ _ l0 t380 _ ?side1 ?side2 A9.out).mono ?_); (case side1 => repeat (first | exact (Kd.C_below HR0.out HB.out) | (with_reducible refine Kd.C_alloc ?_ _) | (with_reducible refine Kd.C_drewN ?_ _) | (with_reducible refine Kd.C_drew ?_))); (case side2 => exact HC0.out); rintro e w18 ⟨v381, rfl, ho0, hb⟩; refine ⟨_, rfl, ?_⟩; have n0_ := Gv.a0 (Kd.R_elder' (Gv.kr HO374.out) (Kd.R_base ho0) hb); have n1_ := Gv.a0 (Kd.R_elder' (Gv.kr HO378.out) (Kd.R_base ho0) hb); have n2_ := Gv.a0 (Kd.R_lower (Kd.R_new' (Kd.R_new' ho0 (Kd.R_lt (Gv.kr HO374.out))) (Kd.R_lt (Gv.kr HO378.out))) (below_size Gv.bw)); have n3_ := Gv.a0 (below_step Gv.bw hb); clear HO374; clear HO378; clear HB; have HO374 := n0_; have HO378 := n1_; have HO382 := n2_; have HB := n3_; clear n0_ n1_ n2_ n3_; (try clear hb); (try clear hb2); (try clear hk); (try clear hi); (try clear ho0); obtain ⟨Ao19, co19, eo19⟩ := Kd.R_slice HO382.out; subst eo19) | ((with_reducible refine gate_callee (f := 20) rfl ?_); refine goesL_ (some 25) rfl rfl Try.func20 (by kernel_rfl) rfl #[.slice Ao16 t376.length co16, .slice Ao19 t380.length co19] rfl Gv.lm ?_; (with_reducible refine (laws_eqModuleS.calls k _ _ t376 _ _ t380 true _ ?side1 ?side2 ?side3 ?side4 A10.out).mono ?_); (case side1 => repeat (first | exact (Kd.R_reads' HO378.out).2.2 | (with_reducible refine Kd.C_alloc ?_ _) | (with_reducible refine Kd.C_drewN ?_ _) | (with_reducible refine Kd.C_drew ?_))); (case side2 => exact (Kd.R_reads' HO378.out).2.1); (case side3 => repeat (first | exact (Kd.R_reads' HO382.out).2.2 | (with_reducible refine Kd.C_alloc ?_ _) | (with_reducible refine Kd.C_drewN ?_ _) | (with_reducible refine Kd.C_drew ?_))); (case side4 => exact (Kd.R_reads' HO382.out).2.1); rintro e w20 ⟨rfl, hb⟩; refine ⟨_, rfl, ?_⟩; have n0_ := Gv.a0 (Kd.R_below (Gv.kr HO374.out) hb); have n1_ := Gv.a0 (Kd.R_below (Gv.kr HO378.out) hb); have n2_ := Gv.a0 (Kd.R_below (Gv.kr HO382.out) hb); have n3_ := Gv.a0 (below_step Gv.bw hb); clear HO374; clear HO378; clear HO382; clear HB; have HO374 := n0_; have HO378 := n1_; have HO382 := n2_; have HB := n3_; clear n0_ n1_ n2_ n3_; (try clear hb); (try clear hb2); (try clear hk); (try clear hi)))
    go_ret
    exact ⟨by first | rfl | (simp [errW_none, errW_some] <;> rfl) | (simp [*, errW_none, errW_some] <;> rfl), by repeat (first | (with_reducible first | exact HB.out | apply below_alloc | apply pw_below_drewN | apply below_drew1) | exact HB.out)⟩
   ·replace c11 := Bool.eq_false_iff.mpr c11
    subst c11
    have H1 : (none) = some r := by rw [if_neg (show ¬ (false = true) by decide)] at H; exact H
    clear H
    have H := H1
    clear H1
    exact absurd H (by simp)

end Go.Proofs.Ytbpkmdghloapjaa.PCh
