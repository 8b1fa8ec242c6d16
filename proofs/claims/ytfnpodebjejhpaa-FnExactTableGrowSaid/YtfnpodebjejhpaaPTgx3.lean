/- Plain Lean functions of a law's Go functions, their contracts, by a program of this session (wip/pr.py over the kit's print). -/
import Derived.Test.YtfnpodebjejhpaaPTgx0
import Derived.Test.YtfnpodebjejhpaaPTgx1
namespace Go.Proofs.Ytfnpodebjejhpaa.PTg
open Go.RowKit Go.Proofs.YtfnpodebjejhpaaW.PrintWords Go.Proofs.YtfnpodebjejhpaaW.PrintLast Go.Proofs.YtfnpodebjejhpaaW.PrintMore
attribute [local go_sem] max2_int min2_int max_two min_two max_three min_three max_four min_four   -- for this text's walks alone
set_option linter.unusedVariables false
set_option linter.unusedSimpArgs false

attribute [local go_sem high] eqA33
/-! ### laws_eqAddr: function 88 -/
def laws_eqAddr.f (a0_0 : Int) (a0_1 : Int) (a0_2 : Int) (a0_3 : Int) (a0_4 : Int) (a1_0 : Int) (a1_1 : Int) (a1_2 : Int) (a1_3 : Int) (a1_4 : Int) : Option (Bool) := if a0_0 = a1_0 then (if a0_1 = a1_1 then (if a0_2 = a1_2 then (if a0_3 = a1_3 then (if a0_4 = a1_4 then (some true) else (none)) else (none)) else (none)) else (none)) else (none)
set_option maxHeartbeats 8000000 in
set_option maxRecDepth 100000 in
theorem laws_eqAddr.calls (a0_0 : Int) (a0_1 : Int) (a0_2 : Int) (a0_3 : Int) (a0_4 : Int) (a1_0 : Int) (a1_1 : Int) (a1_2 : Int) (a1_3 : Int) (a1_4 : Int) (r : Bool) (w : World) (h : laws_eqAddr.f a0_0 a0_1 a0_2 a0_3 a0_4 a1_0 a1_1 a1_2 a1_3 a1_4 = some r) :
  Calls Try.prog 88 #[.agg #[.int .i64 a0_0, .int .i64 a0_1, .int .i64 a0_2, .int .i64 a0_3, .int .i64 a0_4], .agg #[.int .i64 a1_0, .int .i64 a1_1, .int .i64 a1_2, .int .i64 a1_3, .int .i64 a1_4]] w fun e w' => e = .returned (.bool r) ∧ Below w.heap.size w w' := by
 have hu29 := Try.underlying29
 have HB := Gv.a0 (Below.refl w.heap.size w)
 have H : (if a0_0 = a1_0 then (if a0_1 = a1_1 then (if a0_2 = a1_2 then (if a0_3 = a1_3 then (if a0_4 = a1_4 then (some true) else (none)) else (none)) else (none)) else (none)) else (none)) = some r := h
 clear h
 by_cases c3 : a0_0 = a1_0
 ·rw [if_pos c3] at H
  have c3b0 : (a0_0 == a1_0) = true := beq_iff_eq.mpr c3
  have c3b1 : (a0_0 != a1_0) = false := bne_eq_false_iff_eq.mpr c3
  clear c3
  by_cases c4 : a0_1 = a1_1
  ·rw [if_pos c4] at H
   have c4b0 : (a0_1 == a1_1) = true := beq_iff_eq.mpr c4
   have c4b1 : (a0_1 != a1_1) = false := bne_eq_false_iff_eq.mpr c4
   clear c4
   by_cases c5 : a0_2 = a1_2
   ·rw [if_pos c5] at H
    have c5b0 : (a0_2 == a1_2) = true := beq_iff_eq.mpr c5
    have c5b1 : (a0_2 != a1_2) = false := bne_eq_false_iff_eq.mpr c5
    clear c5
    by_cases c6 : a0_3 = a1_3
    ·rw [if_pos c6] at H
     have c6b0 : (a0_3 == a1_3) = true := beq_iff_eq.mpr c6
     have c6b1 : (a0_3 != a1_3) = false := bne_eq_false_iff_eq.mpr c6
     clear c6
     by_cases c7 : a0_4 = a1_4
     ·rw [if_pos c7] at H
      have c7b0 : (a0_4 == a1_4) = true := beq_iff_eq.mpr c7
      have c7b1 : (a0_4 != a1_4) = false := bne_eq_false_iff_eq.mpr c7
      clear c7
      obtain rfl := Option.some.inj H
      go_enter Try.func88, Try.ntmps88
      go_wp2_with (first | ((with_reducible refine gate_dst (N := 2) rfl ?_); refine box_event ?hg (N := 2) ?hd (cs := #[.int .i64 a0_0, .int .i64 a0_1, .int .i64 a0_2, .int .i64 a0_3, .int .i64 a0_4]) (t := 29) ?hr ?_; (case hd => rfl); (case hg => rfl); (case hr => first | (go_simp; done) | (go_simp; rfl)); intro gb101 hg w8 hbox hb; have BK101 := Gv.a0 (hbox); have GW101 := Gv.a0 ((Gv.ble hg Gv.bw : w.heap.size ≤ gb101)); have GE101 := Gv.a0 ((Gv.ble hg Gv.bw : w.heap.size ≤ gb101)); replace HB := Gv.a0 (below_step Gv.bw hb); clear hb hbox hg) | ((with_reducible refine gate_dst (N := 3) rfl ?_); refine box_event ?hg (N := 3) ?hd (cs := #[.int .i64 a1_0, .int .i64 a1_1, .int .i64 a1_2, .int .i64 a1_3, .int .i64 a1_4]) (t := 29) ?hr ?_; (case hd => rfl); (case hg => rfl); (case hr => first | (go_simp; done) | (go_simp; rfl)); intro gb102 hg w9 hbox hb; have BK102 := Gv.a0 (hbox); have GW102 := Gv.a0 ((Gv.ble hg Gv.bw : w.heap.size ≤ gb102)); have GE102 := Gv.a0 ((Gv.ble hg Gv.bw : w.heap.size ≤ gb102)); replace HB := Gv.a0 (below_step Gv.bw hb); have NB101_102 := Gv.a0 ((Gv.nlt hg (Gv.kb BK101.out) : gb101 ≠ gb102)); have NB102_101 := Gv.a0 ((Gv.ngt hg (Gv.kb BK101.out) : gb102 ≠ gb101)); replace BK101 := Gv.a0 (Gv.bb BK101.out hb); clear hb hbox hg; have hnb10 := NB101_102.out; have hnc10 := NB102_101.out; obtain ⟨hcz11_0, hcz11_1, hcz11_2, hcz11_3, hcz11_4⟩ := Gv.c5 BK101.out; obtain ⟨hfz11_0, hfz11_1, hfz11_2, hfz11_3, hfz11_4⟩ := Gv.f5 BK101.out; obtain ⟨hcz12_0, hcz12_1, hcz12_2, hcz12_3, hcz12_4⟩ := Gv.c5 BK102.out; obtain ⟨hfz12_0, hfz12_1, hfz12_2, hfz12_3, hfz12_4⟩ := Gv.f5 BK102.out))
      go_ret
      exact ⟨Gv.rt, Gv.bw⟩
     ·rw [if_neg c7] at H
      exact absurd H (by simp)
    ·rw [if_neg c6] at H
     exact absurd H (by simp)
   ·rw [if_neg c5] at H
    exact absurd H (by simp)
  ·rw [if_neg c4] at H
   exact absurd H (by simp)
 ·rw [if_neg c3] at H
  exact absurd H (by simp)

/-! ### laws_eqKey: function 78 -/
def laws_eqKey.f (a0_0 : Int) (a0_1 : Int) (a0_2 : Int) (a0_3 : Int) (a0_4 : Int) (a0_5 : Int) (a0_6 : Int) (a0_7 : Int) (a0_8 : Int) (a0_9 : Int) (a0_10 : Int) (a0_11 : Int) (a0_12 : Int) (a1_0 : Int) (a1_1 : Int) (a1_2 : Int) (a1_3 : Int) (a1_4 : Int) (a1_5 : Int) (a1_6 : Int) (a1_7 : Int) (a1_8 : Int) (a1_9 : Int) (a1_10 : Int) (a1_11 : Int) (a1_12 : Int) : Option (Bool) := (laws_eqAddr.f a0_0 a0_1 a0_2 a0_3 a0_4 a1_0 a1_1 a1_2 a1_3 a1_4).bind fun t105 => (if t105 = true then ((laws_eqAddr.f a0_5 a0_6 a0_7 a0_8 a0_9 a1_5 a1_6 a1_7 a1_8 a1_9).bind fun t106 => (if t106 = true then (if a0_10 = a1_10 then (if a0_11 = a1_11 then (if a0_12 = a1_12 then (some true) else (none)) else (none)) else (none)) else (none))) else (none))
set_option maxHeartbeats 8000000 in
set_option maxRecDepth 100000 in
theorem laws_eqKey.calls (a0_0 : Int) (a0_1 : Int) (a0_2 : Int) (a0_3 : Int) (a0_4 : Int) (a0_5 : Int) (a0_6 : Int) (a0_7 : Int) (a0_8 : Int) (a0_9 : Int) (a0_10 : Int) (a0_11 : Int) (a0_12 : Int) (a1_0 : Int) (a1_1 : Int) (a1_2 : Int) (a1_3 : Int) (a1_4 : Int) (a1_5 : Int) (a1_6 : Int) (a1_7 : Int) (a1_8 : Int) (a1_9 : Int) (a1_10 : Int) (a1_11 : Int) (a1_12 : Int) (r : Bool) (w : World) (h : laws_eqKey.f a0_0 a0_1 a0_2 a0_3 a0_4 a0_5 a0_6 a0_7 a0_8 a0_9 a0_10 a0_11 a0_12 a1_0 a1_1 a1_2 a1_3 a1_4 a1_5 a1_6 a1_7 a1_8 a1_9 a1_10 a1_11 a1_12 = some r) :
  Calls Try.prog 78 #[.agg #[.int .i64 a0_0, .int .i64 a0_1, .int .i64 a0_2, .int .i64 a0_3, .int .i64 a0_4, .int .i64 a0_5, .int .i64 a0_6, .int .i64 a0_7, .int .i64 a0_8, .int .i64 a0_9, .int .i64 a0_10, .int .i64 a0_11, .int .i64 a0_12], .agg #[.int .i64 a1_0, .int .i64 a1_1, .int .i64 a1_2, .int .i64 a1_3, .int .i64 a1_4, .int .i64 a1_5, .int .i64 a1_6, .int .i64 a1_7, .int .i64 a1_8, .int .i64 a1_9, .int .i64 a1_10, .int .i64 a1_11, .int .i64 a1_12]] w fun e w' => e = .returned (.bool r) ∧ Below w.heap.size w w' := by
 have hu31 := Try.underlying31
 have hu29 := Try.underlying29
 have HB := Gv.a0 (Below.refl w.heap.size w)
 have H : ((laws_eqAddr.f a0_0 a0_1 a0_2 a0_3 a0_4 a1_0 a1_1 a1_2 a1_3 a1_4).bind fun t105 => (if t105 = true then ((laws_eqAddr.f a0_5 a0_6 a0_7 a0_8 a0_9 a1_5 a1_6 a1_7 a1_8 a1_9).bind fun t106 => (if t106 = true then (if a0_10 = a1_10 then (if a0_11 = a1_11 then (if a0_12 = a1_12 then (some true) else (none)) else (none)) else (none)) else (none))) else (none))) = some r := h
 clear h
 replace H := Option.bind_eq_some_iff.mp H
 obtain ⟨t105, A30, H⟩ := H
 replace H : (if t105 = true then ((laws_eqAddr.f a0_5 a0_6 a0_7 a0_8 a0_9 a1_5 a1_6 a1_7 a1_8 a1_9).bind fun t106 => (if t106 = true then (if a0_10 = a1_10 then (if a0_11 = a1_11 then (if a0_12 = a1_12 then (some true) else (none)) else (none)) else (none)) else (none))) else (none)) = some r := H
 have A3 := Gv.a0 A30
 clear A30
 by_cases c4 : t105 = true
 ·subst c4
  have H1 : ((laws_eqAddr.f a0_5 a0_6 a0_7 a0_8 a0_9 a1_5 a1_6 a1_7 a1_8 a1_9).bind fun t106 => (if t106 = true then (if a0_10 = a1_10 then (if a0_11 = a1_11 then (if a0_12 = a1_12 then (some true) else (none)) else (none)) else (none)) else (none))) = some r := by rw [if_pos rfl] at H; exact H
  clear H
  have H := H1
  clear H1
  replace H := Option.bind_eq_some_iff.mp H
  obtain ⟨t106, A50, H⟩ := H
  replace H : (if t106 = true then (if a0_10 = a1_10 then (if a0_11 = a1_11 then (if a0_12 = a1_12 then (some true) else (none)) else (none)) else (none)) else (none)) = some r := H
  have A5 := Gv.a0 A50
  clear A50
  by_cases c6 : t106 = true
  ·subst c6
   have H1 : (if a0_10 = a1_10 then (if a0_11 = a1_11 then (if a0_12 = a1_12 then (some true) else (none)) else (none)) else (none)) = some r := by rw [if_pos rfl] at H; exact H
   clear H
   have H := H1
   clear H1
   by_cases c7 : a0_10 = a1_10
   ·rw [if_pos c7] at H
    have c7b0 : (a0_10 == a1_10) = true := beq_iff_eq.mpr c7
    have c7b1 : (a0_10 != a1_10) = false := bne_eq_false_iff_eq.mpr c7
    clear c7
    by_cases c8 : a0_11 = a1_11
    ·rw [if_pos c8] at H
     have c8b0 : (a0_11 == a1_11) = true := beq_iff_eq.mpr c8
     have c8b1 : (a0_11 != a1_11) = false := bne_eq_false_iff_eq.mpr c8
     clear c8
     by_cases c9 : a0_12 = a1_12
     ·rw [if_pos c9] at H
      have c9b0 : (a0_12 == a1_12) = true := beq_iff_eq.mpr c9
      have c9b1 : (a0_12 != a1_12) = false := bne_eq_false_iff_eq.mpr c9
      clear c9
      obtain rfl := Option.some.inj H
      go_enter Try.func78, Try.ntmps78
      go_wp2_with (first | ((with_reducible refine gate_dst (N := 2) rfl ?_); refine box_event ?hg (N := 2) ?hd (cs := #[.int .i64 a0_0, .int .i64 a0_1, .int .i64 a0_2, .int .i64 a0_3, .int .i64 a0_4, .int .i64 a0_5, .int .i64 a0_6, .int .i64 a0_7, .int .i64 a0_8, .int .i64 a0_9, .int .i64 a0_10, .int .i64 a0_11, .int .i64 a0_12]) (t := 31) ?hr ?_; (case hd => rfl); (case hg => rfl); (case hr => first | (go_simp; done) | (go_simp; rfl)); intro gb103 hg w10 hbox hb; have BK103 := Gv.a0 (hbox); have GW103 := Gv.a0 ((Gv.ble hg Gv.bw : w.heap.size ≤ gb103)); have GE103 := Gv.a0 ((Gv.ble hg Gv.bw : w.heap.size ≤ gb103)); replace HB := Gv.a0 (below_step Gv.bw hb); clear hb hbox hg) | ((with_reducible refine gate_dst (N := 3) rfl ?_); refine box_event ?hg (N := 3) ?hd (cs := #[.int .i64 a1_0, .int .i64 a1_1, .int .i64 a1_2, .int .i64 a1_3, .int .i64 a1_4, .int .i64 a1_5, .int .i64 a1_6, .int .i64 a1_7, .int .i64 a1_8, .int .i64 a1_9, .int .i64 a1_10, .int .i64 a1_11, .int .i64 a1_12]) (t := 31) ?hr ?_; (case hd => rfl); (case hg => rfl); (case hr => first | (go_simp; done) | (go_simp; rfl)); intro gb104 hg w11 hbox hb; have BK104 := Gv.a0 (hbox); have GW104 := Gv.a0 ((Gv.ble hg Gv.bw : w.heap.size ≤ gb104)); have GE104 := Gv.a0 ((Gv.ble hg Gv.bw : w.heap.size ≤ gb104)); replace HB := Gv.a0 (below_step Gv.bw hb); have NB103_104 := Gv.a0 ((Gv.nlt hg (Gv.kb BK103.out) : gb103 ≠ gb104)); have NB104_103 := Gv.a0 ((Gv.ngt hg (Gv.kb BK103.out) : gb104 ≠ gb103)); replace BK103 := Gv.a0 (Gv.bb BK103.out hb); clear hb hbox hg; have hnb12 := NB103_104.out; have hnc12 := NB104_103.out; obtain ⟨hcz13_0, hcz13_1, hcz13_2, hcz13_3, hcz13_4, hcz13_5, hcz13_6, hcz13_7, hcz13_8, hcz13_9, hcz13_10, hcz13_11, hcz13_12⟩ := Gv.c13 BK103.out; obtain ⟨hfz13_0, hfz13_1, hfz13_2, hfz13_3, hfz13_4, hfz13_5, hfz13_6, hfz13_7, hfz13_8, hfz13_9, hfz13_10, hfz13_11, hfz13_12⟩ := Gv.f13 BK103.out; obtain ⟨hcz14_0, hcz14_1, hcz14_2, hcz14_3, hcz14_4, hcz14_5, hcz14_6, hcz14_7, hcz14_8, hcz14_9, hcz14_10, hcz14_11, hcz14_12⟩ := Gv.c13 BK104.out; obtain ⟨hfz14_0, hfz14_1, hfz14_2, hfz14_3, hfz14_4, hfz14_5, hfz14_6, hfz14_7, hfz14_8, hfz14_9, hfz14_10, hfz14_11, hfz14_12⟩ := Gv.f13 BK104.out) | ((with_reducible refine gate_callee (f := 88) rfl ?_); refine goesL_ (some 9) rfl rfl Try.func88 (by kernel_rfl) rfl #[.agg #[.int .i64 a0_0, .int .i64 a0_1, .int .i64 a0_2, .int .i64 a0_3, .int .i64 a0_4], .agg #[.int .i64 a1_0, .int .i64 a1_1, .int .i64 a1_2, .int .i64 a1_3, .int .i64 a1_4]] rfl Gv.lm ?_; (with_reducible refine (laws_eqAddr.calls a0_0 a0_1 a0_2 a0_3 a0_4 a1_0 a1_1 a1_2 a1_3 a1_4 true _ A3.out).mono ?_); rintro e w15 ⟨rfl, hb⟩; refine ⟨_, rfl, ?_⟩; replace BK103 := Gv.a0 (Gv.bb BK103.out hb); replace BK104 := Gv.a0 (Gv.bb BK104.out hb); replace HB := Gv.a0 (below_step Gv.bw hb); clear hb; obtain ⟨hcz16_0, hcz16_1, hcz16_2, hcz16_3, hcz16_4, hcz16_5, hcz16_6, hcz16_7, hcz16_8, hcz16_9, hcz16_10, hcz16_11, hcz16_12⟩ := Gv.c13 BK103.out; obtain ⟨hfz16_0, hfz16_1, hfz16_2, hfz16_3, hfz16_4, hfz16_5, hfz16_6, hfz16_7, hfz16_8, hfz16_9, hfz16_10, hfz16_11, hfz16_12⟩ := Gv.f13 BK103.out; obtain ⟨hcz17_0, hcz17_1, hcz17_2, hcz17_3, hcz17_4, hcz17_5, hcz17_6, hcz17_7, hcz17_8, hcz17_9, hcz17_10, hcz17_11, hcz17_12⟩ := Gv.c13 BK104.out; obtain ⟨hfz17_0, hfz17_1, hfz17_2, hfz17_3, hfz17_4, hfz17_5, hfz17_6, hfz17_7, hfz17_8, hfz17_9, hfz17_10, hfz17_11, hfz17_12⟩ := Gv.f13 BK104.out) | ((with_reducible refine gate_callee (f := 88) rfl ?_); refine goesL_ (some 15) rfl rfl Try.func88 (by kernel_rfl) rfl #[.agg #[.int .i64 a0_5, .int .i64 a0_6, .int .i64 a0_7, .int .i64 a0_8, .int .i64 a0_9], .agg #[.int .i64 a1_5, .int .i64 a1_6, .int .i64 a1_7, .int .i64 a1_8, .int .i64 a1_9]] rfl Gv.lm ?_; (with_reducible refine (laws_eqAddr.calls a0_5 a0_6 a0_7 a0_8 a0_9 a1_5 a1_6 a1_7 a1_8 a1_9 true _ A5.out).mono ?_); rintro e w18 ⟨rfl, hb⟩; refine ⟨_, rfl, ?_⟩; replace BK103 := Gv.a0 (Gv.bb BK103.out hb); replace BK104 := Gv.a0 (Gv.bb BK104.out hb); replace HB := Gv.a0 (below_step Gv.bw hb); clear hb; obtain ⟨hcz19_0, hcz19_1, hcz19_2, hcz19_3, hcz19_4, hcz19_5, hcz19_6, hcz19_7, hcz19_8, hcz19_9, hcz19_10, hcz19_11, hcz19_12⟩ := Gv.c13 BK103.out; obtain ⟨hfz19_0, hfz19_1, hfz19_2, hfz19_3, hfz19_4, hfz19_5, hfz19_6, hfz19_7, hfz19_8, hfz19_9, hfz19_10, hfz19_11, hfz19_12⟩ := Gv.f13 BK103.out; obtain ⟨hcz20_0, hcz20_1, hcz20_2, hcz20_3, hcz20_4, hcz20_5, hcz20_6, hcz20_7, hcz20_8, hcz20_9, hcz20_10, hcz20_11, hcz20_12⟩ := Gv.c13 BK104.out; obtain ⟨hfz20_0, hfz20_1, hfz20_2, hfz20_3, hfz20_4, hfz20_5, hfz20_6, hfz20_7, hfz20_8, hfz20_9, hfz20_10, hfz20_11, hfz20_12⟩ := Gv.f13 BK104.out))
      go_ret
      exact ⟨Gv.rt, Gv.bw⟩
     ·rw [if_neg c9] at H
      exact absurd H (by simp)
    ·rw [if_neg c8] at H
     exact absurd H (by simp)
   ·rw [if_neg c7] at H
    exact absurd H (by simp)
  ·replace c6 := Bool.eq_false_iff.mpr c6
   subst c6
   have H1 : (none) = some r := by rw [if_neg (show ¬ (false = true) by decide)] at H; exact H
   clear H
   have H := H1
   clear H1
   exact absurd H (by simp)
 ·replace c4 := Bool.eq_false_iff.mpr c4
  subst c4
  have H1 : (none) = some r := by rw [if_neg (show ¬ (false = true) by decide)] at H; exact H
  clear H
  have H := H1
  clear H1
  exact absurd H (by simp)

/-! ### laws_eqFlowKey: function 61 -/
def laws_eqFlowKey.f (a0_0 : Int) (a0_1 : Int) (a0_2 : Int) (a0_3 : Int) (a0_4 : Int) (a0_5 : Int) (a0_6 : Int) (a0_7 : Int) (a0_8 : Int) (a0_9 : Int) (a0_10 : Int) (a0_11 : Int) (a0_12 : Int) (a0_13 : Int) (a1_0 : Int) (a1_1 : Int) (a1_2 : Int) (a1_3 : Int) (a1_4 : Int) (a1_5 : Int) (a1_6 : Int) (a1_7 : Int) (a1_8 : Int) (a1_9 : Int) (a1_10 : Int) (a1_11 : Int) (a1_12 : Int) (a1_13 : Int) : Option (Bool) := if a0_0 = a1_0 then ((laws_eqKey.f a0_1 a0_2 a0_3 a0_4 a0_5 a0_6 a0_7 a0_8 a0_9 a0_10 a0_11 a0_12 a0_13 a1_1 a1_2 a1_3 a1_4 a1_5 a1_6 a1_7 a1_8 a1_9 a1_10 a1_11 a1_12 a1_13).bind fun t109 => (if t109 = true then (some true) else (none))) else (none)
set_option maxHeartbeats 8000000 in
set_option maxRecDepth 100000 in
theorem laws_eqFlowKey.calls (a0_0 : Int) (a0_1 : Int) (a0_2 : Int) (a0_3 : Int) (a0_4 : Int) (a0_5 : Int) (a0_6 : Int) (a0_7 : Int) (a0_8 : Int) (a0_9 : Int) (a0_10 : Int) (a0_11 : Int) (a0_12 : Int) (a0_13 : Int) (a1_0 : Int) (a1_1 : Int) (a1_2 : Int) (a1_3 : Int) (a1_4 : Int) (a1_5 : Int) (a1_6 : Int) (a1_7 : Int) (a1_8 : Int) (a1_9 : Int) (a1_10 : Int) (a1_11 : Int) (a1_12 : Int) (a1_13 : Int) (r : Bool) (w : World) (h : laws_eqFlowKey.f a0_0 a0_1 a0_2 a0_3 a0_4 a0_5 a0_6 a0_7 a0_8 a0_9 a0_10 a0_11 a0_12 a0_13 a1_0 a1_1 a1_2 a1_3 a1_4 a1_5 a1_6 a1_7 a1_8 a1_9 a1_10 a1_11 a1_12 a1_13 = some r) :
  Calls Try.prog 61 #[.agg #[.int .i64 a0_0, .int .i64 a0_1, .int .i64 a0_2, .int .i64 a0_3, .int .i64 a0_4, .int .i64 a0_5, .int .i64 a0_6, .int .i64 a0_7, .int .i64 a0_8, .int .i64 a0_9, .int .i64 a0_10, .int .i64 a0_11, .int .i64 a0_12, .int .i64 a0_13], .agg #[.int .i64 a1_0, .int .i64 a1_1, .int .i64 a1_2, .int .i64 a1_3, .int .i64 a1_4, .int .i64 a1_5, .int .i64 a1_6, .int .i64 a1_7, .int .i64 a1_8, .int .i64 a1_9, .int .i64 a1_10, .int .i64 a1_11, .int .i64 a1_12, .int .i64 a1_13]] w fun e w' => e = .returned (.bool r) ∧ Below w.heap.size w w' := by
 have hu33 := Try.underlying33
 have hu31 := Try.underlying31
 have HB := Gv.a0 (Below.refl w.heap.size w)
 have H : (if a0_0 = a1_0 then ((laws_eqKey.f a0_1 a0_2 a0_3 a0_4 a0_5 a0_6 a0_7 a0_8 a0_9 a0_10 a0_11 a0_12 a0_13 a1_1 a1_2 a1_3 a1_4 a1_5 a1_6 a1_7 a1_8 a1_9 a1_10 a1_11 a1_12 a1_13).bind fun t109 => (if t109 = true then (some true) else (none))) else (none)) = some r := h
 clear h
 by_cases c3 : a0_0 = a1_0
 ·rw [if_pos c3] at H
  have c3b0 : (a0_0 == a1_0) = true := beq_iff_eq.mpr c3
  have c3b1 : (a0_0 != a1_0) = false := bne_eq_false_iff_eq.mpr c3
  clear c3
  replace H := Option.bind_eq_some_iff.mp H
  obtain ⟨t109, A40, H⟩ := H
  replace H : (if t109 = true then (some true) else (none)) = some r := H
  have A4 := Gv.a0 A40
  clear A40
  by_cases c5 : t109 = true
  ·subst c5
   have H1 : (some true) = some r := by rw [if_pos rfl] at H; exact H
   clear H
   have H := H1
   clear H1
   obtain rfl := Option.some.inj H
   go_enter Try.func61, Try.ntmps61
   go_wp2_with (first | ((with_reducible refine gate_dst (N := 2) rfl ?_); refine box_event ?hg (N := 2) ?hd (cs := #[.int .i64 a0_0, .int .i64 a0_1, .int .i64 a0_2, .int .i64 a0_3, .int .i64 a0_4, .int .i64 a0_5, .int .i64 a0_6, .int .i64 a0_7, .int .i64 a0_8, .int .i64 a0_9, .int .i64 a0_10, .int .i64 a0_11, .int .i64 a0_12, .int .i64 a0_13]) (t := 33) ?hr ?_; (case hd => rfl); (case hg => rfl); (case hr => first | (go_simp; done) | (go_simp; rfl)); intro gb107 hg w6 hbox hb; have BK107 := Gv.a0 (hbox); have GW107 := Gv.a0 ((Gv.ble hg Gv.bw : w.heap.size ≤ gb107)); have GE107 := Gv.a0 ((Gv.ble hg Gv.bw : w.heap.size ≤ gb107)); replace HB := Gv.a0 (below_step Gv.bw hb); clear hb hbox hg) | ((with_reducible refine gate_dst (N := 3) rfl ?_); refine box_event ?hg (N := 3) ?hd (cs := #[.int .i64 a1_0, .int .i64 a1_1, .int .i64 a1_2, .int .i64 a1_3, .int .i64 a1_4, .int .i64 a1_5, .int .i64 a1_6, .int .i64 a1_7, .int .i64 a1_8, .int .i64 a1_9, .int .i64 a1_10, .int .i64 a1_11, .int .i64 a1_12, .int .i64 a1_13]) (t := 33) ?hr ?_; (case hd => rfl); (case hg => rfl); (case hr => first | (go_simp; done) | (go_simp; rfl)); intro gb108 hg w7 hbox hb; have BK108 := Gv.a0 (hbox); have GW108 := Gv.a0 ((Gv.ble hg Gv.bw : w.heap.size ≤ gb108)); have GE108 := Gv.a0 ((Gv.ble hg Gv.bw : w.heap.size ≤ gb108)); replace HB := Gv.a0 (below_step Gv.bw hb); have NB107_108 := Gv.a0 ((Gv.nlt hg (Gv.kb BK107.out) : gb107 ≠ gb108)); have NB108_107 := Gv.a0 ((Gv.ngt hg (Gv.kb BK107.out) : gb108 ≠ gb107)); replace BK107 := Gv.a0 (Gv.bb BK107.out hb); clear hb hbox hg; have hnb8 := NB107_108.out; have hnc8 := NB108_107.out; obtain ⟨hcz9_0, hcz9_1, hcz9_2, hcz9_3, hcz9_4, hcz9_5, hcz9_6, hcz9_7, hcz9_8, hcz9_9, hcz9_10, hcz9_11, hcz9_12, hcz9_13⟩ := Gv.c14 BK107.out; obtain ⟨hfz9_0, hfz9_1, hfz9_2, hfz9_3, hfz9_4, hfz9_5, hfz9_6, hfz9_7, hfz9_8, hfz9_9, hfz9_10, hfz9_11, hfz9_12, hfz9_13⟩ := Gv.f14 BK107.out; obtain ⟨hcz10_0, hcz10_1, hcz10_2, hcz10_3, hcz10_4, hcz10_5, hcz10_6, hcz10_7, hcz10_8, hcz10_9, hcz10_10, hcz10_11, hcz10_12, hcz10_13⟩ := Gv.c14 BK108.out; obtain ⟨hfz10_0, hfz10_1, hfz10_2, hfz10_3, hfz10_4, hfz10_5, hfz10_6, hfz10_7, hfz10_8, hfz10_9, hfz10_10, hfz10_11, hfz10_12, hfz10_13⟩ := Gv.f14 BK108.out) | ((with_reducible refine gate_callee (f := 78) rfl ?_); refine goesL_ (some 14) rfl rfl Try.func78 (by kernel_rfl) rfl #[.agg #[.int .i64 a0_1, .int .i64 a0_2, .int .i64 a0_3, .int .i64 a0_4, .int .i64 a0_5, .int .i64 a0_6, .int .i64 a0_7, .int .i64 a0_8, .int .i64 a0_9, .int .i64 a0_10, .int .i64 a0_11, .int .i64 a0_12, .int .i64 a0_13], .agg #[.int .i64 a1_1, .int .i64 a1_2, .int .i64 a1_3, .int .i64 a1_4, .int .i64 a1_5, .int .i64 a1_6, .int .i64 a1_7, .int .i64 a1_8, .int .i64 a1_9, .int .i64 a1_10, .int .i64 a1_11, .int .i64 a1_12, .int .i64 a1_13]] rfl Gv.lm ?_; (with_reducible refine (laws_eqKey.calls a0_1 a0_2 a0_3 a0_4 a0_5 a0_6 a0_7 a0_8 a0_9 a0_10 a0_11 a0_12 a0_13 a1_1 a1_2 a1_3 a1_4 a1_5 a1_6 a1_7 a1_8 a1_9 a1_10 a1_11 a1_12 a1_13 true _ A4.out).mono ?_); rintro e w11 ⟨rfl, hb⟩; refine ⟨_, rfl, ?_⟩; replace BK107 := Gv.a0 (Gv.bb BK107.out hb); replace BK108 := Gv.a0 (Gv.bb BK108.out hb); replace HB := Gv.a0 (below_step Gv.bw hb); clear hb))
   go_ret
   exact ⟨Gv.rt, Gv.bw⟩
  ·replace c5 := Bool.eq_false_iff.mpr c5
   subst c5
   have H1 : (none) = some r := by rw [if_neg (show ¬ (false = true) by decide)] at H; exact H
   clear H
   have H := H1
   clear H1
   exact absurd H (by simp)
 ·rw [if_neg c3] at H
  exact absurd H (by simp)

/-! ### laws_eqCell: function 76 -/
def laws_eqCell.f (a0_0 : Bool) (a0_1 : Int) (a0_2 : Int) (a0_3 : Int) (a0_4 : Int) (a0_5 : Int) (a0_6 : Int) (a0_7 : Int) (a0_8 : Int) (a0_9 : Int) (a0_10 : Int) (a0_11 : Int) (a0_12 : Int) (a0_13 : Int) (a0_14 : Int) (a0_15 : Int) (a1_0 : Bool) (a1_1 : Int) (a1_2 : Int) (a1_3 : Int) (a1_4 : Int) (a1_5 : Int) (a1_6 : Int) (a1_7 : Int) (a1_8 : Int) (a1_9 : Int) (a1_10 : Int) (a1_11 : Int) (a1_12 : Int) (a1_13 : Int) (a1_14 : Int) (a1_15 : Int) : Option (Bool) := if (a0_0 != a1_0) = true then (none) else ((laws_eqFlowKey.f a0_1 a0_2 a0_3 a0_4 a0_5 a0_6 a0_7 a0_8 a0_9 a0_10 a0_11 a0_12 a0_13 a0_14 a1_1 a1_2 a1_3 a1_4 a1_5 a1_6 a1_7 a1_8 a1_9 a1_10 a1_11 a1_12 a1_13 a1_14).bind fun t112 => (if t112 = true then (if a0_15 = a1_15 then (some true) else (none)) else (none)))
set_option maxHeartbeats 8000000 in
set_option maxRecDepth 100000 in
theorem laws_eqCell.calls (a0_0 : Bool) (a0_1 : Int) (a0_2 : Int) (a0_3 : Int) (a0_4 : Int) (a0_5 : Int) (a0_6 : Int) (a0_7 : Int) (a0_8 : Int) (a0_9 : Int) (a0_10 : Int) (a0_11 : Int) (a0_12 : Int) (a0_13 : Int) (a0_14 : Int) (a0_15 : Int) (a1_0 : Bool) (a1_1 : Int) (a1_2 : Int) (a1_3 : Int) (a1_4 : Int) (a1_5 : Int) (a1_6 : Int) (a1_7 : Int) (a1_8 : Int) (a1_9 : Int) (a1_10 : Int) (a1_11 : Int) (a1_12 : Int) (a1_13 : Int) (a1_14 : Int) (a1_15 : Int) (r : Bool) (w : World) (h : laws_eqCell.f a0_0 a0_1 a0_2 a0_3 a0_4 a0_5 a0_6 a0_7 a0_8 a0_9 a0_10 a0_11 a0_12 a0_13 a0_14 a0_15 a1_0 a1_1 a1_2 a1_3 a1_4 a1_5 a1_6 a1_7 a1_8 a1_9 a1_10 a1_11 a1_12 a1_13 a1_14 a1_15 = some r) :
  Calls Try.prog 76 #[.agg #[.bool a0_0, .int .i64 a0_1, .int .i64 a0_2, .int .i64 a0_3, .int .i64 a0_4, .int .i64 a0_5, .int .i64 a0_6, .int .i64 a0_7, .int .i64 a0_8, .int .i64 a0_9, .int .i64 a0_10, .int .i64 a0_11, .int .i64 a0_12, .int .i64 a0_13, .int .i64 a0_14, .int .i64 a0_15], .agg #[.bool a1_0, .int .i64 a1_1, .int .i64 a1_2, .int .i64 a1_3, .int .i64 a1_4, .int .i64 a1_5, .int .i64 a1_6, .int .i64 a1_7, .int .i64 a1_8, .int .i64 a1_9, .int .i64 a1_10, .int .i64 a1_11, .int .i64 a1_12, .int .i64 a1_13, .int .i64 a1_14, .int .i64 a1_15]] w fun e w' => e = .returned (.bool r) ∧ Below w.heap.size w w' := by
 have hu75 := Try.underlying75
 have hu33 := Try.underlying33
 have HB := Gv.a0 (Below.refl w.heap.size w)
 have H : (if (a0_0 != a1_0) = true then (none) else ((laws_eqFlowKey.f a0_1 a0_2 a0_3 a0_4 a0_5 a0_6 a0_7 a0_8 a0_9 a0_10 a0_11 a0_12 a0_13 a0_14 a1_1 a1_2 a1_3 a1_4 a1_5 a1_6 a1_7 a1_8 a1_9 a1_10 a1_11 a1_12 a1_13 a1_14).bind fun t112 => (if t112 = true then (if a0_15 = a1_15 then (some true) else (none)) else (none)))) = some r := h
 clear h
 by_cases c3 : (a0_0 != a1_0) = true
 ·rw [if_pos c3] at H
  exact absurd H (by simp)
 ·rw [if_neg c3] at H
  have c3b0 : (a0_0 != a1_0) = false := by simpa using c3
  (try (have c3b1 : decide (a0_0 = a1_0) = true := by simpa using c3))
  (try (have c3b2 : (a0_0 == a1_0) = true := by simpa using c3))
  clear c3
  replace H := Option.bind_eq_some_iff.mp H
  obtain ⟨t112, A40, H⟩ := H
  replace H : (if t112 = true then (if a0_15 = a1_15 then (some true) else (none)) else (none)) = some r := H
  have A4 := Gv.a0 A40
  clear A40
  by_cases c5 : t112 = true
  ·subst c5
   have H1 : (if a0_15 = a1_15 then (some true) else (none)) = some r := by rw [if_pos rfl] at H; exact H
   clear H
   have H := H1
   clear H1
   by_cases c6 : a0_15 = a1_15
   ·rw [if_pos c6] at H
    have c6b0 : (a0_15 == a1_15) = true := beq_iff_eq.mpr c6
    have c6b1 : (a0_15 != a1_15) = false := bne_eq_false_iff_eq.mpr c6
    clear c6
    obtain rfl := Option.some.inj H
    go_enter Try.func76, Try.ntmps76
    go_wp2_with (first | ((with_reducible refine gate_dst (N := 2) rfl ?_); refine box_event ?hg (N := 2) ?hd (cs := #[.bool a0_0, .int .i64 a0_1, .int .i64 a0_2, .int .i64 a0_3, .int .i64 a0_4, .int .i64 a0_5, .int .i64 a0_6, .int .i64 a0_7, .int .i64 a0_8, .int .i64 a0_9, .int .i64 a0_10, .int .i64 a0_11, .int .i64 a0_12, .int .i64 a0_13, .int .i64 a0_14, .int .i64 a0_15]) (t := 75) ?hr ?_; (case hd => rfl); (case hg => rfl); (case hr => first | (go_simp; done) | (go_simp; rfl)); intro gb110 hg w7 hbox hb; have BK110 := Gv.a0 (hbox); have GW110 := Gv.a0 ((Gv.ble hg Gv.bw : w.heap.size ≤ gb110)); have GE110 := Gv.a0 ((Gv.ble hg Gv.bw : w.heap.size ≤ gb110)); replace HB := Gv.a0 (below_step Gv.bw hb); clear hb hbox hg) | ((with_reducible refine gate_dst (N := 3) rfl ?_); refine box_event ?hg (N := 3) ?hd (cs := #[.bool a1_0, .int .i64 a1_1, .int .i64 a1_2, .int .i64 a1_3, .int .i64 a1_4, .int .i64 a1_5, .int .i64 a1_6, .int .i64 a1_7, .int .i64 a1_8, .int .i64 a1_9, .int .i64 a1_10, .int .i64 a1_11, .int .i64 a1_12, .int .i64 a1_13, .int .i64 a1_14, .int .i64 a1_15]) (t := 75) ?hr ?_; (case hd => rfl); (case hg => rfl); (case hr => first | (go_simp; done) | (go_simp; rfl)); intro gb111 hg w8 hbox hb; have BK111 := Gv.a0 (hbox); have GW111 := Gv.a0 ((Gv.ble hg Gv.bw : w.heap.size ≤ gb111)); have GE111 := Gv.a0 ((Gv.ble hg Gv.bw : w.heap.size ≤ gb111)); replace HB := Gv.a0 (below_step Gv.bw hb); have NB110_111 := Gv.a0 ((Gv.nlt hg (Gv.kb BK110.out) : gb110 ≠ gb111)); have NB111_110 := Gv.a0 ((Gv.ngt hg (Gv.kb BK110.out) : gb111 ≠ gb110)); replace BK110 := Gv.a0 (Gv.bb BK110.out hb); clear hb hbox hg; have hnb9 := NB110_111.out; have hnc9 := NB111_110.out; obtain ⟨hcz10_0, hcz10_1, hcz10_2, hcz10_3, hcz10_4, hcz10_5, hcz10_6, hcz10_7, hcz10_8, hcz10_9, hcz10_10, hcz10_11, hcz10_12, hcz10_13, hcz10_14, hcz10_15⟩ := Gv.c16 BK110.out; obtain ⟨hfz10_0, hfz10_1, hfz10_2, hfz10_3, hfz10_4, hfz10_5, hfz10_6, hfz10_7, hfz10_8, hfz10_9, hfz10_10, hfz10_11, hfz10_12, hfz10_13, hfz10_14, hfz10_15⟩ := Gv.f16 BK110.out; obtain ⟨hcz11_0, hcz11_1, hcz11_2, hcz11_3, hcz11_4, hcz11_5, hcz11_6, hcz11_7, hcz11_8, hcz11_9, hcz11_10, hcz11_11, hcz11_12, hcz11_13, hcz11_14, hcz11_15⟩ := Gv.c16 BK111.out; obtain ⟨hfz11_0, hfz11_1, hfz11_2, hfz11_3, hfz11_4, hfz11_5, hfz11_6, hfz11_7, hfz11_8, hfz11_9, hfz11_10, hfz11_11, hfz11_12, hfz11_13, hfz11_14, hfz11_15⟩ := Gv.f16 BK111.out) | ((with_reducible refine gate_callee (f := 61) rfl ?_); refine goesL_ (some 14) rfl rfl Try.func61 (by kernel_rfl) rfl #[.agg #[.int .i64 a0_1, .int .i64 a0_2, .int .i64 a0_3, .int .i64 a0_4, .int .i64 a0_5, .int .i64 a0_6, .int .i64 a0_7, .int .i64 a0_8, .int .i64 a0_9, .int .i64 a0_10, .int .i64 a0_11, .int .i64 a0_12, .int .i64 a0_13, .int .i64 a0_14], .agg #[.int .i64 a1_1, .int .i64 a1_2, .int .i64 a1_3, .int .i64 a1_4, .int .i64 a1_5, .int .i64 a1_6, .int .i64 a1_7, .int .i64 a1_8, .int .i64 a1_9, .int .i64 a1_10, .int .i64 a1_11, .int .i64 a1_12, .int .i64 a1_13, .int .i64 a1_14]] rfl Gv.lm ?_; (with_reducible refine (laws_eqFlowKey.calls a0_1 a0_2 a0_3 a0_4 a0_5 a0_6 a0_7 a0_8 a0_9 a0_10 a0_11 a0_12 a0_13 a0_14 a1_1 a1_2 a1_3 a1_4 a1_5 a1_6 a1_7 a1_8 a1_9 a1_10 a1_11 a1_12 a1_13 a1_14 true _ A4.out).mono ?_); rintro e w12 ⟨rfl, hb⟩; refine ⟨_, rfl, ?_⟩; replace BK110 := Gv.a0 (Gv.bb BK110.out hb); replace BK111 := Gv.a0 (Gv.bb BK111.out hb); replace HB := Gv.a0 (below_step Gv.bw hb); clear hb; obtain ⟨hcz13_0, hcz13_1, hcz13_2, hcz13_3, hcz13_4, hcz13_5, hcz13_6, hcz13_7, hcz13_8, hcz13_9, hcz13_10, hcz13_11, hcz13_12, hcz13_13, hcz13_14, hcz13_15⟩ := Gv.c16 BK110.out; obtain ⟨hfz13_0, hfz13_1, hfz13_2, hfz13_3, hfz13_4, hfz13_5, hfz13_6, hfz13_7, hfz13_8, hfz13_9, hfz13_10, hfz13_11, hfz13_12, hfz13_13, hfz13_14, hfz13_15⟩ := Gv.f16 BK110.out; obtain ⟨hcz14_0, hcz14_1, hcz14_2, hcz14_3, hcz14_4, hcz14_5, hcz14_6, hcz14_7, hcz14_8, hcz14_9, hcz14_10, hcz14_11, hcz14_12, hcz14_13, hcz14_14, hcz14_15⟩ := Gv.c16 BK111.out; obtain ⟨hfz14_0, hfz14_1, hfz14_2, hfz14_3, hfz14_4, hfz14_5, hfz14_6, hfz14_7, hfz14_8, hfz14_9, hfz14_10, hfz14_11, hfz14_12, hfz14_13, hfz14_14, hfz14_15⟩ := Gv.f16 BK111.out))
    go_ret
    exact ⟨Gv.rt, Gv.bw⟩
   ·rw [if_neg c6] at H
    exact absurd H (by simp)
  ·replace c5 := Bool.eq_false_iff.mpr c5
   subst c5
   have H1 : (none) = some r := by rw [if_neg (show ¬ (false = true) by decide)] at H; exact H
   clear H
   have H := H1
   clear H1
   exact absurd H (by simp)

/-! ### laws_eqCellS: function 49 -/
def laws_eqCellS.l0 : Nat → List (S75) → List (S75) → Int → Option (Bool)
 | 0, _, _, _ => none
 | k + 1, x0, x1, x5 => if x5 < (x0.length : Int) then (if 0 ≤ x5 then (if x5 < (x1.length : Int) then ((laws_eqCell.f ((rd_T75 x0 x5).f0) ((rd_T75 x0 x5).f1.f0) ((rd_T75 x0 x5).f1.f1.f0.f0) ((rd_T75 x0 x5).f1.f1.f0.f1) ((rd_T75 x0 x5).f1.f1.f0.f2) ((rd_T75 x0 x5).f1.f1.f0.f3) ((rd_T75 x0 x5).f1.f1.f0.f4) ((rd_T75 x0 x5).f1.f1.f1.f0) ((rd_T75 x0 x5).f1.f1.f1.f1) ((rd_T75 x0 x5).f1.f1.f1.f2) ((rd_T75 x0 x5).f1.f1.f1.f3) ((rd_T75 x0 x5).f1.f1.f1.f4) ((rd_T75 x0 x5).f1.f1.f2) ((rd_T75 x0 x5).f1.f1.f3) ((rd_T75 x0 x5).f1.f1.f4) ((rd_T75 x0 x5).f2) ((rd_T75 x1 x5).f0) ((rd_T75 x1 x5).f1.f0) ((rd_T75 x1 x5).f1.f1.f0.f0) ((rd_T75 x1 x5).f1.f1.f0.f1) ((rd_T75 x1 x5).f1.f1.f0.f2) ((rd_T75 x1 x5).f1.f1.f0.f3) ((rd_T75 x1 x5).f1.f1.f0.f4) ((rd_T75 x1 x5).f1.f1.f1.f0) ((rd_T75 x1 x5).f1.f1.f1.f1) ((rd_T75 x1 x5).f1.f1.f1.f2) ((rd_T75 x1 x5).f1.f1.f1.f3) ((rd_T75 x1 x5).f1.f1.f1.f4) ((rd_T75 x1 x5).f1.f1.f2) ((rd_T75 x1 x5).f1.f1.f3) ((rd_T75 x1 x5).f1.f1.f4) ((rd_T75 x1 x5).f2)).bind fun t115 => (if t115 = true then (laws_eqCellS.l0 k x0 x1 (wrap64 (x5 + 1))) else (none))) else (none)) else (none)) else (some true)
def laws_eqCellS.f (k : Nat) (l0 : List (S75)) (l1 : List (S75)) : Option (Bool) := if (l0.length : Int) = (l1.length : Int) then (laws_eqCellS.l0 k l0 l1 0) else (none)
def laws_eqCellS.T6 : Bool × List (List Nat × List Nat) := (true, [([], []), ([], []), ([0, 1], [0, 1]), ([2], [2]), ([], []), ([], []), ([4, 5], [4, 5]), ([6], [6]), ([3, 7], [3, 7]), ([8], [8])])
def laws_eqCellS.B6 : List Nat := [0, 0, 3, 7, 0, 0, 48, 112, 255, 511]
theorem laws_eqCellS.tab6 : rtab .any (opsOf Try.f49 6) = laws_eqCellS.T6 := by kernel_rfl
theorem laws_eqCellS.bits6 : waitsOk laws_eqCellS.T6.2 laws_eqCellS.B6 = true := by kernel_rfl
set_option maxHeartbeats 8000000 in
set_option maxRecDepth 100000 in
theorem laws_eqCellS.calls (k : Nat) (A0 : Option Addr) (c0 : Nat) (l0 : List (S75)) (A1 : Option Addr) (c1 : Nat) (l1 : List (S75)) (r : Bool) (w : World) (hr0 : Kd.C k75 w A0 l0.length l0) (hc0 : l0.length ≤ c0) (hr1 : Kd.C k75 w A1 l1.length l1) (hc1 : l1.length ≤ c1) (h : laws_eqCellS.f k l0 l1 = some r) :
  Calls Try.prog 49 #[.slice A0 l0.length c0, .slice A1 l1.length c1] w fun e w' => e = .returned (.bool r) ∧ Below w.heap.size w w' := by
 have hu75 := Try.underlying75
 have HR0 := Gv.a0 hr0
 have HC0 := Gv.a0 hc0
 clear hr0 hc0
 have HR1 := Gv.a0 hr1
 have HC1 := Gv.a0 hc1
 clear hr1 hc1
 have HB := Gv.a0 (Below.refl w.heap.size w)
 have H : (if (l0.length : Int) = (l1.length : Int) then (laws_eqCellS.l0 k l0 l1 0) else (none)) = some r := h
 clear h
 by_cases c3 : (l0.length : Int) = (l1.length : Int)
 ·rw [if_pos c3] at H
  have c3b0 : ((l0.length : Int) == (l1.length : Int)) = true := beq_iff_eq.mpr c3
  have c3b1 : ((l0.length : Int) != (l1.length : Int)) = false := bne_eq_false_iff_eq.mpr c3
  have c3b2 : (l0.length == l1.length) = true := by first | simpa using c3 | (simp at c3 ⊢; omega)
  clear c3
  have H' := Gv.a0 H
  clear H
  go_enter Try.func49, Try.ntmps49
  go_wp2
  go_loopg [5] k (fun kq v5 w' => ∃ (x5_1 : Int), v5 = .int .i64 x5_1 ∧ Aside0 (laws_eqCellS.l0 kq l0 l1 x5_1 = some r) ∧ Aside0 (kq ≤ k) ∧ Aside0 (Below w.heap.size w w'))
  case atStart => exact ⟨(0), Gv.rq, H', ⟨Nat.le_refl _⟩, ⟨Gv.bw⟩⟩
  case round =>
   clear H'
   try clear c1
   try clear p2
   try clear c3
   try clear c3b0
   try clear c3b1
   try clear c3b2
   obtain ⟨x5_1, rfl, HA, HK1, HB⟩ := hrel
   cases gk with
   | zero => exact absurd HA.out (by simp [laws_eqCellS.l0])
   | succ k1 =>
    have H := HA.out
    clear HA
    simp only [laws_eqCellS.l0] at H
    by_cases c4 : x5_1 < (l0.length : Int)
    ·rw [if_pos c4] at H
     have c4b0 : decide (x5_1 < (l0.length : Int)) = true := decide_eq_true c4
     clear c4
     by_cases c5 : 0 ≤ x5_1
     ·rw [if_pos c5] at H
      have c5b0 : decide (0 ≤ x5_1) = true := decide_eq_true c5
      clear c5
      by_cases c6 : x5_1 < (l1.length : Int)
      ·rw [if_pos c6] at H
       have c6b0 : decide (x5_1 < (l1.length : Int)) = true := decide_eq_true c6
       clear c6
       replace H := Option.bind_eq_some_iff.mp H
       obtain ⟨t115, A70, H⟩ := H
       replace H : (if t115 = true then (laws_eqCellS.l0 k1 l0 l1 (wrap64 (x5_1 + 1))) else (none)) = some r := H
       have A7 := Gv.a0 A70
       clear A70
       by_cases c8 : t115 = true
       ·subst c8
        have H1 : (laws_eqCellS.l0 k1 l0 l1 (wrap64 (x5_1 + 1))) = some r := by rw [if_pos rfl] at H; exact H
        clear H
        have H := H1
        clear H1
        have H' := Gv.a0 H
        clear H
        try go_wp2
        replace HB := Gv.a0 (below_drew1 HB.out)
        have p113 : 0 ≤ (x5_1 : Int) := of_decide_eq_true (by first | (with_reducible assumption) | assumption)
        have q113 : x5_1 < (l0.length : Int) := of_decide_eq_true (by first | (with_reducible assumption) | assumption)
        obtain ⟨ad113, e113, hx113_0, hx113_1, hx113_2, hx113_3, hx113_4, hx113_5, hx113_6, hx113_7, hx113_8, hx113_9, hx113_10, hx113_11, hx113_12, hx113_13, hx113_14, hx113_15⟩ := at_T75 HR0.out x5_1 p113 q113
        have hw113_15 := hx113_15
        have hw113_14 := hx113_14
        have hw113_13 := hx113_13
        have hw113_12 := hx113_12
        have hw113_11 := hx113_11
        have hw113_10 := hx113_10
        have hw113_9 := hx113_9
        have hw113_8 := hx113_8
        have hw113_7 := hx113_7
        have hw113_6 := hx113_6
        have hw113_5 := hx113_5
        have hw113_4 := hx113_4
        have hw113_3 := hx113_3
        have hw113_2 := hx113_2
        have hw113_1 := hx113_1
        have hw113_0 := hx113_0
        cases e113
        replace hx113_0 := Gv.bx HB.out hx113_0
        replace hx113_1 := Gv.bx HB.out hx113_1
        replace hx113_2 := Gv.bx HB.out hx113_2
        replace hx113_3 := Gv.bx HB.out hx113_3
        replace hx113_4 := Gv.bx HB.out hx113_4
        replace hx113_5 := Gv.bx HB.out hx113_5
        replace hx113_6 := Gv.bx HB.out hx113_6
        replace hx113_7 := Gv.bx HB.out hx113_7
        replace hx113_8 := Gv.bx HB.out hx113_8
        replace hx113_9 := Gv.bx HB.out hx113_9
        replace hx113_10 := Gv.bx HB.out hx113_10
        replace hx113_11 := Gv.bx HB.out hx113_11
        replace hx113_12 := Gv.bx HB.out hx113_12
        replace hx113_13 := Gv.bx HB.out hx113_13
        replace hx113_14 := Gv.bx HB.out hx113_14
        replace hx113_15 := Gv.bx HB.out hx113_15
        replace p113 := eq_true p113
        replace q113 := eq_true q113
        have p114 : 0 ≤ (x5_1 : Int) := of_decide_eq_true (by first | (with_reducible assumption) | assumption)
        have q114 : x5_1 < (l1.length : Int) := of_decide_eq_true (by first | (with_reducible assumption) | assumption)
        obtain ⟨ad114, e114, hx114_0, hx114_1, hx114_2, hx114_3, hx114_4, hx114_5, hx114_6, hx114_7, hx114_8, hx114_9, hx114_10, hx114_11, hx114_12, hx114_13, hx114_14, hx114_15⟩ := at_T75 HR1.out x5_1 p114 q114
        have hw114_15 := hx114_15
        have hw114_14 := hx114_14
        have hw114_13 := hx114_13
        have hw114_12 := hx114_12
        have hw114_11 := hx114_11
        have hw114_10 := hx114_10
        have hw114_9 := hx114_9
        have hw114_8 := hx114_8
        have hw114_7 := hx114_7
        have hw114_6 := hx114_6
        have hw114_5 := hx114_5
        have hw114_4 := hx114_4
        have hw114_3 := hx114_3
        have hw114_2 := hx114_2
        have hw114_1 := hx114_1
        have hw114_0 := hx114_0
        cases e114
        replace hx114_0 := Gv.bx HB.out hx114_0
        replace hx114_1 := Gv.bx HB.out hx114_1
        replace hx114_2 := Gv.bx HB.out hx114_2
        replace hx114_3 := Gv.bx HB.out hx114_3
        replace hx114_4 := Gv.bx HB.out hx114_4
        replace hx114_5 := Gv.bx HB.out hx114_5
        replace hx114_6 := Gv.bx HB.out hx114_6
        replace hx114_7 := Gv.bx HB.out hx114_7
        replace hx114_8 := Gv.bx HB.out hx114_8
        replace hx114_9 := Gv.bx HB.out hx114_9
        replace hx114_10 := Gv.bx HB.out hx114_10
        replace hx114_11 := Gv.bx HB.out hx114_11
        replace hx114_12 := Gv.bx HB.out hx114_12
        replace hx114_13 := Gv.bx HB.out hx114_13
        replace hx114_14 := Gv.bx HB.out hx114_14
        replace hx114_15 := Gv.bx HB.out hx114_15
        replace p114 := eq_true p114
        replace q114 := eq_true q114
        refine start_ (n := 10) (S := fun w' => w'.cell? (ad113.add ((x5_1).toNat * 16)) = some (.bool ((rd_T75 l0 x5_1).f0)) ∧ w'.cell? ⟨(ad113.add ((x5_1).toNat * 16)).block, (ad113.add ((x5_1).toNat * 16)).off + 1, none⟩ = some (.int .i64 ((rd_T75 l0 x5_1).f1.f0)) ∧ w'.cell? ⟨(ad113.add ((x5_1).toNat * 16)).block, (ad113.add ((x5_1).toNat * 16)).off + 2, none⟩ = some (.int .i64 ((rd_T75 l0 x5_1).f1.f1.f0.f0)) ∧ w'.cell? ⟨(ad113.add ((x5_1).toNat * 16)).block, (ad113.add ((x5_1).toNat * 16)).off + 3, none⟩ = some (.int .i64 ((rd_T75 l0 x5_1).f1.f1.f0.f1)) ∧ w'.cell? ⟨(ad113.add ((x5_1).toNat * 16)).block, (ad113.add ((x5_1).toNat * 16)).off + 4, none⟩ = some (.int .i64 ((rd_T75 l0 x5_1).f1.f1.f0.f2)) ∧ w'.cell? ⟨(ad113.add ((x5_1).toNat * 16)).block, (ad113.add ((x5_1).toNat * 16)).off + 5, none⟩ = some (.int .i64 ((rd_T75 l0 x5_1).f1.f1.f0.f3)) ∧ w'.cell? ⟨(ad113.add ((x5_1).toNat * 16)).block, (ad113.add ((x5_1).toNat * 16)).off + 6, none⟩ = some (.int .i64 ((rd_T75 l0 x5_1).f1.f1.f0.f4)) ∧ w'.cell? ⟨(ad113.add ((x5_1).toNat * 16)).block, (ad113.add ((x5_1).toNat * 16)).off + 7, none⟩ = some (.int .i64 ((rd_T75 l0 x5_1).f1.f1.f1.f0)) ∧ w'.cell? ⟨(ad113.add ((x5_1).toNat * 16)).block, (ad113.add ((x5_1).toNat * 16)).off + 8, none⟩ = some (.int .i64 ((rd_T75 l0 x5_1).f1.f1.f1.f1)) ∧ w'.cell? ⟨(ad113.add ((x5_1).toNat * 16)).block, (ad113.add ((x5_1).toNat * 16)).off + 9, none⟩ = some (.int .i64 ((rd_T75 l0 x5_1).f1.f1.f1.f2)) ∧ w'.cell? ⟨(ad113.add ((x5_1).toNat * 16)).block, (ad113.add ((x5_1).toNat * 16)).off + 10, none⟩ = some (.int .i64 ((rd_T75 l0 x5_1).f1.f1.f1.f3)) ∧ w'.cell? ⟨(ad113.add ((x5_1).toNat * 16)).block, (ad113.add ((x5_1).toNat * 16)).off + 11, none⟩ = some (.int .i64 ((rd_T75 l0 x5_1).f1.f1.f1.f4)) ∧ w'.cell? ⟨(ad113.add ((x5_1).toNat * 16)).block, (ad113.add ((x5_1).toNat * 16)).off + 12, none⟩ = some (.int .i64 ((rd_T75 l0 x5_1).f1.f1.f2)) ∧ w'.cell? ⟨(ad113.add ((x5_1).toNat * 16)).block, (ad113.add ((x5_1).toNat * 16)).off + 13, none⟩ = some (.int .i64 ((rd_T75 l0 x5_1).f1.f1.f3)) ∧ w'.cell? ⟨(ad113.add ((x5_1).toNat * 16)).block, (ad113.add ((x5_1).toNat * 16)).off + 14, none⟩ = some (.int .i64 ((rd_T75 l0 x5_1).f1.f1.f4)) ∧ w'.cell? ⟨(ad113.add ((x5_1).toNat * 16)).block, (ad113.add ((x5_1).toNat * 16)).off + 15, none⟩ = some (.int .i64 ((rd_T75 l0 x5_1).f2)) ∧ w'.cell? (ad114.add ((x5_1).toNat * 16)) = some (.bool ((rd_T75 l1 x5_1).f0)) ∧ w'.cell? ⟨(ad114.add ((x5_1).toNat * 16)).block, (ad114.add ((x5_1).toNat * 16)).off + 1, none⟩ = some (.int .i64 ((rd_T75 l1 x5_1).f1.f0)) ∧ w'.cell? ⟨(ad114.add ((x5_1).toNat * 16)).block, (ad114.add ((x5_1).toNat * 16)).off + 2, none⟩ = some (.int .i64 ((rd_T75 l1 x5_1).f1.f1.f0.f0)) ∧ w'.cell? ⟨(ad114.add ((x5_1).toNat * 16)).block, (ad114.add ((x5_1).toNat * 16)).off + 3, none⟩ = some (.int .i64 ((rd_T75 l1 x5_1).f1.f1.f0.f1)) ∧ w'.cell? ⟨(ad114.add ((x5_1).toNat * 16)).block, (ad114.add ((x5_1).toNat * 16)).off + 4, none⟩ = some (.int .i64 ((rd_T75 l1 x5_1).f1.f1.f0.f2)) ∧ w'.cell? ⟨(ad114.add ((x5_1).toNat * 16)).block, (ad114.add ((x5_1).toNat * 16)).off + 5, none⟩ = some (.int .i64 ((rd_T75 l1 x5_1).f1.f1.f0.f3)) ∧ w'.cell? ⟨(ad114.add ((x5_1).toNat * 16)).block, (ad114.add ((x5_1).toNat * 16)).off + 6, none⟩ = some (.int .i64 ((rd_T75 l1 x5_1).f1.f1.f0.f4)) ∧ w'.cell? ⟨(ad114.add ((x5_1).toNat * 16)).block, (ad114.add ((x5_1).toNat * 16)).off + 7, none⟩ = some (.int .i64 ((rd_T75 l1 x5_1).f1.f1.f1.f0)) ∧ w'.cell? ⟨(ad114.add ((x5_1).toNat * 16)).block, (ad114.add ((x5_1).toNat * 16)).off + 8, none⟩ = some (.int .i64 ((rd_T75 l1 x5_1).f1.f1.f1.f1)) ∧ w'.cell? ⟨(ad114.add ((x5_1).toNat * 16)).block, (ad114.add ((x5_1).toNat * 16)).off + 9, none⟩ = some (.int .i64 ((rd_T75 l1 x5_1).f1.f1.f1.f2)) ∧ w'.cell? ⟨(ad114.add ((x5_1).toNat * 16)).block, (ad114.add ((x5_1).toNat * 16)).off + 10, none⟩ = some (.int .i64 ((rd_T75 l1 x5_1).f1.f1.f1.f3)) ∧ w'.cell? ⟨(ad114.add ((x5_1).toNat * 16)).block, (ad114.add ((x5_1).toNat * 16)).off + 11, none⟩ = some (.int .i64 ((rd_T75 l1 x5_1).f1.f1.f1.f4)) ∧ w'.cell? ⟨(ad114.add ((x5_1).toNat * 16)).block, (ad114.add ((x5_1).toNat * 16)).off + 12, none⟩ = some (.int .i64 ((rd_T75 l1 x5_1).f1.f1.f2)) ∧ w'.cell? ⟨(ad114.add ((x5_1).toNat * 16)).block, (ad114.add ((x5_1).toNat * 16)).off + 13, none⟩ = some (.int .i64 ((rd_T75 l1 x5_1).f1.f1.f3)) ∧ w'.cell? ⟨(ad114.add ((x5_1).toNat * 16)).block, (ad114.add ((x5_1).toNat * 16)).off + 14, none⟩ = some (.int .i64 ((rd_T75 l1 x5_1).f1.f1.f4)) ∧ w'.cell? ⟨(ad114.add ((x5_1).toNat * 16)).block, (ad114.add ((x5_1).toNat * 16)).off + 15, none⟩ = some (.int .i64 ((rd_T75 l1 x5_1).f2))) (ds := []) #[false, false, false, false, false, false, false, false, false, false] (by kernel_rfl) rfl rfl ⟨(Gv.bx HB.out hw113_0), (Gv.bx HB.out hw113_1), (Gv.bx HB.out hw113_2), (Gv.bx HB.out hw113_3), (Gv.bx HB.out hw113_4), (Gv.bx HB.out hw113_5), (Gv.bx HB.out hw113_6), (Gv.bx HB.out hw113_7), (Gv.bx HB.out hw113_8), (Gv.bx HB.out hw113_9), (Gv.bx HB.out hw113_10), (Gv.bx HB.out hw113_11), (Gv.bx HB.out hw113_12), (Gv.bx HB.out hw113_13), (Gv.bx HB.out hw113_14), (Gv.bx HB.out hw113_15), (Gv.bx HB.out hw114_0), (Gv.bx HB.out hw114_1), (Gv.bx HB.out hw114_2), (Gv.bx HB.out hw114_3), (Gv.bx HB.out hw114_4), (Gv.bx HB.out hw114_5), (Gv.bx HB.out hw114_6), (Gv.bx HB.out hw114_7), (Gv.bx HB.out hw114_8), (Gv.bx HB.out hw114_9), (Gv.bx HB.out hw114_10), (Gv.bx HB.out hw114_11), (Gv.bx HB.out hw114_12), (Gv.bx HB.out hw114_13), (Gv.bx HB.out hw114_14), (Gv.bx HB.out hw114_15)⟩ (fun hHeld => ?_); refine with_tabW laws_eqCellS.tab6 laws_eqCellS.bits6 (fun HT_ HW_ => ?_)
        generalize wr.drew = w9 at HB hx113_0 hx113_1 hx113_10 hx113_11 hx113_12 hx113_13 hx113_14 hx113_15 hx113_2 hx113_3 hx113_4 hx113_5 hx113_6 hx113_7 hx113_8 hx113_9 hx114_0 hx114_1 hx114_10 hx114_11 hx114_12 hx114_13 hx114_14 hx114_15 hx114_2 hx114_3 hx114_4 hx114_5 hx114_6 hx114_7 hx114_8 hx114_9 hHeld ⊢
        refine Gv.pu 0 (some 17) HT_ ?_
        refine Gv.pu 1 (some 18) HT_ ?_
        refine Gv.pu 2 (some 19) HT_ ?_
        refine Gv.pu 4 (some 21) HT_ ?_
        refine Gv.pu 5 (some 22) HT_ ?_
        refine Gv.pu 6 (some 23) HT_ ?_
        refine take_ (i := 3) (N := some 20) (v := ?_) (a' := ?_) #[true, true, true, true, true, true, true, false, false, false] rfl rfl (take_ofW HT_.out HW_.out (by kernel_rfl)) (fun _ _ _ h => h) (Or.inl ⟨by rfl, ?_⟩) hHeld ?_ ?_
        rotate_left
        ·rintro w' ⟨s0, s1, s2, s3, s4, s5, s6, s7, s8, s9, s10, s11, s12, s13, s14, s15, s16, s17, s18, s19, s20, s21, s22, s23, s24, s25, s26, s27, s28, s29, s30, s31⟩
         first | ((refine Gv.load_run (t := 75) (A := ad113.add ((x5_1).toNat * 16)) (cs := [_, _, _, _, _, _, _, _, _, _, _, _, _, _, _, _]) (x := ?xx1_) ?ho1_ ?hx1_ ⟨s0, s1, s2, s3, s4, s5, s6, s7, s8, s9, s10, s11, s12, s13, s14, s15, trivial⟩ Try.underlying75 rfl (by kernel_rfl)); (case ho1_ => rfl); (case hx1_ => rfl)) | ((refine Gv.load_run (t := 75) (A := ad114.add ((x5_1).toNat * 16)) (cs := [_, _, _, _, _, _, _, _, _, _, _, _, _, _, _, _]) (x := ?xx2_) ?ho2_ ?hx2_ ⟨s16, s17, s18, s19, s20, s21, s22, s23, s24, s25, s26, s27, s28, s29, s30, s31, trivial⟩ Try.underlying75 rfl (by kernel_rfl)); (case ho2_ => rfl); (case hx2_ => rfl)) | (go_simp; with_reducible rfl)
        rotate_left
        ·simp only [Act.put, List.setIfInBounds_toArray, List.set_cons_zero, List.set_cons_succ, i64_w, i32_w]
         rfl
        refine take_ (i := 7) (N := some 24) (v := ?_) (a' := ?_) #[true, true, true, true, true, true, true, true, false, false] rfl rfl (take_ofW HT_.out HW_.out (by kernel_rfl)) (fun _ _ _ h => h) (Or.inl ⟨by rfl, ?_⟩) hHeld ?_ ?_
        rotate_left
        ·rintro w' ⟨s0, s1, s2, s3, s4, s5, s6, s7, s8, s9, s10, s11, s12, s13, s14, s15, s16, s17, s18, s19, s20, s21, s22, s23, s24, s25, s26, s27, s28, s29, s30, s31⟩
         first | ((refine Gv.load_run (t := 75) (A := ad113.add ((x5_1).toNat * 16)) (cs := [_, _, _, _, _, _, _, _, _, _, _, _, _, _, _, _]) (x := ?xx4_) ?ho4_ ?hx4_ ⟨s0, s1, s2, s3, s4, s5, s6, s7, s8, s9, s10, s11, s12, s13, s14, s15, trivial⟩ Try.underlying75 rfl (by kernel_rfl)); (case ho4_ => rfl); (case hx4_ => rfl)) | ((refine Gv.load_run (t := 75) (A := ad114.add ((x5_1).toNat * 16)) (cs := [_, _, _, _, _, _, _, _, _, _, _, _, _, _, _, _]) (x := ?xx5_) ?ho5_ ?hx5_ ⟨s16, s17, s18, s19, s20, s21, s22, s23, s24, s25, s26, s27, s28, s29, s30, s31, trivial⟩ Try.underlying75 rfl (by kernel_rfl)); (case ho5_ => rfl); (case hx5_ => rfl)) | (go_simp; with_reducible rfl)
        rotate_left
        ·simp only [Act.put, List.setIfInBounds_toArray, List.set_cons_zero, List.set_cons_succ, i64_w, i32_w]
         rfl
        refine one_ (i := 8) (N := some 25) #[true, true, true, true, true, true, true, true, true, false] rfl rfl (one_of HT_.out (by kernel_rfl)) (by decide) (fun K hK => ?_)
        refine goes_ Try.func76 (by kernel_rfl) rfl #[.agg #[.bool ((rd_T75 l0 x5_1).f0), .int .i64 ((rd_T75 l0 x5_1).f1.f0), .int .i64 ((rd_T75 l0 x5_1).f1.f1.f0.f0), .int .i64 ((rd_T75 l0 x5_1).f1.f1.f0.f1), .int .i64 ((rd_T75 l0 x5_1).f1.f1.f0.f2), .int .i64 ((rd_T75 l0 x5_1).f1.f1.f0.f3), .int .i64 ((rd_T75 l0 x5_1).f1.f1.f0.f4), .int .i64 ((rd_T75 l0 x5_1).f1.f1.f1.f0), .int .i64 ((rd_T75 l0 x5_1).f1.f1.f1.f1), .int .i64 ((rd_T75 l0 x5_1).f1.f1.f1.f2), .int .i64 ((rd_T75 l0 x5_1).f1.f1.f1.f3), .int .i64 ((rd_T75 l0 x5_1).f1.f1.f1.f4), .int .i64 ((rd_T75 l0 x5_1).f1.f1.f2), .int .i64 ((rd_T75 l0 x5_1).f1.f1.f3), .int .i64 ((rd_T75 l0 x5_1).f1.f1.f4), .int .i64 ((rd_T75 l0 x5_1).f2)], .agg #[.bool ((rd_T75 l1 x5_1).f0), .int .i64 ((rd_T75 l1 x5_1).f1.f0), .int .i64 ((rd_T75 l1 x5_1).f1.f1.f0.f0), .int .i64 ((rd_T75 l1 x5_1).f1.f1.f0.f1), .int .i64 ((rd_T75 l1 x5_1).f1.f1.f0.f2), .int .i64 ((rd_T75 l1 x5_1).f1.f1.f0.f3), .int .i64 ((rd_T75 l1 x5_1).f1.f1.f0.f4), .int .i64 ((rd_T75 l1 x5_1).f1.f1.f1.f0), .int .i64 ((rd_T75 l1 x5_1).f1.f1.f1.f1), .int .i64 ((rd_T75 l1 x5_1).f1.f1.f1.f2), .int .i64 ((rd_T75 l1 x5_1).f1.f1.f1.f3), .int .i64 ((rd_T75 l1 x5_1).f1.f1.f1.f4), .int .i64 ((rd_T75 l1 x5_1).f1.f1.f2), .int .i64 ((rd_T75 l1 x5_1).f1.f1.f3), .int .i64 ((rd_T75 l1 x5_1).f1.f1.f4), .int .i64 ((rd_T75 l1 x5_1).f2)]] (by rfl) rfl rfl Gv.lm ?_
        with_reducible refine (laws_eqCell.calls ((rd_T75 l0 x5_1).f0) ((rd_T75 l0 x5_1).f1.f0) ((rd_T75 l0 x5_1).f1.f1.f0.f0) ((rd_T75 l0 x5_1).f1.f1.f0.f1) ((rd_T75 l0 x5_1).f1.f1.f0.f2) ((rd_T75 l0 x5_1).f1.f1.f0.f3) ((rd_T75 l0 x5_1).f1.f1.f0.f4) ((rd_T75 l0 x5_1).f1.f1.f1.f0) ((rd_T75 l0 x5_1).f1.f1.f1.f1) ((rd_T75 l0 x5_1).f1.f1.f1.f2) ((rd_T75 l0 x5_1).f1.f1.f1.f3) ((rd_T75 l0 x5_1).f1.f1.f1.f4) ((rd_T75 l0 x5_1).f1.f1.f2) ((rd_T75 l0 x5_1).f1.f1.f3) ((rd_T75 l0 x5_1).f1.f1.f4) ((rd_T75 l0 x5_1).f2) ((rd_T75 l1 x5_1).f0) ((rd_T75 l1 x5_1).f1.f0) ((rd_T75 l1 x5_1).f1.f1.f0.f0) ((rd_T75 l1 x5_1).f1.f1.f0.f1) ((rd_T75 l1 x5_1).f1.f1.f0.f2) ((rd_T75 l1 x5_1).f1.f1.f0.f3) ((rd_T75 l1 x5_1).f1.f1.f0.f4) ((rd_T75 l1 x5_1).f1.f1.f1.f0) ((rd_T75 l1 x5_1).f1.f1.f1.f1) ((rd_T75 l1 x5_1).f1.f1.f1.f2) ((rd_T75 l1 x5_1).f1.f1.f1.f3) ((rd_T75 l1 x5_1).f1.f1.f1.f4) ((rd_T75 l1 x5_1).f1.f1.f2) ((rd_T75 l1 x5_1).f1.f1.f3) ((rd_T75 l1 x5_1).f1.f1.f4) ((rd_T75 l1 x5_1).f2) true _ A7.out).mono ?_
        rintro e w10 ⟨rfl, hb⟩
        refine ⟨_, rfl, ?_⟩
        replace HB := Gv.a0 (below_step Gv.bw hb)
        (try clear hb)
        (try clear hb2)
        (try clear hk)
        (try clear hi)
        refine hK.out _ _ ⟨(Gv.bx HB.out hw113_0), (Gv.bx HB.out hw113_1), (Gv.bx HB.out hw113_2), (Gv.bx HB.out hw113_3), (Gv.bx HB.out hw113_4), (Gv.bx HB.out hw113_5), (Gv.bx HB.out hw113_6), (Gv.bx HB.out hw113_7), (Gv.bx HB.out hw113_8), (Gv.bx HB.out hw113_9), (Gv.bx HB.out hw113_10), (Gv.bx HB.out hw113_11), (Gv.bx HB.out hw113_12), (Gv.bx HB.out hw113_13), (Gv.bx HB.out hw113_14), (Gv.bx HB.out hw113_15), (Gv.bx HB.out hw114_0), (Gv.bx HB.out hw114_1), (Gv.bx HB.out hw114_2), (Gv.bx HB.out hw114_3), (Gv.bx HB.out hw114_4), (Gv.bx HB.out hw114_5), (Gv.bx HB.out hw114_6), (Gv.bx HB.out hw114_7), (Gv.bx HB.out hw114_8), (Gv.bx HB.out hw114_9), (Gv.bx HB.out hw114_10), (Gv.bx HB.out hw114_11), (Gv.bx HB.out hw114_12), (Gv.bx HB.out hw114_13), (Gv.bx HB.out hw114_14), (Gv.bx HB.out hw114_15)⟩ (fun hHeld => ?_)
        clear hK K
        refine norm_ (a' := ?_) ?_ ?_
        rotate_left
        ·show Act.put _ (some 25) _ = _
         simp only [Act.put, List.setIfInBounds_toArray, List.set_cons_zero, List.set_cons_succ, i64_w, i32_w]
         rfl
        refine Gv.pu 9 (some 26) HT_ ?_
        refine done_ (done_of HT_.out (by kernel_rfl)) ?_
        try go_wp2
        go_roundg k1
        case measure => have := HK1.out; omega
        case rel => exact ⟨(wrap64 (x5_1 + 1)), Gv.rq, H', ⟨by have := HK1.out; omega⟩, ⟨Gv.bw⟩⟩
       ·replace c8 := Bool.eq_false_iff.mpr c8
        subst c8
        have H1 : (none) = some r := by rw [if_neg (show ¬ (false = true) by decide)] at H; exact H
        clear H
        have H := H1
        clear H1
        exact absurd H (by simp)
      ·rw [if_neg c6] at H
       exact absurd H (by simp)
     ·rw [if_neg c5] at H
      exact absurd H (by simp)
    ·rw [if_neg c4] at H
     have c4b0 : decide (x5_1 < (l0.length : Int)) = false := decide_eq_false c4
     clear c4
     obtain rfl := Option.some.inj H
     go_wp2
     go_ret
     exact ⟨Gv.rt, Gv.bw⟩
 ·rw [if_neg c3] at H
  exact absurd H (by simp)

/-! ### laws_eqTable: function 20 -/
def laws_eqTable.f (k : Nat) (a0_0 : Int) (l0_1 : List (S75)) (a1_0 : Int) (l1_1 : List (S75)) : Option (Bool) := if a0_0 = a1_0 then ((laws_eqCellS.f k l0_1 l1_1).bind fun t118 => (if t118 = true then (some true) else (none))) else (none)
set_option maxHeartbeats 8000000 in
set_option maxRecDepth 100000 in
theorem laws_eqTable.calls (k : Nat) (a0_0 : Int) (A0_1 : Option Addr) (c0_1 : Nat) (l0_1 : List (S75)) (a1_0 : Int) (A1_1 : Option Addr) (c1_1 : Nat) (l1_1 : List (S75)) (r : Bool) (w : World) (hr0_1 : Kd.C k75 w A0_1 l0_1.length l0_1) (hc0_1 : l0_1.length ≤ c0_1) (hr1_1 : Kd.C k75 w A1_1 l1_1.length l1_1) (hc1_1 : l1_1.length ≤ c1_1) (h : laws_eqTable.f k a0_0 l0_1 a1_0 l1_1 = some r) :
  Calls Try.prog 20 #[.agg #[.int .i64 a0_0, .slice A0_1 l0_1.length c0_1], .agg #[.int .i64 a1_0, .slice A1_1 l1_1.length c1_1]] w fun e w' => e = .returned (.bool r) ∧ Below w.heap.size w w' := by
 have hu40 := Try.underlying40
 have HR0_1 := Gv.a0 hr0_1
 have HC0_1 := Gv.a0 hc0_1
 clear hr0_1 hc0_1
 have HR1_1 := Gv.a0 hr1_1
 have HC1_1 := Gv.a0 hc1_1
 clear hr1_1 hc1_1
 have HB := Gv.a0 (Below.refl w.heap.size w)
 have H : (if a0_0 = a1_0 then ((laws_eqCellS.f k l0_1 l1_1).bind fun t118 => (if t118 = true then (some true) else (none))) else (none)) = some r := h
 clear h
 by_cases c3 : a0_0 = a1_0
 ·rw [if_pos c3] at H
  have c3b0 : (a0_0 == a1_0) = true := beq_iff_eq.mpr c3
  have c3b1 : (a0_0 != a1_0) = false := bne_eq_false_iff_eq.mpr c3
  clear c3
  replace H := Option.bind_eq_some_iff.mp H
  obtain ⟨t118, A40, H⟩ := H
  replace H : (if t118 = true then (some true) else (none)) = some r := H
  have A4 := Gv.a0 A40
  clear A40
  by_cases c5 : t118 = true
  ·subst c5
   have H1 : (some true) = some r := by rw [if_pos rfl] at H; exact H
   clear H
   have H := H1
   clear H1
   obtain rfl := Option.some.inj H
   go_enter Try.func20, Try.ntmps20
   go_wp2_with (first | ((with_reducible refine gate_dst (N := 2) rfl ?_); refine box_event ?hg (N := 2) ?hd (cs := #[.int .i64 a0_0, .slice A0_1 l0_1.length c0_1]) (t := 40) ?hr ?_; (case hd => rfl); (case hg => rfl); (case hr => first | (go_simp; done) | (go_simp; rfl)); intro gb116 hg w6 hbox hb; have BK116 := Gv.a0 (hbox); have GW116 := Gv.a0 ((Gv.ble hg Gv.bw : w.heap.size ≤ gb116)); have GE116 := Gv.a0 ((Gv.ble hg Gv.bw : w.heap.size ≤ gb116)); replace HB := Gv.a0 (below_step Gv.bw hb); clear hb hbox hg) | ((with_reducible refine gate_dst (N := 3) rfl ?_); refine box_event ?hg (N := 3) ?hd (cs := #[.int .i64 a1_0, .slice A1_1 l1_1.length c1_1]) (t := 40) ?hr ?_; (case hd => rfl); (case hg => rfl); (case hr => first | (go_simp; done) | (go_simp; rfl)); intro gb117 hg w7 hbox hb; have BK117 := Gv.a0 (hbox); have GW117 := Gv.a0 ((Gv.ble hg Gv.bw : w.heap.size ≤ gb117)); have GE117 := Gv.a0 ((Gv.ble hg Gv.bw : w.heap.size ≤ gb117)); replace HB := Gv.a0 (below_step Gv.bw hb); have NB116_117 := Gv.a0 ((Gv.nlt hg (Gv.kb BK116.out) : gb116 ≠ gb117)); have NB117_116 := Gv.a0 ((Gv.ngt hg (Gv.kb BK116.out) : gb117 ≠ gb116)); replace BK116 := Gv.a0 (Gv.bb BK116.out hb); clear hb hbox hg; have hnb8 := NB116_117.out; have hnc8 := NB117_116.out; have hcz9_0 : w7.cell? ⟨gb116, 0, none⟩ = some (.int .i64 a0_0) := (blk_cell BK116.out 0).trans rfl; have hcz9_1 : w7.cell? ⟨gb116, 1, none⟩ = some (.slice A0_1 l0_1.length c0_1) := (blk_cell BK116.out 1).trans rfl; have hfz9_0 := blk_frozen BK116.out 0; have hfz9_1 := blk_frozen BK116.out 1; have hcz10_0 : w7.cell? ⟨gb117, 0, none⟩ = some (.int .i64 a1_0) := (blk_cell BK117.out 0).trans rfl; have hcz10_1 : w7.cell? ⟨gb117, 1, none⟩ = some (.slice A1_1 l1_1.length c1_1) := (blk_cell BK117.out 1).trans rfl; have hfz10_0 := blk_frozen BK117.out 0; have hfz10_1 := blk_frozen BK117.out 1) | ((with_reducible refine gate_callee (f := 49) rfl ?_); refine goesL_ (some 14) rfl rfl Try.func49 (by kernel_rfl) rfl #[.slice A0_1 l0_1.length c0_1, .slice A1_1 l1_1.length c1_1] rfl Gv.lm ?_; (with_reducible refine (laws_eqCellS.calls k _ _ l0_1 _ _ l1_1 true _ ?side1 ?side2 ?side3 ?side4 A4.out).mono ?_); (case side1 => repeat (first | exact (Kd.C_below HR0_1.out HB.out) | (with_reducible refine Kd.C_alloc ?_ _) | (with_reducible refine Kd.C_drewN ?_ _) | (with_reducible refine Kd.C_drew ?_))); (case side2 => exact HC0_1.out); (case side3 => repeat (first | exact (Kd.C_below HR1_1.out HB.out) | (with_reducible refine Kd.C_alloc ?_ _) | (with_reducible refine Kd.C_drewN ?_ _) | (with_reducible refine Kd.C_drew ?_))); (case side4 => exact HC1_1.out); rintro e w11 ⟨rfl, hb⟩; refine ⟨_, rfl, ?_⟩; replace BK116 := Gv.a0 (Gv.bb BK116.out hb); replace BK117 := Gv.a0 (Gv.bb BK117.out hb); replace HB := Gv.a0 (below_step Gv.bw hb); clear hb))
   go_ret
   exact ⟨Gv.rt, Gv.bw⟩
  ·replace c5 := Bool.eq_false_iff.mpr c5
   subst c5
   have H1 : (none) = some r := by rw [if_neg (show ¬ (false = true) by decide)] at H; exact H
   clear H
   have H := H1
   clear H1
   exact absurd H (by simp)
 ·rw [if_neg c3] at H
  exact absurd H (by simp)

/-! ### laws_markCellS: function 50 -/
def laws_markCellS.f (l0 : List (S75)) (a1 : Int) : Option (Int × (List (S75))) := some (Gv.stepN (Gv.stepN Gv.nx 16) l0.length a1, Gv.mkL (fun a : Int => (⟨(Int.tmod (Gv.stepN Gv.nx 0 a) 3 == 0), (⟨(Gv.stepN Gv.nx 1 a), (⟨(⟨(Gv.stepN Gv.nx 2 a), (Gv.stepN Gv.nx 3 a), (Gv.stepN Gv.nx 4 a), (Gv.stepN Gv.nx 5 a), (Gv.stepN Gv.nx 6 a)⟩ : S29), (⟨(Gv.stepN Gv.nx 7 a), (Gv.stepN Gv.nx 8 a), (Gv.stepN Gv.nx 9 a), (Gv.stepN Gv.nx 10 a), (Gv.stepN Gv.nx 11 a)⟩ : S29), (Gv.stepN Gv.nx 12 a), (Gv.stepN Gv.nx 13 a), (Gv.stepN Gv.nx 14 a)⟩ : S31)⟩ : S33), (Gv.stepN Gv.nx 15 a)⟩ : S75)) (Gv.stepN Gv.nx 16) l0.length a1)
set_option maxHeartbeats 8000000 in
set_option maxRecDepth 100000 in
theorem laws_markCellS.calls (P0_ : Nat → Prop) (u9000_ : Value) (l0 : List (S75)) (a1 : Int) (r1 : Int) (r2 : List (S75)) (w0 w : World) (hB : Below w0.heap.size w0 w) (ho0 : Kd.R k75 75 w w0.heap.size P0_ u9000_ l0) (h : laws_markCellS.f l0 a1 = some (r1, r2)) :
  Calls Try.prog 50 #[u9000_, .int .i64 a1] w fun e w' => e = .returned (.int .i64 r1) ∧ Kd.R k75 75 w' w0.heap.size (fun k_ => (P0_ k_ ∨ w.heap.size ≤ k_)) u9000_ r2 ∧ Below w0.heap.size w0 w' ∧ Kept w w' (fun k_ => P0_ k_) := by
 obtain ⟨rfl, rfl⟩ := Prod.mk.inj (Option.some.inj h)
 clear h
 obtain ⟨hok, inner, ⟨hlen, ho⟩, hrep⟩ := ho0
 rcases ho with ⟨rfl, hz⟩ | ⟨g, cap, cur, rfl, hbase, hg, hnc, hcm, hsz, htk⟩
 ·have hl : l0 = [] := List.length_eq_zero_iff.1 hz
  subst hl
  have HB := Gv.a0 hB
  clear hrep hok hlen hB
  go_enter Try.func50, Try.ntmps50
  go_wp2
  go_loopg [1, 5] 0 (fun gg s1 s5 wr => s1 = .int .i64 a1 ∧ s5 = .int .i64 0 ∧ wr = w)
  case atStart => exact ⟨rfl, rfl, rfl⟩
  case round =>
   obtain ⟨rfl, rfl, rfl⟩ := hrel
   go_wp2_with fail
   go_ret
   exact ⟨rfl, Kd.R_nil _ _ _ _ _, HB.out, Kept.refl _ _⟩
 ·have hS : l0.length * 16 ≤ cap * 16 := Nat.mul_le_mul_right _ hnc
  have hN : inner.length = l0.length * 16 := hlen
  have hP : P0_ g := hok g rfl
  have hle : w0.heap.size ≤ g := hbase
  have hcap : cap ≤ 9223372036854775807 := by
   unfold maxLen at hcm
   omega
  have HM0 := Gv.a0 (show Gv.MK w0 w g 75 (l0.length * 16) (cap * 16) inner w [] 0 from ⟨rfl, ⟨cur, hg, hsz, htk⟩, fun _ _ => rfl, hB, Nat.le_refl _⟩)
  have HF := Gv.a0 (And.intro hnc (And.intro hcm hP))
  clear hok hlen hrep hbase hg hcm hsz htk hB hP hnc
  go_enter Try.func50, Try.ntmps50
  go_wp2
  go_loopg [1, 5] l0.length (fun gg s1 s5 wr => ∃ kk : Nat, kk ≤ l0.length ∧ l0.length - kk ≤ gg ∧ s1 = .int .i64 (Gv.stepN (Gv.stepN Gv.nx 16) kk a1) ∧ s5 = .int .i64 kk ∧ Aside0 (Gv.MK w0 w g 75 (l0.length * 16) (cap * 16) inner wr ((Gv.mkL (fun a : Int => (⟨(Int.tmod (Gv.stepN Gv.nx 0 a) 3 == 0), (⟨(Gv.stepN Gv.nx 1 a), (⟨(⟨(Gv.stepN Gv.nx 2 a), (Gv.stepN Gv.nx 3 a), (Gv.stepN Gv.nx 4 a), (Gv.stepN Gv.nx 5 a), (Gv.stepN Gv.nx 6 a)⟩ : S29), (⟨(Gv.stepN Gv.nx 7 a), (Gv.stepN Gv.nx 8 a), (Gv.stepN Gv.nx 9 a), (Gv.stepN Gv.nx 10 a), (Gv.stepN Gv.nx 11 a)⟩ : S29), (Gv.stepN Gv.nx 12 a), (Gv.stepN Gv.nx 13 a), (Gv.stepN Gv.nx 14 a)⟩ : S31)⟩ : S33), (Gv.stepN Gv.nx 15 a)⟩ : S75)) (Gv.stepN Gv.nx 16) kk a1).flatMap (fun x : S75 => ([.bool x.f0, .int .i64 x.f1.f0, .int .i64 x.f1.f1.f0.f0, .int .i64 x.f1.f1.f0.f1, .int .i64 x.f1.f1.f0.f2, .int .i64 x.f1.f1.f0.f3, .int .i64 x.f1.f1.f0.f4, .int .i64 x.f1.f1.f1.f0, .int .i64 x.f1.f1.f1.f1, .int .i64 x.f1.f1.f1.f2, .int .i64 x.f1.f1.f1.f3, .int .i64 x.f1.f1.f1.f4, .int .i64 x.f1.f1.f2, .int .i64 x.f1.f1.f3, .int .i64 x.f1.f1.f4, .int .i64 x.f2] : List Value))) (kk * 16)))
  case atStart => exact ⟨0, Nat.zero_le _, by omega, rfl, rfl, ⟨HM0.out⟩⟩
  case round =>
   obtain ⟨kk, hkk, hgg, rfl, rfl, HM⟩ := hrel
   obtain ⟨x_, hx_⟩ : ∃ x_, x_ = Gv.stepN (Gv.stepN Gv.nx 16) kk a1 := ⟨_, rfl⟩
   rw [← hx_]
   obtain ⟨done, hd_⟩ : ∃ d_, d_ = (Gv.mkL (fun a : Int => (⟨(Int.tmod (Gv.stepN Gv.nx 0 a) 3 == 0), (⟨(Gv.stepN Gv.nx 1 a), (⟨(⟨(Gv.stepN Gv.nx 2 a), (Gv.stepN Gv.nx 3 a), (Gv.stepN Gv.nx 4 a), (Gv.stepN Gv.nx 5 a), (Gv.stepN Gv.nx 6 a)⟩ : S29), (⟨(Gv.stepN Gv.nx 7 a), (Gv.stepN Gv.nx 8 a), (Gv.stepN Gv.nx 9 a), (Gv.stepN Gv.nx 10 a), (Gv.stepN Gv.nx 11 a)⟩ : S29), (Gv.stepN Gv.nx 12 a), (Gv.stepN Gv.nx 13 a), (Gv.stepN Gv.nx 14 a)⟩ : S31)⟩ : S33), (Gv.stepN Gv.nx 15 a)⟩ : S75)) (Gv.stepN Gv.nx 16) kk a1).flatMap (fun x : S75 => ([.bool x.f0, .int .i64 x.f1.f0, .int .i64 x.f1.f1.f0.f0, .int .i64 x.f1.f1.f0.f1, .int .i64 x.f1.f1.f0.f2, .int .i64 x.f1.f1.f0.f3, .int .i64 x.f1.f1.f0.f4, .int .i64 x.f1.f1.f1.f0, .int .i64 x.f1.f1.f1.f1, .int .i64 x.f1.f1.f1.f2, .int .i64 x.f1.f1.f1.f3, .int .i64 x.f1.f1.f1.f4, .int .i64 x.f1.f1.f2, .int .i64 x.f1.f1.f3, .int .i64 x.f1.f1.f4, .int .i64 x.f2] : List Value)) := ⟨_, rfl⟩
   rw [← hd_] at HM
   have HX := Gv.a0 hx_
   have HD := Gv.a0 hd_
   clear hx_ hd_
   by_cases hlt : kk < l0.length
   ·have hltz : (kk : Int) < (l0.length : Int) := by omega
    have hk0 : 0 ≤ (kk : Int) := by omega
    go_wp2_with (first | ((with_reducible refine gate_store (t := 3) rfl ?_); refine Gv.mark_event rfl rfl rfl rfl rfl (.inl ⟨_, _, rfl⟩) (by kernel_rfl) HM.out hS hN (by omega) (by omega) hle ?_; intro wm hM; have HM' := Gv.a0 hM; clear hM HM; have HM := HM'; clear HM') | ((with_reducible refine gate_store (t := 4) rfl ?_); refine Gv.mark_event rfl rfl rfl rfl rfl (.inr ⟨_, rfl⟩) (by kernel_rfl) HM.out hS hN (by omega) (by omega) hle ?_; intro wm hM; have HM' := Gv.a0 hM; clear hM HM; have HM := HM'; clear HM'))
    go_roundg (l0.length - (kk + 1))
    case measure => omega
    case rel =>
     refine ⟨kk + 1, by omega, by omega, by rw [Gv.stepN, ← HX.out]; rfl, by go_num, ⟨?_⟩⟩
     have hm := HM.out
     rw [HD.out] at hm
     rw [Gv.mkL, List.flatMap_append, ← HX.out, Nat.succ_mul]
     simp only [List.append_assoc, List.cons_append, List.nil_append] at hm
     exact hm
   ·have hk : kk = l0.length := by omega
    have hltz : ¬ (kk : Int) < (l0.length : Int) := by omega
    have HK := Gv.a0 hk
    clear hk
    go_wp2_with fail
    go_ret
    obtain ⟨h1, ⟨cur, h2, h3, h4⟩, h5, h6, h7⟩ := HM.out
    have hk := HK.out
    subst hk
    rw [HX.out]
    rw [HD.out, List.drop_eq_nil_of_le (by omega), List.append_nil] at h4
    refine ⟨rfl, ⟨fun k hk => ?_, _, ⟨?_, .inr ⟨g, cap, cur, ?_, hle, h2, ?_, HF.out.2.1, h3, ?_⟩⟩, Gv.mkL_reps _ _ _ (fun x => k75_mkM _ _ _ x) (fun _ => rfl) _⟩, h6, h7, fun i hi hni => h5 i (fun e => hni (by rw [e]; exact HF.out.2.2))⟩
    ·have : g = k := by simpa [Value.ownBlock] using hk
     subst this
     exact .inl HF.out.2.2
    ·rw [← HD.out, h1, Gv.mkL_length]; rfl
    ·rw [Gv.mkL_length]
    ·rw [Gv.mkL_length]; exact HF.out.1
    ·rw [Gv.mkL_length]; exact h4

/-! ### laws_markTable: function 21 -/
def laws_markTable.f (a0_0 : Int) (l0_1 : List (S75)) (a1 : Int) : Option (Int × (List (S75))) := (laws_markCellS.f l0_1 a1).bind fun bt121 => (some (bt121.1, bt121.2))
set_option maxHeartbeats 8000000 in
set_option maxRecDepth 100000 in
theorem laws_markTable.calls (a0_0 : Int) (P0_1_ : Nat → Prop) (u9000_ : Value) (l0_1 : List (S75)) (a1 : Int) (r1 : Int) (r2 : List (S75)) (w0 w : World) (hB : Below w0.heap.size w0 w) (ho0_1 : Kd.R k75 75 w w0.heap.size P0_1_ u9000_ l0_1) (h : laws_markTable.f a0_0 l0_1 a1 = some (r1, r2)) :
  Calls Try.prog 21 #[.agg #[.int .i64 a0_0, u9000_], .int .i64 a1] w fun e w' => e = .returned (.int .i64 r1) ∧ Kd.R k75 75 w' w0.heap.size (fun k_ => (P0_1_ k_ ∨ w.heap.size ≤ k_)) u9000_ r2 ∧ Below w0.heap.size w0 w' ∧ Kept w w' (fun k_ => P0_1_ k_) := by
 have hu40 := Try.underlying40
 have HO0_1 := Gv.a0 (show Kd.R k75 75 w w0.heap.size (fun k_ => (P0_1_ k_ ∨ w.heap.size ≤ k_)) u9000_ l0_1 from Kd.R_mono ho0_1 (fun k_ hk => (.inl hk)))
 have HK := Gv.a0 (Kept.refl w (fun k_ => P0_1_ k_))
 have HW0 := Gv.a0 hB.size
 have HB := Gv.a0 hB
 clear hB
 have H : ((laws_markCellS.f l0_1 a1).bind fun bt121 => (some (bt121.1, bt121.2))) = some (r1, r2) := h
 clear h
 replace H := Option.bind_eq_some_iff.mp H
 obtain ⟨⟨t121, t122⟩, A30, H⟩ := H
 replace H : (some (t121, t122)) = some (r1, r2) := H
 have A3 := Gv.a0 A30
 clear A30
 simp only [Option.some.injEq, Prod.mk.injEq] at H
 obtain ⟨rfl, rfl⟩ := H
 obtain ⟨Ao4, co4, eo4⟩ := Kd.R_slice HO0_1.out
 subst eo4
 go_enter Try.func21, Try.ntmps21
 go_wp2_with (first | ((with_reducible refine gate_dst (N := 2) rfl ?_); refine box_event ?hg (N := 2) ?hd (cs := #[.int .i64 a0_0, .slice Ao4 l0_1.length co4]) (t := 40) ?hr ?_; (case hd => rfl); (case hg => rfl); (case hr => first | (go_simp; done) | (go_simp; rfl)); intro gb120 hg w5 hbox hb; replace HO0_1 := Gv.a0 (Kd.R_below (Gv.kr HO0_1.out) hb); have BK120 := Gv.a0 (hbox); have GW120 := Gv.a0 ((by rw [hg]; exact (by first | exact HK.out.1 | exact (show Kept w _ (fun k_ => P0_1_ k_) from by repeat (first | (with_reducible first | exact HK.out | apply Kept.alloc | apply Kept.drewN | apply Kept.drew) | exact HK.out)).1) : w.heap.size ≤ gb120)); replace HK := Gv.a0 (Kept.below (S := (fun k_ => P0_1_ k_)) (by repeat (first | (with_reducible first | exact HK.out | apply Kept.alloc | apply Kept.drewN | apply Kept.drew) | exact HK.out)) hb); have GE120 := Gv.a0 ((Gv.ble hg Gv.bw : w0.heap.size ≤ gb120)); replace HB := Gv.a0 (below_step Gv.bw hb); clear hb hbox hg; have hcz6_0 : w5.cell? ⟨gb120, 0, none⟩ = some (.int .i64 a0_0) := (blk_cell BK120.out 0).trans rfl; have hcz6_1 : w5.cell? ⟨gb120, 1, none⟩ = some (.slice Ao4 l0_1.length co4) := (blk_cell BK120.out 1).trans rfl; have hfz6_0 := blk_frozen BK120.out 0; have hfz6_1 := blk_frozen BK120.out 1) | ((with_reducible refine gate_callee (f := 50) rfl ?_); refine goesL_ (some 8) rfl rfl Try.func50 (by kernel_rfl) rfl #[.slice Ao4 l0_1.length co4, .int .i64 a1] rfl Gv.lm ?_; (with_reducible refine (laws_markCellS.calls (fun k_ => some k_ = (.slice Ao4 l0_1.length co4 : Value).ownBlock) (.slice Ao4 l0_1.length co4) l0_1 a1 t121 t122 w0 _ ?side1 ?side2 A3.out).mono ?_); (case side1 => repeat (first | (with_reducible first | exact HB.out | apply below_alloc | apply pw_below_drewN | apply below_drew1 | refine below_set ?_ GE120.out) | exact HB.out)); (case side2 => exact Kd.R_tight rfl HO0_1.out); rintro e w7 ⟨rfl, hy0, hb, hkp⟩; refine ⟨_, rfl, ?_⟩; replace BK120 := Gv.a0 (blk_kept Gv.bk hkp (fun hs_ => (fun e_ => (Kd.R_ne HO0_1.out BK120.out (by decide)) e_) hs_)); replace HK := Gv.a0 (Kept.then_ (S := (fun k_ => P0_1_ k_)) (by repeat (first | (with_reducible first | exact HK.out | apply Kept.alloc | apply Kept.drewN | apply Kept.drew | refine Kept.setCell ?_ (.inr GW120.out) _) | exact HK.out)) hkp (fun k_ hs_ => (fun e_ => (HO0_1.out.1 k_ e_.symm)) hs_)); replace HO0_1 := Gv.a0 (Kd.R_reok rfl hy0 (fun k_ e_ => HO0_1.out.1 k_ e_)); replace HB := Gv.a0 (hb); clear hb; (try clear hkp); (try clear hy0)))
 go_ret
 exact ⟨Gv.rt, Gv.kr HO0_1.out, Gv.bw, by repeat (first | (with_reducible first | exact HK.out | apply Kept.alloc | apply Kept.drewN | apply Kept.drew | refine Kept.setCell ?_ (.inr GW120.out) _) | exact HK.out)⟩

/-! ### laws_heldCellS: function 51 -/
def laws_heldCellS.f (l0 : List (S75)) (a1 : Int) : Option (Int) := Gv.heldL (fun (x : S75) (a : Int) => (x.f0 == (Int.tmod (Gv.stepN Gv.nx 0 a) 3 == 0)) && (decide (x.f1.f0 = Gv.stepN Gv.nx 1 a) && (decide (x.f1.f1.f0.f0 = Gv.stepN Gv.nx 2 a) && (decide (x.f1.f1.f0.f1 = Gv.stepN Gv.nx 3 a) && (decide (x.f1.f1.f0.f2 = Gv.stepN Gv.nx 4 a) && (decide (x.f1.f1.f0.f3 = Gv.stepN Gv.nx 5 a) && (decide (x.f1.f1.f0.f4 = Gv.stepN Gv.nx 6 a) && (decide (x.f1.f1.f1.f0 = Gv.stepN Gv.nx 7 a) && (decide (x.f1.f1.f1.f1 = Gv.stepN Gv.nx 8 a) && (decide (x.f1.f1.f1.f2 = Gv.stepN Gv.nx 9 a) && (decide (x.f1.f1.f1.f3 = Gv.stepN Gv.nx 10 a) && (decide (x.f1.f1.f1.f4 = Gv.stepN Gv.nx 11 a) && (decide (x.f1.f1.f2 = Gv.stepN Gv.nx 12 a) && (decide (x.f1.f1.f3 = Gv.stepN Gv.nx 13 a) && (decide (x.f1.f1.f4 = Gv.stepN Gv.nx 14 a) && (decide (x.f2 = Gv.stepN Gv.nx 15 a))))))))))))))))) (Gv.stepN Gv.nx 16) l0 a1
set_option maxHeartbeats 8000000 in
set_option maxRecDepth 100000 in
theorem laws_heldCellS.calls (A0 : Option Addr) (c0 : Nat) (l0 : List (S75)) (a1 : Int) (r : Int) (w : World) (hr0 : Kd.C k75 w A0 l0.length l0) (hc0 : l0.length ≤ c0) (h : laws_heldCellS.f l0 a1 = some r) :
  Calls Try.prog 51 #[.slice A0 l0.length c0, .int .i64 a1] w fun e w' => e = .returned (.int .i64 r) ∧ Below w.heap.size w w' := by
 have hlm := hr0.2.1
 have HR0 := Gv.a0 hr0
 have H0 := Gv.a0 h
 clear hr0 h hc0
 go_enter Try.func51, Try.ntmps51
 go_wp2
 go_loopg [1, 5] l0.length (fun gg s1 s5 wr => ∃ (kk : Nat) (x_ : Int), kk ≤ l0.length ∧ l0.length - kk ≤ gg ∧ s1 = .int .i64 x_ ∧ s5 = .int .i64 kk ∧ Aside0 (Gv.heldL (fun (x : S75) (a : Int) => (x.f0 == (Int.tmod (Gv.stepN Gv.nx 0 a) 3 == 0)) && (decide (x.f1.f0 = Gv.stepN Gv.nx 1 a) && (decide (x.f1.f1.f0.f0 = Gv.stepN Gv.nx 2 a) && (decide (x.f1.f1.f0.f1 = Gv.stepN Gv.nx 3 a) && (decide (x.f1.f1.f0.f2 = Gv.stepN Gv.nx 4 a) && (decide (x.f1.f1.f0.f3 = Gv.stepN Gv.nx 5 a) && (decide (x.f1.f1.f0.f4 = Gv.stepN Gv.nx 6 a) && (decide (x.f1.f1.f1.f0 = Gv.stepN Gv.nx 7 a) && (decide (x.f1.f1.f1.f1 = Gv.stepN Gv.nx 8 a) && (decide (x.f1.f1.f1.f2 = Gv.stepN Gv.nx 9 a) && (decide (x.f1.f1.f1.f3 = Gv.stepN Gv.nx 10 a) && (decide (x.f1.f1.f1.f4 = Gv.stepN Gv.nx 11 a) && (decide (x.f1.f1.f2 = Gv.stepN Gv.nx 12 a) && (decide (x.f1.f1.f3 = Gv.stepN Gv.nx 13 a) && (decide (x.f1.f1.f4 = Gv.stepN Gv.nx 14 a) && (decide (x.f2 = Gv.stepN Gv.nx 15 a))))))))))))))))) (Gv.stepN Gv.nx 16) (l0.drop kk) x_ = some r) ∧ Aside0 (Drawn0 w wr))
 case atStart => exact ⟨0, a1, Nat.zero_le _, by omega, rfl, rfl, ⟨H0.out⟩, ⟨Drawn0.refl w⟩⟩
 case round =>
  obtain ⟨kk, z0, hkk, hg, rfl, rfl, HN, HD⟩ := hrel
  by_cases hlt : kk < l0.length
  ·have hltz : (kk : Int) < (l0.length : Int) := by omega
   have hk0 : 0 ≤ (kk : Int) := by omega
   obtain ⟨ad, e1, hx0, hx1, hx2, hx3, hx4, hx5, hx6, hx7, hx8, hx9, hx10, hx11, hx12, hx13, hx14, hx15⟩ := at_T75 (Kd.C_below HR0.out HD.out.below) (kk : Int) hk0 hltz
   cases e1
   obtain ⟨y_, hy_⟩ : ∃ y_, y_ = rd_T75 l0 kk := ⟨_, rfl⟩
   rw [← hy_, Int.toNat_natCast] at hx0 hx1 hx2 hx3 hx4 hx5 hx6 hx7 hx8 hx9 hx10 hx11 hx12 hx13 hx14 hx15
   have hN := HN.out
   have hget : l0.drop kk = y_ :: l0.drop (kk + 1) := by
    rw [hy_, List.drop_eq_getElem_cons hlt]
    congr 1
    unfold rd_T75
    rw [Int.toNat_natCast, List.getD_eq_getElem?_getD, List.getElem?_eq_getElem hlt]
    rfl
   rw [hget, Gv.heldL] at hN
   clear hget hy_ HN
   by_cases hq : (fun (x : S75) (a : Int) => (x.f0 == (Int.tmod (Gv.stepN Gv.nx 0 a) 3 == 0)) && (decide (x.f1.f0 = Gv.stepN Gv.nx 1 a) && (decide (x.f1.f1.f0.f0 = Gv.stepN Gv.nx 2 a) && (decide (x.f1.f1.f0.f1 = Gv.stepN Gv.nx 3 a) && (decide (x.f1.f1.f0.f2 = Gv.stepN Gv.nx 4 a) && (decide (x.f1.f1.f0.f3 = Gv.stepN Gv.nx 5 a) && (decide (x.f1.f1.f0.f4 = Gv.stepN Gv.nx 6 a) && (decide (x.f1.f1.f1.f0 = Gv.stepN Gv.nx 7 a) && (decide (x.f1.f1.f1.f1 = Gv.stepN Gv.nx 8 a) && (decide (x.f1.f1.f1.f2 = Gv.stepN Gv.nx 9 a) && (decide (x.f1.f1.f1.f3 = Gv.stepN Gv.nx 10 a) && (decide (x.f1.f1.f1.f4 = Gv.stepN Gv.nx 11 a) && (decide (x.f1.f1.f2 = Gv.stepN Gv.nx 12 a) && (decide (x.f1.f1.f3 = Gv.stepN Gv.nx 13 a) && (decide (x.f1.f1.f4 = Gv.stepN Gv.nx 14 a) && (decide (x.f2 = Gv.stepN Gv.nx 15 a))))))))))))))))) y_ z0 = true
   ·rw [if_pos hq] at hN
    simp only [Bool.and_eq_true, decide_eq_true_eq, beq_iff_eq] at hq
    obtain ⟨q0, q1, q2, q3, q4, q5, q6, q7, q8, q9, q10, q11, q12, q13, q14, q15⟩ := hq
    have e0 : Gv.stepN Gv.nx 0 z0 = z0 := rfl
    obtain ⟨z1, hw1⟩ : ∃ z_, IntKind.i64.wrap (z0 + 1) = z_ := ⟨_, rfl⟩
    have e1 : Gv.stepN Gv.nx 1 z0 = z1 := by rw [Gv.stepN, e0]; first | exact hw1 | exact (i64_w _).symm.trans hw1
    obtain ⟨z2, hw2⟩ : ∃ z_, IntKind.i64.wrap (z1 + 1) = z_ := ⟨_, rfl⟩
    have e2 : Gv.stepN Gv.nx 2 z0 = z2 := by rw [Gv.stepN, e1]; first | exact hw2 | exact (i64_w _).symm.trans hw2
    obtain ⟨z3, hw3⟩ : ∃ z_, IntKind.i64.wrap (z2 + 1) = z_ := ⟨_, rfl⟩
    have e3 : Gv.stepN Gv.nx 3 z0 = z3 := by rw [Gv.stepN, e2]; first | exact hw3 | exact (i64_w _).symm.trans hw3
    obtain ⟨z4, hw4⟩ : ∃ z_, IntKind.i64.wrap (z3 + 1) = z_ := ⟨_, rfl⟩
    have e4 : Gv.stepN Gv.nx 4 z0 = z4 := by rw [Gv.stepN, e3]; first | exact hw4 | exact (i64_w _).symm.trans hw4
    obtain ⟨z5, hw5⟩ : ∃ z_, IntKind.i64.wrap (z4 + 1) = z_ := ⟨_, rfl⟩
    have e5 : Gv.stepN Gv.nx 5 z0 = z5 := by rw [Gv.stepN, e4]; first | exact hw5 | exact (i64_w _).symm.trans hw5
    obtain ⟨z6, hw6⟩ : ∃ z_, IntKind.i64.wrap (z5 + 1) = z_ := ⟨_, rfl⟩
    have e6 : Gv.stepN Gv.nx 6 z0 = z6 := by rw [Gv.stepN, e5]; first | exact hw6 | exact (i64_w _).symm.trans hw6
    obtain ⟨z7, hw7⟩ : ∃ z_, IntKind.i64.wrap (z6 + 1) = z_ := ⟨_, rfl⟩
    have e7 : Gv.stepN Gv.nx 7 z0 = z7 := by rw [Gv.stepN, e6]; first | exact hw7 | exact (i64_w _).symm.trans hw7
    obtain ⟨z8, hw8⟩ : ∃ z_, IntKind.i64.wrap (z7 + 1) = z_ := ⟨_, rfl⟩
    have e8 : Gv.stepN Gv.nx 8 z0 = z8 := by rw [Gv.stepN, e7]; first | exact hw8 | exact (i64_w _).symm.trans hw8
    obtain ⟨z9, hw9⟩ : ∃ z_, IntKind.i64.wrap (z8 + 1) = z_ := ⟨_, rfl⟩
    have e9 : Gv.stepN Gv.nx 9 z0 = z9 := by rw [Gv.stepN, e8]; first | exact hw9 | exact (i64_w _).symm.trans hw9
    obtain ⟨z10, hw10⟩ : ∃ z_, IntKind.i64.wrap (z9 + 1) = z_ := ⟨_, rfl⟩
    have e10 : Gv.stepN Gv.nx 10 z0 = z10 := by rw [Gv.stepN, e9]; first | exact hw10 | exact (i64_w _).symm.trans hw10
    obtain ⟨z11, hw11⟩ : ∃ z_, IntKind.i64.wrap (z10 + 1) = z_ := ⟨_, rfl⟩
    have e11 : Gv.stepN Gv.nx 11 z0 = z11 := by rw [Gv.stepN, e10]; first | exact hw11 | exact (i64_w _).symm.trans hw11
    obtain ⟨z12, hw12⟩ : ∃ z_, IntKind.i64.wrap (z11 + 1) = z_ := ⟨_, rfl⟩
    have e12 : Gv.stepN Gv.nx 12 z0 = z12 := by rw [Gv.stepN, e11]; first | exact hw12 | exact (i64_w _).symm.trans hw12
    obtain ⟨z13, hw13⟩ : ∃ z_, IntKind.i64.wrap (z12 + 1) = z_ := ⟨_, rfl⟩
    have e13 : Gv.stepN Gv.nx 13 z0 = z13 := by rw [Gv.stepN, e12]; first | exact hw13 | exact (i64_w _).symm.trans hw13
    obtain ⟨z14, hw14⟩ : ∃ z_, IntKind.i64.wrap (z13 + 1) = z_ := ⟨_, rfl⟩
    have e14 : Gv.stepN Gv.nx 14 z0 = z14 := by rw [Gv.stepN, e13]; first | exact hw14 | exact (i64_w _).symm.trans hw14
    obtain ⟨z15, hw15⟩ : ∃ z_, IntKind.i64.wrap (z14 + 1) = z_ := ⟨_, rfl⟩
    have e15 : Gv.stepN Gv.nx 15 z0 = z15 := by rw [Gv.stepN, e14]; first | exact hw15 | exact (i64_w _).symm.trans hw15
    obtain ⟨z16, hw16⟩ : ∃ z_, IntKind.i64.wrap (z15 + 1) = z_ := ⟨_, rfl⟩
    have e16 : Gv.stepN Gv.nx 16 z0 = z16 := by rw [Gv.stepN, e15]; first | exact hw16 | exact (i64_w _).symm.trans hw16
    rw [q0, e0] at hx0
    rw [q1, e1] at hx1
    rw [q2, e2] at hx2
    rw [q3, e3] at hx3
    rw [q4, e4] at hx4
    rw [q5, e5] at hx5
    rw [q6, e6] at hx6
    rw [q7, e7] at hx7
    rw [q8, e8] at hx8
    rw [q9, e9] at hx9
    rw [q10, e10] at hx10
    rw [q11, e11] at hx11
    rw [q12, e12] at hx12
    rw [q13, e13] at hx13
    rw [q14, e14] at hx14
    rw [q15, e15] at hx15
    rw [e16] at hN
    have HN2 := Gv.a0 hN
    clear hN q0 q1 q2 q3 q4 q5 q6 q7 q8 q9 q10 q11 q12 q13 q14 q15
    go_wp2_with fail
    go_roundg (l0.length - (kk + 1))
    case measure => omega
    case rel => exact ⟨kk + 1, z16, by omega, by omega, by simp [*], by go_num, HN2, HD⟩
   ·rw [if_neg hq] at hN
    cases hN
  ·have hltz : ¬ (kk : Int) < (l0.length : Int) := by omega
   have hN := HN.out
   rw [List.drop_eq_nil_of_le (by omega), Gv.heldL] at hN
   have HN2 := Gv.a0 (Option.some.inj hN)
   clear hN
   go_wp2_with fail
   go_ret
   exact ⟨by rw [← HN2.out]; rfl, by first | exact HD.out | exact HD.out.below⟩

/-! ### laws_heldTable: function 22 -/
def laws_heldTable.f (a0_0 : Int) (l0_1 : List (S75)) (a1 : Int) : Option (Int) := (laws_heldCellS.f l0_1 a1).bind fun t124 => (if t124 < 0 then (some (-1)) else (some t124))
set_option maxHeartbeats 8000000 in
set_option maxRecDepth 100000 in
theorem laws_heldTable.calls (a0_0 : Int) (A0_1 : Option Addr) (c0_1 : Nat) (l0_1 : List (S75)) (a1 : Int) (r : Int) (w : World) (hr0_1 : Kd.C k75 w A0_1 l0_1.length l0_1) (hc0_1 : l0_1.length ≤ c0_1) (h : laws_heldTable.f a0_0 l0_1 a1 = some r) :
  Calls Try.prog 22 #[.agg #[.int .i64 a0_0, .slice A0_1 l0_1.length c0_1], .int .i64 a1] w fun e w' => e = .returned (.int .i64 r) ∧ Below w.heap.size w w' := by
 have hu40 := Try.underlying40
 have HR0_1 := Gv.a0 hr0_1
 have HC0_1 := Gv.a0 hc0_1
 clear hr0_1 hc0_1
 have HB := Gv.a0 (Below.refl w.heap.size w)
 have H : ((laws_heldCellS.f l0_1 a1).bind fun t124 => (if t124 < 0 then (some (-1)) else (some t124))) = some r := h
 clear h
 replace H := Option.bind_eq_some_iff.mp H
 obtain ⟨t124, A30, H⟩ := H
 replace H : (if t124 < 0 then (some (-1)) else (some t124)) = some r := H
 have A3 := Gv.a0 A30
 clear A30
 by_cases c4 : t124 < 0
 ·rw [if_pos c4] at H
  have c4b0 : decide (t124 < 0) = true := decide_eq_true c4
  clear c4
  obtain rfl := Option.some.inj H
  go_enter Try.func22, Try.ntmps22
  go_wp2_with (first | ((with_reducible refine gate_dst (N := 2) rfl ?_); refine box_event ?hg (N := 2) ?hd (cs := #[.int .i64 a0_0, .slice A0_1 l0_1.length c0_1]) (t := 40) ?hr ?_; (case hd => rfl); (case hg => rfl); (case hr => first | (go_simp; done) | (go_simp; rfl)); intro gb123 hg w5 hbox hb; have BK123 := Gv.a0 (hbox); have GW123 := Gv.a0 ((Gv.ble hg Gv.bw : w.heap.size ≤ gb123)); have GE123 := Gv.a0 ((Gv.ble hg Gv.bw : w.heap.size ≤ gb123)); replace HB := Gv.a0 (below_step Gv.bw hb); clear hb hbox hg; have hcz6_0 : w5.cell? ⟨gb123, 0, none⟩ = some (.int .i64 a0_0) := (blk_cell BK123.out 0).trans rfl; have hcz6_1 : w5.cell? ⟨gb123, 1, none⟩ = some (.slice A0_1 l0_1.length c0_1) := (blk_cell BK123.out 1).trans rfl; have hfz6_0 := blk_frozen BK123.out 0; have hfz6_1 := blk_frozen BK123.out 1) | ((with_reducible refine gate_callee (f := 51) rfl ?_); refine goesL_ (some 8) rfl rfl Try.func51 (by kernel_rfl) rfl #[.slice A0_1 l0_1.length c0_1, .int .i64 a1] rfl Gv.lm ?_; (with_reducible refine (laws_heldCellS.calls _ _ l0_1 a1 t124 _ ?side1 ?side2 A3.out).mono ?_); (case side1 => repeat (first | exact (Kd.C_below HR0_1.out HB.out) | (with_reducible refine Kd.C_alloc ?_ _) | (with_reducible refine Kd.C_drewN ?_ _) | (with_reducible refine Kd.C_drew ?_))); (case side2 => exact HC0_1.out); rintro e w7 ⟨rfl, hb⟩; refine ⟨_, rfl, ?_⟩; replace BK123 := Gv.a0 (Gv.bb BK123.out hb); replace HB := Gv.a0 (below_step Gv.bw hb); clear hb))
  go_ret
  exact ⟨Gv.rt, Gv.bw⟩
 ·rw [if_neg c4] at H
  have c4b0 : decide (t124 < 0) = false := decide_eq_false c4
  clear c4
  obtain rfl := Option.some.inj H
  go_enter Try.func22, Try.ntmps22
  go_wp2_with (first | ((with_reducible refine gate_dst (N := 2) rfl ?_); refine box_event ?hg (N := 2) ?hd (cs := #[.int .i64 a0_0, .slice A0_1 l0_1.length c0_1]) (t := 40) ?hr ?_; (case hd => rfl); (case hg => rfl); (case hr => first | (go_simp; done) | (go_simp; rfl)); intro gb123 hg w8 hbox hb; have BK123 := Gv.a0 (hbox); have GW123 := Gv.a0 ((Gv.ble hg Gv.bw : w.heap.size ≤ gb123)); have GE123 := Gv.a0 ((Gv.ble hg Gv.bw : w.heap.size ≤ gb123)); replace HB := Gv.a0 (below_step Gv.bw hb); clear hb hbox hg; have hcz9_0 : w8.cell? ⟨gb123, 0, none⟩ = some (.int .i64 a0_0) := (blk_cell BK123.out 0).trans rfl; have hcz9_1 : w8.cell? ⟨gb123, 1, none⟩ = some (.slice A0_1 l0_1.length c0_1) := (blk_cell BK123.out 1).trans rfl; have hfz9_0 := blk_frozen BK123.out 0; have hfz9_1 := blk_frozen BK123.out 1) | ((with_reducible refine gate_callee (f := 51) rfl ?_); refine goesL_ (some 8) rfl rfl Try.func51 (by kernel_rfl) rfl #[.slice A0_1 l0_1.length c0_1, .int .i64 a1] rfl Gv.lm ?_; (with_reducible refine (laws_heldCellS.calls _ _ l0_1 a1 t124 _ ?side1 ?side2 A3.out).mono ?_); (case side1 => repeat (first | exact (Kd.C_below HR0_1.out HB.out) | (with_reducible refine Kd.C_alloc ?_ _) | (with_reducible refine Kd.C_drewN ?_ _) | (with_reducible refine Kd.C_drew ?_))); (case side2 => exact HC0_1.out); rintro e w10 ⟨rfl, hb⟩; refine ⟨_, rfl, ?_⟩; replace BK123 := Gv.a0 (Gv.bb BK123.out hb); replace HB := Gv.a0 (below_step Gv.bw hb); clear hb))
  go_ret
  exact ⟨Gv.rt, Gv.bw⟩

/-! ### laws_szCellS: function 52 -/
def laws_szCellS.f (l0 : List (S94)) (a1 : Int) : Option (Int) := if (wrap64 (a1 - (l0.length : Int))) < 0 then (some (-1)) else (some (wrap64 (a1 - (l0.length : Int))))
set_option maxHeartbeats 8000000 in
set_option maxRecDepth 100000 in
theorem laws_szCellS.calls (A0 : Option Addr) (c0 : Nat) (l0 : List (S94)) (a1 : Int) (r : Int) (w : World) (hr0 : Kd.C k94 w A0 l0.length l0) (hc0 : l0.length ≤ c0) (h : laws_szCellS.f l0 a1 = some r) :
  Calls Try.prog 52 #[.slice A0 l0.length c0, .int .i64 a1] w fun e w' => e = .returned (.int .i64 r) ∧ Drawn0 w w' := by
 have HR0 := Gv.a0 hr0
 have HC0 := Gv.a0 hc0
 clear hr0 hc0
 have H : (if (wrap64 (a1 - (l0.length : Int))) < 0 then (some (-1)) else (some (wrap64 (a1 - (l0.length : Int))))) = some r := h
 clear h
 by_cases c3 : (wrap64 (a1 - (l0.length : Int))) < 0
 ·rw [if_pos c3] at H
  have c3b0 : decide ((wrap64 (a1 - (l0.length : Int))) < 0) = true := decide_eq_true c3
  clear c3
  obtain rfl := Option.some.inj H
  go_enter Try.func52, Try.ntmps52
  go_wp2
  go_ret
  exact ⟨by first | rfl | (simp; done) | (simp [Int.tdiv_eq_ediv_of_nonneg]; done) | (simp [*]; done), by repeat (first | exact Drawn0.refl _ | apply Drawn0.step)⟩
 ·rw [if_neg c3] at H
  have c3b0 : decide ((wrap64 (a1 - (l0.length : Int))) < 0) = false := decide_eq_false c3
  clear c3
  obtain rfl := Option.some.inj H
  go_enter Try.func52, Try.ntmps52
  go_wp2
  go_ret
  exact ⟨by first | rfl | (simp; done) | (simp [Int.tdiv_eq_ediv_of_nonneg]; done) | (simp [*]; done), by repeat (first | exact Drawn0.refl _ | apply Drawn0.step)⟩

/-! ### laws_szTable: function 23 -/
def laws_szTable.f (a0_0 : Int) (l0_1 : List (S94)) (a1 : Int) : Option (Int) := (laws_szCellS.f l0_1 a1).bind fun t126 => (if t126 < 0 then (some (-1)) else (some t126))
set_option maxHeartbeats 8000000 in
set_option maxRecDepth 100000 in
theorem laws_szTable.calls (a0_0 : Int) (A0_1 : Option Addr) (c0_1 : Nat) (l0_1 : List (S94)) (a1 : Int) (r : Int) (w : World) (hr0_1 : Kd.C k94 w A0_1 l0_1.length l0_1) (hc0_1 : l0_1.length ≤ c0_1) (h : laws_szTable.f a0_0 l0_1 a1 = some r) :
  Calls Try.prog 23 #[.agg #[.int .i64 a0_0, .slice A0_1 l0_1.length c0_1], .int .i64 a1] w fun e w' => e = .returned (.int .i64 r) ∧ Below w.heap.size w w' := by
 have hu47 := Try.underlying47
 have HR0_1 := Gv.a0 hr0_1
 have HC0_1 := Gv.a0 hc0_1
 clear hr0_1 hc0_1
 have HB := Gv.a0 (Below.refl w.heap.size w)
 have H : ((laws_szCellS.f l0_1 a1).bind fun t126 => (if t126 < 0 then (some (-1)) else (some t126))) = some r := h
 clear h
 replace H := Option.bind_eq_some_iff.mp H
 obtain ⟨t126, A30, H⟩ := H
 replace H : (if t126 < 0 then (some (-1)) else (some t126)) = some r := H
 have A3 := Gv.a0 A30
 clear A30
 by_cases c4 : t126 < 0
 ·rw [if_pos c4] at H
  have c4b0 : decide (t126 < 0) = true := decide_eq_true c4
  clear c4
  obtain rfl := Option.some.inj H
  go_enter Try.func23, Try.ntmps23
  go_wp2_with (first | ((with_reducible refine gate_dst (N := 2) rfl ?_); refine box_event ?hg (N := 2) ?hd (cs := #[.int .i64 a0_0, .slice A0_1 l0_1.length c0_1]) (t := 47) ?hr ?_; (case hd => rfl); (case hg => rfl); (case hr => first | (go_simp; done) | (go_simp; rfl)); intro gb125 hg w5 hbox hb; have BK125 := Gv.a0 (hbox); have GW125 := Gv.a0 ((Gv.ble hg Gv.bw : w.heap.size ≤ gb125)); have GE125 := Gv.a0 ((Gv.ble hg Gv.bw : w.heap.size ≤ gb125)); replace HB := Gv.a0 (below_step Gv.bw hb); clear hb hbox hg; have hcz6_0 : w5.cell? ⟨gb125, 0, none⟩ = some (.int .i64 a0_0) := (blk_cell BK125.out 0).trans rfl; have hcz6_1 : w5.cell? ⟨gb125, 1, none⟩ = some (.slice A0_1 l0_1.length c0_1) := (blk_cell BK125.out 1).trans rfl; have hfz6_0 := blk_frozen BK125.out 0; have hfz6_1 := blk_frozen BK125.out 1) | ((with_reducible refine gate_callee (f := 52) rfl ?_); refine goesL_ (some 8) rfl rfl Try.func52 (by kernel_rfl) rfl #[.slice A0_1 l0_1.length c0_1, .int .i64 a1] rfl Gv.lm ?_; (with_reducible refine (laws_szCellS.calls _ _ l0_1 a1 t126 _ ?side1 ?side2 A3.out).mono ?_); (case side1 => repeat (first | exact (Kd.C_below HR0_1.out HB.out) | (with_reducible refine Kd.C_alloc ?_ _) | (with_reducible refine Kd.C_drewN ?_ _) | (with_reducible refine Kd.C_drew ?_))); (case side2 => exact HC0_1.out); rintro e w' ⟨rfl, ⟨nd, rfl⟩⟩; refine ⟨_, rfl, ?_⟩))
  go_ret
  exact ⟨Gv.rt, Gv.bw⟩
 ·rw [if_neg c4] at H
  have c4b0 : decide (t126 < 0) = false := decide_eq_false c4
  clear c4
  obtain rfl := Option.some.inj H
  go_enter Try.func23, Try.ntmps23
  go_wp2_with (first | ((with_reducible refine gate_dst (N := 2) rfl ?_); refine box_event ?hg (N := 2) ?hd (cs := #[.int .i64 a0_0, .slice A0_1 l0_1.length c0_1]) (t := 47) ?hr ?_; (case hd => rfl); (case hg => rfl); (case hr => first | (go_simp; done) | (go_simp; rfl)); intro gb125 hg w7 hbox hb; have BK125 := Gv.a0 (hbox); have GW125 := Gv.a0 ((Gv.ble hg Gv.bw : w.heap.size ≤ gb125)); have GE125 := Gv.a0 ((Gv.ble hg Gv.bw : w.heap.size ≤ gb125)); replace HB := Gv.a0 (below_step Gv.bw hb); clear hb hbox hg; have hcz8_0 : w7.cell? ⟨gb125, 0, none⟩ = some (.int .i64 a0_0) := (blk_cell BK125.out 0).trans rfl; have hcz8_1 : w7.cell? ⟨gb125, 1, none⟩ = some (.slice A0_1 l0_1.length c0_1) := (blk_cell BK125.out 1).trans rfl; have hfz8_0 := blk_frozen BK125.out 0; have hfz8_1 := blk_frozen BK125.out 1) | ((with_reducible refine gate_callee (f := 52) rfl ?_); refine goesL_ (some 8) rfl rfl Try.func52 (by kernel_rfl) rfl #[.slice A0_1 l0_1.length c0_1, .int .i64 a1] rfl Gv.lm ?_; (with_reducible refine (laws_szCellS.calls _ _ l0_1 a1 t126 _ ?side1 ?side2 A3.out).mono ?_); (case side1 => repeat (first | exact (Kd.C_below HR0_1.out HB.out) | (with_reducible refine Kd.C_alloc ?_ _) | (with_reducible refine Kd.C_drewN ?_ _) | (with_reducible refine Kd.C_drew ?_))); (case side2 => exact HC0_1.out); rintro e w' ⟨rfl, ⟨nd, rfl⟩⟩; refine ⟨_, rfl, ?_⟩))
  go_ret
  exact ⟨Gv.rt, Gv.bw⟩

/-! ### laws_toAddr: function 67 -/
def laws_toAddr.f (a0_0 : Int) (a0_1 : Int) (a0_2 : Int) (a0_3 : Int) (a0_4 : Int) : Option (Int × Int × Int × Int × Int) := some (a0_0, a0_1, a0_2, a0_3, a0_4)
set_option maxHeartbeats 8000000 in
set_option maxRecDepth 100000 in
theorem laws_toAddr.calls (a0_0 : Int) (a0_1 : Int) (a0_2 : Int) (a0_3 : Int) (a0_4 : Int) (r1 : Int) (r2 : Int) (r3 : Int) (r4 : Int) (r5 : Int) (w : World) (h : laws_toAddr.f a0_0 a0_1 a0_2 a0_3 a0_4 = some (r1, r2, r3, r4, r5)) :
  Calls Try.prog 67 #[.agg #[.int .i64 a0_0, .int .i64 a0_1, .int .i64 a0_2, .int .i64 a0_3, .int .i64 a0_4]] w fun e w' => e = .returned (.agg #[.int .i64 r1, .int .i64 r2, .int .i64 r3, .int .i64 r4, .int .i64 r5]) ∧ Below w.heap.size w w' := by
 have hu23 := Try.underlying23
 have hu29 := Try.underlying29
 have HB := Gv.a0 (Below.refl w.heap.size w)
 have H : (some (a0_0, a0_1, a0_2, a0_3, a0_4)) = some (r1, r2, r3, r4, r5) := h
 clear h
 simp only [Option.some.injEq, Prod.mk.injEq] at H
 obtain ⟨rfl, rfl, rfl, rfl, rfl⟩ := H
 go_enter Try.func67, Try.ntmps67
 go_wp2_with (first | ((with_reducible refine gate_dst (N := 1) rfl ?_); refine box_event ?hg (N := 1) ?hd (cs := #[.int .i64 a0_0, .int .i64 a0_1, .int .i64 a0_2, .int .i64 a0_3, .int .i64 a0_4]) (t := 23) ?hr ?_; (case hd => rfl); (case hg => rfl); (case hr => first | (go_simp; done) | (go_simp; rfl)); intro gb127 hg w2 hbox hb; have BK127 := Gv.a0 (hbox); have GW127 := Gv.a0 ((Gv.ble hg Gv.bw : w.heap.size ≤ gb127)); have GE127 := Gv.a0 ((Gv.ble hg Gv.bw : w.heap.size ≤ gb127)); replace HB := Gv.a0 (below_step Gv.bw hb); clear hb hbox hg) | ((with_reducible refine gate_dst (N := 2) rfl ?_); refine box_event ?hg (N := 2) ?hd (cs := #[.int .i64 0, .int .i64 0, .int .i64 0, .int .i64 0, .int .i64 0]) (t := 29) ?hr ?_; (case hd => rfl); (case hg => rfl); (case hr => first | (go_simp; done) | (go_simp; rfl)); intro gb128 hg w3 hbox hb; have BK128 := Gv.a0 (hbox); have GW128 := Gv.a0 ((Gv.ble hg Gv.bw : w.heap.size ≤ gb128)); have GE128 := Gv.a0 ((Gv.ble hg Gv.bw : w.heap.size ≤ gb128)); replace HB := Gv.a0 (below_step Gv.bw hb); have NB127_128 := Gv.a0 ((Gv.nlt hg (Gv.kb BK127.out) : gb127 ≠ gb128)); have NB128_127 := Gv.a0 ((Gv.ngt hg (Gv.kb BK127.out) : gb128 ≠ gb127)); replace BK127 := Gv.a0 (Gv.bb BK127.out hb); clear hb hbox hg) | ((with_reducible refine gate_dst (N := 3) rfl ?_); refine box_event ?hg (N := 3) ?hd (cs := #[.int .i64 0, .int .i64 0, .int .i64 0, .int .i64 0, .int .i64 0]) (t := 29) ?hr ?_; (case hd => rfl); (case hg => rfl); (case hr => first | (go_simp; done) | (go_simp; rfl)); intro gb129 hg w4 hbox hb; have BK129 := Gv.a0 (hbox); have GW129 := Gv.a0 ((Gv.ble hg Gv.bw : w.heap.size ≤ gb129)); have GE129 := Gv.a0 ((Gv.ble hg Gv.bw : w.heap.size ≤ gb129)); replace HB := Gv.a0 (below_step Gv.bw hb); have NB127_129 := Gv.a0 ((Gv.nlt hg (Gv.kb BK127.out) : gb127 ≠ gb129)); have NB129_127 := Gv.a0 ((Gv.ngt hg (Gv.kb BK127.out) : gb129 ≠ gb127)); replace BK127 := Gv.a0 (Gv.bb BK127.out hb); have NB128_129 := Gv.a0 ((Gv.nlt hg (Gv.kb BK128.out) : gb128 ≠ gb129)); have NB129_128 := Gv.a0 ((Gv.ngt hg (Gv.kb BK128.out) : gb129 ≠ gb128)); replace BK128 := Gv.a0 (Gv.bb BK128.out hb); clear hb hbox hg; have hnb5 := NB127_128.out; have hnc5 := NB128_127.out; have hnb6 := NB127_129.out; have hnc6 := NB129_127.out; obtain ⟨hcz7_0, hcz7_1, hcz7_2, hcz7_3, hcz7_4⟩ := Gv.c5 BK127.out; obtain ⟨hfz7_0, hfz7_1, hfz7_2, hfz7_3, hfz7_4⟩ := Gv.f5 BK127.out; have hnb8 := NB129_128.out; have hnc8 := NB128_129.out; obtain ⟨hcz9_0, hcz9_1, hcz9_2, hcz9_3, hcz9_4⟩ := Gv.c5 BK129.out; obtain ⟨hfz9_0, hfz9_1, hfz9_2, hfz9_3, hfz9_4⟩ := Gv.f5 BK129.out; obtain ⟨hcz10_0, hcz10_1, hcz10_2, hcz10_3, hcz10_4⟩ := Gv.c5 BK128.out; obtain ⟨hfz10_0, hfz10_1, hfz10_2, hfz10_3, hfz10_4⟩ := Gv.f5 BK128.out))
 refine bodyPost_ret (results_cell_row rfl _ _ gb128 29 #[.int .i64 a0_0, .int .i64 a0_1, .int .i64 a0_2, .int .i64 a0_3, .int .i64 a0_4] (0, 0) _ rfl (by (with_reducible repeat (first | refine blk_drewN ?_ _ | refine blk_drew ?_ | refine blk_alloc ?_ _)); refine blk_put (cs := #[.int .i64 a0_0, .int .i64 a0_1, .int .i64 a0_2, .int .i64 a0_3, .int .i64 0]) ?_ 4 _ rfl; (with_reducible repeat (first | refine blk_drewN ?_ _ | refine blk_drew ?_ | refine blk_alloc ?_ _)); refine blk_put (cs := #[.int .i64 a0_0, .int .i64 a0_1, .int .i64 a0_2, .int .i64 0, .int .i64 0]) ?_ 3 _ rfl; (with_reducible repeat (first | refine blk_drewN ?_ _ | refine blk_drew ?_ | refine blk_alloc ?_ _)); refine blk_put (cs := #[.int .i64 a0_0, .int .i64 a0_1, .int .i64 0, .int .i64 0, .int .i64 0]) ?_ 2 _ rfl; (with_reducible repeat (first | refine blk_drewN ?_ _ | refine blk_drew ?_ | refine blk_alloc ?_ _)); refine blk_put (cs := #[.int .i64 a0_0, .int .i64 0, .int .i64 0, .int .i64 0, .int .i64 0]) ?_ 1 _ rfl; (with_reducible repeat (first | refine blk_drewN ?_ _ | refine blk_drew ?_ | refine blk_alloc ?_ _)); refine blk_put (cs := #[.int .i64 0, .int .i64 0, .int .i64 0, .int .i64 0, .int .i64 0]) ?_ 0 _ rfl; (with_reducible repeat (first | refine blk_drewN ?_ _ | refine blk_drew ?_ | refine blk_alloc ?_ _)); refine blk_far ?_ NB128_129.out _; (with_reducible repeat (first | refine blk_drewN ?_ _ | refine blk_drew ?_ | refine blk_alloc ?_ _)); refine blk_far ?_ NB128_129.out _; (with_reducible repeat (first | refine blk_drewN ?_ _ | refine blk_drew ?_ | refine blk_alloc ?_ _)); refine blk_far ?_ NB128_129.out _; (with_reducible repeat (first | refine blk_drewN ?_ _ | refine blk_drew ?_ | refine blk_alloc ?_ _)); refine blk_far ?_ NB128_129.out _; (with_reducible repeat (first | refine blk_drewN ?_ _ | refine blk_drew ?_ | refine blk_alloc ?_ _)); refine blk_far ?_ NB128_129.out _; (with_reducible repeat (first | refine blk_drewN ?_ _ | refine blk_drew ?_ | refine blk_alloc ?_ _)); exact BK128.out) Try.underlying29 rfl (by kernel_rfl)) rfl ?_
 exact ⟨Gv.rt, Gv.bw⟩

/-! ### laws_toKey: function 43 -/
def laws_toKey.f (a0_0 : Int) (a0_1 : Int) (a0_2 : Int) (a0_3 : Int) (a0_4 : Int) (a0_5 : Int) (a0_6 : Int) (a0_7 : Int) (a0_8 : Int) (a0_9 : Int) (a0_10 : Int) (a0_11 : Int) (a0_12 : Int) : Option (Int × Int × Int × Int × Int × Int × Int × Int × Int × Int × Int × Int × Int) := (laws_toAddr.f a0_0 a0_1 a0_2 a0_3 a0_4).bind fun bt133 => ((laws_toAddr.f a0_5 a0_6 a0_7 a0_8 a0_9).bind fun bt138 => (some (bt133.1, bt133.2.1, bt133.2.2.1, bt133.2.2.2.1, bt133.2.2.2.2, bt138.1, bt138.2.1, bt138.2.2.1, bt138.2.2.2.1, bt138.2.2.2.2, a0_10, a0_11, a0_12)))
set_option maxHeartbeats 8000000 in
set_option maxRecDepth 100000 in
theorem laws_toKey.calls (a0_0 : Int) (a0_1 : Int) (a0_2 : Int) (a0_3 : Int) (a0_4 : Int) (a0_5 : Int) (a0_6 : Int) (a0_7 : Int) (a0_8 : Int) (a0_9 : Int) (a0_10 : Int) (a0_11 : Int) (a0_12 : Int) (r1 : Int) (r2 : Int) (r3 : Int) (r4 : Int) (r5 : Int) (r6 : Int) (r7 : Int) (r8 : Int) (r9 : Int) (r10 : Int) (r11 : Int) (r12 : Int) (r13 : Int) (w : World) (h : laws_toKey.f a0_0 a0_1 a0_2 a0_3 a0_4 a0_5 a0_6 a0_7 a0_8 a0_9 a0_10 a0_11 a0_12 = some (r1, r2, r3, r4, r5, r6, r7, r8, r9, r10, r11, r12, r13)) :
  Calls Try.prog 43 #[.agg #[.int .i64 a0_0, .int .i64 a0_1, .int .i64 a0_2, .int .i64 a0_3, .int .i64 a0_4, .int .i64 a0_5, .int .i64 a0_6, .int .i64 a0_7, .int .i64 a0_8, .int .i64 a0_9, .int .i64 a0_10, .int .i64 a0_11, .int .i64 a0_12]] w fun e w' => e = .returned (.agg #[.int .i64 r1, .int .i64 r2, .int .i64 r3, .int .i64 r4, .int .i64 r5, .int .i64 r6, .int .i64 r7, .int .i64 r8, .int .i64 r9, .int .i64 r10, .int .i64 r11, .int .i64 r12, .int .i64 r13]) ∧ Below w.heap.size w w' := by
 have hu25 := Try.underlying25
 have hu31 := Try.underlying31
 have hu23 := Try.underlying23
 have hu29 := Try.underlying29
 have HB := Gv.a0 (Below.refl w.heap.size w)
 have H : ((laws_toAddr.f a0_0 a0_1 a0_2 a0_3 a0_4).bind fun bt133 => ((laws_toAddr.f a0_5 a0_6 a0_7 a0_8 a0_9).bind fun bt138 => (some (bt133.1, bt133.2.1, bt133.2.2.1, bt133.2.2.2.1, bt133.2.2.2.2, bt138.1, bt138.2.1, bt138.2.2.1, bt138.2.2.2.1, bt138.2.2.2.2, a0_10, a0_11, a0_12)))) = some (r1, r2, r3, r4, r5, r6, r7, r8, r9, r10, r11, r12, r13) := h
 clear h
 replace H := Option.bind_eq_some_iff.mp H
 obtain ⟨⟨t133, t134, t135, t136, t137⟩, A20, H⟩ := H
 replace H : ((laws_toAddr.f a0_5 a0_6 a0_7 a0_8 a0_9).bind fun bt138 => (some (t133, t134, t135, t136, t137, bt138.1, bt138.2.1, bt138.2.2.1, bt138.2.2.2.1, bt138.2.2.2.2, a0_10, a0_11, a0_12))) = some (r1, r2, r3, r4, r5, r6, r7, r8, r9, r10, r11, r12, r13) := H
 have A2 := Gv.a0 A20
 clear A20
 replace H := Option.bind_eq_some_iff.mp H
 obtain ⟨⟨t138, t139, t140, t141, t142⟩, A30, H⟩ := H
 replace H : (some (t133, t134, t135, t136, t137, t138, t139, t140, t141, t142, a0_10, a0_11, a0_12)) = some (r1, r2, r3, r4, r5, r6, r7, r8, r9, r10, r11, r12, r13) := H
 have A3 := Gv.a0 A30
 clear A30
 simp only [Option.some.injEq, Prod.mk.injEq] at H
 obtain ⟨rfl, rfl, rfl, rfl, rfl, rfl, rfl, rfl, rfl, rfl, rfl, rfl, rfl⟩ := H
 go_enter Try.func43, Try.ntmps43
 go_wp2_with (first | ((with_reducible refine gate_dst (N := 1) rfl ?_); refine box_event ?hg (N := 1) ?hd (cs := #[.int .i64 a0_0, .int .i64 a0_1, .int .i64 a0_2, .int .i64 a0_3, .int .i64 a0_4, .int .i64 a0_5, .int .i64 a0_6, .int .i64 a0_7, .int .i64 a0_8, .int .i64 a0_9, .int .i64 a0_10, .int .i64 a0_11, .int .i64 a0_12]) (t := 25) ?hr ?_; (case hd => rfl); (case hg => rfl); (case hr => first | (go_simp; done) | (go_simp; rfl)); intro gb130 hg w4 hbox hb; have BK130 := Gv.a0 (hbox); have GW130 := Gv.a0 ((Gv.ble hg Gv.bw : w.heap.size ≤ gb130)); have GE130 := Gv.a0 ((Gv.ble hg Gv.bw : w.heap.size ≤ gb130)); replace HB := Gv.a0 (below_step Gv.bw hb); clear hb hbox hg) | ((with_reducible refine gate_dst (N := 2) rfl ?_); refine box_event ?hg (N := 2) ?hd (cs := #[.int .i64 0, .int .i64 0, .int .i64 0, .int .i64 0, .int .i64 0, .int .i64 0, .int .i64 0, .int .i64 0, .int .i64 0, .int .i64 0, .int .i64 0, .int .i64 0, .int .i64 0]) (t := 31) ?hr ?_; (case hd => rfl); (case hg => rfl); (case hr => first | (go_simp; done) | (go_simp; rfl)); intro gb131 hg w5 hbox hb; have BK131 := Gv.a0 (hbox); have GW131 := Gv.a0 ((Gv.ble hg Gv.bw : w.heap.size ≤ gb131)); have GE131 := Gv.a0 ((Gv.ble hg Gv.bw : w.heap.size ≤ gb131)); replace HB := Gv.a0 (below_step Gv.bw hb); have NB130_131 := Gv.a0 ((Gv.nlt hg (Gv.kb BK130.out) : gb130 ≠ gb131)); have NB131_130 := Gv.a0 ((Gv.ngt hg (Gv.kb BK130.out) : gb131 ≠ gb130)); replace BK130 := Gv.a0 (Gv.bb BK130.out hb); clear hb hbox hg) | ((with_reducible refine gate_dst (N := 3) rfl ?_); refine box_event ?hg (N := 3) ?hd (cs := #[.int .i64 0, .int .i64 0, .int .i64 0, .int .i64 0, .int .i64 0, .int .i64 0, .int .i64 0, .int .i64 0, .int .i64 0, .int .i64 0, .int .i64 0, .int .i64 0, .int .i64 0]) (t := 31) ?hr ?_; (case hd => rfl); (case hg => rfl); (case hr => first | (go_simp; done) | (go_simp; rfl)); intro gb132 hg w6 hbox hb; have BK132 := Gv.a0 (hbox); have GW132 := Gv.a0 ((Gv.ble hg Gv.bw : w.heap.size ≤ gb132)); have GE132 := Gv.a0 ((Gv.ble hg Gv.bw : w.heap.size ≤ gb132)); replace HB := Gv.a0 (below_step Gv.bw hb); have NB130_132 := Gv.a0 ((Gv.nlt hg (Gv.kb BK130.out) : gb130 ≠ gb132)); have NB132_130 := Gv.a0 ((Gv.ngt hg (Gv.kb BK130.out) : gb132 ≠ gb130)); replace BK130 := Gv.a0 (Gv.bb BK130.out hb); have NB131_132 := Gv.a0 ((Gv.nlt hg (Gv.kb BK131.out) : gb131 ≠ gb132)); have NB132_131 := Gv.a0 ((Gv.ngt hg (Gv.kb BK131.out) : gb132 ≠ gb131)); replace BK131 := Gv.a0 (Gv.bb BK131.out hb); clear hb hbox hg; have hnb7 := NB130_131.out; have hnc7 := NB131_130.out; have hnb8 := NB130_132.out; have hnc8 := NB132_130.out) | ((with_reducible refine gate_callee (f := 67) rfl ?_); refine goesL_ (some 6) rfl rfl Try.func67 (by kernel_rfl) rfl #[.agg #[.int .i64 a0_0, .int .i64 a0_1, .int .i64 a0_2, .int .i64 a0_3, .int .i64 a0_4]] rfl Gv.lm ?_; (with_reducible refine (laws_toAddr.calls a0_0 a0_1 a0_2 a0_3 a0_4 t133 t134 t135 t136 t137 _ A2.out).mono ?_); rintro e w10 ⟨rfl, hb⟩; refine ⟨_, rfl, ?_⟩; replace HB := Gv.a0 (below_step HB.out hb); replace BK130 := Gv.a0 (Gv.bb BK130.out hb); replace BK131 := Gv.a0 (Gv.bb BK131.out hb); replace BK132 := Gv.a0 (Gv.bb BK132.out hb); clear hb) | ((with_reducible refine gate_callee (f := 67) rfl ?_); refine goesL_ (some 10) rfl rfl Try.func67 (by kernel_rfl) rfl #[.agg #[.int .i64 a0_5, .int .i64 a0_6, .int .i64 a0_7, .int .i64 a0_8, .int .i64 a0_9]] rfl Gv.lm ?_; (with_reducible refine (laws_toAddr.calls a0_5 a0_6 a0_7 a0_8 a0_9 t138 t139 t140 t141 t142 _ A3.out).mono ?_); rintro e w14 ⟨rfl, hb⟩; refine ⟨_, rfl, ?_⟩; replace HB := Gv.a0 (below_step HB.out hb); replace BK130 := Gv.a0 (Gv.bb BK130.out hb); replace BK131 := Gv.a0 (Gv.bb BK131.out hb); replace BK132 := Gv.a0 (Gv.bb BK132.out hb); clear hb) | ((with_reducible refine Gv.gate_load (t := 3) rfl ?_); refine Gv.get_event (g := gb130) rfl rfl rfl BK130.out rfl Try.underlying3 rfl ?_) | ((with_reducible refine Gv.gate_load (t := 23) rfl ?_); refine Gv.mid_event (g := gb130) [.int .i64 a0_0, .int .i64 a0_1, .int .i64 a0_2, .int .i64 a0_3, .int .i64 a0_4] rfl rfl rfl BK130.out rfl Try.underlying23 rfl (by kernel_rfl) ?_) | ((with_reducible refine Gv.gate_load (t := 23) rfl ?_); refine Gv.mid_event (g := gb130) [.int .i64 a0_5, .int .i64 a0_6, .int .i64 a0_7, .int .i64 a0_8, .int .i64 a0_9] rfl rfl rfl BK130.out rfl Try.underlying23 rfl (by kernel_rfl) ?_) | ((with_reducible refine Gv.gate_load (t := 29) rfl ?_); refine Gv.mid_event (g := gb130) [.int .i64 a0_0, .int .i64 a0_1, .int .i64 a0_2, .int .i64 a0_3, .int .i64 a0_4] rfl rfl rfl BK130.out rfl Try.underlying29 rfl (by kernel_rfl) ?_) | ((with_reducible refine Gv.gate_load (t := 29) rfl ?_); refine Gv.mid_event (g := gb130) [.int .i64 a0_5, .int .i64 a0_6, .int .i64 a0_7, .int .i64 a0_8, .int .i64 a0_9] rfl rfl rfl BK130.out rfl Try.underlying29 rfl (by kernel_rfl) ?_) | ((with_reducible refine gate_store (t := 3) rfl ?_); refine Gv.put_event (g := gb132) rfl rfl rfl rfl rfl BK132.out (by kernel_rfl) (by simp) ?_; intro wp_ hbox hoth hbel; simp only [List.setIfInBounds_toArray, List.set_cons_succ, List.set_cons_zero] at hbox; replace BK132 := Gv.a0 (hbox); replace HB := Gv.a0 (hbel w HB.out GE132.out); replace BK130 := Gv.a0 ((hoth gb130 NB130_132.out).trans BK130.out); replace BK131 := Gv.a0 ((hoth gb131 NB131_132.out).trans BK131.out); clear hbox hoth hbel) | ((with_reducible refine gate_store (t := 23) rfl ?_); refine Gv.mput_event (g := gb132) (cs' := #[.int .i64 t133, .int .i64 t134, .int .i64 t135, .int .i64 t136, .int .i64 t137, .int .i64 0, .int .i64 0, .int .i64 0, .int .i64 0, .int .i64 0, .int .i64 0, .int .i64 0, .int .i64 0]) rfl rfl rfl rfl rfl BK132.out (by kernel_rfl) rfl (by simp) rfl ?_; intro wp_ hbox hoth hbel; replace BK132 := Gv.a0 (hbox); replace HB := Gv.a0 (hbel w HB.out GE132.out); replace BK130 := Gv.a0 ((hoth gb130 NB130_132.out).trans BK130.out); replace BK131 := Gv.a0 ((hoth gb131 NB131_132.out).trans BK131.out); clear hbox hoth hbel) | ((with_reducible refine gate_store (t := 23) rfl ?_); refine Gv.mput_event (g := gb132) (cs' := #[.int .i64 t133, .int .i64 t134, .int .i64 t135, .int .i64 t136, .int .i64 t137, .int .i64 t138, .int .i64 t139, .int .i64 t140, .int .i64 t141, .int .i64 t142, .int .i64 0, .int .i64 0, .int .i64 0]) rfl rfl rfl rfl rfl BK132.out (by kernel_rfl) rfl (by simp) rfl ?_; intro wp_ hbox hoth hbel; replace BK132 := Gv.a0 (hbox); replace HB := Gv.a0 (hbel w HB.out GE132.out); replace BK130 := Gv.a0 ((hoth gb130 NB130_132.out).trans BK130.out); replace BK131 := Gv.a0 ((hoth gb131 NB131_132.out).trans BK131.out); clear hbox hoth hbel) | ((with_reducible refine gate_store (t := 29) rfl ?_); refine Gv.mput_event (g := gb132) (cs' := #[.int .i64 t133, .int .i64 t134, .int .i64 t135, .int .i64 t136, .int .i64 t137, .int .i64 0, .int .i64 0, .int .i64 0, .int .i64 0, .int .i64 0, .int .i64 0, .int .i64 0, .int .i64 0]) rfl rfl rfl rfl rfl BK132.out (by kernel_rfl) rfl (by simp) rfl ?_; intro wp_ hbox hoth hbel; replace BK132 := Gv.a0 (hbox); replace HB := Gv.a0 (hbel w HB.out GE132.out); replace BK130 := Gv.a0 ((hoth gb130 NB130_132.out).trans BK130.out); replace BK131 := Gv.a0 ((hoth gb131 NB131_132.out).trans BK131.out); clear hbox hoth hbel) | ((with_reducible refine gate_store (t := 29) rfl ?_); refine Gv.mput_event (g := gb132) (cs' := #[.int .i64 t133, .int .i64 t134, .int .i64 t135, .int .i64 t136, .int .i64 t137, .int .i64 t138, .int .i64 t139, .int .i64 t140, .int .i64 t141, .int .i64 t142, .int .i64 0, .int .i64 0, .int .i64 0]) rfl rfl rfl rfl rfl BK132.out (by kernel_rfl) rfl (by simp) rfl ?_; intro wp_ hbox hoth hbel; replace BK132 := Gv.a0 (hbox); replace HB := Gv.a0 (hbel w HB.out GE132.out); replace BK130 := Gv.a0 ((hoth gb130 NB130_132.out).trans BK130.out); replace BK131 := Gv.a0 ((hoth gb131 NB131_132.out).trans BK131.out); clear hbox hoth hbel) | ((with_reducible refine Gv.gate_load (t := 31) rfl ?_); refine wpList_load_row rfl 31 _ rfl gb132 rfl 31 _ _ _ BK132.out Try.underlying31 rfl (by kernel_rfl) ?_) | ((with_reducible refine gate_store (t := 31) (p := 2) rfl ?_); refine Gv.store_event (g := gb131) (cells := #[.int .i64 t133, .int .i64 t134, .int .i64 t135, .int .i64 t136, .int .i64 t137, .int .i64 t138, .int .i64 t139, .int .i64 t140, .int .i64 t141, .int .i64 t142, .int .i64 a0_10, .int .i64 a0_11, .int .i64 a0_12]) rfl rfl rfl rfl rfl BK131.out (by kernel_rfl) rfl (by simp; and_intros <;> rfl) ?_; intro wp_ hbox hoth hbel; replace BK131 := Gv.a0 (hbox); replace HB := Gv.a0 (hbel w HB.out GE131.out); replace BK130 := Gv.a0 ((hoth gb130 NB130_131.out).trans BK130.out); replace BK132 := Gv.a0 ((hoth gb132 NB132_131.out).trans BK132.out); clear hbox hoth hbel))
 refine bodyPost_ret (results_cell_row rfl _ _ gb131 31 #[.int .i64 t133, .int .i64 t134, .int .i64 t135, .int .i64 t136, .int .i64 t137, .int .i64 t138, .int .i64 t139, .int .i64 t140, .int .i64 t141, .int .i64 t142, .int .i64 a0_10, .int .i64 a0_11, .int .i64 a0_12] (0, 0) _ rfl BK131.out Try.underlying31 rfl (by kernel_rfl)) rfl ?_
 exact ⟨Gv.rt, Gv.bw⟩

/-! ### laws_toFlowKey: function 14 -/
def laws_toFlowKey.f (a0_0 : Int) (a0_1 : Int) (a0_2 : Int) (a0_3 : Int) (a0_4 : Int) (a0_5 : Int) (a0_6 : Int) (a0_7 : Int) (a0_8 : Int) (a0_9 : Int) (a0_10 : Int) (a0_11 : Int) (a0_12 : Int) (a0_13 : Int) : Option (Int × Int × Int × Int × Int × Int × Int × Int × Int × Int × Int × Int × Int × Int) := (laws_toKey.f a0_1 a0_2 a0_3 a0_4 a0_5 a0_6 a0_7 a0_8 a0_9 a0_10 a0_11 a0_12 a0_13).bind fun bt146 => (some (a0_0, bt146.1, bt146.2.1, bt146.2.2.1, bt146.2.2.2.1, bt146.2.2.2.2.1, bt146.2.2.2.2.2.1, bt146.2.2.2.2.2.2.1, bt146.2.2.2.2.2.2.2.1, bt146.2.2.2.2.2.2.2.2.1, bt146.2.2.2.2.2.2.2.2.2.1, bt146.2.2.2.2.2.2.2.2.2.2.1, bt146.2.2.2.2.2.2.2.2.2.2.2.1, bt146.2.2.2.2.2.2.2.2.2.2.2.2))
set_option maxHeartbeats 8000000 in
set_option maxRecDepth 100000 in
theorem laws_toFlowKey.calls (a0_0 : Int) (a0_1 : Int) (a0_2 : Int) (a0_3 : Int) (a0_4 : Int) (a0_5 : Int) (a0_6 : Int) (a0_7 : Int) (a0_8 : Int) (a0_9 : Int) (a0_10 : Int) (a0_11 : Int) (a0_12 : Int) (a0_13 : Int) (r1 : Int) (r2 : Int) (r3 : Int) (r4 : Int) (r5 : Int) (r6 : Int) (r7 : Int) (r8 : Int) (r9 : Int) (r10 : Int) (r11 : Int) (r12 : Int) (r13 : Int) (r14 : Int) (w : World) (h : laws_toFlowKey.f a0_0 a0_1 a0_2 a0_3 a0_4 a0_5 a0_6 a0_7 a0_8 a0_9 a0_10 a0_11 a0_12 a0_13 = some (r1, r2, r3, r4, r5, r6, r7, r8, r9, r10, r11, r12, r13, r14)) :
  Calls Try.prog 14 #[.agg #[.int .i64 a0_0, .int .i64 a0_1, .int .i64 a0_2, .int .i64 a0_3, .int .i64 a0_4, .int .i64 a0_5, .int .i64 a0_6, .int .i64 a0_7, .int .i64 a0_8, .int .i64 a0_9, .int .i64 a0_10, .int .i64 a0_11, .int .i64 a0_12, .int .i64 a0_13]] w fun e w' => e = .returned (.agg #[.int .i64 r1, .int .i64 r2, .int .i64 r3, .int .i64 r4, .int .i64 r5, .int .i64 r6, .int .i64 r7, .int .i64 r8, .int .i64 r9, .int .i64 r10, .int .i64 r11, .int .i64 r12, .int .i64 r13, .int .i64 r14]) ∧ Below w.heap.size w w' := by
 have hu27 := Try.underlying27
 have hu33 := Try.underlying33
 have hu25 := Try.underlying25
 have hu31 := Try.underlying31
 have HB := Gv.a0 (Below.refl w.heap.size w)
 have H : ((laws_toKey.f a0_1 a0_2 a0_3 a0_4 a0_5 a0_6 a0_7 a0_8 a0_9 a0_10 a0_11 a0_12 a0_13).bind fun bt146 => (some (a0_0, bt146.1, bt146.2.1, bt146.2.2.1, bt146.2.2.2.1, bt146.2.2.2.2.1, bt146.2.2.2.2.2.1, bt146.2.2.2.2.2.2.1, bt146.2.2.2.2.2.2.2.1, bt146.2.2.2.2.2.2.2.2.1, bt146.2.2.2.2.2.2.2.2.2.1, bt146.2.2.2.2.2.2.2.2.2.2.1, bt146.2.2.2.2.2.2.2.2.2.2.2.1, bt146.2.2.2.2.2.2.2.2.2.2.2.2))) = some (r1, r2, r3, r4, r5, r6, r7, r8, r9, r10, r11, r12, r13, r14) := h
 clear h
 replace H := Option.bind_eq_some_iff.mp H
 obtain ⟨⟨t146, t147, t148, t149, t150, t151, t152, t153, t154, t155, t156, t157, t158⟩, A20, H⟩ := H
 replace H : (some (a0_0, t146, t147, t148, t149, t150, t151, t152, t153, t154, t155, t156, t157, t158)) = some (r1, r2, r3, r4, r5, r6, r7, r8, r9, r10, r11, r12, r13, r14) := H
 have A2 := Gv.a0 A20
 clear A20
 simp only [Option.some.injEq, Prod.mk.injEq] at H
 obtain ⟨rfl, rfl, rfl, rfl, rfl, rfl, rfl, rfl, rfl, rfl, rfl, rfl, rfl, rfl⟩ := H
 go_enter Try.func14, Try.ntmps14
 go_wp2_with (first | ((with_reducible refine gate_dst (N := 1) rfl ?_); refine box_event ?hg (N := 1) ?hd (cs := #[.int .i64 a0_0, .int .i64 a0_1, .int .i64 a0_2, .int .i64 a0_3, .int .i64 a0_4, .int .i64 a0_5, .int .i64 a0_6, .int .i64 a0_7, .int .i64 a0_8, .int .i64 a0_9, .int .i64 a0_10, .int .i64 a0_11, .int .i64 a0_12, .int .i64 a0_13]) (t := 27) ?hr ?_; (case hd => rfl); (case hg => rfl); (case hr => first | (go_simp; done) | (go_simp; rfl)); intro gb143 hg w3 hbox hb; have BK143 := Gv.a0 (hbox); have GW143 := Gv.a0 ((Gv.ble hg Gv.bw : w.heap.size ≤ gb143)); have GE143 := Gv.a0 ((Gv.ble hg Gv.bw : w.heap.size ≤ gb143)); replace HB := Gv.a0 (below_step Gv.bw hb); clear hb hbox hg) | ((with_reducible refine gate_dst (N := 2) rfl ?_); refine box_event ?hg (N := 2) ?hd (cs := #[.int .i64 0, .int .i64 0, .int .i64 0, .int .i64 0, .int .i64 0, .int .i64 0, .int .i64 0, .int .i64 0, .int .i64 0, .int .i64 0, .int .i64 0, .int .i64 0, .int .i64 0, .int .i64 0]) (t := 33) ?hr ?_; (case hd => rfl); (case hg => rfl); (case hr => first | (go_simp; done) | (go_simp; rfl)); intro gb144 hg w4 hbox hb; have BK144 := Gv.a0 (hbox); have GW144 := Gv.a0 ((Gv.ble hg Gv.bw : w.heap.size ≤ gb144)); have GE144 := Gv.a0 ((Gv.ble hg Gv.bw : w.heap.size ≤ gb144)); replace HB := Gv.a0 (below_step Gv.bw hb); have NB143_144 := Gv.a0 ((Gv.nlt hg (Gv.kb BK143.out) : gb143 ≠ gb144)); have NB144_143 := Gv.a0 ((Gv.ngt hg (Gv.kb BK143.out) : gb144 ≠ gb143)); replace BK143 := Gv.a0 (Gv.bb BK143.out hb); clear hb hbox hg) | ((with_reducible refine gate_dst (N := 3) rfl ?_); refine box_event ?hg (N := 3) ?hd (cs := #[.int .i64 0, .int .i64 0, .int .i64 0, .int .i64 0, .int .i64 0, .int .i64 0, .int .i64 0, .int .i64 0, .int .i64 0, .int .i64 0, .int .i64 0, .int .i64 0, .int .i64 0, .int .i64 0]) (t := 33) ?hr ?_; (case hd => rfl); (case hg => rfl); (case hr => first | (go_simp; done) | (go_simp; rfl)); intro gb145 hg w5 hbox hb; have BK145 := Gv.a0 (hbox); have GW145 := Gv.a0 ((Gv.ble hg Gv.bw : w.heap.size ≤ gb145)); have GE145 := Gv.a0 ((Gv.ble hg Gv.bw : w.heap.size ≤ gb145)); replace HB := Gv.a0 (below_step Gv.bw hb); have NB143_145 := Gv.a0 ((Gv.nlt hg (Gv.kb BK143.out) : gb143 ≠ gb145)); have NB145_143 := Gv.a0 ((Gv.ngt hg (Gv.kb BK143.out) : gb145 ≠ gb143)); replace BK143 := Gv.a0 (Gv.bb BK143.out hb); have NB144_145 := Gv.a0 ((Gv.nlt hg (Gv.kb BK144.out) : gb144 ≠ gb145)); have NB145_144 := Gv.a0 ((Gv.ngt hg (Gv.kb BK144.out) : gb145 ≠ gb144)); replace BK144 := Gv.a0 (Gv.bb BK144.out hb); clear hb hbox hg; have hnb6 := NB143_144.out; have hnc6 := NB144_143.out; have hnb7 := NB143_145.out; have hnc7 := NB145_143.out; have hnb9 := NB145_144.out; have hnc9 := NB144_145.out) | ((with_reducible refine gate_callee (f := 43) rfl ?_); refine goesL_ (some 9) rfl rfl Try.func43 (by kernel_rfl) rfl #[.agg #[.int .i64 a0_1, .int .i64 a0_2, .int .i64 a0_3, .int .i64 a0_4, .int .i64 a0_5, .int .i64 a0_6, .int .i64 a0_7, .int .i64 a0_8, .int .i64 a0_9, .int .i64 a0_10, .int .i64 a0_11, .int .i64 a0_12, .int .i64 a0_13]] rfl Gv.lm ?_; (with_reducible refine (laws_toKey.calls a0_1 a0_2 a0_3 a0_4 a0_5 a0_6 a0_7 a0_8 a0_9 a0_10 a0_11 a0_12 a0_13 t146 t147 t148 t149 t150 t151 t152 t153 t154 t155 t156 t157 t158 _ A2.out).mono ?_); rintro e w11 ⟨rfl, hb⟩; refine ⟨_, rfl, ?_⟩; replace HB := Gv.a0 (below_step HB.out hb); replace BK143 := Gv.a0 (Gv.bb BK143.out hb); replace BK144 := Gv.a0 (Gv.bb BK144.out hb); replace BK145 := Gv.a0 (Gv.bb BK145.out hb); clear hb) | ((with_reducible refine Gv.gate_load (t := 3) rfl ?_); refine Gv.get_event (g := gb143) rfl rfl rfl BK143.out rfl Try.underlying3 rfl ?_) | ((with_reducible refine Gv.gate_load (t := 25) rfl ?_); refine Gv.mid_event (g := gb143) [.int .i64 a0_1, .int .i64 a0_2, .int .i64 a0_3, .int .i64 a0_4, .int .i64 a0_5, .int .i64 a0_6, .int .i64 a0_7, .int .i64 a0_8, .int .i64 a0_9, .int .i64 a0_10, .int .i64 a0_11, .int .i64 a0_12, .int .i64 a0_13] rfl rfl rfl BK143.out rfl Try.underlying25 rfl (by kernel_rfl) ?_) | ((with_reducible refine Gv.gate_load (t := 31) rfl ?_); refine Gv.mid_event (g := gb143) [.int .i64 a0_1, .int .i64 a0_2, .int .i64 a0_3, .int .i64 a0_4, .int .i64 a0_5, .int .i64 a0_6, .int .i64 a0_7, .int .i64 a0_8, .int .i64 a0_9, .int .i64 a0_10, .int .i64 a0_11, .int .i64 a0_12, .int .i64 a0_13] rfl rfl rfl BK143.out rfl Try.underlying31 rfl (by kernel_rfl) ?_) | ((with_reducible refine gate_store (t := 3) rfl ?_); refine Gv.put_event (g := gb145) rfl rfl rfl rfl rfl BK145.out (by kernel_rfl) (by simp) ?_; intro wp_ hbox hoth hbel; simp only [List.setIfInBounds_toArray, List.set_cons_succ, List.set_cons_zero] at hbox; replace BK145 := Gv.a0 (hbox); replace HB := Gv.a0 (hbel w HB.out GE145.out); replace BK143 := Gv.a0 ((hoth gb143 NB143_145.out).trans BK143.out); replace BK144 := Gv.a0 ((hoth gb144 NB144_145.out).trans BK144.out); clear hbox hoth hbel) | ((with_reducible refine gate_store (t := 25) rfl ?_); refine Gv.mput_event (g := gb145) (cs' := #[.int .i64 a0_0, .int .i64 t146, .int .i64 t147, .int .i64 t148, .int .i64 t149, .int .i64 t150, .int .i64 t151, .int .i64 t152, .int .i64 t153, .int .i64 t154, .int .i64 t155, .int .i64 t156, .int .i64 t157, .int .i64 t158]) rfl rfl rfl rfl rfl BK145.out (by kernel_rfl) rfl (by simp) rfl ?_; intro wp_ hbox hoth hbel; replace BK145 := Gv.a0 (hbox); replace HB := Gv.a0 (hbel w HB.out GE145.out); replace BK143 := Gv.a0 ((hoth gb143 NB143_145.out).trans BK143.out); replace BK144 := Gv.a0 ((hoth gb144 NB144_145.out).trans BK144.out); clear hbox hoth hbel) | ((with_reducible refine gate_store (t := 31) rfl ?_); refine Gv.mput_event (g := gb145) (cs' := #[.int .i64 a0_0, .int .i64 t146, .int .i64 t147, .int .i64 t148, .int .i64 t149, .int .i64 t150, .int .i64 t151, .int .i64 t152, .int .i64 t153, .int .i64 t154, .int .i64 t155, .int .i64 t156, .int .i64 t157, .int .i64 t158]) rfl rfl rfl rfl rfl BK145.out (by kernel_rfl) rfl (by simp) rfl ?_; intro wp_ hbox hoth hbel; replace BK145 := Gv.a0 (hbox); replace HB := Gv.a0 (hbel w HB.out GE145.out); replace BK143 := Gv.a0 ((hoth gb143 NB143_145.out).trans BK143.out); replace BK144 := Gv.a0 ((hoth gb144 NB144_145.out).trans BK144.out); clear hbox hoth hbel) | ((with_reducible refine Gv.gate_load (t := 33) rfl ?_); refine wpList_load_row rfl 33 _ rfl gb145 rfl 33 _ _ _ BK145.out Try.underlying33 rfl (by kernel_rfl) ?_) | ((with_reducible refine gate_store (t := 33) (p := 2) rfl ?_); refine Gv.store_event (g := gb144) (cells := #[.int .i64 a0_0, .int .i64 t146, .int .i64 t147, .int .i64 t148, .int .i64 t149, .int .i64 t150, .int .i64 t151, .int .i64 t152, .int .i64 t153, .int .i64 t154, .int .i64 t155, .int .i64 t156, .int .i64 t157, .int .i64 t158]) rfl rfl rfl rfl rfl BK144.out (by kernel_rfl) rfl (by simp; and_intros <;> rfl) ?_; intro wp_ hbox hoth hbel; replace BK144 := Gv.a0 (hbox); replace HB := Gv.a0 (hbel w HB.out GE144.out); replace BK143 := Gv.a0 ((hoth gb143 NB143_144.out).trans BK143.out); replace BK145 := Gv.a0 ((hoth gb145 NB145_144.out).trans BK145.out); clear hbox hoth hbel))
 refine bodyPost_ret (results_cell_row rfl _ _ gb144 33 #[.int .i64 a0_0, .int .i64 t146, .int .i64 t147, .int .i64 t148, .int .i64 t149, .int .i64 t150, .int .i64 t151, .int .i64 t152, .int .i64 t153, .int .i64 t154, .int .i64 t155, .int .i64 t156, .int .i64 t157, .int .i64 t158] (0, 0) _ rfl BK144.out Try.underlying33 rfl (by kernel_rfl)) rfl ?_
 exact ⟨Gv.rt, Gv.bw⟩

/-! ### laws_toCell: function 77 -/
def laws_toCell.f (a0_0 : Bool) (a0_1 : Int) (a0_2 : Int) (a0_3 : Int) (a0_4 : Int) (a0_5 : Int) (a0_6 : Int) (a0_7 : Int) (a0_8 : Int) (a0_9 : Int) (a0_10 : Int) (a0_11 : Int) (a0_12 : Int) (a0_13 : Int) (a0_14 : Int) (a0_15 : Int) : Option (Bool × Int × Int × Int × Int × Int × Int × Int × Int × Int × Int × Int × Int × Int × Int × Int) := (laws_toFlowKey.f a0_1 a0_2 a0_3 a0_4 a0_5 a0_6 a0_7 a0_8 a0_9 a0_10 a0_11 a0_12 a0_13 a0_14).bind fun bt162 => (some (a0_0, bt162.1, bt162.2.1, bt162.2.2.1, bt162.2.2.2.1, bt162.2.2.2.2.1, bt162.2.2.2.2.2.1, bt162.2.2.2.2.2.2.1, bt162.2.2.2.2.2.2.2.1, bt162.2.2.2.2.2.2.2.2.1, bt162.2.2.2.2.2.2.2.2.2.1, bt162.2.2.2.2.2.2.2.2.2.2.1, bt162.2.2.2.2.2.2.2.2.2.2.2.1, bt162.2.2.2.2.2.2.2.2.2.2.2.2.1, bt162.2.2.2.2.2.2.2.2.2.2.2.2.2, a0_15))
set_option maxHeartbeats 8000000 in
set_option maxRecDepth 100000 in
theorem laws_toCell.calls (a0_0 : Bool) (a0_1 : Int) (a0_2 : Int) (a0_3 : Int) (a0_4 : Int) (a0_5 : Int) (a0_6 : Int) (a0_7 : Int) (a0_8 : Int) (a0_9 : Int) (a0_10 : Int) (a0_11 : Int) (a0_12 : Int) (a0_13 : Int) (a0_14 : Int) (a0_15 : Int) (r1 : Bool) (r2 : Int) (r3 : Int) (r4 : Int) (r5 : Int) (r6 : Int) (r7 : Int) (r8 : Int) (r9 : Int) (r10 : Int) (r11 : Int) (r12 : Int) (r13 : Int) (r14 : Int) (r15 : Int) (r16 : Int) (w : World) (h : laws_toCell.f a0_0 a0_1 a0_2 a0_3 a0_4 a0_5 a0_6 a0_7 a0_8 a0_9 a0_10 a0_11 a0_12 a0_13 a0_14 a0_15 = some (r1, r2, r3, r4, r5, r6, r7, r8, r9, r10, r11, r12, r13, r14, r15, r16)) :
  Calls Try.prog 77 #[.agg #[.bool a0_0, .int .i64 a0_1, .int .i64 a0_2, .int .i64 a0_3, .int .i64 a0_4, .int .i64 a0_5, .int .i64 a0_6, .int .i64 a0_7, .int .i64 a0_8, .int .i64 a0_9, .int .i64 a0_10, .int .i64 a0_11, .int .i64 a0_12, .int .i64 a0_13, .int .i64 a0_14, .int .i64 a0_15]] w fun e w' => e = .returned (.agg #[.bool r1, .int .i64 r2, .int .i64 r3, .int .i64 r4, .int .i64 r5, .int .i64 r6, .int .i64 r7, .int .i64 r8, .int .i64 r9, .int .i64 r10, .int .i64 r11, .int .i64 r12, .int .i64 r13, .int .i64 r14, .int .i64 r15, .int .i64 r16]) ∧ Below w.heap.size w w' := by
 have hu94 := Try.underlying94
 have hu75 := Try.underlying75
 have hu27 := Try.underlying27
 have hu33 := Try.underlying33
 have HB := Gv.a0 (Below.refl w.heap.size w)
 have H : ((laws_toFlowKey.f a0_1 a0_2 a0_3 a0_4 a0_5 a0_6 a0_7 a0_8 a0_9 a0_10 a0_11 a0_12 a0_13 a0_14).bind fun bt162 => (some (a0_0, bt162.1, bt162.2.1, bt162.2.2.1, bt162.2.2.2.1, bt162.2.2.2.2.1, bt162.2.2.2.2.2.1, bt162.2.2.2.2.2.2.1, bt162.2.2.2.2.2.2.2.1, bt162.2.2.2.2.2.2.2.2.1, bt162.2.2.2.2.2.2.2.2.2.1, bt162.2.2.2.2.2.2.2.2.2.2.1, bt162.2.2.2.2.2.2.2.2.2.2.2.1, bt162.2.2.2.2.2.2.2.2.2.2.2.2.1, bt162.2.2.2.2.2.2.2.2.2.2.2.2.2, a0_15))) = some (r1, r2, r3, r4, r5, r6, r7, r8, r9, r10, r11, r12, r13, r14, r15, r16) := h
 clear h
 replace H := Option.bind_eq_some_iff.mp H
 obtain ⟨⟨t162, t163, t164, t165, t166, t167, t168, t169, t170, t171, t172, t173, t174, t175⟩, A20, H⟩ := H
 replace H : (some (a0_0, t162, t163, t164, t165, t166, t167, t168, t169, t170, t171, t172, t173, t174, t175, a0_15)) = some (r1, r2, r3, r4, r5, r6, r7, r8, r9, r10, r11, r12, r13, r14, r15, r16) := H
 have A2 := Gv.a0 A20
 clear A20
 simp only [Option.some.injEq, Prod.mk.injEq] at H
 obtain ⟨rfl, rfl, rfl, rfl, rfl, rfl, rfl, rfl, rfl, rfl, rfl, rfl, rfl, rfl, rfl, rfl⟩ := H
 go_enter Try.func77, Try.ntmps77
 go_wp2_with (first | ((with_reducible refine gate_dst (N := 1) rfl ?_); refine box_event ?hg (N := 1) ?hd (cs := #[.bool a0_0, .int .i64 a0_1, .int .i64 a0_2, .int .i64 a0_3, .int .i64 a0_4, .int .i64 a0_5, .int .i64 a0_6, .int .i64 a0_7, .int .i64 a0_8, .int .i64 a0_9, .int .i64 a0_10, .int .i64 a0_11, .int .i64 a0_12, .int .i64 a0_13, .int .i64 a0_14, .int .i64 a0_15]) (t := 94) ?hr ?_; (case hd => rfl); (case hg => rfl); (case hr => first | (go_simp; done) | (go_simp; rfl)); intro gb159 hg w3 hbox hb; have BK159 := Gv.a0 (hbox); have GW159 := Gv.a0 ((Gv.ble hg Gv.bw : w.heap.size ≤ gb159)); have GE159 := Gv.a0 ((Gv.ble hg Gv.bw : w.heap.size ≤ gb159)); replace HB := Gv.a0 (below_step Gv.bw hb); clear hb hbox hg) | ((with_reducible refine gate_dst (N := 2) rfl ?_); refine box_event ?hg (N := 2) ?hd (cs := #[.bool false, .int .i64 0, .int .i64 0, .int .i64 0, .int .i64 0, .int .i64 0, .int .i64 0, .int .i64 0, .int .i64 0, .int .i64 0, .int .i64 0, .int .i64 0, .int .i64 0, .int .i64 0, .int .i64 0, .int .i64 0]) (t := 75) ?hr ?_; (case hd => rfl); (case hg => rfl); (case hr => first | (go_simp; done) | (go_simp; rfl)); intro gb160 hg w4 hbox hb; have BK160 := Gv.a0 (hbox); have GW160 := Gv.a0 ((Gv.ble hg Gv.bw : w.heap.size ≤ gb160)); have GE160 := Gv.a0 ((Gv.ble hg Gv.bw : w.heap.size ≤ gb160)); replace HB := Gv.a0 (below_step Gv.bw hb); have NB159_160 := Gv.a0 ((Gv.nlt hg (Gv.kb BK159.out) : gb159 ≠ gb160)); have NB160_159 := Gv.a0 ((Gv.ngt hg (Gv.kb BK159.out) : gb160 ≠ gb159)); replace BK159 := Gv.a0 (Gv.bb BK159.out hb); clear hb hbox hg) | ((with_reducible refine gate_dst (N := 3) rfl ?_); refine box_event ?hg (N := 3) ?hd (cs := #[.bool false, .int .i64 0, .int .i64 0, .int .i64 0, .int .i64 0, .int .i64 0, .int .i64 0, .int .i64 0, .int .i64 0, .int .i64 0, .int .i64 0, .int .i64 0, .int .i64 0, .int .i64 0, .int .i64 0, .int .i64 0]) (t := 75) ?hr ?_; (case hd => rfl); (case hg => rfl); (case hr => first | (go_simp; done) | (go_simp; rfl)); intro gb161 hg w5 hbox hb; have BK161 := Gv.a0 (hbox); have GW161 := Gv.a0 ((Gv.ble hg Gv.bw : w.heap.size ≤ gb161)); have GE161 := Gv.a0 ((Gv.ble hg Gv.bw : w.heap.size ≤ gb161)); replace HB := Gv.a0 (below_step Gv.bw hb); have NB159_161 := Gv.a0 ((Gv.nlt hg (Gv.kb BK159.out) : gb159 ≠ gb161)); have NB161_159 := Gv.a0 ((Gv.ngt hg (Gv.kb BK159.out) : gb161 ≠ gb159)); replace BK159 := Gv.a0 (Gv.bb BK159.out hb); have NB160_161 := Gv.a0 ((Gv.nlt hg (Gv.kb BK160.out) : gb160 ≠ gb161)); have NB161_160 := Gv.a0 ((Gv.ngt hg (Gv.kb BK160.out) : gb161 ≠ gb160)); replace BK160 := Gv.a0 (Gv.bb BK160.out hb); clear hb hbox hg; have hnb6 := NB159_160.out; have hnc6 := NB160_159.out; have hnb7 := NB159_161.out; have hnc7 := NB161_159.out; have hnb9 := NB161_160.out; have hnc9 := NB160_161.out) | ((with_reducible refine gate_callee (f := 14) rfl ?_); refine goesL_ (some 9) rfl rfl Try.func14 (by kernel_rfl) rfl #[.agg #[.int .i64 a0_1, .int .i64 a0_2, .int .i64 a0_3, .int .i64 a0_4, .int .i64 a0_5, .int .i64 a0_6, .int .i64 a0_7, .int .i64 a0_8, .int .i64 a0_9, .int .i64 a0_10, .int .i64 a0_11, .int .i64 a0_12, .int .i64 a0_13, .int .i64 a0_14]] rfl Gv.lm ?_; (with_reducible refine (laws_toFlowKey.calls a0_1 a0_2 a0_3 a0_4 a0_5 a0_6 a0_7 a0_8 a0_9 a0_10 a0_11 a0_12 a0_13 a0_14 t162 t163 t164 t165 t166 t167 t168 t169 t170 t171 t172 t173 t174 t175 _ A2.out).mono ?_); rintro e w11 ⟨rfl, hb⟩; refine ⟨_, rfl, ?_⟩; replace HB := Gv.a0 (below_step HB.out hb); replace BK159 := Gv.a0 (Gv.bb BK159.out hb); replace BK160 := Gv.a0 (Gv.bb BK160.out hb); replace BK161 := Gv.a0 (Gv.bb BK161.out hb); clear hb) | ((with_reducible refine Gv.gate_load (t := 3) rfl ?_); refine Gv.get_event (g := gb159) rfl rfl rfl BK159.out rfl Try.underlying3 rfl ?_) | ((with_reducible refine Gv.gate_load (t := 4) rfl ?_); refine Gv.get_event (g := gb159) rfl rfl rfl BK159.out rfl Try.underlying4 rfl ?_) | ((with_reducible refine Gv.gate_load (t := 27) rfl ?_); refine Gv.mid_event (g := gb159) [.int .i64 a0_1, .int .i64 a0_2, .int .i64 a0_3, .int .i64 a0_4, .int .i64 a0_5, .int .i64 a0_6, .int .i64 a0_7, .int .i64 a0_8, .int .i64 a0_9, .int .i64 a0_10, .int .i64 a0_11, .int .i64 a0_12, .int .i64 a0_13, .int .i64 a0_14] rfl rfl rfl BK159.out rfl Try.underlying27 rfl (by kernel_rfl) ?_) | ((with_reducible refine Gv.gate_load (t := 33) rfl ?_); refine Gv.mid_event (g := gb159) [.int .i64 a0_1, .int .i64 a0_2, .int .i64 a0_3, .int .i64 a0_4, .int .i64 a0_5, .int .i64 a0_6, .int .i64 a0_7, .int .i64 a0_8, .int .i64 a0_9, .int .i64 a0_10, .int .i64 a0_11, .int .i64 a0_12, .int .i64 a0_13, .int .i64 a0_14] rfl rfl rfl BK159.out rfl Try.underlying33 rfl (by kernel_rfl) ?_) | ((with_reducible refine gate_store (t := 3) rfl ?_); refine Gv.put_event (g := gb161) rfl rfl rfl rfl rfl BK161.out (by kernel_rfl) (by simp) ?_; intro wp_ hbox hoth hbel; simp only [List.setIfInBounds_toArray, List.set_cons_succ, List.set_cons_zero] at hbox; replace BK161 := Gv.a0 (hbox); replace HB := Gv.a0 (hbel w HB.out GE161.out); replace BK159 := Gv.a0 ((hoth gb159 NB159_161.out).trans BK159.out); replace BK160 := Gv.a0 ((hoth gb160 NB160_161.out).trans BK160.out); clear hbox hoth hbel) | ((with_reducible refine gate_store (t := 4) rfl ?_); refine Gv.putb_event (g := gb161) rfl rfl rfl rfl rfl BK161.out (by kernel_rfl) (by simp) ?_; intro wp_ hbox hoth hbel; simp only [List.setIfInBounds_toArray, List.set_cons_succ, List.set_cons_zero] at hbox; replace BK161 := Gv.a0 (hbox); replace HB := Gv.a0 (hbel w HB.out GE161.out); replace BK159 := Gv.a0 ((hoth gb159 NB159_161.out).trans BK159.out); replace BK160 := Gv.a0 ((hoth gb160 NB160_161.out).trans BK160.out); clear hbox hoth hbel) | ((with_reducible refine gate_store (t := 27) rfl ?_); refine Gv.mput_event (g := gb161) (cs' := #[.bool a0_0, .int .i64 t162, .int .i64 t163, .int .i64 t164, .int .i64 t165, .int .i64 t166, .int .i64 t167, .int .i64 t168, .int .i64 t169, .int .i64 t170, .int .i64 t171, .int .i64 t172, .int .i64 t173, .int .i64 t174, .int .i64 t175, .int .i64 0]) rfl rfl rfl rfl rfl BK161.out (by kernel_rfl) rfl (by simp) rfl ?_; intro wp_ hbox hoth hbel; replace BK161 := Gv.a0 (hbox); replace HB := Gv.a0 (hbel w HB.out GE161.out); replace BK159 := Gv.a0 ((hoth gb159 NB159_161.out).trans BK159.out); replace BK160 := Gv.a0 ((hoth gb160 NB160_161.out).trans BK160.out); clear hbox hoth hbel) | ((with_reducible refine gate_store (t := 33) rfl ?_); refine Gv.mput_event (g := gb161) (cs' := #[.bool a0_0, .int .i64 t162, .int .i64 t163, .int .i64 t164, .int .i64 t165, .int .i64 t166, .int .i64 t167, .int .i64 t168, .int .i64 t169, .int .i64 t170, .int .i64 t171, .int .i64 t172, .int .i64 t173, .int .i64 t174, .int .i64 t175, .int .i64 0]) rfl rfl rfl rfl rfl BK161.out (by kernel_rfl) rfl (by simp) rfl ?_; intro wp_ hbox hoth hbel; replace BK161 := Gv.a0 (hbox); replace HB := Gv.a0 (hbel w HB.out GE161.out); replace BK159 := Gv.a0 ((hoth gb159 NB159_161.out).trans BK159.out); replace BK160 := Gv.a0 ((hoth gb160 NB160_161.out).trans BK160.out); clear hbox hoth hbel) | ((with_reducible refine Gv.gate_load (t := 75) rfl ?_); refine wpList_load_row rfl 75 _ rfl gb161 rfl 75 _ _ _ BK161.out Try.underlying75 rfl (by kernel_rfl) ?_) | ((with_reducible refine gate_store (t := 75) (p := 2) rfl ?_); refine Gv.store_event (g := gb160) (cells := #[.bool a0_0, .int .i64 t162, .int .i64 t163, .int .i64 t164, .int .i64 t165, .int .i64 t166, .int .i64 t167, .int .i64 t168, .int .i64 t169, .int .i64 t170, .int .i64 t171, .int .i64 t172, .int .i64 t173, .int .i64 t174, .int .i64 t175, .int .i64 a0_15]) rfl rfl rfl rfl rfl BK160.out (by kernel_rfl) rfl (by simp; and_intros <;> rfl) ?_; intro wp_ hbox hoth hbel; replace BK160 := Gv.a0 (hbox); replace HB := Gv.a0 (hbel w HB.out GE160.out); replace BK159 := Gv.a0 ((hoth gb159 NB159_160.out).trans BK159.out); replace BK161 := Gv.a0 ((hoth gb161 NB161_160.out).trans BK161.out); clear hbox hoth hbel))
 refine bodyPost_ret (results_cell_row rfl _ _ gb160 75 #[.bool a0_0, .int .i64 t162, .int .i64 t163, .int .i64 t164, .int .i64 t165, .int .i64 t166, .int .i64 t167, .int .i64 t168, .int .i64 t169, .int .i64 t170, .int .i64 t171, .int .i64 t172, .int .i64 t173, .int .i64 t174, .int .i64 t175, .int .i64 a0_15] (0, 0) _ rfl BK160.out Try.underlying75 rfl (by kernel_rfl)) rfl ?_
 exact ⟨Gv.rt, Gv.bw⟩

/-! ### laws_toCellS: function 56 -/
def laws_toCellS.l0 : Nat → List (S94) → List (S75) → Int → Option ((List (S75)))
 | 0, _, _, _ => none
 | k + 1, x0, x3, x4 => if x4 < (x0.length : Int) then (if 0 ≤ x4 then ((laws_toCell.f ((rd_T94 x0 x4).f0) ((rd_T94 x0 x4).f1.f0) ((rd_T94 x0 x4).f1.f1.f0.f0) ((rd_T94 x0 x4).f1.f1.f0.f1) ((rd_T94 x0 x4).f1.f1.f0.f2) ((rd_T94 x0 x4).f1.f1.f0.f3) ((rd_T94 x0 x4).f1.f1.f0.f4) ((rd_T94 x0 x4).f1.f1.f1.f0) ((rd_T94 x0 x4).f1.f1.f1.f1) ((rd_T94 x0 x4).f1.f1.f1.f2) ((rd_T94 x0 x4).f1.f1.f1.f3) ((rd_T94 x0 x4).f1.f1.f1.f4) ((rd_T94 x0 x4).f1.f1.f2) ((rd_T94 x0 x4).f1.f1.f3) ((rd_T94 x0 x4).f1.f1.f4) ((rd_T94 x0 x4).f2)).bind fun bt180 => (if x4 < (x3.length : Int) then (laws_toCellS.l0 k x0 (x3.set (x4 : Int).toNat (⟨bt180.1, (⟨bt180.2.1, (⟨(⟨bt180.2.2.1, bt180.2.2.2.1, bt180.2.2.2.2.1, bt180.2.2.2.2.2.1, bt180.2.2.2.2.2.2.1⟩ : S29), (⟨bt180.2.2.2.2.2.2.2.1, bt180.2.2.2.2.2.2.2.2.1, bt180.2.2.2.2.2.2.2.2.2.1, bt180.2.2.2.2.2.2.2.2.2.2.1, bt180.2.2.2.2.2.2.2.2.2.2.2.1⟩ : S29), bt180.2.2.2.2.2.2.2.2.2.2.2.2.1, bt180.2.2.2.2.2.2.2.2.2.2.2.2.2.1, bt180.2.2.2.2.2.2.2.2.2.2.2.2.2.2.1⟩ : S31)⟩ : S33), bt180.2.2.2.2.2.2.2.2.2.2.2.2.2.2.2⟩ : S75)) (wrap64 (x4 + 1))) else (none))) else (none)) else (some x3)
def laws_toCellS.f (k : Nat) (l0 : List (S94)) : Option ((List (S75))) := if 0 ≤ (l0.length : Int) then (if ((l0.length : Int) : Int).toNat ≤ 2199023255552 then (laws_toCellS.l0 k l0 (List.replicate ((l0.length : Int) : Int).toNat z75) 0) else (none)) else (none)
set_option maxHeartbeats 8000000 in
set_option maxRecDepth 100000 in
theorem laws_toCellS.calls (k : Nat) (A0 : Option Addr) (c0 : Nat) (l0 : List (S94)) (r : List (S75)) (w : World) (hr0 : Kd.C k94 w A0 l0.length l0) (hc0 : l0.length ≤ c0) (h : laws_toCellS.f k l0 = some r) :
  Calls Try.prog 56 #[.slice A0 l0.length c0] w fun e w' => ∃ v0_ : Value, e = .returned (v0_) ∧ Kd.R k75 75 w' w.heap.size (fun _ => True) v0_ r ∧ Below w.heap.size w w' := by
 have hu94 := Try.underlying94
 have hu75 := Try.underlying75
 have HR0 := Gv.a0 hr0
 have HC0 := Gv.a0 hc0
 clear hr0 hc0
 have HB := Gv.a0 (Below.refl w.heap.size w)
 have H : (if 0 ≤ (l0.length : Int) then (if ((l0.length : Int) : Int).toNat ≤ 2199023255552 then (laws_toCellS.l0 k l0 (List.replicate ((l0.length : Int) : Int).toNat z75) 0) else (none)) else (none)) = some r := h
 clear h
 by_cases c2 : 0 ≤ (l0.length : Int)
 ·rw [if_pos c2] at H
  have c2b0 := eq_true c2
  have c2b1 : decide (0 ≤ (l0.length : Int)) = true := decide_eq_true c2
  clear c2
  by_cases c3 : ((l0.length : Int) : Int).toNat ≤ 2199023255552
  ·rw [if_pos c3] at H
   have c3b0 := eq_true c3
   have c3b1 : decide (((l0.length : Int) : Int).toNat ≤ 2199023255552) = true := decide_eq_true c3
   clear c3
   obtain ⟨y176, hy176⟩ : ∃ y_ : List (S75), y_ = (List.replicate ((l0.length : Int) : Int).toNat z75) := ⟨_, rfl⟩
   replace H : (laws_toCellS.l0 k l0 y176 0) = some r := by first | (rw [hy176]; with_reducible exact H) | (have H2_ := (Option.bind_some _ _).symm.trans H; rw [hy176]; with_reducible exact H2_) | (have H2_ := (Option.bind_some _ _).symm.trans H; with_reducible exact H2_) | with_reducible exact H | (rw [hy176]; exact H) | exact H
   have Ny176 := Gv.a0 hy176
   clear hy176
   have H' := Gv.a0 H
   clear H
   go_enter Try.func56, Try.ntmps56
   go_wp2_with (first | ((with_reducible refine gate_dst (N := 7) rfl ?_); refine Kd.R_make k75 _ 75 rfl (N := 7) rfl 38 _ _ rfl (l0.length : Int) rfl rfl Try.underlying38 (.agg #[(.bool false), (.int .i64 0), (.int .i64 0), (.int .i64 0), (.int .i64 0), (.int .i64 0), (.int .i64 0), (.int .i64 0), (.int .i64 0), (.int .i64 0), (.int .i64 0), (.int .i64 0), (.int .i64 0), (.int .i64 0), (.int .i64 0), (.int .i64 0)]) 128 info75 rfl (by decide) (by omega) z75 (ok := fun _ => True) (okp := fun _ => True) (k75_mkM _ _ _ z75 ) (fun _ hk => hk) trivial (of_decide_eq_true (by first | (with_reducible assumption) | assumption)) (Nat.le_trans (Nat.mul_le_mul_right _ (of_decide_eq_true (by first | (with_reducible assumption) | assumption) : (l0.length : Int).toNat ≤ 2199023255552)) (by omega)) (Below.refl _ _) (Nat.le_refl _) ?_; intro v177 w4 ho5 hb hg_ hnew_; clear hg_ hnew_; (first | rw [← Ny176.out] at ho5 | (simp only [Int.reduceToNat] at ho5; rw [← Ny176.out] at ho5)); have HO178 := Gv.a0 (Kd.R_lower ho5 (below_size Gv.bw)); replace HB := Gv.a0 (below_step Gv.bw hb); clear hb ho5))
   go_loopg [4] k (fun kq v4 w' => ∃ (x3_1 : List (S75)) (x4_1 : Int), v4 = .int .i64 x4_1 ∧ Aside0 (laws_toCellS.l0 kq l0 x3_1 x4_1 = some r) ∧ Aside0 (kq ≤ k) ∧ Aside0 (Kd.R k75 75 w' w.heap.size (fun _ => True) v177 x3_1) ∧ Aside0 (Below w.heap.size w w'))
   case atStart => exact ⟨(y176), (0), Gv.rq, H', ⟨Nat.le_refl _⟩, ⟨Gv.kr HO178.out⟩, ⟨Gv.bw⟩⟩
   case round =>
    clear H'
    try clear c2
    try clear c2b0
    try clear c2b1
    try clear p2
    try clear c3
    try clear c3b0
    try clear c3b1
    try clear c5
    obtain ⟨x3_1, x4_1, rfl, HA, HK1, HO_3, HB⟩ := hrel
    cases gk with
    | zero => exact absurd HA.out (by simp [laws_toCellS.l0])
    | succ k1 =>
     have H := HA.out
     clear HA
     simp only [laws_toCellS.l0] at H
     by_cases c6 : x4_1 < (l0.length : Int)
     ·rw [if_pos c6] at H
      have c6b0 : decide (x4_1 < (l0.length : Int)) = true := decide_eq_true c6
      clear c6
      by_cases c7 : 0 ≤ x4_1
      ·rw [if_pos c7] at H
       have c7b0 : decide (0 ≤ x4_1) = true := decide_eq_true c7
       clear c7
       replace H := Option.bind_eq_some_iff.mp H
       obtain ⟨⟨t180, t181, t182, t183, t184, t185, t186, t187, t188, t189, t190, t191, t192, t193, t194, t195⟩, A80, H⟩ := H
       replace H : (if x4_1 < (x3_1.length : Int) then (laws_toCellS.l0 k1 l0 (x3_1.set (x4_1 : Int).toNat (⟨t180, (⟨t181, (⟨(⟨t182, t183, t184, t185, t186⟩ : S29), (⟨t187, t188, t189, t190, t191⟩ : S29), t192, t193, t194⟩ : S31)⟩ : S33), t195⟩ : S75)) (wrap64 (x4_1 + 1))) else (none)) = some r := H
       have A8 := Gv.a0 A80
       clear A80
       by_cases c9 : x4_1 < (x3_1.length : Int)
       ·rw [if_pos c9] at H
        have c9b0 : decide (x4_1 < (x3_1.length : Int)) = true := decide_eq_true c9
        clear c9
        obtain ⟨y196, hy196⟩ : ∃ y_ : List (S75), y_ = (x3_1.set (x4_1 : Int).toNat (⟨t180, (⟨t181, (⟨(⟨t182, t183, t184, t185, t186⟩ : S29), (⟨t187, t188, t189, t190, t191⟩ : S29), t192, t193, t194⟩ : S31)⟩ : S33), t195⟩ : S75)) := ⟨_, rfl⟩
        replace H : (laws_toCellS.l0 k1 l0 y196 (wrap64 (x4_1 + 1))) = some r := by first | (rw [hy196]; with_reducible exact H) | (have H2_ := (Option.bind_some _ _).symm.trans H; rw [hy196]; with_reducible exact H2_) | (have H2_ := (Option.bind_some _ _).symm.trans H; with_reducible exact H2_) | with_reducible exact H | (rw [hy196]; exact H) | exact H
        have Ny196 := Gv.a0 hy196
        clear hy196
        have H' := Gv.a0 H
        clear H
        have p179 : 0 ≤ (x4_1 : Int) := of_decide_eq_true (by first | (with_reducible assumption) | assumption)
        have q179 : x4_1 < (l0.length : Int) := of_decide_eq_true (by first | (with_reducible assumption) | assumption)
        obtain ⟨ad179, e179, hx179_0, hx179_1, hx179_2, hx179_3, hx179_4, hx179_5, hx179_6, hx179_7, hx179_8, hx179_9, hx179_10, hx179_11, hx179_12, hx179_13, hx179_14, hx179_15⟩ := at_T94 HR0.out x4_1 p179 q179
        cases e179
        replace hx179_0 := Gv.bx HB.out hx179_0
        replace hx179_1 := Gv.bx HB.out hx179_1
        replace hx179_2 := Gv.bx HB.out hx179_2
        replace hx179_3 := Gv.bx HB.out hx179_3
        replace hx179_4 := Gv.bx HB.out hx179_4
        replace hx179_5 := Gv.bx HB.out hx179_5
        replace hx179_6 := Gv.bx HB.out hx179_6
        replace hx179_7 := Gv.bx HB.out hx179_7
        replace hx179_8 := Gv.bx HB.out hx179_8
        replace hx179_9 := Gv.bx HB.out hx179_9
        replace hx179_10 := Gv.bx HB.out hx179_10
        replace hx179_11 := Gv.bx HB.out hx179_11
        replace hx179_12 := Gv.bx HB.out hx179_12
        replace hx179_13 := Gv.bx HB.out hx179_13
        replace hx179_14 := Gv.bx HB.out hx179_14
        replace hx179_15 := Gv.bx HB.out hx179_15
        replace p179 := eq_true p179
        replace q179 := eq_true q179
        go_wp2_with (first | ((with_reducible refine gate_callee (f := 77) rfl ?_); refine goesL_ (some 20) rfl rfl Try.func77 (by kernel_rfl) rfl #[.agg #[.bool ((rd_T94 l0 x4_1).f0), .int .i64 ((rd_T94 l0 x4_1).f1.f0), .int .i64 ((rd_T94 l0 x4_1).f1.f1.f0.f0), .int .i64 ((rd_T94 l0 x4_1).f1.f1.f0.f1), .int .i64 ((rd_T94 l0 x4_1).f1.f1.f0.f2), .int .i64 ((rd_T94 l0 x4_1).f1.f1.f0.f3), .int .i64 ((rd_T94 l0 x4_1).f1.f1.f0.f4), .int .i64 ((rd_T94 l0 x4_1).f1.f1.f1.f0), .int .i64 ((rd_T94 l0 x4_1).f1.f1.f1.f1), .int .i64 ((rd_T94 l0 x4_1).f1.f1.f1.f2), .int .i64 ((rd_T94 l0 x4_1).f1.f1.f1.f3), .int .i64 ((rd_T94 l0 x4_1).f1.f1.f1.f4), .int .i64 ((rd_T94 l0 x4_1).f1.f1.f2), .int .i64 ((rd_T94 l0 x4_1).f1.f1.f3), .int .i64 ((rd_T94 l0 x4_1).f1.f1.f4), .int .i64 ((rd_T94 l0 x4_1).f2)]] rfl Gv.lm ?_; (with_reducible refine (laws_toCell.calls _ _ _ _ _ _ _ _ _ _ _ _ _ _ _ _ t180 t181 t182 t183 t184 t185 t186 t187 t188 t189 t190 t191 t192 t193 t194 t195 _ A8.out).mono ?_); rintro e w11 ⟨rfl, hb⟩; refine ⟨_, rfl, ?_⟩; replace HO_3 := Gv.a0 (Kd.R_below (Gv.kr HO_3.out) hb); replace HB := Gv.a0 (below_step Gv.bw hb); clear hb; have p10 : 0 ≤ (x4_1 : Int) := of_decide_eq_true (by first | (with_reducible assumption) | assumption); have q10 : (x4_1 : Int) < ((x3_1.length : Int) : Int) := of_decide_eq_true (by first | (with_reducible assumption) | assumption); obtain ⟨go10, co10, eo10, gb10, gl10, cl10, HG10⟩ := Kd.R_form HO_3.out (by omega); (first | cases eo10 | (injection eo10 with ea_ en_ ec_; (first | subst ea_ | (injection ea_ with ea_; subst ea_)); subst ec_; clear en_)); have GB10 := Gv.a0 gb10; have GG10 := Gv.a0 HG10; clear gb10 gl10 HG10; replace p10 := eq_true p10; replace q10 := eq_true q10; have HX12 := Gv.a0 (show Kd.R k75 75 w11 w.heap.size (fun _ => True) (.slice (some ⟨go10, 0, none⟩) x3_1.length co10) x3_1 from (Gv.kr HO_3.out))) | ((with_reducible refine gate_store (t := 75) (p := 21) rfl ?_); refine Gv.row_store (d := k75) (x4_1 : Int) (⟨t180, (⟨t181, (⟨(⟨t182, t183, t184, t185, t186⟩ : S29), (⟨t187, t188, t189, t190, t191⟩ : S29), t192, t193, t194⟩ : S31)⟩ : S33), t195⟩ : S75) rfl rfl rfl rfl rfl (by kernel_rfl) HX12.out (of_decide_eq_true (by first | (with_reducible assumption) | assumption)) (by have h_ : (x4_1 : Int) < ((x3_1.length : Int) : Int) := of_decide_eq_true (by first | (with_reducible assumption) | assumption); first | exact h_ | (have e_ := (Kd.R_reads' HO_3.out).1; omega) | simpa using h_) rfl rfl (k75_mkM _ _ _ (⟨t180, (⟨t181, (⟨(⟨t182, t183, t184, t185, t186⟩ : S29), (⟨t187, t188, t189, t190, t191⟩ : S29), t192, t193, t194⟩ : S31)⟩ : S33), t195⟩ : S75) ) ?_; intro w13 hR_ hoth_ hbel_; replace HO_3 := Gv.a0 (show Kd.R k75 75 w13 w.heap.size (fun _ => True) (.slice (some ⟨go10, 0, none⟩) x3_1.length co10) y196 from by rw [Ny196.out]; exact hR_); replace HB := Gv.a0 (hbel_ w HB.out GB10.out); clear HX12 hR_ hoth_ hbel_))
        go_roundg k1
        case measure => have := HK1.out; omega
        case rel => exact ⟨(y196), (wrap64 (x4_1 + 1)), Gv.rq, H', ⟨by have := HK1.out; omega⟩, ⟨Gv.kr HO_3.out⟩, ⟨Gv.bw⟩⟩
       ·rw [if_neg c9] at H
        exact absurd H (by simp)
      ·rw [if_neg c7] at H
       exact absurd H (by simp)
     ·rw [if_neg c6] at H
      have c6b0 : decide (x4_1 < (l0.length : Int)) = false := decide_eq_false c6
      clear c6
      obtain rfl := Option.some.inj H
      go_wp2
      go_ret
      exact ⟨_, Gv.rt, Gv.kr HO_3.out, Gv.bw⟩
  ·rw [if_neg c3] at H
   exact absurd H (by simp)
 ·rw [if_neg c2] at H
  exact absurd H (by simp)

/-! ### laws_toTable: function 25 -/
def laws_toTable.f (k : Nat) (a0_0 : Int) (l0_1 : List (S94)) : Option (Int × (List (S75))) := (laws_toCellS.f k l0_1).bind fun t200 => (some (a0_0, t200))
set_option maxHeartbeats 8000000 in
set_option maxRecDepth 100000 in
theorem laws_toTable.calls (k : Nat) (a0_0 : Int) (A0_1 : Option Addr) (c0_1 : Nat) (l0_1 : List (S94)) (r1 : Int) (r2 : List (S75)) (w : World) (hr0_1 : Kd.C k94 w A0_1 l0_1.length l0_1) (hc0_1 : l0_1.length ≤ c0_1) (h : laws_toTable.f k a0_0 l0_1 = some (r1, r2)) :
  Calls Try.prog 25 #[.agg #[.int .i64 a0_0, .slice A0_1 l0_1.length c0_1]] w fun e w' => ∃ v1_ : Value, e = .returned (.agg #[.int .i64 r1, v1_]) ∧ Kd.R k75 75 w' w.heap.size (fun _ => True) v1_ r2 ∧ Below w.heap.size w w' := by
 have hu47 := Try.underlying47
 have hu40 := Try.underlying40
 have HR0_1 := Gv.a0 hr0_1
 have HC0_1 := Gv.a0 hc0_1
 clear hr0_1 hc0_1
 have HB := Gv.a0 (Below.refl w.heap.size w)
 have H : ((laws_toCellS.f k l0_1).bind fun t200 => (some (a0_0, t200))) = some (r1, r2) := h
 clear h
 replace H := Option.bind_eq_some_iff.mp H
 obtain ⟨t200, A20, H⟩ := H
 replace H : (some (a0_0, t200)) = some (r1, r2) := H
 have A2 := Gv.a0 A20
 clear A20
 simp only [Option.some.injEq, Prod.mk.injEq] at H
 obtain ⟨rfl, rfl⟩ := H
 go_enter Try.func25, Try.ntmps25
 go_wp2_with (first | ((with_reducible refine gate_dst (N := 1) rfl ?_); refine box_event ?hg (N := 1) ?hd (cs := #[.int .i64 a0_0, .slice A0_1 l0_1.length c0_1]) (t := 47) ?hr ?_; (case hd => rfl); (case hg => rfl); (case hr => first | (go_simp; done) | (go_simp; rfl)); intro gb197 hg w3 hbox hb; have BK197 := Gv.a0 (hbox); have GW197 := Gv.a0 ((Gv.ble hg Gv.bw : w.heap.size ≤ gb197)); have GE197 := Gv.a0 ((Gv.ble hg Gv.bw : w.heap.size ≤ gb197)); replace HB := Gv.a0 (below_step Gv.bw hb); clear hb hbox hg) | ((with_reducible refine gate_dst (N := 2) rfl ?_); refine box_event ?hg (N := 2) ?hd (cs := #[.int .i64 0, .slice none 0 0]) (t := 40) ?hr ?_; (case hd => rfl); (case hg => rfl); (case hr => first | (go_simp; done) | (go_simp; rfl)); intro gb198 hg w4 hbox hb; have BK198 := Gv.a0 (hbox); have GW198 := Gv.a0 ((Gv.ble hg Gv.bw : w.heap.size ≤ gb198)); have GE198 := Gv.a0 ((Gv.ble hg Gv.bw : w.heap.size ≤ gb198)); replace HB := Gv.a0 (below_step Gv.bw hb); have NB197_198 := Gv.a0 ((Gv.nlt hg (Gv.kb BK197.out) : gb197 ≠ gb198)); have NB198_197 := Gv.a0 ((Gv.ngt hg (Gv.kb BK197.out) : gb198 ≠ gb197)); replace BK197 := Gv.a0 (Gv.bb BK197.out hb); clear hb hbox hg) | ((with_reducible refine gate_dst (N := 3) rfl ?_); refine box_event ?hg (N := 3) ?hd (cs := #[.int .i64 0, .slice none 0 0]) (t := 40) ?hr ?_; (case hd => rfl); (case hg => rfl); (case hr => first | (go_simp; done) | (go_simp; rfl)); intro gb199 hg w5 hbox hb; have BK199 := Gv.a0 (hbox); have GW199 := Gv.a0 ((Gv.ble hg Gv.bw : w.heap.size ≤ gb199)); have GE199 := Gv.a0 ((Gv.ble hg Gv.bw : w.heap.size ≤ gb199)); replace HB := Gv.a0 (below_step Gv.bw hb); have NB197_199 := Gv.a0 ((Gv.nlt hg (Gv.kb BK197.out) : gb197 ≠ gb199)); have NB199_197 := Gv.a0 ((Gv.ngt hg (Gv.kb BK197.out) : gb199 ≠ gb197)); replace BK197 := Gv.a0 (Gv.bb BK197.out hb); have NB198_199 := Gv.a0 ((Gv.nlt hg (Gv.kb BK198.out) : gb198 ≠ gb199)); have NB199_198 := Gv.a0 ((Gv.ngt hg (Gv.kb BK198.out) : gb199 ≠ gb198)); replace BK198 := Gv.a0 (Gv.bb BK198.out hb); clear hb hbox hg; have hnb6 := NB197_198.out; have hnc6 := NB198_197.out; have hnb7 := NB197_199.out; have hnc7 := NB199_197.out; have hcz8_0 : w5.cell? ⟨gb197, 0, none⟩ = some (.int .i64 a0_0) := (blk_cell BK197.out 0).trans rfl; have hcz8_1 : w5.cell? ⟨gb197, 1, none⟩ = some (.slice A0_1 l0_1.length c0_1) := (blk_cell BK197.out 1).trans rfl; have hfz8_0 := blk_frozen BK197.out 0; have hfz8_1 := blk_frozen BK197.out 1; have hnb9 := NB199_198.out; have hnc9 := NB198_199.out; have hcz10_0 : w5.cell? ⟨gb199, 0, none⟩ = some (.int .i64 0) := (blk_cell BK199.out 0).trans rfl; have hcz10_1 : w5.cell? ⟨gb199, 1, none⟩ = some (.slice none 0 0) := (blk_cell BK199.out 1).trans rfl; have hfz10_0 := blk_frozen BK199.out 0; have hfz10_1 := blk_frozen BK199.out 1) | ((with_reducible refine gate_callee (f := 56) rfl ?_); refine goesL_ (some 9) rfl rfl Try.func56 (by kernel_rfl) rfl #[.slice A0_1 l0_1.length c0_1] rfl Gv.lm ?_; (with_reducible refine (laws_toCellS.calls k _ _ l0_1 t200 _ ?side1 ?side2 A2.out).mono ?_); (case side1 => exact Kd.C_below HR0_1.out Gv.bw); (case side2 => exact HC0_1.out); rintro e w11 ⟨v201, rfl, ho0, hb⟩; refine ⟨_, rfl, ?_⟩; have HO202 := Gv.a0 (Kd.R_lower ho0 (below_size Gv.bw)); replace BK197 := Gv.a0 (blk_below (g := gb197) (o := .cells #[.int .i64 a0_0, .slice A0_1 l0_1.length c0_1] 47 (0, 0)) Gv.bkf hb); replace BK198 := Gv.a0 (blk_below (g := gb198) (o := .cells #[.int .i64 0, .slice none 0 0] 40 (0, 0)) Gv.bkf hb); replace BK199 := Gv.a0 (blk_below (g := gb199) (o := .cells #[.int .i64 a0_0, .slice none 0 0] 40 (0, 0)) (by (with_reducible repeat (first | refine blk_drewN ?_ _ | refine blk_drew ?_ | refine blk_alloc ?_ _)); refine blk_put (cs := #[.int .i64 0, .slice none 0 0]) ?_ 0 _ rfl; (with_reducible repeat (first | refine blk_drewN ?_ _ | refine blk_drew ?_ | refine blk_alloc ?_ _)); exact BK199.out) hb); replace HB := Gv.a0 (below_step Gv.bw hb); clear hb ho0; obtain ⟨Ao12, co12, eo12⟩ := Kd.R_slice HO202.out; subst eo12; have hcz13_0 : w11.cell? ⟨gb199, 0, none⟩ = some (.int .i64 a0_0) := (blk_cell BK199.out 0).trans rfl; have hcz13_1 : w11.cell? ⟨gb199, 1, none⟩ = some (.slice none 0 0) := (blk_cell BK199.out 1).trans rfl; have hfz13_0 := blk_frozen BK199.out 0; have hfz13_1 := blk_frozen BK199.out 1; have hcz14_0 : w11.cell? ⟨gb198, 0, none⟩ = some (.int .i64 0) := (blk_cell BK198.out 0).trans rfl; have hcz14_1 : w11.cell? ⟨gb198, 1, none⟩ = some (.slice none 0 0) := (blk_cell BK198.out 1).trans rfl; have hfz14_0 := blk_frozen BK198.out 0; have hfz14_1 := blk_frozen BK198.out 1))
 refine bodyPost_ret (results_cell_row rfl _ _ gb198 40 #[.int .i64 a0_0, .slice Ao12 t200.length co12] (0, 0) _ rfl (by (with_reducible repeat (first | refine blk_drewN ?_ _ | refine blk_drew ?_ | refine blk_alloc ?_ _)); refine blk_put (cs := #[.int .i64 a0_0, .slice none 0 0]) ?_ 1 _ rfl; (with_reducible repeat (first | refine blk_drewN ?_ _ | refine blk_drew ?_ | refine blk_alloc ?_ _)); refine blk_put (cs := #[.int .i64 0, .slice none 0 0]) ?_ 0 _ rfl; (with_reducible repeat (first | refine blk_drewN ?_ _ | refine blk_drew ?_ | refine blk_alloc ?_ _)); refine blk_far ?_ NB198_199.out _; (with_reducible repeat (first | refine blk_drewN ?_ _ | refine blk_drew ?_ | refine blk_alloc ?_ _)); exact BK198.out) Try.underlying40 rfl (by kernel_rfl)) rfl ?_
 exact ⟨_, Gv.rt, by (with_reducible repeat (first | apply Kd.R_alloc | apply Kd.R_drewN | apply Kd.R_drew)); exact Kd.R_mono (Kd.R_far (p := ⟨gb198, 1, none⟩) (Kd.R_far (p := ⟨gb198, 0, none⟩) (Kd.R_far (p := ⟨gb199, 1, none⟩) (Kd.R_types (Kd.R_types HO202.out BK199.out (by decide)) BK198.out (by decide)) (fun _ hk => hk.1.2) (.slice Ao12 t200.length co12)) (fun _ hk => hk.2) (.int .i64 a0_0)) (fun _ hk => hk.2) (.slice Ao12 t200.length co12)) (fun _ hk => trivial), Gv.bw⟩

/-! ### spec_l03Half: function 89 -/
def spec_l03Half.f (a0 : Int) : Option (Bool) := if a0 ≥ 0 then (some (decide (a0 ≤ 4294967295))) else (some false)
set_option maxHeartbeats 8000000 in
set_option maxRecDepth 100000 in
theorem spec_l03Half.calls (a0 : Int) (r : Bool) (w : World) (h : spec_l03Half.f a0 = some r) :
  Calls Try.prog 89 #[.int .i64 a0] w fun e w' => e = .returned (.bool r) ∧ Drawn0 w w' := by
 have H : (if a0 ≥ 0 then (some (decide (a0 ≤ 4294967295))) else (some false)) = some r := h
 clear h
 by_cases c2 : a0 ≥ 0
 ·rw [if_pos c2] at H
  have c2b0 : decide (0 ≤ a0) = true := decide_eq_true c2
  clear c2
  obtain rfl := Option.some.inj H
  go_enter Try.func89, Try.ntmps89
  go_wp2
  go_ret
  exact ⟨by first | rfl | (simp; done) | (simp [Int.tdiv_eq_ediv_of_nonneg]; done) | (simp [*]; done), by repeat (first | exact Drawn0.refl _ | apply Drawn0.step)⟩
 ·rw [if_neg c2] at H
  have c2b0 : decide (0 ≤ a0) = false := decide_eq_false c2
  clear c2
  obtain rfl := Option.some.inj H
  go_enter Try.func89, Try.ntmps89
  go_wp2
  go_ret
  exact ⟨by first | rfl | (simp; done) | (simp [Int.tdiv_eq_ediv_of_nonneg]; done) | (simp [*]; done), by repeat (first | exact Drawn0.refl _ | apply Drawn0.step)⟩

/-! ### spec_AddrOk: function 80 -/
def spec_AddrOk.f (a0_0 : Int) (a0_1 : Int) (a0_2 : Int) (a0_3 : Int) (a0_4 : Int) : Option (Bool) := if a0_0 = 4 then (if a0_1 = 0 then (if a0_2 = 0 then (if a0_3 = 0 then ((spec_l03Half.f a0_4).bind fun t204 => (some t204)) else (some false)) else (some false)) else (some false)) else (if a0_0 = 6 then ((spec_l03Half.f a0_1).bind fun t205 => (if t205 = true then ((spec_l03Half.f a0_2).bind fun t206 => (if t206 = true then ((spec_l03Half.f a0_3).bind fun t207 => (if t207 = true then ((spec_l03Half.f a0_4).bind fun t208 => (some t208)) else (some false))) else (some false))) else (some false))) else (some false))
set_option maxHeartbeats 8000000 in
set_option maxRecDepth 100000 in
theorem spec_AddrOk.calls (a0_0 : Int) (a0_1 : Int) (a0_2 : Int) (a0_3 : Int) (a0_4 : Int) (r : Bool) (w : World) (h : spec_AddrOk.f a0_0 a0_1 a0_2 a0_3 a0_4 = some r) :
  Calls Try.prog 80 #[.agg #[.int .i64 a0_0, .int .i64 a0_1, .int .i64 a0_2, .int .i64 a0_3, .int .i64 a0_4]] w fun e w' => e = .returned (.bool r) ∧ Below w.heap.size w w' := by
 have hu29 := Try.underlying29
 have HB := Gv.a0 (Below.refl w.heap.size w)
 have H : (if a0_0 = 4 then (if a0_1 = 0 then (if a0_2 = 0 then (if a0_3 = 0 then ((spec_l03Half.f a0_4).bind fun t204 => (some t204)) else (some false)) else (some false)) else (some false)) else (if a0_0 = 6 then ((spec_l03Half.f a0_1).bind fun t205 => (if t205 = true then ((spec_l03Half.f a0_2).bind fun t206 => (if t206 = true then ((spec_l03Half.f a0_3).bind fun t207 => (if t207 = true then ((spec_l03Half.f a0_4).bind fun t208 => (some t208)) else (some false))) else (some false))) else (some false))) else (some false))) = some r := h
 clear h
 by_cases c2 : a0_0 = 4
 ·rw [if_pos c2] at H
  have c2b0 : (a0_0 == 4) = true := beq_iff_eq.mpr c2
  have c2b1 : (a0_0 != 4) = false := bne_eq_false_iff_eq.mpr c2
  clear c2
  by_cases c3 : a0_1 = 0
  ·rw [if_pos c3] at H
   have c3b0 : (a0_1 == 0) = true := beq_iff_eq.mpr c3
   have c3b1 : (a0_1 != 0) = false := bne_eq_false_iff_eq.mpr c3
   clear c3
   by_cases c4 : a0_2 = 0
   ·rw [if_pos c4] at H
    have c4b0 : (a0_2 == 0) = true := beq_iff_eq.mpr c4
    have c4b1 : (a0_2 != 0) = false := bne_eq_false_iff_eq.mpr c4
    clear c4
    by_cases c5 : a0_3 = 0
    ·rw [if_pos c5] at H
     have c5b0 : (a0_3 == 0) = true := beq_iff_eq.mpr c5
     have c5b1 : (a0_3 != 0) = false := bne_eq_false_iff_eq.mpr c5
     clear c5
     replace H := Option.bind_eq_some_iff.mp H
     obtain ⟨t204, A60, H⟩ := H
     replace H : (some t204) = some r := H
     have A6 := Gv.a0 A60
     clear A60
     obtain rfl := Option.some.inj H
     go_enter Try.func80, Try.ntmps80
     go_wp2_with (first | ((with_reducible refine gate_dst (N := 1) rfl ?_); refine box_event ?hg (N := 1) ?hd (cs := #[.int .i64 a0_0, .int .i64 a0_1, .int .i64 a0_2, .int .i64 a0_3, .int .i64 a0_4]) (t := 29) ?hr ?_; (case hd => rfl); (case hg => rfl); (case hr => first | (go_simp; done) | (go_simp; rfl)); intro gb203 hg w7 hbox hb; have BK203 := Gv.a0 (hbox); have GW203 := Gv.a0 ((Gv.ble hg Gv.bw : w.heap.size ≤ gb203)); have GE203 := Gv.a0 ((Gv.ble hg Gv.bw : w.heap.size ≤ gb203)); replace HB := Gv.a0 (below_step Gv.bw hb); clear hb hbox hg; obtain ⟨hcz8_0, hcz8_1, hcz8_2, hcz8_3, hcz8_4⟩ := Gv.c5 BK203.out; obtain ⟨hfz8_0, hfz8_1, hfz8_2, hfz8_3, hfz8_4⟩ := Gv.f5 BK203.out) | (go_at_call 89; (with_reducible refine (spec_l03Half.calls a0_4 t204 _ A6.out).mono ?_); rintro e w' ⟨rfl, ⟨nd, rfl⟩⟩))
     go_ret
     exact ⟨Gv.rt, Gv.bw⟩
    ·rw [if_neg c5] at H
     have c5b0 : (a0_3 == 0) = false := beq_eq_false_iff_ne.mpr c5
     have c5b1 : (a0_3 != 0) = true := bne_iff_ne.mpr c5
     obtain rfl := Option.some.inj H
     go_enter Try.func80, Try.ntmps80
     go_wp2_with (first | ((with_reducible refine gate_dst (N := 1) rfl ?_); refine box_event ?hg (N := 1) ?hd (cs := #[.int .i64 a0_0, .int .i64 a0_1, .int .i64 a0_2, .int .i64 a0_3, .int .i64 a0_4]) (t := 29) ?hr ?_; (case hd => rfl); (case hg => rfl); (case hr => first | (go_simp; done) | (go_simp; rfl)); intro gb203 hg w9 hbox hb; have BK203 := Gv.a0 (hbox); have GW203 := Gv.a0 ((Gv.ble hg Gv.bw : w.heap.size ≤ gb203)); have GE203 := Gv.a0 ((Gv.ble hg Gv.bw : w.heap.size ≤ gb203)); replace HB := Gv.a0 (below_step Gv.bw hb); clear hb hbox hg; obtain ⟨hcz10_0, hcz10_1, hcz10_2, hcz10_3, hcz10_4⟩ := Gv.c5 BK203.out; obtain ⟨hfz10_0, hfz10_1, hfz10_2, hfz10_3, hfz10_4⟩ := Gv.f5 BK203.out))
     go_ret
     exact ⟨Gv.rt, Gv.bw⟩
   ·rw [if_neg c4] at H
    have c4b0 : (a0_2 == 0) = false := beq_eq_false_iff_ne.mpr c4
    have c4b1 : (a0_2 != 0) = true := bne_iff_ne.mpr c4
    obtain rfl := Option.some.inj H
    go_enter Try.func80, Try.ntmps80
    go_wp2_with (first | ((with_reducible refine gate_dst (N := 1) rfl ?_); refine box_event ?hg (N := 1) ?hd (cs := #[.int .i64 a0_0, .int .i64 a0_1, .int .i64 a0_2, .int .i64 a0_3, .int .i64 a0_4]) (t := 29) ?hr ?_; (case hd => rfl); (case hg => rfl); (case hr => first | (go_simp; done) | (go_simp; rfl)); intro gb203 hg w11 hbox hb; have BK203 := Gv.a0 (hbox); have GW203 := Gv.a0 ((Gv.ble hg Gv.bw : w.heap.size ≤ gb203)); have GE203 := Gv.a0 ((Gv.ble hg Gv.bw : w.heap.size ≤ gb203)); replace HB := Gv.a0 (below_step Gv.bw hb); clear hb hbox hg; obtain ⟨hcz12_0, hcz12_1, hcz12_2, hcz12_3, hcz12_4⟩ := Gv.c5 BK203.out; obtain ⟨hfz12_0, hfz12_1, hfz12_2, hfz12_3, hfz12_4⟩ := Gv.f5 BK203.out))
    go_ret
    exact ⟨Gv.rt, Gv.bw⟩
  ·rw [if_neg c3] at H
   have c3b0 : (a0_1 == 0) = false := beq_eq_false_iff_ne.mpr c3
   have c3b1 : (a0_1 != 0) = true := bne_iff_ne.mpr c3
   obtain rfl := Option.some.inj H
   go_enter Try.func80, Try.ntmps80
   go_wp2_with (first | ((with_reducible refine gate_dst (N := 1) rfl ?_); refine box_event ?hg (N := 1) ?hd (cs := #[.int .i64 a0_0, .int .i64 a0_1, .int .i64 a0_2, .int .i64 a0_3, .int .i64 a0_4]) (t := 29) ?hr ?_; (case hd => rfl); (case hg => rfl); (case hr => first | (go_simp; done) | (go_simp; rfl)); intro gb203 hg w13 hbox hb; have BK203 := Gv.a0 (hbox); have GW203 := Gv.a0 ((Gv.ble hg Gv.bw : w.heap.size ≤ gb203)); have GE203 := Gv.a0 ((Gv.ble hg Gv.bw : w.heap.size ≤ gb203)); replace HB := Gv.a0 (below_step Gv.bw hb); clear hb hbox hg; obtain ⟨hcz14_0, hcz14_1, hcz14_2, hcz14_3, hcz14_4⟩ := Gv.c5 BK203.out; obtain ⟨hfz14_0, hfz14_1, hfz14_2, hfz14_3, hfz14_4⟩ := Gv.f5 BK203.out))
   go_ret
   exact ⟨Gv.rt, Gv.bw⟩
 ·rw [if_neg c2] at H
  have c2b0 : (a0_0 == 4) = false := beq_eq_false_iff_ne.mpr c2
  have c2b1 : (a0_0 != 4) = true := bne_iff_ne.mpr c2
  by_cases c15 : a0_0 = 6
  ·rw [if_pos c15] at H
   have c15b0 : (a0_0 == 6) = true := beq_iff_eq.mpr c15
   have c15b1 : (a0_0 != 6) = false := bne_eq_false_iff_eq.mpr c15
   clear c15
   replace H := Option.bind_eq_some_iff.mp H
   obtain ⟨t205, A160, H⟩ := H
   replace H : (if t205 = true then ((spec_l03Half.f a0_2).bind fun t206 => (if t206 = true then ((spec_l03Half.f a0_3).bind fun t207 => (if t207 = true then ((spec_l03Half.f a0_4).bind fun t208 => (some t208)) else (some false))) else (some false))) else (some false)) = some r := H
   have A16 := Gv.a0 A160
   clear A160
   by_cases c17 : t205 = true
   ·subst c17
    have H1 : ((spec_l03Half.f a0_2).bind fun t206 => (if t206 = true then ((spec_l03Half.f a0_3).bind fun t207 => (if t207 = true then ((spec_l03Half.f a0_4).bind fun t208 => (some t208)) else (some false))) else (some false))) = some r := by rw [if_pos rfl] at H; exact H
    clear H
    have H := H1
    clear H1
    replace H := Option.bind_eq_some_iff.mp H
    obtain ⟨t206, A180, H⟩ := H
    replace H : (if t206 = true then ((spec_l03Half.f a0_3).bind fun t207 => (if t207 = true then ((spec_l03Half.f a0_4).bind fun t208 => (some t208)) else (some false))) else (some false)) = some r := H
    have A18 := Gv.a0 A180
    clear A180
    by_cases c19 : t206 = true
    ·subst c19
     have H1 : ((spec_l03Half.f a0_3).bind fun t207 => (if t207 = true then ((spec_l03Half.f a0_4).bind fun t208 => (some t208)) else (some false))) = some r := by rw [if_pos rfl] at H; exact H
     clear H
     have H := H1
     clear H1
     replace H := Option.bind_eq_some_iff.mp H
     obtain ⟨t207, A200, H⟩ := H
     replace H : (if t207 = true then ((spec_l03Half.f a0_4).bind fun t208 => (some t208)) else (some false)) = some r := H
     have A20 := Gv.a0 A200
     clear A200
     by_cases c21 : t207 = true
     ·subst c21
      have H1 : ((spec_l03Half.f a0_4).bind fun t208 => (some t208)) = some r := by rw [if_pos rfl] at H; exact H
      clear H
      have H := H1
      clear H1
      replace H := Option.bind_eq_some_iff.mp H
      obtain ⟨t208, A220, H⟩ := H
      replace H : (some t208) = some r := H
      have A22 := Gv.a0 A220
      clear A220
      obtain rfl := Option.some.inj H
      go_enter Try.func80, Try.ntmps80
      go_wp2_with (first | ((with_reducible refine gate_dst (N := 1) rfl ?_); refine box_event ?hg (N := 1) ?hd (cs := #[.int .i64 a0_0, .int .i64 a0_1, .int .i64 a0_2, .int .i64 a0_3, .int .i64 a0_4]) (t := 29) ?hr ?_; (case hd => rfl); (case hg => rfl); (case hr => first | (go_simp; done) | (go_simp; rfl)); intro gb203 hg w23 hbox hb; have BK203 := Gv.a0 (hbox); have GW203 := Gv.a0 ((Gv.ble hg Gv.bw : w.heap.size ≤ gb203)); have GE203 := Gv.a0 ((Gv.ble hg Gv.bw : w.heap.size ≤ gb203)); replace HB := Gv.a0 (below_step Gv.bw hb); clear hb hbox hg; obtain ⟨hcz24_0, hcz24_1, hcz24_2, hcz24_3, hcz24_4⟩ := Gv.c5 BK203.out; obtain ⟨hfz24_0, hfz24_1, hfz24_2, hfz24_3, hfz24_4⟩ := Gv.f5 BK203.out) | (go_at_call 89; (with_reducible refine (spec_l03Half.calls a0_1 true _ A16.out).mono ?_); rintro e w' ⟨rfl, ⟨nd, rfl⟩⟩) | (go_at_call 89; (with_reducible refine (spec_l03Half.calls a0_2 true _ A18.out).mono ?_); rintro e w' ⟨rfl, ⟨nd, rfl⟩⟩) | (go_at_call 89; (with_reducible refine (spec_l03Half.calls a0_3 true _ A20.out).mono ?_); rintro e w' ⟨rfl, ⟨nd, rfl⟩⟩) | (go_at_call 89; (with_reducible refine (spec_l03Half.calls a0_4 t208 _ A22.out).mono ?_); rintro e w' ⟨rfl, ⟨nd, rfl⟩⟩))
      go_ret
      exact ⟨Gv.rt, Gv.bw⟩
     ·replace c21 := Bool.eq_false_iff.mpr c21
      subst c21
      have H1 : (some false) = some r := by rw [if_neg (show ¬ (false = true) by decide)] at H; exact H
      clear H
      have H := H1
      clear H1
      obtain rfl := Option.some.inj H
      go_enter Try.func80, Try.ntmps80
      go_wp2_with (first | ((with_reducible refine gate_dst (N := 1) rfl ?_); refine box_event ?hg (N := 1) ?hd (cs := #[.int .i64 a0_0, .int .i64 a0_1, .int .i64 a0_2, .int .i64 a0_3, .int .i64 a0_4]) (t := 29) ?hr ?_; (case hd => rfl); (case hg => rfl); (case hr => first | (go_simp; done) | (go_simp; rfl)); intro gb203 hg w25 hbox hb; have BK203 := Gv.a0 (hbox); have GW203 := Gv.a0 ((Gv.ble hg Gv.bw : w.heap.size ≤ gb203)); have GE203 := Gv.a0 ((Gv.ble hg Gv.bw : w.heap.size ≤ gb203)); replace HB := Gv.a0 (below_step Gv.bw hb); clear hb hbox hg; obtain ⟨hcz26_0, hcz26_1, hcz26_2, hcz26_3, hcz26_4⟩ := Gv.c5 BK203.out; obtain ⟨hfz26_0, hfz26_1, hfz26_2, hfz26_3, hfz26_4⟩ := Gv.f5 BK203.out) | (go_at_call 89; (with_reducible refine (spec_l03Half.calls a0_1 true _ A16.out).mono ?_); rintro e w' ⟨rfl, ⟨nd, rfl⟩⟩) | (go_at_call 89; (with_reducible refine (spec_l03Half.calls a0_2 true _ A18.out).mono ?_); rintro e w' ⟨rfl, ⟨nd, rfl⟩⟩) | (go_at_call 89; (with_reducible refine (spec_l03Half.calls a0_3 false _ A20.out).mono ?_); rintro e w' ⟨rfl, ⟨nd, rfl⟩⟩))
      go_ret
      exact ⟨Gv.rt, Gv.bw⟩
    ·replace c19 := Bool.eq_false_iff.mpr c19
     subst c19
     have H1 : (some false) = some r := by rw [if_neg (show ¬ (false = true) by decide)] at H; exact H
     clear H
     have H := H1
     clear H1
     obtain rfl := Option.some.inj H
     go_enter Try.func80, Try.ntmps80
     go_wp2_with (first | ((with_reducible refine gate_dst (N := 1) rfl ?_); refine box_event ?hg (N := 1) ?hd (cs := #[.int .i64 a0_0, .int .i64 a0_1, .int .i64 a0_2, .int .i64 a0_3, .int .i64 a0_4]) (t := 29) ?hr ?_; (case hd => rfl); (case hg => rfl); (case hr => first | (go_simp; done) | (go_simp; rfl)); intro gb203 hg w27 hbox hb; have BK203 := Gv.a0 (hbox); have GW203 := Gv.a0 ((Gv.ble hg Gv.bw : w.heap.size ≤ gb203)); have GE203 := Gv.a0 ((Gv.ble hg Gv.bw : w.heap.size ≤ gb203)); replace HB := Gv.a0 (below_step Gv.bw hb); clear hb hbox hg; obtain ⟨hcz28_0, hcz28_1, hcz28_2, hcz28_3, hcz28_4⟩ := Gv.c5 BK203.out; obtain ⟨hfz28_0, hfz28_1, hfz28_2, hfz28_3, hfz28_4⟩ := Gv.f5 BK203.out) | (go_at_call 89; (with_reducible refine (spec_l03Half.calls a0_1 true _ A16.out).mono ?_); rintro e w' ⟨rfl, ⟨nd, rfl⟩⟩) | (go_at_call 89; (with_reducible refine (spec_l03Half.calls a0_2 false _ A18.out).mono ?_); rintro e w' ⟨rfl, ⟨nd, rfl⟩⟩))
     go_ret
     exact ⟨Gv.rt, Gv.bw⟩
   ·replace c17 := Bool.eq_false_iff.mpr c17
    subst c17
    have H1 : (some false) = some r := by rw [if_neg (show ¬ (false = true) by decide)] at H; exact H
    clear H
    have H := H1
    clear H1
    obtain rfl := Option.some.inj H
    go_enter Try.func80, Try.ntmps80
    go_wp2_with (first | ((with_reducible refine gate_dst (N := 1) rfl ?_); refine box_event ?hg (N := 1) ?hd (cs := #[.int .i64 a0_0, .int .i64 a0_1, .int .i64 a0_2, .int .i64 a0_3, .int .i64 a0_4]) (t := 29) ?hr ?_; (case hd => rfl); (case hg => rfl); (case hr => first | (go_simp; done) | (go_simp; rfl)); intro gb203 hg w29 hbox hb; have BK203 := Gv.a0 (hbox); have GW203 := Gv.a0 ((Gv.ble hg Gv.bw : w.heap.size ≤ gb203)); have GE203 := Gv.a0 ((Gv.ble hg Gv.bw : w.heap.size ≤ gb203)); replace HB := Gv.a0 (below_step Gv.bw hb); clear hb hbox hg; obtain ⟨hcz30_0, hcz30_1, hcz30_2, hcz30_3, hcz30_4⟩ := Gv.c5 BK203.out; obtain ⟨hfz30_0, hfz30_1, hfz30_2, hfz30_3, hfz30_4⟩ := Gv.f5 BK203.out) | (go_at_call 89; (with_reducible refine (spec_l03Half.calls a0_1 false _ A16.out).mono ?_); rintro e w' ⟨rfl, ⟨nd, rfl⟩⟩))
    go_ret
    exact ⟨Gv.rt, Gv.bw⟩
  ·rw [if_neg c15] at H
   have c15b0 : (a0_0 == 6) = false := beq_eq_false_iff_ne.mpr c15
   have c15b1 : (a0_0 != 6) = true := bne_iff_ne.mpr c15
   obtain rfl := Option.some.inj H
   go_enter Try.func80, Try.ntmps80
   go_wp2_with (first | ((with_reducible refine gate_dst (N := 1) rfl ?_); refine box_event ?hg (N := 1) ?hd (cs := #[.int .i64 a0_0, .int .i64 a0_1, .int .i64 a0_2, .int .i64 a0_3, .int .i64 a0_4]) (t := 29) ?hr ?_; (case hd => rfl); (case hg => rfl); (case hr => first | (go_simp; done) | (go_simp; rfl)); intro gb203 hg w31 hbox hb; have BK203 := Gv.a0 (hbox); have GW203 := Gv.a0 ((Gv.ble hg Gv.bw : w.heap.size ≤ gb203)); have GE203 := Gv.a0 ((Gv.ble hg Gv.bw : w.heap.size ≤ gb203)); replace HB := Gv.a0 (below_step Gv.bw hb); clear hb hbox hg; obtain ⟨hcz32_0, hcz32_1, hcz32_2, hcz32_3, hcz32_4⟩ := Gv.c5 BK203.out; obtain ⟨hfz32_0, hfz32_1, hfz32_2, hfz32_3, hfz32_4⟩ := Gv.f5 BK203.out))
   go_ret
   exact ⟨Gv.rt, Gv.bw⟩

/-! ### spec_l07Pair: function 65 -/
def spec_l07Pair.f (a0_0 : Int) (a0_1 : Int) (a0_2 : Int) (a0_3 : Int) (a0_4 : Int) (a1_0 : Int) (a1_1 : Int) (a1_2 : Int) (a1_3 : Int) (a1_4 : Int) : Option (Bool) := (spec_AddrOk.f a0_0 a0_1 a0_2 a0_3 a0_4).bind fun t211 => (if t211 = true then ((spec_AddrOk.f a1_0 a1_1 a1_2 a1_3 a1_4).bind fun t212 => (if t212 = true then (some (a0_0 == a1_0)) else (some false))) else (some false))
set_option maxHeartbeats 8000000 in
set_option maxRecDepth 100000 in
theorem spec_l07Pair.calls (a0_0 : Int) (a0_1 : Int) (a0_2 : Int) (a0_3 : Int) (a0_4 : Int) (a1_0 : Int) (a1_1 : Int) (a1_2 : Int) (a1_3 : Int) (a1_4 : Int) (r : Bool) (w : World) (h : spec_l07Pair.f a0_0 a0_1 a0_2 a0_3 a0_4 a1_0 a1_1 a1_2 a1_3 a1_4 = some r) :
  Calls Try.prog 65 #[.agg #[.int .i64 a0_0, .int .i64 a0_1, .int .i64 a0_2, .int .i64 a0_3, .int .i64 a0_4], .agg #[.int .i64 a1_0, .int .i64 a1_1, .int .i64 a1_2, .int .i64 a1_3, .int .i64 a1_4]] w fun e w' => e = .returned (.bool r) ∧ Below w.heap.size w w' := by
 have hu29 := Try.underlying29
 have HB := Gv.a0 (Below.refl w.heap.size w)
 have H : ((spec_AddrOk.f a0_0 a0_1 a0_2 a0_3 a0_4).bind fun t211 => (if t211 = true then ((spec_AddrOk.f a1_0 a1_1 a1_2 a1_3 a1_4).bind fun t212 => (if t212 = true then (some (a0_0 == a1_0)) else (some false))) else (some false))) = some r := h
 clear h
 replace H := Option.bind_eq_some_iff.mp H
 obtain ⟨t211, A30, H⟩ := H
 replace H : (if t211 = true then ((spec_AddrOk.f a1_0 a1_1 a1_2 a1_3 a1_4).bind fun t212 => (if t212 = true then (some (a0_0 == a1_0)) else (some false))) else (some false)) = some r := H
 have A3 := Gv.a0 A30
 clear A30
 by_cases c4 : t211 = true
 ·subst c4
  have H1 : ((spec_AddrOk.f a1_0 a1_1 a1_2 a1_3 a1_4).bind fun t212 => (if t212 = true then (some (a0_0 == a1_0)) else (some false))) = some r := by rw [if_pos rfl] at H; exact H
  clear H
  have H := H1
  clear H1
  replace H := Option.bind_eq_some_iff.mp H
  obtain ⟨t212, A50, H⟩ := H
  replace H : (if t212 = true then (some (a0_0 == a1_0)) else (some false)) = some r := H
  have A5 := Gv.a0 A50
  clear A50
  by_cases c6 : t212 = true
  ·subst c6
   have H1 : (some (a0_0 == a1_0)) = some r := by rw [if_pos rfl] at H; exact H
   clear H
   have H := H1
   clear H1
   obtain rfl := Option.some.inj H
   go_enter Try.func65, Try.ntmps65
   go_wp2_with (first | ((with_reducible refine gate_dst (N := 2) rfl ?_); refine box_event ?hg (N := 2) ?hd (cs := #[.int .i64 a0_0, .int .i64 a0_1, .int .i64 a0_2, .int .i64 a0_3, .int .i64 a0_4]) (t := 29) ?hr ?_; (case hd => rfl); (case hg => rfl); (case hr => first | (go_simp; done) | (go_simp; rfl)); intro gb209 hg w7 hbox hb; have BK209 := Gv.a0 (hbox); have GW209 := Gv.a0 ((Gv.ble hg Gv.bw : w.heap.size ≤ gb209)); have GE209 := Gv.a0 ((Gv.ble hg Gv.bw : w.heap.size ≤ gb209)); replace HB := Gv.a0 (below_step Gv.bw hb); clear hb hbox hg) | ((with_reducible refine gate_dst (N := 3) rfl ?_); refine box_event ?hg (N := 3) ?hd (cs := #[.int .i64 a1_0, .int .i64 a1_1, .int .i64 a1_2, .int .i64 a1_3, .int .i64 a1_4]) (t := 29) ?hr ?_; (case hd => rfl); (case hg => rfl); (case hr => first | (go_simp; done) | (go_simp; rfl)); intro gb210 hg w8 hbox hb; have BK210 := Gv.a0 (hbox); have GW210 := Gv.a0 ((Gv.ble hg Gv.bw : w.heap.size ≤ gb210)); have GE210 := Gv.a0 ((Gv.ble hg Gv.bw : w.heap.size ≤ gb210)); replace HB := Gv.a0 (below_step Gv.bw hb); have NB209_210 := Gv.a0 ((Gv.nlt hg (Gv.kb BK209.out) : gb209 ≠ gb210)); have NB210_209 := Gv.a0 ((Gv.ngt hg (Gv.kb BK209.out) : gb210 ≠ gb209)); replace BK209 := Gv.a0 (Gv.bb BK209.out hb); clear hb hbox hg; have hnb9 := NB209_210.out; have hnc9 := NB210_209.out; obtain ⟨hcz10_0, hcz10_1, hcz10_2, hcz10_3, hcz10_4⟩ := Gv.c5 BK209.out; obtain ⟨hfz10_0, hfz10_1, hfz10_2, hfz10_3, hfz10_4⟩ := Gv.f5 BK209.out) | ((with_reducible refine gate_callee (f := 80) rfl ?_); refine goesL_ (some 6) rfl rfl Try.func80 (by kernel_rfl) rfl #[.agg #[.int .i64 a0_0, .int .i64 a0_1, .int .i64 a0_2, .int .i64 a0_3, .int .i64 a0_4]] rfl Gv.lm ?_; (with_reducible refine (spec_AddrOk.calls a0_0 a0_1 a0_2 a0_3 a0_4 true _ A3.out).mono ?_); rintro e w11 ⟨rfl, hb⟩; refine ⟨_, rfl, ?_⟩; replace BK209 := Gv.a0 (Gv.bb BK209.out hb); replace BK210 := Gv.a0 (Gv.bb BK210.out hb); replace HB := Gv.a0 (below_step Gv.bw hb); clear hb; obtain ⟨hcz12_0, hcz12_1, hcz12_2, hcz12_3, hcz12_4⟩ := Gv.c5 BK210.out; obtain ⟨hfz12_0, hfz12_1, hfz12_2, hfz12_3, hfz12_4⟩ := Gv.f5 BK210.out) | (go_at_call 80; (with_reducible refine (spec_AddrOk.calls a1_0 a1_1 a1_2 a1_3 a1_4 true _ A5.out).mono ?_); rintro e w13 ⟨rfl, hb⟩; replace BK209 := Gv.a0 (Gv.bb BK209.out hb); replace BK210 := Gv.a0 (Gv.bb BK210.out hb); replace HB := Gv.a0 (below_step Gv.bw hb); clear hb; obtain ⟨hcz14_0, hcz14_1, hcz14_2, hcz14_3, hcz14_4⟩ := Gv.c5 BK209.out; obtain ⟨hfz14_0, hfz14_1, hfz14_2, hfz14_3, hfz14_4⟩ := Gv.f5 BK209.out; obtain ⟨hcz15_0, hcz15_1, hcz15_2, hcz15_3, hcz15_4⟩ := Gv.c5 BK210.out; obtain ⟨hfz15_0, hfz15_1, hfz15_2, hfz15_3, hfz15_4⟩ := Gv.f5 BK210.out))
   go_ret
   exact ⟨Gv.rt, Gv.bw⟩
  ·replace c6 := Bool.eq_false_iff.mpr c6
   subst c6
   have H1 : (some false) = some r := by rw [if_neg (show ¬ (false = true) by decide)] at H; exact H
   clear H
   have H := H1
   clear H1
   obtain rfl := Option.some.inj H
   go_enter Try.func65, Try.ntmps65
   go_wp2_with (first | ((with_reducible refine gate_dst (N := 2) rfl ?_); refine box_event ?hg (N := 2) ?hd (cs := #[.int .i64 a0_0, .int .i64 a0_1, .int .i64 a0_2, .int .i64 a0_3, .int .i64 a0_4]) (t := 29) ?hr ?_; (case hd => rfl); (case hg => rfl); (case hr => first | (go_simp; done) | (go_simp; rfl)); intro gb209 hg w16 hbox hb; have BK209 := Gv.a0 (hbox); have GW209 := Gv.a0 ((Gv.ble hg Gv.bw : w.heap.size ≤ gb209)); have GE209 := Gv.a0 ((Gv.ble hg Gv.bw : w.heap.size ≤ gb209)); replace HB := Gv.a0 (below_step Gv.bw hb); clear hb hbox hg) | ((with_reducible refine gate_dst (N := 3) rfl ?_); refine box_event ?hg (N := 3) ?hd (cs := #[.int .i64 a1_0, .int .i64 a1_1, .int .i64 a1_2, .int .i64 a1_3, .int .i64 a1_4]) (t := 29) ?hr ?_; (case hd => rfl); (case hg => rfl); (case hr => first | (go_simp; done) | (go_simp; rfl)); intro gb210 hg w17 hbox hb; have BK210 := Gv.a0 (hbox); have GW210 := Gv.a0 ((Gv.ble hg Gv.bw : w.heap.size ≤ gb210)); have GE210 := Gv.a0 ((Gv.ble hg Gv.bw : w.heap.size ≤ gb210)); replace HB := Gv.a0 (below_step Gv.bw hb); have NB209_210 := Gv.a0 ((Gv.nlt hg (Gv.kb BK209.out) : gb209 ≠ gb210)); have NB210_209 := Gv.a0 ((Gv.ngt hg (Gv.kb BK209.out) : gb210 ≠ gb209)); replace BK209 := Gv.a0 (Gv.bb BK209.out hb); clear hb hbox hg; have hnb18 := NB209_210.out; have hnc18 := NB210_209.out; obtain ⟨hcz19_0, hcz19_1, hcz19_2, hcz19_3, hcz19_4⟩ := Gv.c5 BK209.out; obtain ⟨hfz19_0, hfz19_1, hfz19_2, hfz19_3, hfz19_4⟩ := Gv.f5 BK209.out) | ((with_reducible refine gate_callee (f := 80) rfl ?_); refine goesL_ (some 6) rfl rfl Try.func80 (by kernel_rfl) rfl #[.agg #[.int .i64 a0_0, .int .i64 a0_1, .int .i64 a0_2, .int .i64 a0_3, .int .i64 a0_4]] rfl Gv.lm ?_; (with_reducible refine (spec_AddrOk.calls a0_0 a0_1 a0_2 a0_3 a0_4 true _ A3.out).mono ?_); rintro e w20 ⟨rfl, hb⟩; refine ⟨_, rfl, ?_⟩; replace BK209 := Gv.a0 (Gv.bb BK209.out hb); replace BK210 := Gv.a0 (Gv.bb BK210.out hb); replace HB := Gv.a0 (below_step Gv.bw hb); clear hb; obtain ⟨hcz21_0, hcz21_1, hcz21_2, hcz21_3, hcz21_4⟩ := Gv.c5 BK210.out; obtain ⟨hfz21_0, hfz21_1, hfz21_2, hfz21_3, hfz21_4⟩ := Gv.f5 BK210.out) | (go_at_call 80; (with_reducible refine (spec_AddrOk.calls a1_0 a1_1 a1_2 a1_3 a1_4 false _ A5.out).mono ?_); rintro e w22 ⟨rfl, hb⟩; replace BK209 := Gv.a0 (Gv.bb BK209.out hb); replace BK210 := Gv.a0 (Gv.bb BK210.out hb); replace HB := Gv.a0 (below_step Gv.bw hb); clear hb))
   go_ret
   exact ⟨Gv.rt, Gv.bw⟩
 ·replace c4 := Bool.eq_false_iff.mpr c4
  subst c4
  have H1 : (some false) = some r := by rw [if_neg (show ¬ (false = true) by decide)] at H; exact H
  clear H
  have H := H1
  clear H1
  obtain rfl := Option.some.inj H
  go_enter Try.func65, Try.ntmps65
  go_wp2_with (first | ((with_reducible refine gate_dst (N := 2) rfl ?_); refine box_event ?hg (N := 2) ?hd (cs := #[.int .i64 a0_0, .int .i64 a0_1, .int .i64 a0_2, .int .i64 a0_3, .int .i64 a0_4]) (t := 29) ?hr ?_; (case hd => rfl); (case hg => rfl); (case hr => first | (go_simp; done) | (go_simp; rfl)); intro gb209 hg w23 hbox hb; have BK209 := Gv.a0 (hbox); have GW209 := Gv.a0 ((Gv.ble hg Gv.bw : w.heap.size ≤ gb209)); have GE209 := Gv.a0 ((Gv.ble hg Gv.bw : w.heap.size ≤ gb209)); replace HB := Gv.a0 (below_step Gv.bw hb); clear hb hbox hg) | ((with_reducible refine gate_dst (N := 3) rfl ?_); refine box_event ?hg (N := 3) ?hd (cs := #[.int .i64 a1_0, .int .i64 a1_1, .int .i64 a1_2, .int .i64 a1_3, .int .i64 a1_4]) (t := 29) ?hr ?_; (case hd => rfl); (case hg => rfl); (case hr => first | (go_simp; done) | (go_simp; rfl)); intro gb210 hg w24 hbox hb; have BK210 := Gv.a0 (hbox); have GW210 := Gv.a0 ((Gv.ble hg Gv.bw : w.heap.size ≤ gb210)); have GE210 := Gv.a0 ((Gv.ble hg Gv.bw : w.heap.size ≤ gb210)); replace HB := Gv.a0 (below_step Gv.bw hb); have NB209_210 := Gv.a0 ((Gv.nlt hg (Gv.kb BK209.out) : gb209 ≠ gb210)); have NB210_209 := Gv.a0 ((Gv.ngt hg (Gv.kb BK209.out) : gb210 ≠ gb209)); replace BK209 := Gv.a0 (Gv.bb BK209.out hb); clear hb hbox hg; have hnb25 := NB209_210.out; have hnc25 := NB210_209.out; obtain ⟨hcz26_0, hcz26_1, hcz26_2, hcz26_3, hcz26_4⟩ := Gv.c5 BK209.out; obtain ⟨hfz26_0, hfz26_1, hfz26_2, hfz26_3, hfz26_4⟩ := Gv.f5 BK209.out) | ((with_reducible refine gate_callee (f := 80) rfl ?_); refine goesL_ (some 6) rfl rfl Try.func80 (by kernel_rfl) rfl #[.agg #[.int .i64 a0_0, .int .i64 a0_1, .int .i64 a0_2, .int .i64 a0_3, .int .i64 a0_4]] rfl Gv.lm ?_; (with_reducible refine (spec_AddrOk.calls a0_0 a0_1 a0_2 a0_3 a0_4 false _ A3.out).mono ?_); rintro e w27 ⟨rfl, hb⟩; refine ⟨_, rfl, ?_⟩; replace BK209 := Gv.a0 (Gv.bb BK209.out hb); replace BK210 := Gv.a0 (Gv.bb BK210.out hb); replace HB := Gv.a0 (below_step Gv.bw hb); clear hb))
  go_ret
  exact ⟨Gv.rt, Gv.bw⟩

/-! ### spec_l05In: function 66 -/
def spec_l05In.f (a0 : Int) (a1 : Int) : Option (Bool) := if a0 ≥ 0 then (some (decide (a0 ≤ a1))) else (some false)
set_option maxHeartbeats 8000000 in
set_option maxRecDepth 100000 in
theorem spec_l05In.calls (a0 : Int) (a1 : Int) (r : Bool) (w : World) (h : spec_l05In.f a0 a1 = some r) :
  Calls Try.prog 66 #[.int .i64 a0, .int .i64 a1] w fun e w' => e = .returned (.bool r) ∧ Drawn0 w w' := by
 have H : (if a0 ≥ 0 then (some (decide (a0 ≤ a1))) else (some false)) = some r := h
 clear h
 by_cases c3 : a0 ≥ 0
 ·rw [if_pos c3] at H
  have c3b0 : decide (0 ≤ a0) = true := decide_eq_true c3
  clear c3
  obtain rfl := Option.some.inj H
  go_enter Try.func66, Try.ntmps66
  go_wp2
  go_ret
  exact ⟨by first | rfl | (simp; done) | (simp [Int.tdiv_eq_ediv_of_nonneg]; done) | (simp [*]; done), by repeat (first | exact Drawn0.refl _ | apply Drawn0.step)⟩
 ·rw [if_neg c3] at H
  have c3b0 : decide (0 ≤ a0) = false := decide_eq_false c3
  clear c3
  obtain rfl := Option.some.inj H
  go_enter Try.func66, Try.ntmps66
  go_wp2
  go_ret
  exact ⟨by first | rfl | (simp; done) | (simp [Int.tdiv_eq_ediv_of_nonneg]; done) | (simp [*]; done), by repeat (first | exact Drawn0.refl _ | apply Drawn0.step)⟩

/-! ### spec_KeyOk: function 42 -/
def spec_KeyOk.f (a0_0 : Int) (a0_1 : Int) (a0_2 : Int) (a0_3 : Int) (a0_4 : Int) (a0_5 : Int) (a0_6 : Int) (a0_7 : Int) (a0_8 : Int) (a0_9 : Int) (a0_10 : Int) (a0_11 : Int) (a0_12 : Int) : Option (Bool) := (spec_l07Pair.f a0_0 a0_1 a0_2 a0_3 a0_4 a0_5 a0_6 a0_7 a0_8 a0_9).bind fun t214 => (if t214 = true then ((spec_l05In.f a0_10 255).bind fun t215 => (if t215 = true then ((spec_l05In.f a0_11 65535).bind fun t216 => (if t216 = true then ((spec_l05In.f a0_12 65535).bind fun t217 => (some t217)) else (some false))) else (some false))) else (some false))
set_option maxHeartbeats 8000000 in
set_option maxRecDepth 100000 in
theorem spec_KeyOk.calls (a0_0 : Int) (a0_1 : Int) (a0_2 : Int) (a0_3 : Int) (a0_4 : Int) (a0_5 : Int) (a0_6 : Int) (a0_7 : Int) (a0_8 : Int) (a0_9 : Int) (a0_10 : Int) (a0_11 : Int) (a0_12 : Int) (r : Bool) (w : World) (h : spec_KeyOk.f a0_0 a0_1 a0_2 a0_3 a0_4 a0_5 a0_6 a0_7 a0_8 a0_9 a0_10 a0_11 a0_12 = some r) :
  Calls Try.prog 42 #[.agg #[.int .i64 a0_0, .int .i64 a0_1, .int .i64 a0_2, .int .i64 a0_3, .int .i64 a0_4, .int .i64 a0_5, .int .i64 a0_6, .int .i64 a0_7, .int .i64 a0_8, .int .i64 a0_9, .int .i64 a0_10, .int .i64 a0_11, .int .i64 a0_12]] w fun e w' => e = .returned (.bool r) ∧ Below w.heap.size w w' := by
 have hu31 := Try.underlying31
 have hu29 := Try.underlying29
 have HB := Gv.a0 (Below.refl w.heap.size w)
 have H : ((spec_l07Pair.f a0_0 a0_1 a0_2 a0_3 a0_4 a0_5 a0_6 a0_7 a0_8 a0_9).bind fun t214 => (if t214 = true then ((spec_l05In.f a0_10 255).bind fun t215 => (if t215 = true then ((spec_l05In.f a0_11 65535).bind fun t216 => (if t216 = true then ((spec_l05In.f a0_12 65535).bind fun t217 => (some t217)) else (some false))) else (some false))) else (some false))) = some r := h
 clear h
 replace H := Option.bind_eq_some_iff.mp H
 obtain ⟨t214, A20, H⟩ := H
 replace H : (if t214 = true then ((spec_l05In.f a0_10 255).bind fun t215 => (if t215 = true then ((spec_l05In.f a0_11 65535).bind fun t216 => (if t216 = true then ((spec_l05In.f a0_12 65535).bind fun t217 => (some t217)) else (some false))) else (some false))) else (some false)) = some r := H
 have A2 := Gv.a0 A20
 clear A20
 by_cases c3 : t214 = true
 ·subst c3
  have H1 : ((spec_l05In.f a0_10 255).bind fun t215 => (if t215 = true then ((spec_l05In.f a0_11 65535).bind fun t216 => (if t216 = true then ((spec_l05In.f a0_12 65535).bind fun t217 => (some t217)) else (some false))) else (some false))) = some r := by rw [if_pos rfl] at H; exact H
  clear H
  have H := H1
  clear H1
  replace H := Option.bind_eq_some_iff.mp H
  obtain ⟨t215, A40, H⟩ := H
  replace H : (if t215 = true then ((spec_l05In.f a0_11 65535).bind fun t216 => (if t216 = true then ((spec_l05In.f a0_12 65535).bind fun t217 => (some t217)) else (some false))) else (some false)) = some r := H
  have A4 := Gv.a0 A40
  clear A40
  by_cases c5 : t215 = true
  ·subst c5
   have H1 : ((spec_l05In.f a0_11 65535).bind fun t216 => (if t216 = true then ((spec_l05In.f a0_12 65535).bind fun t217 => (some t217)) else (some false))) = some r := by rw [if_pos rfl] at H; exact H
   clear H
   have H := H1
   clear H1
   replace H := Option.bind_eq_some_iff.mp H
   obtain ⟨t216, A60, H⟩ := H
   replace H : (if t216 = true then ((spec_l05In.f a0_12 65535).bind fun t217 => (some t217)) else (some false)) = some r := H
   have A6 := Gv.a0 A60
   clear A60
   by_cases c7 : t216 = true
   ·subst c7
    have H1 : ((spec_l05In.f a0_12 65535).bind fun t217 => (some t217)) = some r := by rw [if_pos rfl] at H; exact H
    clear H
    have H := H1
    clear H1
    replace H := Option.bind_eq_some_iff.mp H
    obtain ⟨t217, A80, H⟩ := H
    replace H : (some t217) = some r := H
    have A8 := Gv.a0 A80
    clear A80
    obtain rfl := Option.some.inj H
    go_enter Try.func42, Try.ntmps42
    go_wp2_with (first | ((with_reducible refine gate_dst (N := 1) rfl ?_); refine box_event ?hg (N := 1) ?hd (cs := #[.int .i64 a0_0, .int .i64 a0_1, .int .i64 a0_2, .int .i64 a0_3, .int .i64 a0_4, .int .i64 a0_5, .int .i64 a0_6, .int .i64 a0_7, .int .i64 a0_8, .int .i64 a0_9, .int .i64 a0_10, .int .i64 a0_11, .int .i64 a0_12]) (t := 31) ?hr ?_; (case hd => rfl); (case hg => rfl); (case hr => first | (go_simp; done) | (go_simp; rfl)); intro gb213 hg w9 hbox hb; have BK213 := Gv.a0 (hbox); have GW213 := Gv.a0 ((Gv.ble hg Gv.bw : w.heap.size ≤ gb213)); have GE213 := Gv.a0 ((Gv.ble hg Gv.bw : w.heap.size ≤ gb213)); replace HB := Gv.a0 (below_step Gv.bw hb); clear hb hbox hg; obtain ⟨hcz10_0, hcz10_1, hcz10_2, hcz10_3, hcz10_4, hcz10_5, hcz10_6, hcz10_7, hcz10_8, hcz10_9, hcz10_10, hcz10_11, hcz10_12⟩ := Gv.c13 BK213.out; obtain ⟨hfz10_0, hfz10_1, hfz10_2, hfz10_3, hfz10_4, hfz10_5, hfz10_6, hfz10_7, hfz10_8, hfz10_9, hfz10_10, hfz10_11, hfz10_12⟩ := Gv.f13 BK213.out) | ((with_reducible refine gate_callee (f := 65) rfl ?_); refine goesL_ (some 7) rfl rfl Try.func65 (by kernel_rfl) rfl #[.agg #[.int .i64 a0_0, .int .i64 a0_1, .int .i64 a0_2, .int .i64 a0_3, .int .i64 a0_4], .agg #[.int .i64 a0_5, .int .i64 a0_6, .int .i64 a0_7, .int .i64 a0_8, .int .i64 a0_9]] rfl Gv.lm ?_; (with_reducible refine (spec_l07Pair.calls a0_0 a0_1 a0_2 a0_3 a0_4 a0_5 a0_6 a0_7 a0_8 a0_9 true _ A2.out).mono ?_); rintro e w11 ⟨rfl, hb⟩; refine ⟨_, rfl, ?_⟩; replace BK213 := Gv.a0 (Gv.bb BK213.out hb); replace HB := Gv.a0 (below_step Gv.bw hb); clear hb; obtain ⟨hcz12_0, hcz12_1, hcz12_2, hcz12_3, hcz12_4, hcz12_5, hcz12_6, hcz12_7, hcz12_8, hcz12_9, hcz12_10, hcz12_11, hcz12_12⟩ := Gv.c13 BK213.out; obtain ⟨hfz12_0, hfz12_1, hfz12_2, hfz12_3, hfz12_4, hfz12_5, hfz12_6, hfz12_7, hfz12_8, hfz12_9, hfz12_10, hfz12_11, hfz12_12⟩ := Gv.f13 BK213.out) | (go_at_call 66; (with_reducible refine (spec_l05In.calls a0_10 255 true _ A4.out).mono ?_); rintro e w' ⟨rfl, ⟨nd, rfl⟩⟩) | (go_at_call 66; (with_reducible refine (spec_l05In.calls a0_11 65535 true _ A6.out).mono ?_); rintro e w' ⟨rfl, ⟨nd, rfl⟩⟩) | (go_at_call 66; (with_reducible refine (spec_l05In.calls a0_12 65535 t217 _ A8.out).mono ?_); rintro e w' ⟨rfl, ⟨nd, rfl⟩⟩))
    go_ret
    exact ⟨Gv.rt, Gv.bw⟩
   ·replace c7 := Bool.eq_false_iff.mpr c7
    subst c7
    have H1 : (some false) = some r := by rw [if_neg (show ¬ (false = true) by decide)] at H; exact H
    clear H
    have H := H1
    clear H1
    obtain rfl := Option.some.inj H
    go_enter Try.func42, Try.ntmps42
    go_wp2_with (first | ((with_reducible refine gate_dst (N := 1) rfl ?_); refine box_event ?hg (N := 1) ?hd (cs := #[.int .i64 a0_0, .int .i64 a0_1, .int .i64 a0_2, .int .i64 a0_3, .int .i64 a0_4, .int .i64 a0_5, .int .i64 a0_6, .int .i64 a0_7, .int .i64 a0_8, .int .i64 a0_9, .int .i64 a0_10, .int .i64 a0_11, .int .i64 a0_12]) (t := 31) ?hr ?_; (case hd => rfl); (case hg => rfl); (case hr => first | (go_simp; done) | (go_simp; rfl)); intro gb213 hg w13 hbox hb; have BK213 := Gv.a0 (hbox); have GW213 := Gv.a0 ((Gv.ble hg Gv.bw : w.heap.size ≤ gb213)); have GE213 := Gv.a0 ((Gv.ble hg Gv.bw : w.heap.size ≤ gb213)); replace HB := Gv.a0 (below_step Gv.bw hb); clear hb hbox hg; obtain ⟨hcz14_0, hcz14_1, hcz14_2, hcz14_3, hcz14_4, hcz14_5, hcz14_6, hcz14_7, hcz14_8, hcz14_9, hcz14_10, hcz14_11, hcz14_12⟩ := Gv.c13 BK213.out; obtain ⟨hfz14_0, hfz14_1, hfz14_2, hfz14_3, hfz14_4, hfz14_5, hfz14_6, hfz14_7, hfz14_8, hfz14_9, hfz14_10, hfz14_11, hfz14_12⟩ := Gv.f13 BK213.out) | ((with_reducible refine gate_callee (f := 65) rfl ?_); refine goesL_ (some 7) rfl rfl Try.func65 (by kernel_rfl) rfl #[.agg #[.int .i64 a0_0, .int .i64 a0_1, .int .i64 a0_2, .int .i64 a0_3, .int .i64 a0_4], .agg #[.int .i64 a0_5, .int .i64 a0_6, .int .i64 a0_7, .int .i64 a0_8, .int .i64 a0_9]] rfl Gv.lm ?_; (with_reducible refine (spec_l07Pair.calls a0_0 a0_1 a0_2 a0_3 a0_4 a0_5 a0_6 a0_7 a0_8 a0_9 true _ A2.out).mono ?_); rintro e w15 ⟨rfl, hb⟩; refine ⟨_, rfl, ?_⟩; replace BK213 := Gv.a0 (Gv.bb BK213.out hb); replace HB := Gv.a0 (below_step Gv.bw hb); clear hb; obtain ⟨hcz16_0, hcz16_1, hcz16_2, hcz16_3, hcz16_4, hcz16_5, hcz16_6, hcz16_7, hcz16_8, hcz16_9, hcz16_10, hcz16_11, hcz16_12⟩ := Gv.c13 BK213.out; obtain ⟨hfz16_0, hfz16_1, hfz16_2, hfz16_3, hfz16_4, hfz16_5, hfz16_6, hfz16_7, hfz16_8, hfz16_9, hfz16_10, hfz16_11, hfz16_12⟩ := Gv.f13 BK213.out) | (go_at_call 66; (with_reducible refine (spec_l05In.calls a0_10 255 true _ A4.out).mono ?_); rintro e w' ⟨rfl, ⟨nd, rfl⟩⟩) | (go_at_call 66; (with_reducible refine (spec_l05In.calls a0_11 65535 false _ A6.out).mono ?_); rintro e w' ⟨rfl, ⟨nd, rfl⟩⟩))
    go_ret
    exact ⟨Gv.rt, Gv.bw⟩
  ·replace c5 := Bool.eq_false_iff.mpr c5
   subst c5
   have H1 : (some false) = some r := by rw [if_neg (show ¬ (false = true) by decide)] at H; exact H
   clear H
   have H := H1
   clear H1
   obtain rfl := Option.some.inj H
   go_enter Try.func42, Try.ntmps42
   go_wp2_with (first | ((with_reducible refine gate_dst (N := 1) rfl ?_); refine box_event ?hg (N := 1) ?hd (cs := #[.int .i64 a0_0, .int .i64 a0_1, .int .i64 a0_2, .int .i64 a0_3, .int .i64 a0_4, .int .i64 a0_5, .int .i64 a0_6, .int .i64 a0_7, .int .i64 a0_8, .int .i64 a0_9, .int .i64 a0_10, .int .i64 a0_11, .int .i64 a0_12]) (t := 31) ?hr ?_; (case hd => rfl); (case hg => rfl); (case hr => first | (go_simp; done) | (go_simp; rfl)); intro gb213 hg w17 hbox hb; have BK213 := Gv.a0 (hbox); have GW213 := Gv.a0 ((Gv.ble hg Gv.bw : w.heap.size ≤ gb213)); have GE213 := Gv.a0 ((Gv.ble hg Gv.bw : w.heap.size ≤ gb213)); replace HB := Gv.a0 (below_step Gv.bw hb); clear hb hbox hg; obtain ⟨hcz18_0, hcz18_1, hcz18_2, hcz18_3, hcz18_4, hcz18_5, hcz18_6, hcz18_7, hcz18_8, hcz18_9, hcz18_10, hcz18_11, hcz18_12⟩ := Gv.c13 BK213.out; obtain ⟨hfz18_0, hfz18_1, hfz18_2, hfz18_3, hfz18_4, hfz18_5, hfz18_6, hfz18_7, hfz18_8, hfz18_9, hfz18_10, hfz18_11, hfz18_12⟩ := Gv.f13 BK213.out) | ((with_reducible refine gate_callee (f := 65) rfl ?_); refine goesL_ (some 7) rfl rfl Try.func65 (by kernel_rfl) rfl #[.agg #[.int .i64 a0_0, .int .i64 a0_1, .int .i64 a0_2, .int .i64 a0_3, .int .i64 a0_4], .agg #[.int .i64 a0_5, .int .i64 a0_6, .int .i64 a0_7, .int .i64 a0_8, .int .i64 a0_9]] rfl Gv.lm ?_; (with_reducible refine (spec_l07Pair.calls a0_0 a0_1 a0_2 a0_3 a0_4 a0_5 a0_6 a0_7 a0_8 a0_9 true _ A2.out).mono ?_); rintro e w19 ⟨rfl, hb⟩; refine ⟨_, rfl, ?_⟩; replace BK213 := Gv.a0 (Gv.bb BK213.out hb); replace HB := Gv.a0 (below_step Gv.bw hb); clear hb; obtain ⟨hcz20_0, hcz20_1, hcz20_2, hcz20_3, hcz20_4, hcz20_5, hcz20_6, hcz20_7, hcz20_8, hcz20_9, hcz20_10, hcz20_11, hcz20_12⟩ := Gv.c13 BK213.out; obtain ⟨hfz20_0, hfz20_1, hfz20_2, hfz20_3, hfz20_4, hfz20_5, hfz20_6, hfz20_7, hfz20_8, hfz20_9, hfz20_10, hfz20_11, hfz20_12⟩ := Gv.f13 BK213.out) | (go_at_call 66; (with_reducible refine (spec_l05In.calls a0_10 255 false _ A4.out).mono ?_); rintro e w' ⟨rfl, ⟨nd, rfl⟩⟩))
   go_ret
   exact ⟨Gv.rt, Gv.bw⟩
 ·replace c3 := Bool.eq_false_iff.mpr c3
  subst c3
  have H1 : (some false) = some r := by rw [if_neg (show ¬ (false = true) by decide)] at H; exact H
  clear H
  have H := H1
  clear H1
  obtain rfl := Option.some.inj H
  go_enter Try.func42, Try.ntmps42
  go_wp2_with (first | ((with_reducible refine gate_dst (N := 1) rfl ?_); refine box_event ?hg (N := 1) ?hd (cs := #[.int .i64 a0_0, .int .i64 a0_1, .int .i64 a0_2, .int .i64 a0_3, .int .i64 a0_4, .int .i64 a0_5, .int .i64 a0_6, .int .i64 a0_7, .int .i64 a0_8, .int .i64 a0_9, .int .i64 a0_10, .int .i64 a0_11, .int .i64 a0_12]) (t := 31) ?hr ?_; (case hd => rfl); (case hg => rfl); (case hr => first | (go_simp; done) | (go_simp; rfl)); intro gb213 hg w21 hbox hb; have BK213 := Gv.a0 (hbox); have GW213 := Gv.a0 ((Gv.ble hg Gv.bw : w.heap.size ≤ gb213)); have GE213 := Gv.a0 ((Gv.ble hg Gv.bw : w.heap.size ≤ gb213)); replace HB := Gv.a0 (below_step Gv.bw hb); clear hb hbox hg; obtain ⟨hcz22_0, hcz22_1, hcz22_2, hcz22_3, hcz22_4, hcz22_5, hcz22_6, hcz22_7, hcz22_8, hcz22_9, hcz22_10, hcz22_11, hcz22_12⟩ := Gv.c13 BK213.out; obtain ⟨hfz22_0, hfz22_1, hfz22_2, hfz22_3, hfz22_4, hfz22_5, hfz22_6, hfz22_7, hfz22_8, hfz22_9, hfz22_10, hfz22_11, hfz22_12⟩ := Gv.f13 BK213.out) | ((with_reducible refine gate_callee (f := 65) rfl ?_); refine goesL_ (some 7) rfl rfl Try.func65 (by kernel_rfl) rfl #[.agg #[.int .i64 a0_0, .int .i64 a0_1, .int .i64 a0_2, .int .i64 a0_3, .int .i64 a0_4], .agg #[.int .i64 a0_5, .int .i64 a0_6, .int .i64 a0_7, .int .i64 a0_8, .int .i64 a0_9]] rfl Gv.lm ?_; (with_reducible refine (spec_l07Pair.calls a0_0 a0_1 a0_2 a0_3 a0_4 a0_5 a0_6 a0_7 a0_8 a0_9 false _ A2.out).mono ?_); rintro e w23 ⟨rfl, hb⟩; refine ⟨_, rfl, ?_⟩; replace BK213 := Gv.a0 (Gv.bb BK213.out hb); replace HB := Gv.a0 (below_step Gv.bw hb); clear hb))
  go_ret
  exact ⟨Gv.rt, Gv.bw⟩

/-! ### spec_FlowKeyOk: function 13 -/
def spec_FlowKeyOk.f (a0_0 : Int) (a0_1 : Int) (a0_2 : Int) (a0_3 : Int) (a0_4 : Int) (a0_5 : Int) (a0_6 : Int) (a0_7 : Int) (a0_8 : Int) (a0_9 : Int) (a0_10 : Int) (a0_11 : Int) (a0_12 : Int) (a0_13 : Int) : Option (Bool) := if a0_0 ≥ 1 then (if a0_0 ≤ 8 then ((spec_KeyOk.f a0_1 a0_2 a0_3 a0_4 a0_5 a0_6 a0_7 a0_8 a0_9 a0_10 a0_11 a0_12 a0_13).bind fun t219 => (some t219)) else (some false)) else (some false)
set_option maxHeartbeats 8000000 in
set_option maxRecDepth 100000 in
theorem spec_FlowKeyOk.calls (a0_0 : Int) (a0_1 : Int) (a0_2 : Int) (a0_3 : Int) (a0_4 : Int) (a0_5 : Int) (a0_6 : Int) (a0_7 : Int) (a0_8 : Int) (a0_9 : Int) (a0_10 : Int) (a0_11 : Int) (a0_12 : Int) (a0_13 : Int) (r : Bool) (w : World) (h : spec_FlowKeyOk.f a0_0 a0_1 a0_2 a0_3 a0_4 a0_5 a0_6 a0_7 a0_8 a0_9 a0_10 a0_11 a0_12 a0_13 = some r) :
  Calls Try.prog 13 #[.agg #[.int .i64 a0_0, .int .i64 a0_1, .int .i64 a0_2, .int .i64 a0_3, .int .i64 a0_4, .int .i64 a0_5, .int .i64 a0_6, .int .i64 a0_7, .int .i64 a0_8, .int .i64 a0_9, .int .i64 a0_10, .int .i64 a0_11, .int .i64 a0_12, .int .i64 a0_13]] w fun e w' => e = .returned (.bool r) ∧ Below w.heap.size w w' := by
 have hu33 := Try.underlying33
 have hu31 := Try.underlying31
 have HB := Gv.a0 (Below.refl w.heap.size w)
 have H : (if a0_0 ≥ 1 then (if a0_0 ≤ 8 then ((spec_KeyOk.f a0_1 a0_2 a0_3 a0_4 a0_5 a0_6 a0_7 a0_8 a0_9 a0_10 a0_11 a0_12 a0_13).bind fun t219 => (some t219)) else (some false)) else (some false)) = some r := h
 clear h
 by_cases c2 : a0_0 ≥ 1
 ·rw [if_pos c2] at H
  have c2b0 : decide (1 ≤ a0_0) = true := decide_eq_true c2
  clear c2
  by_cases c3 : a0_0 ≤ 8
  ·rw [if_pos c3] at H
   have c3b0 : decide (a0_0 ≤ 8) = true := decide_eq_true c3
   clear c3
   replace H := Option.bind_eq_some_iff.mp H
   obtain ⟨t219, A40, H⟩ := H
   replace H : (some t219) = some r := H
   have A4 := Gv.a0 A40
   clear A40
   obtain rfl := Option.some.inj H
   go_enter Try.func13, Try.ntmps13
   go_wp2_with (first | ((with_reducible refine gate_dst (N := 1) rfl ?_); refine box_event ?hg (N := 1) ?hd (cs := #[.int .i64 a0_0, .int .i64 a0_1, .int .i64 a0_2, .int .i64 a0_3, .int .i64 a0_4, .int .i64 a0_5, .int .i64 a0_6, .int .i64 a0_7, .int .i64 a0_8, .int .i64 a0_9, .int .i64 a0_10, .int .i64 a0_11, .int .i64 a0_12, .int .i64 a0_13]) (t := 33) ?hr ?_; (case hd => rfl); (case hg => rfl); (case hr => first | (go_simp; done) | (go_simp; rfl)); intro gb218 hg w5 hbox hb; have BK218 := Gv.a0 (hbox); have GW218 := Gv.a0 ((Gv.ble hg Gv.bw : w.heap.size ≤ gb218)); have GE218 := Gv.a0 ((Gv.ble hg Gv.bw : w.heap.size ≤ gb218)); replace HB := Gv.a0 (below_step Gv.bw hb); clear hb hbox hg; obtain ⟨hcz6_0, hcz6_1, hcz6_2, hcz6_3, hcz6_4, hcz6_5, hcz6_6, hcz6_7, hcz6_8, hcz6_9, hcz6_10, hcz6_11, hcz6_12, hcz6_13⟩ := Gv.c14 BK218.out; obtain ⟨hfz6_0, hfz6_1, hfz6_2, hfz6_3, hfz6_4, hfz6_5, hfz6_6, hfz6_7, hfz6_8, hfz6_9, hfz6_10, hfz6_11, hfz6_12, hfz6_13⟩ := Gv.f14 BK218.out) | (go_at_call 42; (with_reducible refine (spec_KeyOk.calls a0_1 a0_2 a0_3 a0_4 a0_5 a0_6 a0_7 a0_8 a0_9 a0_10 a0_11 a0_12 a0_13 t219 _ A4.out).mono ?_); rintro e w7 ⟨rfl, hb⟩; replace BK218 := Gv.a0 (Gv.bb BK218.out hb); replace HB := Gv.a0 (below_step Gv.bw hb); clear hb))
   go_ret
   exact ⟨Gv.rt, Gv.bw⟩
  ·rw [if_neg c3] at H
   have c3b0 : decide (a0_0 ≤ 8) = false := decide_eq_false c3
   clear c3
   obtain rfl := Option.some.inj H
   go_enter Try.func13, Try.ntmps13
   go_wp2_with (first | ((with_reducible refine gate_dst (N := 1) rfl ?_); refine box_event ?hg (N := 1) ?hd (cs := #[.int .i64 a0_0, .int .i64 a0_1, .int .i64 a0_2, .int .i64 a0_3, .int .i64 a0_4, .int .i64 a0_5, .int .i64 a0_6, .int .i64 a0_7, .int .i64 a0_8, .int .i64 a0_9, .int .i64 a0_10, .int .i64 a0_11, .int .i64 a0_12, .int .i64 a0_13]) (t := 33) ?hr ?_; (case hd => rfl); (case hg => rfl); (case hr => first | (go_simp; done) | (go_simp; rfl)); intro gb218 hg w8 hbox hb; have BK218 := Gv.a0 (hbox); have GW218 := Gv.a0 ((Gv.ble hg Gv.bw : w.heap.size ≤ gb218)); have GE218 := Gv.a0 ((Gv.ble hg Gv.bw : w.heap.size ≤ gb218)); replace HB := Gv.a0 (below_step Gv.bw hb); clear hb hbox hg; obtain ⟨hcz9_0, hcz9_1, hcz9_2, hcz9_3, hcz9_4, hcz9_5, hcz9_6, hcz9_7, hcz9_8, hcz9_9, hcz9_10, hcz9_11, hcz9_12, hcz9_13⟩ := Gv.c14 BK218.out; obtain ⟨hfz9_0, hfz9_1, hfz9_2, hfz9_3, hfz9_4, hfz9_5, hfz9_6, hfz9_7, hfz9_8, hfz9_9, hfz9_10, hfz9_11, hfz9_12, hfz9_13⟩ := Gv.f14 BK218.out))
   go_ret
   exact ⟨Gv.rt, Gv.bw⟩
 ·rw [if_neg c2] at H
  have c2b0 : decide (1 ≤ a0_0) = false := decide_eq_false c2
  clear c2
  obtain rfl := Option.some.inj H
  go_enter Try.func13, Try.ntmps13
  go_wp2_with (first | ((with_reducible refine gate_dst (N := 1) rfl ?_); refine box_event ?hg (N := 1) ?hd (cs := #[.int .i64 a0_0, .int .i64 a0_1, .int .i64 a0_2, .int .i64 a0_3, .int .i64 a0_4, .int .i64 a0_5, .int .i64 a0_6, .int .i64 a0_7, .int .i64 a0_8, .int .i64 a0_9, .int .i64 a0_10, .int .i64 a0_11, .int .i64 a0_12, .int .i64 a0_13]) (t := 33) ?hr ?_; (case hd => rfl); (case hg => rfl); (case hr => first | (go_simp; done) | (go_simp; rfl)); intro gb218 hg w10 hbox hb; have BK218 := Gv.a0 (hbox); have GW218 := Gv.a0 ((Gv.ble hg Gv.bw : w.heap.size ≤ gb218)); have GE218 := Gv.a0 ((Gv.ble hg Gv.bw : w.heap.size ≤ gb218)); replace HB := Gv.a0 (below_step Gv.bw hb); clear hb hbox hg; obtain ⟨hcz11_0, hcz11_1, hcz11_2, hcz11_3, hcz11_4, hcz11_5, hcz11_6, hcz11_7, hcz11_8, hcz11_9, hcz11_10, hcz11_11, hcz11_12, hcz11_13⟩ := Gv.c14 BK218.out; obtain ⟨hfz11_0, hfz11_1, hfz11_2, hfz11_3, hfz11_4, hfz11_5, hfz11_6, hfz11_7, hfz11_8, hfz11_9, hfz11_10, hfz11_11, hfz11_12, hfz11_13⟩ := Gv.f14 BK218.out))
  go_ret
  exact ⟨Gv.rt, Gv.bw⟩

/-! ### spec_l11Count: function 53 -/
def spec_l11Count.l0 : Nat → Int → Int → Int → List (S75) → Option (Int)
 | 0, _, _, _, _ => none
 | k + 1, x3, x4, x221000, x221001 => if x4 < (x221001.length : Int) then (if 0 ≤ x4 then (if (rd_T75 x221001 x4).f0 = true then (spec_l11Count.l0 k (wrap64 (x3 + 1)) (wrap64 (x4 + 1)) x221000 x221001) else (spec_l11Count.l0 k x3 (wrap64 (x4 + 1)) x221000 x221001)) else (none)) else (some x3)
def spec_l11Count.f (k : Nat) (a0_0 : Int) (l0_1 : List (S75)) : Option (Int) := spec_l11Count.l0 k 0 0 a0_0 l0_1
set_option maxHeartbeats 8000000 in
set_option maxRecDepth 100000 in
theorem spec_l11Count.calls (k : Nat) (a0_0 : Int) (A0_1 : Option Addr) (c0_1 : Nat) (l0_1 : List (S75)) (r : Int) (w : World) (hr0_1 : Kd.C k75 w A0_1 l0_1.length l0_1) (hc0_1 : l0_1.length ≤ c0_1) (h : spec_l11Count.f k a0_0 l0_1 = some r) :
  Calls Try.prog 53 #[.agg #[.int .i64 a0_0, .slice A0_1 l0_1.length c0_1]] w fun e w' => e = .returned (.int .i64 r) ∧ Below w.heap.size w w' := by
 have hu40 := Try.underlying40
 have HR0_1 := Gv.a0 hr0_1
 have HC0_1 := Gv.a0 hc0_1
 clear hr0_1 hc0_1
 have HB := Gv.a0 (Below.refl w.heap.size w)
 have H : (spec_l11Count.l0 k 0 0 a0_0 l0_1) = some r := h
 clear h
 have H' := Gv.a0 H
 clear H
 go_enter Try.func53, Try.ntmps53
 go_wp2_with (first | ((with_reducible refine gate_dst (N := 1) rfl ?_); refine box_event ?hg (N := 1) ?hd (cs := #[.int .i64 a0_0, .slice A0_1 l0_1.length c0_1]) (t := 40) ?hr ?_; (case hd => rfl); (case hg => rfl); (case hr => first | (go_simp; done) | (go_simp; rfl)); intro gb220 hg w2 hbox hb; have BK220 := Gv.a0 (hbox); have GW220 := Gv.a0 ((Gv.ble hg Gv.bw : w.heap.size ≤ gb220)); have GE220 := Gv.a0 ((Gv.ble hg Gv.bw : w.heap.size ≤ gb220)); replace HB := Gv.a0 (below_step Gv.bw hb); clear hb hbox hg))
 go_loopg [3, 4] k (fun kq v3 v4 w' => ∃ (x3_1 : Int) (x4_1 : Int), v3 = .int .i64 x3_1 ∧ v4 = .int .i64 x4_1 ∧ Aside0 (spec_l11Count.l0 kq x3_1 x4_1 a0_0 l0_1 = some r) ∧ Aside0 (kq ≤ k) ∧ Aside0 (w'.heap[gb220]? = some (.cells #[.int .i64 a0_0, (.slice A0_1 l0_1.length c0_1)] 40 (0, 0))) ∧ Aside0 (Below w.heap.size w w'))
 case atStart => exact ⟨(0), (0), Gv.rq, Gv.rq, H', ⟨Nat.le_refl _⟩, ⟨by (with_reducible repeat (first | refine blk_drewN ?_ _ | refine blk_drew ?_ | refine blk_alloc ?_ _)); exact BK220.out⟩, ⟨Gv.bw⟩⟩
 case round =>
  clear H'
  try clear p2
  obtain ⟨x3_1, x4_1, rfl, rfl, HA, HK1, BK220, HB⟩ := hrel
  cases gk with
  | zero => exact absurd HA.out (by simp [spec_l11Count.l0])
  | succ k1 =>
   have H := HA.out
   clear HA
   simp only [spec_l11Count.l0] at H
   by_cases c3 : x4_1 < (l0_1.length : Int)
   ·rw [if_pos c3] at H
    have c3b0 : decide (x4_1 < (l0_1.length : Int)) = true := decide_eq_true c3
    clear c3
    by_cases c4 : 0 ≤ x4_1
    ·rw [if_pos c4] at H
     have c4b0 : decide (0 ≤ x4_1) = true := decide_eq_true c4
     clear c4
     obtain ⟨bq5, hbq5⟩ : ∃ b_ : Bool, b_ = ((rd_T75 l0_1 x4_1).f0) := ⟨_, rfl⟩
     replace H : (if bq5 = true then (spec_l11Count.l0 k1 (wrap64 (x3_1 + 1)) (wrap64 (x4_1 + 1)) a0_0 l0_1) else (spec_l11Count.l0 k1 x3_1 (wrap64 (x4_1 + 1)) a0_0 l0_1)) = some r := by rw [← hbq5] at H; exact H
     have Nbq5 := Gv.a0 hbq5
     clear hbq5
     by_cases c6 : bq5 = true
     ·subst c6
      have H1 : (spec_l11Count.l0 k1 (wrap64 (x3_1 + 1)) (wrap64 (x4_1 + 1)) a0_0 l0_1) = some r := by rw [if_pos rfl] at H; exact H
      clear H
      have H := H1
      clear H1
      have H' := Gv.a0 H
      clear H
      have hcz7_0 : wr.cell? ⟨gb220, 0, none⟩ = some (.int .i64 a0_0) := (blk_cell BK220.out 0).trans rfl
      have hcz7_1 : wr.cell? ⟨gb220, 1, none⟩ = some (.slice A0_1 l0_1.length c0_1) := (blk_cell BK220.out 1).trans rfl
      have hfz7_0 := blk_frozen BK220.out 0
      have hfz7_1 := blk_frozen BK220.out 1
      have p221 : 0 ≤ (x4_1 : Int) := of_decide_eq_true (by first | (with_reducible assumption) | assumption)
      have q221 : x4_1 < (l0_1.length : Int) := of_decide_eq_true (by first | (with_reducible assumption) | assumption)
      obtain ⟨ad221, e221, hx221_0, _, _, _, _, _, _, _, _, _, _, _, _, _, _, _⟩ := at_T75 HR0_1.out x4_1 p221 q221
      (try rw [← Nbq5.out] at hx221_0)
      cases e221
      replace hx221_0 := Gv.bx HB.out hx221_0
      replace p221 := eq_true p221
      replace q221 := eq_true q221
      go_wp2
      go_roundg k1
      case measure => have := HK1.out; omega
      case rel => exact ⟨(wrap64 (x3_1 + 1)), (wrap64 (x4_1 + 1)), Gv.rq, Gv.rq, H', ⟨by have := HK1.out; omega⟩, ⟨by (with_reducible repeat (first | refine blk_drewN ?_ _ | refine blk_drew ?_ | refine blk_alloc ?_ _)); exact BK220.out⟩, ⟨Gv.bw⟩⟩
     ·replace c6 := Bool.eq_false_iff.mpr c6
      subst c6
      have H1 : (spec_l11Count.l0 k1 x3_1 (wrap64 (x4_1 + 1)) a0_0 l0_1) = some r := by rw [if_neg (show ¬ (false = true) by decide)] at H; exact H
      clear H
      have H := H1
      clear H1
      have H' := Gv.a0 H
      clear H
      have hcz8_0 : wr.cell? ⟨gb220, 0, none⟩ = some (.int .i64 a0_0) := (blk_cell BK220.out 0).trans rfl
      have hcz8_1 : wr.cell? ⟨gb220, 1, none⟩ = some (.slice A0_1 l0_1.length c0_1) := (blk_cell BK220.out 1).trans rfl
      have hfz8_0 := blk_frozen BK220.out 0
      have hfz8_1 := blk_frozen BK220.out 1
      have p221 : 0 ≤ (x4_1 : Int) := of_decide_eq_true (by first | (with_reducible assumption) | assumption)
      have q221 : x4_1 < (l0_1.length : Int) := of_decide_eq_true (by first | (with_reducible assumption) | assumption)
      obtain ⟨ad221, e221, hx221_0, _, _, _, _, _, _, _, _, _, _, _, _, _, _, _⟩ := at_T75 HR0_1.out x4_1 p221 q221
      (try rw [← Nbq5.out] at hx221_0)
      cases e221
      replace hx221_0 := Gv.bx HB.out hx221_0
      replace p221 := eq_true p221
      replace q221 := eq_true q221
      go_wp2
      go_roundg k1
      case measure => have := HK1.out; omega
      case rel => exact ⟨(x3_1), (wrap64 (x4_1 + 1)), Gv.rq, Gv.rq, H', ⟨by have := HK1.out; omega⟩, ⟨by (with_reducible repeat (first | refine blk_drewN ?_ _ | refine blk_drew ?_ | refine blk_alloc ?_ _)); exact BK220.out⟩, ⟨Gv.bw⟩⟩
    ·rw [if_neg c4] at H
     exact absurd H (by simp)
   ·rw [if_neg c3] at H
    have c3b0 : decide (x4_1 < (l0_1.length : Int)) = false := decide_eq_false c3
    clear c3
    obtain rfl := Option.some.inj H
    have hcz9_0 : wr.cell? ⟨gb220, 0, none⟩ = some (.int .i64 a0_0) := (blk_cell BK220.out 0).trans rfl
    have hcz9_1 : wr.cell? ⟨gb220, 1, none⟩ = some (.slice A0_1 l0_1.length c0_1) := (blk_cell BK220.out 1).trans rfl
    have hfz9_0 := blk_frozen BK220.out 0
    have hfz9_1 := blk_frozen BK220.out 1
    go_wp2
    go_ret
    exact ⟨Gv.rt, Gv.bw⟩

/-! ### spec_l11Place: function 54 -/
def spec_l11Place.l0 : Nat → Int → Int → List (S75) → Int → Int → Int → Int → Int → Int → Int → Int → Int → Int → Int → Int → Int → Int → Option (Int)
 | 0, _, _, _, _, _, _, _, _, _, _, _, _, _, _, _, _, _ => none
 | k + 1, x5, x223000, x223001, x224000, x224001, x224002, x224003, x224004, x224005, x224006, x224007, x224008, x224009, x224010, x224011, x224012, x224013 => if x5 < (x223001.length : Int) then (if 0 ≤ x5 then (if (rd_T75 x223001 x5).f0 = true then (if (((rd_T75 x223001 x5).f1.f0) == x224000 && (((((rd_T75 x223001 x5).f1.f1.f0.f0) == x224001 && (((rd_T75 x223001 x5).f1.f1.f0.f1) == x224002 && (((rd_T75 x223001 x5).f1.f1.f0.f2) == x224003 && (((rd_T75 x223001 x5).f1.f1.f0.f3) == x224004 && (((rd_T75 x223001 x5).f1.f1.f0.f4) == x224005))))) && ((((rd_T75 x223001 x5).f1.f1.f1.f0) == x224006 && (((rd_T75 x223001 x5).f1.f1.f1.f1) == x224007 && (((rd_T75 x223001 x5).f1.f1.f1.f2) == x224008 && (((rd_T75 x223001 x5).f1.f1.f1.f3) == x224009 && (((rd_T75 x223001 x5).f1.f1.f1.f4) == x224010))))) && (((rd_T75 x223001 x5).f1.f1.f2) == x224011 && (((rd_T75 x223001 x5).f1.f1.f3) == x224012 && (((rd_T75 x223001 x5).f1.f1.f4) == x224013))))))) = true then (some x5) else (spec_l11Place.l0 k (wrap64 (x5 + 1)) x223000 x223001 x224000 x224001 x224002 x224003 x224004 x224005 x224006 x224007 x224008 x224009 x224010 x224011 x224012 x224013)) else (spec_l11Place.l0 k (wrap64 (x5 + 1)) x223000 x223001 x224000 x224001 x224002 x224003 x224004 x224005 x224006 x224007 x224008 x224009 x224010 x224011 x224012 x224013)) else (none)) else (some (-1))
def spec_l11Place.f (k : Nat) (a0_0 : Int) (l0_1 : List (S75)) (a1_0 : Int) (a1_1 : Int) (a1_2 : Int) (a1_3 : Int) (a1_4 : Int) (a1_5 : Int) (a1_6 : Int) (a1_7 : Int) (a1_8 : Int) (a1_9 : Int) (a1_10 : Int) (a1_11 : Int) (a1_12 : Int) (a1_13 : Int) : Option (Int) := spec_l11Place.l0 k 0 a0_0 l0_1 a1_0 a1_1 a1_2 a1_3 a1_4 a1_5 a1_6 a1_7 a1_8 a1_9 a1_10 a1_11 a1_12 a1_13
set_option maxHeartbeats 8000000 in
set_option maxRecDepth 100000 in
theorem spec_l11Place.calls (k : Nat) (a0_0 : Int) (A0_1 : Option Addr) (c0_1 : Nat) (l0_1 : List (S75)) (a1_0 : Int) (a1_1 : Int) (a1_2 : Int) (a1_3 : Int) (a1_4 : Int) (a1_5 : Int) (a1_6 : Int) (a1_7 : Int) (a1_8 : Int) (a1_9 : Int) (a1_10 : Int) (a1_11 : Int) (a1_12 : Int) (a1_13 : Int) (r : Int) (w : World) (hr0_1 : Kd.C k75 w A0_1 l0_1.length l0_1) (hc0_1 : l0_1.length ≤ c0_1) (h : spec_l11Place.f k a0_0 l0_1 a1_0 a1_1 a1_2 a1_3 a1_4 a1_5 a1_6 a1_7 a1_8 a1_9 a1_10 a1_11 a1_12 a1_13 = some r) :
  Calls Try.prog 54 #[.agg #[.int .i64 a0_0, .slice A0_1 l0_1.length c0_1], .agg #[.int .i64 a1_0, .int .i64 a1_1, .int .i64 a1_2, .int .i64 a1_3, .int .i64 a1_4, .int .i64 a1_5, .int .i64 a1_6, .int .i64 a1_7, .int .i64 a1_8, .int .i64 a1_9, .int .i64 a1_10, .int .i64 a1_11, .int .i64 a1_12, .int .i64 a1_13]] w fun e w' => e = .returned (.int .i64 r) ∧ Below w.heap.size w w' := by
 have hu40 := Try.underlying40
 have hu33 := Try.underlying33
 have HR0_1 := Gv.a0 hr0_1
 have HC0_1 := Gv.a0 hc0_1
 clear hr0_1 hc0_1
 have HB := Gv.a0 (Below.refl w.heap.size w)
 have H : (spec_l11Place.l0 k 0 a0_0 l0_1 a1_0 a1_1 a1_2 a1_3 a1_4 a1_5 a1_6 a1_7 a1_8 a1_9 a1_10 a1_11 a1_12 a1_13) = some r := h
 clear h
 have H' := Gv.a0 H
 clear H
 go_enter Try.func54, Try.ntmps54
 go_wp2_with (first | ((with_reducible refine gate_dst (N := 2) rfl ?_); refine box_event ?hg (N := 2) ?hd (cs := #[.int .i64 a0_0, .slice A0_1 l0_1.length c0_1]) (t := 40) ?hr ?_; (case hd => rfl); (case hg => rfl); (case hr => first | (go_simp; done) | (go_simp; rfl)); intro gb222 hg w3 hbox hb; have BK222 := Gv.a0 (hbox); have GW222 := Gv.a0 ((Gv.ble hg Gv.bw : w.heap.size ≤ gb222)); have GE222 := Gv.a0 ((Gv.ble hg Gv.bw : w.heap.size ≤ gb222)); replace HB := Gv.a0 (below_step Gv.bw hb); clear hb hbox hg) | ((with_reducible refine gate_dst (N := 3) rfl ?_); refine box_event ?hg (N := 3) ?hd (cs := #[.int .i64 a1_0, .int .i64 a1_1, .int .i64 a1_2, .int .i64 a1_3, .int .i64 a1_4, .int .i64 a1_5, .int .i64 a1_6, .int .i64 a1_7, .int .i64 a1_8, .int .i64 a1_9, .int .i64 a1_10, .int .i64 a1_11, .int .i64 a1_12, .int .i64 a1_13]) (t := 33) ?hr ?_; (case hd => rfl); (case hg => rfl); (case hr => first | (go_simp; done) | (go_simp; rfl)); intro gb223 hg w4 hbox hb; have BK223 := Gv.a0 (hbox); have GW223 := Gv.a0 ((Gv.ble hg Gv.bw : w.heap.size ≤ gb223)); have GE223 := Gv.a0 ((Gv.ble hg Gv.bw : w.heap.size ≤ gb223)); replace HB := Gv.a0 (below_step Gv.bw hb); have NB222_223 := Gv.a0 ((Gv.nlt hg (Gv.kb BK222.out) : gb222 ≠ gb223)); have NB223_222 := Gv.a0 ((Gv.ngt hg (Gv.kb BK222.out) : gb223 ≠ gb222)); replace BK222 := Gv.a0 (Gv.bb BK222.out hb); clear hb hbox hg))
 repeat (go_quiet (first | ((with_reducible refine gate_dst (N := 2) rfl ?_); refine box_event ?hg (N := 2) ?hd (cs := #[.int .i64 a0_0, .slice A0_1 l0_1.length c0_1]) (t := 40) ?hr ?_; (case hd => rfl); (case hg => rfl); (case hr => first | (go_simp; done) | (go_simp; rfl)); intro gb222 hg w3 hbox hb; have BK222 := Gv.a0 (hbox); have GW222 := Gv.a0 ((Gv.ble hg Gv.bw : w.heap.size ≤ gb222)); have GE222 := Gv.a0 ((Gv.ble hg Gv.bw : w.heap.size ≤ gb222)); replace HB := Gv.a0 (below_step Gv.bw hb); clear hb hbox hg) | ((with_reducible refine gate_dst (N := 3) rfl ?_); refine box_event ?hg (N := 3) ?hd (cs := #[.int .i64 a1_0, .int .i64 a1_1, .int .i64 a1_2, .int .i64 a1_3, .int .i64 a1_4, .int .i64 a1_5, .int .i64 a1_6, .int .i64 a1_7, .int .i64 a1_8, .int .i64 a1_9, .int .i64 a1_10, .int .i64 a1_11, .int .i64 a1_12, .int .i64 a1_13]) (t := 33) ?hr ?_; (case hd => rfl); (case hg => rfl); (case hr => first | (go_simp; done) | (go_simp; rfl)); intro gb223 hg w4 hbox hb; have BK223 := Gv.a0 (hbox); have GW223 := Gv.a0 ((Gv.ble hg Gv.bw : w.heap.size ≤ gb223)); have GE223 := Gv.a0 ((Gv.ble hg Gv.bw : w.heap.size ≤ gb223)); replace HB := Gv.a0 (below_step Gv.bw hb); have NB222_223 := Gv.a0 ((Gv.nlt hg (Gv.kb BK222.out) : gb222 ≠ gb223)); have NB223_222 := Gv.a0 ((Gv.ngt hg (Gv.kb BK222.out) : gb223 ≠ gb222)); replace BK222 := Gv.a0 (Gv.bb BK222.out hb); clear hb hbox hg)); try go_wp2_with (first | ((with_reducible refine gate_dst (N := 2) rfl ?_); refine box_event ?hg (N := 2) ?hd (cs := #[.int .i64 a0_0, .slice A0_1 l0_1.length c0_1]) (t := 40) ?hr ?_; (case hd => rfl); (case hg => rfl); (case hr => first | (go_simp; done) | (go_simp; rfl)); intro gb222 hg w3 hbox hb; have BK222 := Gv.a0 (hbox); have GW222 := Gv.a0 ((Gv.ble hg Gv.bw : w.heap.size ≤ gb222)); have GE222 := Gv.a0 ((Gv.ble hg Gv.bw : w.heap.size ≤ gb222)); replace HB := Gv.a0 (below_step Gv.bw hb); clear hb hbox hg) | ((with_reducible refine gate_dst (N := 3) rfl ?_); refine box_event ?hg (N := 3) ?hd (cs := #[.int .i64 a1_0, .int .i64 a1_1, .int .i64 a1_2, .int .i64 a1_3, .int .i64 a1_4, .int .i64 a1_5, .int .i64 a1_6, .int .i64 a1_7, .int .i64 a1_8, .int .i64 a1_9, .int .i64 a1_10, .int .i64 a1_11, .int .i64 a1_12, .int .i64 a1_13]) (t := 33) ?hr ?_; (case hd => rfl); (case hg => rfl); (case hr => first | (go_simp; done) | (go_simp; rfl)); intro gb223 hg w4 hbox hb; have BK223 := Gv.a0 (hbox); have GW223 := Gv.a0 ((Gv.ble hg Gv.bw : w.heap.size ≤ gb223)); have GE223 := Gv.a0 ((Gv.ble hg Gv.bw : w.heap.size ≤ gb223)); replace HB := Gv.a0 (below_step Gv.bw hb); have NB222_223 := Gv.a0 ((Gv.nlt hg (Gv.kb BK222.out) : gb222 ≠ gb223)); have NB223_222 := Gv.a0 ((Gv.ngt hg (Gv.kb BK222.out) : gb223 ≠ gb222)); replace BK222 := Gv.a0 (Gv.bb BK222.out hb); clear hb hbox hg)))
 go_loopg [5] k (fun kq v5 w' => ∃ (x5_1 : Int), v5 = .int .i64 x5_1 ∧ Aside0 (spec_l11Place.l0 kq x5_1 a0_0 l0_1 a1_0 a1_1 a1_2 a1_3 a1_4 a1_5 a1_6 a1_7 a1_8 a1_9 a1_10 a1_11 a1_12 a1_13 = some r) ∧ Aside0 (kq ≤ k) ∧ Aside0 (w'.heap[gb222]? = some (.cells #[.int .i64 a0_0, (.slice A0_1 l0_1.length c0_1)] 40 (0, 0))) ∧ Aside0 (w'.heap[gb223]? = some (.cells #[.int .i64 a1_0, .int .i64 a1_1, .int .i64 a1_2, .int .i64 a1_3, .int .i64 a1_4, .int .i64 a1_5, .int .i64 a1_6, .int .i64 a1_7, .int .i64 a1_8, .int .i64 a1_9, .int .i64 a1_10, .int .i64 a1_11, .int .i64 a1_12, .int .i64 a1_13] 33 (0, 0))) ∧ Aside0 (Below w.heap.size w w'))
 case atStart => exact ⟨(0), Gv.rq, H', ⟨Nat.le_refl _⟩, ⟨by (with_reducible repeat (first | refine blk_drewN ?_ _ | refine blk_drew ?_ | refine blk_alloc ?_ _)); exact BK222.out⟩, ⟨by (with_reducible repeat (first | refine blk_drewN ?_ _ | refine blk_drew ?_ | refine blk_alloc ?_ _)); exact BK223.out⟩, ⟨Gv.bw⟩⟩
 case round =>
  clear H'
  try clear p2
  obtain ⟨x5_1, rfl, HA, HK1, BK222, BK223, HB⟩ := hrel
  cases gk with
  | zero => exact absurd HA.out (by simp [spec_l11Place.l0])
  | succ k1 =>
   have H := HA.out
   clear HA
   simp only [spec_l11Place.l0] at H
   by_cases c5 : x5_1 < (l0_1.length : Int)
   ·rw [if_pos c5] at H
    have c5b0 : decide (x5_1 < (l0_1.length : Int)) = true := decide_eq_true c5
    clear c5
    by_cases c6 : 0 ≤ x5_1
    ·rw [if_pos c6] at H
     have c6b0 : decide (0 ≤ x5_1) = true := decide_eq_true c6
     clear c6
     obtain ⟨bq7, hbq7⟩ : ∃ b_ : Bool, b_ = ((rd_T75 l0_1 x5_1).f0) := ⟨_, rfl⟩
     replace H : (if bq7 = true then (if (((rd_T75 l0_1 x5_1).f1.f0) == a1_0 && (((((rd_T75 l0_1 x5_1).f1.f1.f0.f0) == a1_1 && (((rd_T75 l0_1 x5_1).f1.f1.f0.f1) == a1_2 && (((rd_T75 l0_1 x5_1).f1.f1.f0.f2) == a1_3 && (((rd_T75 l0_1 x5_1).f1.f1.f0.f3) == a1_4 && (((rd_T75 l0_1 x5_1).f1.f1.f0.f4) == a1_5))))) && ((((rd_T75 l0_1 x5_1).f1.f1.f1.f0) == a1_6 && (((rd_T75 l0_1 x5_1).f1.f1.f1.f1) == a1_7 && (((rd_T75 l0_1 x5_1).f1.f1.f1.f2) == a1_8 && (((rd_T75 l0_1 x5_1).f1.f1.f1.f3) == a1_9 && (((rd_T75 l0_1 x5_1).f1.f1.f1.f4) == a1_10))))) && (((rd_T75 l0_1 x5_1).f1.f1.f2) == a1_11 && (((rd_T75 l0_1 x5_1).f1.f1.f3) == a1_12 && (((rd_T75 l0_1 x5_1).f1.f1.f4) == a1_13))))))) = true then (some x5_1) else (spec_l11Place.l0 k1 (wrap64 (x5_1 + 1)) a0_0 l0_1 a1_0 a1_1 a1_2 a1_3 a1_4 a1_5 a1_6 a1_7 a1_8 a1_9 a1_10 a1_11 a1_12 a1_13)) else (spec_l11Place.l0 k1 (wrap64 (x5_1 + 1)) a0_0 l0_1 a1_0 a1_1 a1_2 a1_3 a1_4 a1_5 a1_6 a1_7 a1_8 a1_9 a1_10 a1_11 a1_12 a1_13)) = some r := by rw [← hbq7] at H; exact H
     have Nbq7 := Gv.a0 hbq7
     clear hbq7
     by_cases c8 : bq7 = true
     ·subst c8
      have H1 : (if (((rd_T75 l0_1 x5_1).f1.f0) == a1_0 && (((((rd_T75 l0_1 x5_1).f1.f1.f0.f0) == a1_1 && (((rd_T75 l0_1 x5_1).f1.f1.f0.f1) == a1_2 && (((rd_T75 l0_1 x5_1).f1.f1.f0.f2) == a1_3 && (((rd_T75 l0_1 x5_1).f1.f1.f0.f3) == a1_4 && (((rd_T75 l0_1 x5_1).f1.f1.f0.f4) == a1_5))))) && ((((rd_T75 l0_1 x5_1).f1.f1.f1.f0) == a1_6 && (((rd_T75 l0_1 x5_1).f1.f1.f1.f1) == a1_7 && (((rd_T75 l0_1 x5_1).f1.f1.f1.f2) == a1_8 && (((rd_T75 l0_1 x5_1).f1.f1.f1.f3) == a1_9 && (((rd_T75 l0_1 x5_1).f1.f1.f1.f4) == a1_10))))) && (((rd_T75 l0_1 x5_1).f1.f1.f2) == a1_11 && (((rd_T75 l0_1 x5_1).f1.f1.f3) == a1_12 && (((rd_T75 l0_1 x5_1).f1.f1.f4) == a1_13))))))) = true then (some x5_1) else (spec_l11Place.l0 k1 (wrap64 (x5_1 + 1)) a0_0 l0_1 a1_0 a1_1 a1_2 a1_3 a1_4 a1_5 a1_6 a1_7 a1_8 a1_9 a1_10 a1_11 a1_12 a1_13)) = some r := by rw [if_pos rfl] at H; exact H
      clear H
      have H := H1
      clear H1
      by_cases c9 : (((rd_T75 l0_1 x5_1).f1.f0) == a1_0 && (((((rd_T75 l0_1 x5_1).f1.f1.f0.f0) == a1_1 && (((rd_T75 l0_1 x5_1).f1.f1.f0.f1) == a1_2 && (((rd_T75 l0_1 x5_1).f1.f1.f0.f2) == a1_3 && (((rd_T75 l0_1 x5_1).f1.f1.f0.f3) == a1_4 && (((rd_T75 l0_1 x5_1).f1.f1.f0.f4) == a1_5))))) && ((((rd_T75 l0_1 x5_1).f1.f1.f1.f0) == a1_6 && (((rd_T75 l0_1 x5_1).f1.f1.f1.f1) == a1_7 && (((rd_T75 l0_1 x5_1).f1.f1.f1.f2) == a1_8 && (((rd_T75 l0_1 x5_1).f1.f1.f1.f3) == a1_9 && (((rd_T75 l0_1 x5_1).f1.f1.f1.f4) == a1_10))))) && (((rd_T75 l0_1 x5_1).f1.f1.f2) == a1_11 && (((rd_T75 l0_1 x5_1).f1.f1.f3) == a1_12 && (((rd_T75 l0_1 x5_1).f1.f1.f4) == a1_13))))))) = true
      ·rw [if_pos c9] at H
       have c9b0 : (((rd_T75 l0_1 x5_1).f1.f0) == a1_0 && (((((rd_T75 l0_1 x5_1).f1.f1.f0.f0) == a1_1 && (((rd_T75 l0_1 x5_1).f1.f1.f0.f1) == a1_2 && (((rd_T75 l0_1 x5_1).f1.f1.f0.f2) == a1_3 && (((rd_T75 l0_1 x5_1).f1.f1.f0.f3) == a1_4 && (((rd_T75 l0_1 x5_1).f1.f1.f0.f4) == a1_5))))) && ((((rd_T75 l0_1 x5_1).f1.f1.f1.f0) == a1_6 && (((rd_T75 l0_1 x5_1).f1.f1.f1.f1) == a1_7 && (((rd_T75 l0_1 x5_1).f1.f1.f1.f2) == a1_8 && (((rd_T75 l0_1 x5_1).f1.f1.f1.f3) == a1_9 && (((rd_T75 l0_1 x5_1).f1.f1.f1.f4) == a1_10))))) && (((rd_T75 l0_1 x5_1).f1.f1.f2) == a1_11 && (((rd_T75 l0_1 x5_1).f1.f1.f3) == a1_12 && (((rd_T75 l0_1 x5_1).f1.f1.f4) == a1_13))))))) = true := c9
       (try (have c9b1 : decide (((rd_T75 l0_1 x5_1).f1.f0) = a1_0 && (((((rd_T75 l0_1 x5_1).f1.f1.f0.f0) == a1_1 && (((rd_T75 l0_1 x5_1).f1.f1.f0.f1) == a1_2 && (((rd_T75 l0_1 x5_1).f1.f1.f0.f2) == a1_3 && (((rd_T75 l0_1 x5_1).f1.f1.f0.f3) == a1_4 && (((rd_T75 l0_1 x5_1).f1.f1.f0.f4) == a1_5))))) && ((((rd_T75 l0_1 x5_1).f1.f1.f1.f0) == a1_6 && (((rd_T75 l0_1 x5_1).f1.f1.f1.f1) == a1_7 && (((rd_T75 l0_1 x5_1).f1.f1.f1.f2) == a1_8 && (((rd_T75 l0_1 x5_1).f1.f1.f1.f3) == a1_9 && (((rd_T75 l0_1 x5_1).f1.f1.f1.f4) == a1_10))))) && (((rd_T75 l0_1 x5_1).f1.f1.f2) == a1_11 && (((rd_T75 l0_1 x5_1).f1.f1.f3) == a1_12 && (((rd_T75 l0_1 x5_1).f1.f1.f4) == a1_13))))))) = true := by simpa using c9))
       (try (have c9b2 : (((rd_T75 l0_1 x5_1).f1.f0) == a1_0 && (((((rd_T75 l0_1 x5_1).f1.f1.f0.f0) == a1_1 && (((rd_T75 l0_1 x5_1).f1.f1.f0.f1) == a1_2 && (((rd_T75 l0_1 x5_1).f1.f1.f0.f2) == a1_3 && (((rd_T75 l0_1 x5_1).f1.f1.f0.f3) == a1_4 && (((rd_T75 l0_1 x5_1).f1.f1.f0.f4) == a1_5))))) && ((((rd_T75 l0_1 x5_1).f1.f1.f1.f0) == a1_6 && (((rd_T75 l0_1 x5_1).f1.f1.f1.f1) == a1_7 && (((rd_T75 l0_1 x5_1).f1.f1.f1.f2) == a1_8 && (((rd_T75 l0_1 x5_1).f1.f1.f1.f3) == a1_9 && (((rd_T75 l0_1 x5_1).f1.f1.f1.f4) == a1_10))))) && (((rd_T75 l0_1 x5_1).f1.f1.f2) == a1_11 && (((rd_T75 l0_1 x5_1).f1.f1.f3) == a1_12 && (((rd_T75 l0_1 x5_1).f1.f1.f4) == a1_13))))))) = true := by simpa using c9))
       clear c9
       obtain rfl := Option.some.inj H
       have hnb10 := NB222_223.out
       have hnc10 := NB223_222.out
       have hcz11_0 : wr.cell? ⟨gb222, 0, none⟩ = some (.int .i64 a0_0) := (blk_cell BK222.out 0).trans rfl
       have hcz11_1 : wr.cell? ⟨gb222, 1, none⟩ = some (.slice A0_1 l0_1.length c0_1) := (blk_cell BK222.out 1).trans rfl
       have hfz11_0 := blk_frozen BK222.out 0
       have hfz11_1 := blk_frozen BK222.out 1
       have p224 : 0 ≤ (x5_1 : Int) := of_decide_eq_true (by first | (with_reducible assumption) | assumption)
       have q224 : x5_1 < (l0_1.length : Int) := of_decide_eq_true (by first | (with_reducible assumption) | assumption)
       obtain ⟨ad224, e224, hx224_0, _, _, _, _, _, _, _, _, _, _, _, _, _, _, _⟩ := at_T75 HR0_1.out x5_1 p224 q224
       (try rw [← Nbq7.out] at hx224_0)
       cases e224
       replace hx224_0 := Gv.bx HB.out hx224_0
       replace p224 := eq_true p224
       replace q224 := eq_true q224
       have p225 : 0 ≤ (x5_1 : Int) := of_decide_eq_true (by first | (with_reducible assumption) | assumption)
       have q225 : x5_1 < (l0_1.length : Int) := of_decide_eq_true (by first | (with_reducible assumption) | assumption)
       obtain ⟨ad225, e225, hx225_0, hx225_1, hx225_2, hx225_3, hx225_4, hx225_5, hx225_6, hx225_7, hx225_8, hx225_9, hx225_10, hx225_11, hx225_12, hx225_13, hx225_14, _⟩ := at_T75 HR0_1.out x5_1 p225 q225
       (try rw [← Nbq7.out] at hx225_0)
       obtain rfl : ad224 = ad225 := (by injection e225)
       replace hx225_0 := Gv.bx HB.out hx225_0
       replace hx225_1 := Gv.bx HB.out hx225_1
       replace hx225_2 := Gv.bx HB.out hx225_2
       replace hx225_3 := Gv.bx HB.out hx225_3
       replace hx225_4 := Gv.bx HB.out hx225_4
       replace hx225_5 := Gv.bx HB.out hx225_5
       replace hx225_6 := Gv.bx HB.out hx225_6
       replace hx225_7 := Gv.bx HB.out hx225_7
       replace hx225_8 := Gv.bx HB.out hx225_8
       replace hx225_9 := Gv.bx HB.out hx225_9
       replace hx225_10 := Gv.bx HB.out hx225_10
       replace hx225_11 := Gv.bx HB.out hx225_11
       replace hx225_12 := Gv.bx HB.out hx225_12
       replace hx225_13 := Gv.bx HB.out hx225_13
       replace hx225_14 := Gv.bx HB.out hx225_14
       replace p225 := eq_true p225
       replace q225 := eq_true q225
       obtain ⟨hcz12_0, hcz12_1, hcz12_2, hcz12_3, hcz12_4, hcz12_5, hcz12_6, hcz12_7, hcz12_8, hcz12_9, hcz12_10, hcz12_11, hcz12_12, hcz12_13⟩ := Gv.c14 BK223.out
       obtain ⟨hfz12_0, hfz12_1, hfz12_2, hfz12_3, hfz12_4, hfz12_5, hfz12_6, hfz12_7, hfz12_8, hfz12_9, hfz12_10, hfz12_11, hfz12_12, hfz12_13⟩ := Gv.f14 BK223.out
       go_wp2
       repeat (go_quiet (fail); try go_wp2)
       go_ret
       exact ⟨Gv.rt, Gv.bw⟩
      ·rw [if_neg c9] at H
       have c9b0 : (((rd_T75 l0_1 x5_1).f1.f0) == a1_0 && (((((rd_T75 l0_1 x5_1).f1.f1.f0.f0) == a1_1 && (((rd_T75 l0_1 x5_1).f1.f1.f0.f1) == a1_2 && (((rd_T75 l0_1 x5_1).f1.f1.f0.f2) == a1_3 && (((rd_T75 l0_1 x5_1).f1.f1.f0.f3) == a1_4 && (((rd_T75 l0_1 x5_1).f1.f1.f0.f4) == a1_5))))) && ((((rd_T75 l0_1 x5_1).f1.f1.f1.f0) == a1_6 && (((rd_T75 l0_1 x5_1).f1.f1.f1.f1) == a1_7 && (((rd_T75 l0_1 x5_1).f1.f1.f1.f2) == a1_8 && (((rd_T75 l0_1 x5_1).f1.f1.f1.f3) == a1_9 && (((rd_T75 l0_1 x5_1).f1.f1.f1.f4) == a1_10))))) && (((rd_T75 l0_1 x5_1).f1.f1.f2) == a1_11 && (((rd_T75 l0_1 x5_1).f1.f1.f3) == a1_12 && (((rd_T75 l0_1 x5_1).f1.f1.f4) == a1_13))))))) = false := by simpa using c9
       (try (have c9b1 : decide (((rd_T75 l0_1 x5_1).f1.f0) = a1_0 && (((((rd_T75 l0_1 x5_1).f1.f1.f0.f0) == a1_1 && (((rd_T75 l0_1 x5_1).f1.f1.f0.f1) == a1_2 && (((rd_T75 l0_1 x5_1).f1.f1.f0.f2) == a1_3 && (((rd_T75 l0_1 x5_1).f1.f1.f0.f3) == a1_4 && (((rd_T75 l0_1 x5_1).f1.f1.f0.f4) == a1_5))))) && ((((rd_T75 l0_1 x5_1).f1.f1.f1.f0) == a1_6 && (((rd_T75 l0_1 x5_1).f1.f1.f1.f1) == a1_7 && (((rd_T75 l0_1 x5_1).f1.f1.f1.f2) == a1_8 && (((rd_T75 l0_1 x5_1).f1.f1.f1.f3) == a1_9 && (((rd_T75 l0_1 x5_1).f1.f1.f1.f4) == a1_10))))) && (((rd_T75 l0_1 x5_1).f1.f1.f2) == a1_11 && (((rd_T75 l0_1 x5_1).f1.f1.f3) == a1_12 && (((rd_T75 l0_1 x5_1).f1.f1.f4) == a1_13))))))) = false := by simpa using c9))
       (try (have c9b2 : (((rd_T75 l0_1 x5_1).f1.f0) == a1_0 && (((((rd_T75 l0_1 x5_1).f1.f1.f0.f0) == a1_1 && (((rd_T75 l0_1 x5_1).f1.f1.f0.f1) == a1_2 && (((rd_T75 l0_1 x5_1).f1.f1.f0.f2) == a1_3 && (((rd_T75 l0_1 x5_1).f1.f1.f0.f3) == a1_4 && (((rd_T75 l0_1 x5_1).f1.f1.f0.f4) == a1_5))))) && ((((rd_T75 l0_1 x5_1).f1.f1.f1.f0) == a1_6 && (((rd_T75 l0_1 x5_1).f1.f1.f1.f1) == a1_7 && (((rd_T75 l0_1 x5_1).f1.f1.f1.f2) == a1_8 && (((rd_T75 l0_1 x5_1).f1.f1.f1.f3) == a1_9 && (((rd_T75 l0_1 x5_1).f1.f1.f1.f4) == a1_10))))) && (((rd_T75 l0_1 x5_1).f1.f1.f2) == a1_11 && (((rd_T75 l0_1 x5_1).f1.f1.f3) == a1_12 && (((rd_T75 l0_1 x5_1).f1.f1.f4) == a1_13))))))) = false := by simpa using c9))
       (try (have c9b3 : ¬ (((rd_T75 l0_1 x5_1).f1.f0) = a1_0 && (((((rd_T75 l0_1 x5_1).f1.f1.f0.f0) == a1_1 && (((rd_T75 l0_1 x5_1).f1.f1.f0.f1) == a1_2 && (((rd_T75 l0_1 x5_1).f1.f1.f0.f2) == a1_3 && (((rd_T75 l0_1 x5_1).f1.f1.f0.f3) == a1_4 && (((rd_T75 l0_1 x5_1).f1.f1.f0.f4) == a1_5))))) && ((((rd_T75 l0_1 x5_1).f1.f1.f1.f0) == a1_6 && (((rd_T75 l0_1 x5_1).f1.f1.f1.f1) == a1_7 && (((rd_T75 l0_1 x5_1).f1.f1.f1.f2) == a1_8 && (((rd_T75 l0_1 x5_1).f1.f1.f1.f3) == a1_9 && (((rd_T75 l0_1 x5_1).f1.f1.f1.f4) == a1_10))))) && (((rd_T75 l0_1 x5_1).f1.f1.f2) == a1_11 && (((rd_T75 l0_1 x5_1).f1.f1.f3) == a1_12 && (((rd_T75 l0_1 x5_1).f1.f1.f4) == a1_13))))))) := by simpa using c9))
       clear c9
       have H' := Gv.a0 H
       clear H
       have hnb13 := NB222_223.out
       have hnc13 := NB223_222.out
       have hcz14_0 : wr.cell? ⟨gb222, 0, none⟩ = some (.int .i64 a0_0) := (blk_cell BK222.out 0).trans rfl
       have hcz14_1 : wr.cell? ⟨gb222, 1, none⟩ = some (.slice A0_1 l0_1.length c0_1) := (blk_cell BK222.out 1).trans rfl
       have hfz14_0 := blk_frozen BK222.out 0
       have hfz14_1 := blk_frozen BK222.out 1
       have p224 : 0 ≤ (x5_1 : Int) := of_decide_eq_true (by first | (with_reducible assumption) | assumption)
       have q224 : x5_1 < (l0_1.length : Int) := of_decide_eq_true (by first | (with_reducible assumption) | assumption)
       obtain ⟨ad224, e224, hx224_0, _, _, _, _, _, _, _, _, _, _, _, _, _, _, _⟩ := at_T75 HR0_1.out x5_1 p224 q224
       (try rw [← Nbq7.out] at hx224_0)
       cases e224
       replace hx224_0 := Gv.bx HB.out hx224_0
       replace p224 := eq_true p224
       replace q224 := eq_true q224
       have p225 : 0 ≤ (x5_1 : Int) := of_decide_eq_true (by first | (with_reducible assumption) | assumption)
       have q225 : x5_1 < (l0_1.length : Int) := of_decide_eq_true (by first | (with_reducible assumption) | assumption)
       obtain ⟨ad225, e225, hx225_0, hx225_1, hx225_2, hx225_3, hx225_4, hx225_5, hx225_6, hx225_7, hx225_8, hx225_9, hx225_10, hx225_11, hx225_12, hx225_13, hx225_14, _⟩ := at_T75 HR0_1.out x5_1 p225 q225
       (try rw [← Nbq7.out] at hx225_0)
       obtain rfl : ad224 = ad225 := (by injection e225)
       replace hx225_0 := Gv.bx HB.out hx225_0
       replace hx225_1 := Gv.bx HB.out hx225_1
       replace hx225_2 := Gv.bx HB.out hx225_2
       replace hx225_3 := Gv.bx HB.out hx225_3
       replace hx225_4 := Gv.bx HB.out hx225_4
       replace hx225_5 := Gv.bx HB.out hx225_5
       replace hx225_6 := Gv.bx HB.out hx225_6
       replace hx225_7 := Gv.bx HB.out hx225_7
       replace hx225_8 := Gv.bx HB.out hx225_8
       replace hx225_9 := Gv.bx HB.out hx225_9
       replace hx225_10 := Gv.bx HB.out hx225_10
       replace hx225_11 := Gv.bx HB.out hx225_11
       replace hx225_12 := Gv.bx HB.out hx225_12
       replace hx225_13 := Gv.bx HB.out hx225_13
       replace hx225_14 := Gv.bx HB.out hx225_14
       replace p225 := eq_true p225
       replace q225 := eq_true q225
       obtain ⟨hcz15_0, hcz15_1, hcz15_2, hcz15_3, hcz15_4, hcz15_5, hcz15_6, hcz15_7, hcz15_8, hcz15_9, hcz15_10, hcz15_11, hcz15_12, hcz15_13⟩ := Gv.c14 BK223.out
       obtain ⟨hfz15_0, hfz15_1, hfz15_2, hfz15_3, hfz15_4, hfz15_5, hfz15_6, hfz15_7, hfz15_8, hfz15_9, hfz15_10, hfz15_11, hfz15_12, hfz15_13⟩ := Gv.f14 BK223.out
       go_wp2
       repeat (go_quiet (fail); try go_wp2)
       go_roundg k1
       case measure => have := HK1.out; omega
       case rel => exact ⟨(wrap64 (x5_1 + 1)), Gv.rq, H', ⟨by have := HK1.out; omega⟩, ⟨by (with_reducible repeat (first | refine blk_drewN ?_ _ | refine blk_drew ?_ | refine blk_alloc ?_ _)); exact BK222.out⟩, ⟨by (with_reducible repeat (first | refine blk_drewN ?_ _ | refine blk_drew ?_ | refine blk_alloc ?_ _)); exact BK223.out⟩, ⟨Gv.bw⟩⟩
     ·replace c8 := Bool.eq_false_iff.mpr c8
      subst c8
      have H1 : (spec_l11Place.l0 k1 (wrap64 (x5_1 + 1)) a0_0 l0_1 a1_0 a1_1 a1_2 a1_3 a1_4 a1_5 a1_6 a1_7 a1_8 a1_9 a1_10 a1_11 a1_12 a1_13) = some r := by rw [if_neg (show ¬ (false = true) by decide)] at H; exact H
      clear H
      have H := H1
      clear H1
      have H' := Gv.a0 H
      clear H
      have hnb16 := NB222_223.out
      have hnc16 := NB223_222.out
      have hcz17_0 : wr.cell? ⟨gb222, 0, none⟩ = some (.int .i64 a0_0) := (blk_cell BK222.out 0).trans rfl
      have hcz17_1 : wr.cell? ⟨gb222, 1, none⟩ = some (.slice A0_1 l0_1.length c0_1) := (blk_cell BK222.out 1).trans rfl
      have hfz17_0 := blk_frozen BK222.out 0
      have hfz17_1 := blk_frozen BK222.out 1
      have p224 : 0 ≤ (x5_1 : Int) := of_decide_eq_true (by first | (with_reducible assumption) | assumption)
      have q224 : x5_1 < (l0_1.length : Int) := of_decide_eq_true (by first | (with_reducible assumption) | assumption)
      obtain ⟨ad224, e224, hx224_0, _, _, _, _, _, _, _, _, _, _, _, _, _, _, _⟩ := at_T75 HR0_1.out x5_1 p224 q224
      (try rw [← Nbq7.out] at hx224_0)
      cases e224
      replace hx224_0 := Gv.bx HB.out hx224_0
      replace p224 := eq_true p224
      replace q224 := eq_true q224
      go_wp2
      repeat (go_quiet (fail); try go_wp2)
      go_roundg k1
      case measure => have := HK1.out; omega
      case rel => exact ⟨(wrap64 (x5_1 + 1)), Gv.rq, H', ⟨by have := HK1.out; omega⟩, ⟨by (with_reducible repeat (first | refine blk_drewN ?_ _ | refine blk_drew ?_ | refine blk_alloc ?_ _)); exact BK222.out⟩, ⟨by (with_reducible repeat (first | refine blk_drewN ?_ _ | refine blk_drew ?_ | refine blk_alloc ?_ _)); exact BK223.out⟩, ⟨Gv.bw⟩⟩
    ·rw [if_neg c6] at H
     exact absurd H (by simp)
   ·rw [if_neg c5] at H
    have c5b0 : decide (x5_1 < (l0_1.length : Int)) = false := decide_eq_false c5
    clear c5
    obtain rfl := Option.some.inj H
    have hnb18 := NB222_223.out
    have hnc18 := NB223_222.out
    have hcz19_0 : wr.cell? ⟨gb222, 0, none⟩ = some (.int .i64 a0_0) := (blk_cell BK222.out 0).trans rfl
    have hcz19_1 : wr.cell? ⟨gb222, 1, none⟩ = some (.slice A0_1 l0_1.length c0_1) := (blk_cell BK222.out 1).trans rfl
    have hfz19_0 := blk_frozen BK222.out 0
    have hfz19_1 := blk_frozen BK222.out 1
    go_wp2
    repeat (go_quiet (fail); try go_wp2)
    go_ret
    exact ⟨Gv.rt, Gv.bw⟩

/-! ### spec_l01Low: function 84 -/
def spec_l01Low.f (a0 : Int) (a1 : Int) : Option (Int) := if a1 = 0 then (none) else (if (Int.tmod a0 a1) < 0 then (some (wrap64 ((Int.tmod a0 a1) + a1))) else (some (Int.tmod a0 a1)))
set_option maxHeartbeats 8000000 in
set_option maxRecDepth 100000 in
theorem spec_l01Low.calls (a0 : Int) (a1 : Int) (r : Int) (w : World) (h : spec_l01Low.f a0 a1 = some r) :
  Calls Try.prog 84 #[.int .i64 a0, .int .i64 a1] w fun e w' => e = .returned (.int .i64 r) ∧ Drawn0 w w' := by
 have H : (if a1 = 0 then (none) else (if (Int.tmod a0 a1) < 0 then (some (wrap64 ((Int.tmod a0 a1) + a1))) else (some (Int.tmod a0 a1)))) = some r := h
 clear h
 by_cases c3 : a1 = 0
 ·rw [if_pos c3] at H
  exact absurd H (by simp)
 ·rw [if_neg c3] at H
  have c3b0 : (a1 == 0) = false := beq_eq_false_iff_ne.mpr c3
  have c3b1 : (a1 != 0) = true := bne_iff_ne.mpr c3
  by_cases c4 : (Int.tmod a0 a1) < 0
  ·rw [if_pos c4] at H
   have c4b0 : decide ((Int.tmod a0 a1) < 0) = true := decide_eq_true c4
   clear c4
   obtain rfl := Option.some.inj H
   go_enter Try.func84, Try.ntmps84
   go_wp2
   go_ret
   exact ⟨by first | rfl | (simp; done) | (simp [Int.tdiv_eq_ediv_of_nonneg]; done) | (simp [*]; done), by repeat (first | exact Drawn0.refl _ | apply Drawn0.step)⟩
  ·rw [if_neg c4] at H
   have c4b0 : decide ((Int.tmod a0 a1) < 0) = false := decide_eq_false c4
   clear c4
   obtain rfl := Option.some.inj H
   go_enter Try.func84, Try.ntmps84
   go_wp2
   go_ret
   exact ⟨by first | rfl | (simp; done) | (simp [Int.tdiv_eq_ediv_of_nonneg]; done) | (simp [*]; done), by repeat (first | exact Drawn0.refl _ | apply Drawn0.step)⟩

/-! ### spec_Put16: function 72 -/
def spec_Put16.f (a0 : Int) : Option (List Int) := (spec_l01Low.f a0 65536).bind fun t226 => (some (([(wrap64 (Int.tdiv t226 256)) % 256, (Int.tmod t226 256) % 256] : List Int)))
set_option maxHeartbeats 8000000 in
set_option maxRecDepth 100000 in
theorem spec_Put16.calls (a0 : Int) (r : List Int) (w : World) (h : spec_Put16.f a0 = some r) :
  Calls Try.prog 72 #[.int .i64 a0] w fun e w' => ∃ v0_ : Value, e = .returned (v0_) ∧ Kd.R (Kd.int .u8) 5 w' w.heap.size (fun _ => True) v0_ r ∧ Below w.heap.size w w' := by
 have HB := Gv.a0 (Below.refl w.heap.size w)
 have H : ((spec_l01Low.f a0 65536).bind fun t226 => (some (([(wrap64 (Int.tdiv t226 256)) % 256, (Int.tmod t226 256) % 256] : List Int)))) = some r := h
 clear h
 replace H := Option.bind_eq_some_iff.mp H
 obtain ⟨t226, A20, H⟩ := H
 replace H : (some (([(wrap64 (Int.tdiv t226 256)) % 256, (Int.tmod t226 256) % 256] : List Int))) = some r := H
 have A2 := Gv.a0 A20
 clear A20
 obtain ⟨y227, hy227⟩ : ∃ y_ : List Int, y_ = (([(wrap64 (Int.tdiv t226 256)) % 256, (Int.tmod t226 256) % 256] : List Int)) := ⟨_, rfl⟩
 replace H : (some y227) = some r := by first | (rw [hy227]; with_reducible exact H) | (have H2_ := (Option.bind_some _ _).symm.trans H; rw [hy227]; with_reducible exact H2_) | (have H2_ := (Option.bind_some _ _).symm.trans H; with_reducible exact H2_) | with_reducible exact H | (rw [hy227]; exact H) | exact H
 have Ny227 := Gv.a0 hy227
 clear hy227
 obtain rfl := Option.some.inj H
 go_enter Try.func72, Try.ntmps72
 go_wp2_with (first | ((with_reducible refine gate_callee (f := 84) rfl ?_); refine goesL_ (some 5) rfl rfl Try.func84 (by kernel_rfl) rfl #[.int .i64 a0, .int .i64 65536] rfl Gv.lm ?_; (with_reducible refine (spec_l01Low.calls a0 65536 t226 _ A2.out).mono ?_); rintro e w' ⟨rfl, ⟨nd, rfl⟩⟩; refine ⟨_, rfl, ?_⟩) | ((with_reducible refine gate_dst (N := 12) rfl ?_); refine Kd.R_lit (Kd.int .u8) _ 5 ?hg (N := 12) ?hd (xs := ([(wrap64 (Int.tdiv t226 256)) % 256, (Int.tmod t226 256) % 256] : List Int)) (inner := [.int .u8 ((wrap64 (Int.tdiv t226 256)) % 256), .int .u8 ((Int.tmod t226 256) % 256)]) (ok := fun _ => True) (okp := fun _ => True) ?hr ?hp (fun _ hk => hk) trivial (Below.refl _ _) (Nat.le_refl _) (by simp) ?_; (case hd => rfl); (case hg => rfl); (case hr => first | (go_simp; done) | (go_simp; rfl)); (case hp => exact (Reps.one (show Kd.M (Kd.int .u8) _ _ _ ((wrap64 (Int.tdiv t226 256)) % 256) [.int .u8 ((wrap64 (Int.tdiv t226 256)) % 256)] from rfl) (Reps.one (show Kd.M (Kd.int .u8) _ _ _ ((Int.tmod t226 256) % 256) [.int .u8 ((Int.tmod t226 256) % 256)] from rfl) (Reps.none _ _)))); intro v228 w3 ho4 hb hg_ hnew_; clear hg_ hnew_; (first | rw [← Ny227.out] at ho4 | (simp only [Int.reduceToNat] at ho4; rw [← Ny227.out] at ho4)); have HO229 := Gv.a0 (Kd.R_lower ho4 (below_size Gv.bw)); replace HB := Gv.a0 (below_step Gv.bw hb); clear hb ho4))
 go_ret
 exact ⟨_, Gv.rt, Gv.kr HO229.out, Gv.bw⟩

/-! ### spec_Put32: function 83 -/
def spec_Put32.f (a0 : Int) : Option (List Int) := (spec_l01Low.f a0 4294967296).bind fun t230 => ((spec_Put16.f (wrap64 (Int.tdiv t230 65536))).bind fun t231 => ((spec_Put16.f (Int.tmod t230 65536)).bind fun t234 => (if t231.length + t234.length < 140737488355328 then (some (t231 ++ t234)) else (none))))
set_option maxHeartbeats 8000000 in
set_option maxRecDepth 100000 in
theorem spec_Put32.calls (a0 : Int) (r : List Int) (w : World) (h : spec_Put32.f a0 = some r) :
  Calls Try.prog 83 #[.int .i64 a0] w fun e w' => ∃ v0_ : Value, e = .returned (v0_) ∧ Kd.R (Kd.int .u8) 5 w' w.heap.size (fun _ => True) v0_ r ∧ Below w.heap.size w w' := by
 have HB := Gv.a0 (Below.refl w.heap.size w)
 have H : ((spec_l01Low.f a0 4294967296).bind fun t230 => ((spec_Put16.f (wrap64 (Int.tdiv t230 65536))).bind fun t231 => ((spec_Put16.f (Int.tmod t230 65536)).bind fun t234 => (if t231.length + t234.length < 140737488355328 then (some (t231 ++ t234)) else (none))))) = some r := h
 clear h
 replace H := Option.bind_eq_some_iff.mp H
 obtain ⟨t230, A20, H⟩ := H
 replace H : ((spec_Put16.f (wrap64 (Int.tdiv t230 65536))).bind fun t231 => ((spec_Put16.f (Int.tmod t230 65536)).bind fun t234 => (if t231.length + t234.length < 140737488355328 then (some (t231 ++ t234)) else (none)))) = some r := H
 have A2 := Gv.a0 A20
 clear A20
 replace H := Option.bind_eq_some_iff.mp H
 obtain ⟨t231, A30, H⟩ := H
 replace H : ((spec_Put16.f (Int.tmod t230 65536)).bind fun t234 => (if t231.length + t234.length < 140737488355328 then (some (t231 ++ t234)) else (none))) = some r := H
 have A3 := Gv.a0 A30
 clear A30
 replace H := Option.bind_eq_some_iff.mp H
 obtain ⟨t234, A40, H⟩ := H
 replace H : (if t231.length + t234.length < 140737488355328 then (some (t231 ++ t234)) else (none)) = some r := H
 have A4 := Gv.a0 A40
 clear A40
 by_cases c5 : t231.length + t234.length < 140737488355328
 ·rw [if_pos c5] at H
  have LMc5 := Gv.a0 c5
  clear c5
  obtain ⟨y237, hy237⟩ : ∃ y_ : List Int, y_ = (t231 ++ t234) := ⟨_, rfl⟩
  replace H : (some y237) = some r := by first | (rw [hy237]; with_reducible exact H) | (have H2_ := (Option.bind_some _ _).symm.trans H; rw [hy237]; with_reducible exact H2_) | (have H2_ := (Option.bind_some _ _).symm.trans H; with_reducible exact H2_) | with_reducible exact H | (rw [hy237]; exact H) | exact H
  have Ny237 := Gv.a0 hy237
  clear hy237
  obtain rfl := Option.some.inj H
  go_enter Try.func83, Try.ntmps83
  go_wp2_with (first | ((with_reducible refine gate_callee (f := 84) rfl ?_); refine goesL_ (some 5) rfl rfl Try.func84 (by kernel_rfl) rfl #[.int .i64 a0, .int .i64 4294967296] rfl Gv.lm ?_; (with_reducible refine (spec_l01Low.calls a0 4294967296 t230 _ A2.out).mono ?_); rintro e w' ⟨rfl, ⟨nd, rfl⟩⟩; refine ⟨_, rfl, ?_⟩) | ((with_reducible refine gate_callee (f := 72) rfl ?_); refine goesL_ (some 8) rfl rfl Try.func72 (by kernel_rfl) rfl #[.int .i64 (wrap64 (Int.tdiv t230 65536))] rfl Gv.lm ?_; (with_reducible refine (spec_Put16.calls (wrap64 (Int.tdiv t230 65536)) t231 _ A3.out).mono ?_); rintro e w6 ⟨v232, rfl, ho0, hb⟩; refine ⟨_, rfl, ?_⟩; have HO233 := Gv.a0 (Kd.R_lower ho0 (below_size Gv.bw)); replace HB := Gv.a0 (below_step Gv.bw hb); clear hb ho0) | ((with_reducible refine gate_callee (f := 72) rfl ?_); refine goesL_ (some 11) rfl rfl Try.func72 (by kernel_rfl) rfl #[.int .i64 (Int.tmod t230 65536)] rfl Gv.lm ?_; (with_reducible refine (spec_Put16.calls (Int.tmod t230 65536) t234 _ A4.out).mono ?_); rintro e w7 ⟨v235, rfl, ho0, hb⟩; refine ⟨_, rfl, ?_⟩; have HO236 := Gv.a0 (Kd.R_lower (Kd.R_new' ho0 (Kd.R_lt (Gv.kr HO233.out))) (below_size Gv.bw)); replace HO233 := Gv.a0 (Kd.R_elder' (Gv.kr HO233.out) (Kd.R_base ho0) hb); replace HB := Gv.a0 (below_step Gv.bw hb); clear hb ho0; obtain ⟨Ao9, co9, eo9⟩ := Kd.R_slice HO236.out; subst eo9) | ((with_reducible refine gate_builtin (b := .append) (xs := #[.tmp 8, .tmp 11]) rfl ?_); at_builtin; refine Kd.R_append_rows (Kd.int .u8) (w0 := w) w.heap.size rfl (.tmp 8) (.tmp 11) 68 5 (.int .u8 0) 1 rfl Try.underlying68 info5 rfl (by decide) (by omega) v232 t231 t234 _ _ _ (fun k_ => some k_ ≠ (.slice Ao9 t234.length co9 : Value).ownBlock) (fun _ => False) rfl rfl ?aO ?aR (fun _ _ h => h) (fun _ h => h.elim) ?aF ?aB ?aS ?aL ?_; (case aR => repeat (first | exact (Kd.R_reads' HO236.out).2.2 | (with_reducible refine Kd.C_alloc ?_ _) | (with_reducible refine Kd.C_drewN ?_ _) | (with_reducible refine Kd.C_drew ?_))); (case aB => exact Gv.bw); (case aF => exact (fun k_ hk => Kd.fresh' (Kd.R_lt (Gv.kr HO236.out)) k_ hk)); (case aO => exact (by (with_reducible repeat (first | apply Kd.R_alloc | apply Kd.R_drewN | apply Kd.R_drew)); exact Kd.R_mono HO233.out (fun _ hk => hk.2))); (case aS => exact (below_size Gv.bw)); (case aL => have := LMc5.out; omega); intro v238 w8 ho hb hg hat; rw [← Ny237.out] at ho; replace HO236 := Gv.a0 (Kd.R_after (ok := (fun _ => True)) (Gv.kr HO236.out) hg hat); replace HB := Gv.a0 (hb); have HO239 := Gv.a0 (ho); clear HO233 ho hb hg hat))
  go_ret
  exact ⟨_, Gv.rt, by (with_reducible repeat (first | apply Kd.R_alloc | apply Kd.R_drewN | apply Kd.R_drew)); exact Kd.R_mono HO239.out (fun _ hk => trivial), Gv.bw⟩
 ·rw [if_neg c5] at H
  exact absurd H (by simp)

end Go.Proofs.Ytfnpodebjejhpaa.PTg
