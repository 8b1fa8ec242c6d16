/- Plain Lean functions of a law's Go functions, their contracts, by a program of this session (wip/pr.py over the kit's print). -/
import Derived.Test.YtbihbbkdciebhaaPRax0
import Derived.Test.YtbihbbkdciebhaaPRax2
namespace Go.Proofs.Ytbihbbkdciebhaa.PRa
open Go.RowKit Go.Proofs.YtbihbbkdciebhaaW.PrintWords Go.Proofs.YtbihbbkdciebhaaW.PrintLast Go.Proofs.YtbihbbkdciebhaaW.PrintMore
attribute [local go_sem] max2_int min2_int max_two min_two max_three min_three max_four min_four   -- for this text's walks alone
set_option linter.unusedVariables false
set_option linter.unusedSimpArgs false

attribute [local go_sem high] eqA53
/-! ### laws_szRuleS: function 8 -/
def laws_szRuleS.f (l0 : List (S50)) (a1 : Int) : Option (Int) := if (wrap64 (a1 - (l0.length : Int))) < 0 then (some (-1)) else (some (wrap64 (a1 - (l0.length : Int))))
set_option maxHeartbeats 8000000 in
set_option maxRecDepth 100000 in
theorem laws_szRuleS.calls (A0 : Option Addr) (c0 : Nat) (l0 : List (S50)) (a1 : Int) (r : Int) (w : World) (hr0 : Kd.C k50 w A0 l0.length l0) (hc0 : l0.length ≤ c0) (h : laws_szRuleS.f l0 a1 = some r) :
  Calls Try.prog 8 #[.slice A0 l0.length c0, .int .i64 a1] w fun e w' => e = .returned (.int .i64 r) ∧ Drawn0 w w' := by
 have HR0 := Gv.a0 hr0
 have HC0 := Gv.a0 hc0
 clear hr0 hc0
 have H : (if (wrap64 (a1 - (l0.length : Int))) < 0 then (some (-1)) else (some (wrap64 (a1 - (l0.length : Int))))) = some r := h
 clear h
 by_cases c3 : (wrap64 (a1 - (l0.length : Int))) < 0
 ·rw [if_pos c3] at H
  have c3b0 : decide ((wrap64 (a1 - (l0.length : Int))) < 0) = true := decide_eq_true c3
  clear c3
  obtain rfl := Option.some.inj H
  go_enter Try.func8, Try.ntmps8
  go_wp2
  go_ret
  exact ⟨by first | rfl | (simp; done) | (simp [Int.tdiv_eq_ediv_of_nonneg]; done) | (simp [*]; done), by repeat (first | exact Drawn0.refl _ | apply Drawn0.step)⟩
 ·rw [if_neg c3] at H
  have c3b0 : decide ((wrap64 (a1 - (l0.length : Int))) < 0) = false := decide_eq_false c3
  clear c3
  obtain rfl := Option.some.inj H
  go_enter Try.func8, Try.ntmps8
  go_wp2
  go_ret
  exact ⟨by first | rfl | (simp; done) | (simp [Int.tdiv_eq_ediv_of_nonneg]; done) | (simp [*]; done), by repeat (first | exact Drawn0.refl _ | apply Drawn0.step)⟩

/-! ### laws_toAddr: function 32 -/
def laws_toAddr.f (a0_0 : Int) (a0_1 : Int) (a0_2 : Int) (a0_3 : Int) (a0_4 : Int) : Option (Int × Int × Int × Int × Int) := some (a0_0, a0_1, a0_2, a0_3, a0_4)
set_option maxHeartbeats 8000000 in
set_option maxRecDepth 100000 in
theorem laws_toAddr.calls (a0_0 : Int) (a0_1 : Int) (a0_2 : Int) (a0_3 : Int) (a0_4 : Int) (r1 : Int) (r2 : Int) (r3 : Int) (r4 : Int) (r5 : Int) (w : World) (h : laws_toAddr.f a0_0 a0_1 a0_2 a0_3 a0_4 = some (r1, r2, r3, r4, r5)) :
  Calls Try.prog 32 #[.agg #[.int .i64 a0_0, .int .i64 a0_1, .int .i64 a0_2, .int .i64 a0_3, .int .i64 a0_4]] w fun e w' => e = .returned (.agg #[.int .i64 r1, .int .i64 r2, .int .i64 r3, .int .i64 r4, .int .i64 r5]) ∧ Below w.heap.size w w' := by
 have hu30 := Try.underlying30
 have hu34 := Try.underlying34
 have HB := Gv.a0 (Below.refl w.heap.size w)
 have H : (some (a0_0, a0_1, a0_2, a0_3, a0_4)) = some (r1, r2, r3, r4, r5) := h
 clear h
 simp only [Option.some.injEq, Prod.mk.injEq] at H
 obtain ⟨rfl, rfl, rfl, rfl, rfl⟩ := H
 go_enter Try.func32, Try.ntmps32
 go_wp2_with (first | ((with_reducible refine gate_dst (N := 1) rfl ?_); refine box_event ?hg (N := 1) ?hd (cs := #[.int .i64 a0_0, .int .i64 a0_1, .int .i64 a0_2, .int .i64 a0_3, .int .i64 a0_4]) (t := 30) ?hr ?_; (case hd => rfl); (case hg => rfl); (case hr => first | (go_simp; done) | (go_simp; rfl)); intro gb101 hg w2 hbox hb; have n0_ := Gv.a0 (below_step Gv.bw hb); have n1_ := Gv.a0 (hbox); have n2_ := Gv.a0 ((Gv.ble hg Gv.bw : w.heap.size ≤ gb101)); have n3_ := Gv.a0 ((Gv.ble hg Gv.bw : w.heap.size ≤ gb101)); clear HB; have HB := n0_; have BK101 := n1_; have GW101 := n2_; have GE101 := n3_; clear n0_ n1_ n2_ n3_; clear hb hbox hg) | ((with_reducible refine gate_dst (N := 2) rfl ?_); refine box_event ?hg (N := 2) ?hd (cs := #[.int .i64 0, .int .i64 0, .int .i64 0, .int .i64 0, .int .i64 0]) (t := 34) ?hr ?_; (case hd => rfl); (case hg => rfl); (case hr => first | (go_simp; done) | (go_simp; rfl)); intro gb102 hg w3 hbox hb; have n0_ := Gv.a0 (Gv.bb BK101.out hb); have n1_ := Gv.a0 (below_step Gv.bw hb); have n2_ := Gv.a0 (hbox); have n3_ := Gv.a0 ((Gv.ble hg Gv.bw : w.heap.size ≤ gb102)); have n4_ := Gv.a0 ((Gv.ble hg Gv.bw : w.heap.size ≤ gb102)); have n5_ := Gv.a0 ((Gv.nlt hg (Gv.kb BK101.out) : gb101 ≠ gb102)); have n6_ := Gv.a0 ((Gv.ngt hg (Gv.kb BK101.out) : gb102 ≠ gb101)); clear BK101; clear HB; have BK101 := n0_; have HB := n1_; have BK102 := n2_; have GW102 := n3_; have GE102 := n4_; have NB101_102 := n5_; have NB102_101 := n6_; clear n0_ n1_ n2_ n3_ n4_ n5_ n6_; clear hb hbox hg) | ((with_reducible refine gate_dst (N := 3) rfl ?_); refine box_event ?hg (N := 3) ?hd (cs := #[.int .i64 0, .int .i64 0, .int .i64 0, .int .i64 0, .int .i64 0]) (t := 34) ?hr ?_; (case hd => rfl); (case hg => rfl); (case hr => first | (go_simp; done) | (go_simp; rfl)); intro gb103 hg w4 hbox hb; have n0_ := Gv.a0 (Gv.bb BK101.out hb); have n1_ := Gv.a0 (Gv.bb BK102.out hb); have n2_ := Gv.a0 (below_step Gv.bw hb); have n3_ := Gv.a0 (hbox); have n4_ := Gv.a0 ((Gv.ble hg Gv.bw : w.heap.size ≤ gb103)); have n5_ := Gv.a0 ((Gv.ble hg Gv.bw : w.heap.size ≤ gb103)); have n6_ := Gv.a0 ((Gv.nlt hg (Gv.kb BK101.out) : gb101 ≠ gb103)); have n7_ := Gv.a0 ((Gv.ngt hg (Gv.kb BK101.out) : gb103 ≠ gb101)); have n8_ := Gv.a0 ((Gv.nlt hg (Gv.kb BK102.out) : gb102 ≠ gb103)); have n9_ := Gv.a0 ((Gv.ngt hg (Gv.kb BK102.out) : gb103 ≠ gb102)); clear BK101; clear BK102; clear HB; have BK101 := n0_; have BK102 := n1_; have HB := n2_; have BK103 := n3_; have GW103 := n4_; have GE103 := n5_; have NB101_103 := n6_; have NB103_101 := n7_; have NB102_103 := n8_; have NB103_102 := n9_; clear n0_ n1_ n2_ n3_ n4_ n5_ n6_ n7_ n8_ n9_; clear hb hbox hg; have hnb5 := NB101_102.out; have hnc5 := NB102_101.out; have hnb6 := NB101_103.out; have hnc6 := NB103_101.out; obtain ⟨hcz7_0, hcz7_1, hcz7_2, hcz7_3, hcz7_4⟩ := Gv.c5 BK101.out; obtain ⟨hfz7_0, hfz7_1, hfz7_2, hfz7_3, hfz7_4⟩ := Gv.f5 BK101.out; have hnb8 := NB103_102.out; have hnc8 := NB102_103.out; obtain ⟨hcz9_0, hcz9_1, hcz9_2, hcz9_3, hcz9_4⟩ := Gv.c5 BK103.out; obtain ⟨hfz9_0, hfz9_1, hfz9_2, hfz9_3, hfz9_4⟩ := Gv.f5 BK103.out; obtain ⟨hcz10_0, hcz10_1, hcz10_2, hcz10_3, hcz10_4⟩ := Gv.c5 BK102.out; obtain ⟨hfz10_0, hfz10_1, hfz10_2, hfz10_3, hfz10_4⟩ := Gv.f5 BK102.out))
 refine bodyPost_ret (results_cell_row rfl _ _ gb102 34 #[.int .i64 a0_0, .int .i64 a0_1, .int .i64 a0_2, .int .i64 a0_3, .int .i64 a0_4] (0, 0) _ rfl (by (with_reducible repeat (first | refine blk_drewN ?_ _ | refine blk_drew ?_ | refine blk_alloc ?_ _)); refine blk_put (cs := #[.int .i64 a0_0, .int .i64 a0_1, .int .i64 a0_2, .int .i64 a0_3, .int .i64 0]) ?_ 4 _ rfl; (with_reducible repeat (first | refine blk_drewN ?_ _ | refine blk_drew ?_ | refine blk_alloc ?_ _)); refine blk_put (cs := #[.int .i64 a0_0, .int .i64 a0_1, .int .i64 a0_2, .int .i64 0, .int .i64 0]) ?_ 3 _ rfl; (with_reducible repeat (first | refine blk_drewN ?_ _ | refine blk_drew ?_ | refine blk_alloc ?_ _)); refine blk_put (cs := #[.int .i64 a0_0, .int .i64 a0_1, .int .i64 0, .int .i64 0, .int .i64 0]) ?_ 2 _ rfl; (with_reducible repeat (first | refine blk_drewN ?_ _ | refine blk_drew ?_ | refine blk_alloc ?_ _)); refine blk_put (cs := #[.int .i64 a0_0, .int .i64 0, .int .i64 0, .int .i64 0, .int .i64 0]) ?_ 1 _ rfl; (with_reducible repeat (first | refine blk_drewN ?_ _ | refine blk_drew ?_ | refine blk_alloc ?_ _)); refine blk_put (cs := #[.int .i64 0, .int .i64 0, .int .i64 0, .int .i64 0, .int .i64 0]) ?_ 0 _ rfl; (with_reducible repeat (first | refine blk_drewN ?_ _ | refine blk_drew ?_ | refine blk_alloc ?_ _)); refine blk_far ?_ NB102_103.out _; (with_reducible repeat (first | refine blk_drewN ?_ _ | refine blk_drew ?_ | refine blk_alloc ?_ _)); refine blk_far ?_ NB102_103.out _; (with_reducible repeat (first | refine blk_drewN ?_ _ | refine blk_drew ?_ | refine blk_alloc ?_ _)); refine blk_far ?_ NB102_103.out _; (with_reducible repeat (first | refine blk_drewN ?_ _ | refine blk_drew ?_ | refine blk_alloc ?_ _)); refine blk_far ?_ NB102_103.out _; (with_reducible repeat (first | refine blk_drewN ?_ _ | refine blk_drew ?_ | refine blk_alloc ?_ _)); refine blk_far ?_ NB102_103.out _; (with_reducible repeat (first | refine blk_drewN ?_ _ | refine blk_drew ?_ | refine blk_alloc ?_ _)); exact BK102.out) Try.underlying34 rfl (by kernel_rfl)) rfl ?_
 exact ⟨Gv.rt, Gv.bw⟩

/-! ### laws_toPrefix: function 43 -/
def laws_toPrefix.f (a0_0 : Int) (a0_1 : Int) (a0_2 : Int) (a0_3 : Int) (a0_4 : Int) (a0_5 : Int) : Option (Int × Int × Int × Int × Int × Int) := (laws_toAddr.f a0_0 a0_1 a0_2 a0_3 a0_4).bind fun bt107 => (some (bt107.1, bt107.2.1, bt107.2.2.1, bt107.2.2.2.1, bt107.2.2.2.2, a0_5))
set_option maxHeartbeats 8000000 in
set_option maxRecDepth 100000 in
theorem laws_toPrefix.calls (a0_0 : Int) (a0_1 : Int) (a0_2 : Int) (a0_3 : Int) (a0_4 : Int) (a0_5 : Int) (r1 : Int) (r2 : Int) (r3 : Int) (r4 : Int) (r5 : Int) (r6 : Int) (w : World) (h : laws_toPrefix.f a0_0 a0_1 a0_2 a0_3 a0_4 a0_5 = some (r1, r2, r3, r4, r5, r6)) :
  Calls Try.prog 43 #[.agg #[.int .i64 a0_0, .int .i64 a0_1, .int .i64 a0_2, .int .i64 a0_3, .int .i64 a0_4, .int .i64 a0_5]] w fun e w' => e = .returned (.agg #[.int .i64 r1, .int .i64 r2, .int .i64 r3, .int .i64 r4, .int .i64 r5, .int .i64 r6]) ∧ Below w.heap.size w w' := by
 have hu48 := Try.underlying48
 have hu53 := Try.underlying53
 have hu30 := Try.underlying30
 have hu34 := Try.underlying34
 have HB := Gv.a0 (Below.refl w.heap.size w)
 have H : ((laws_toAddr.f a0_0 a0_1 a0_2 a0_3 a0_4).bind fun bt107 => (some (bt107.1, bt107.2.1, bt107.2.2.1, bt107.2.2.2.1, bt107.2.2.2.2, a0_5))) = some (r1, r2, r3, r4, r5, r6) := h
 clear h
 replace H := Option.bind_eq_some_iff.mp H
 obtain ⟨⟨t107, t108, t109, t110, t111⟩, A20, H⟩ := H
 replace H : (some (t107, t108, t109, t110, t111, a0_5)) = some (r1, r2, r3, r4, r5, r6) := H
 have A2 := Gv.a0 A20
 clear A20
 simp only [Option.some.injEq, Prod.mk.injEq] at H
 obtain ⟨rfl, rfl, rfl, rfl, rfl, rfl⟩ := H
 go_enter Try.func43, Try.ntmps43
 go_wp2_with (first | ((with_reducible refine gate_dst (N := 1) rfl ?_); refine box_event ?hg (N := 1) ?hd (cs := #[.int .i64 a0_0, .int .i64 a0_1, .int .i64 a0_2, .int .i64 a0_3, .int .i64 a0_4, .int .i64 a0_5]) (t := 48) ?hr ?_; (case hd => rfl); (case hg => rfl); (case hr => first | (go_simp; done) | (go_simp; rfl)); intro gb104 hg w3 hbox hb; have n0_ := Gv.a0 (below_step Gv.bw hb); have n1_ := Gv.a0 (hbox); have n2_ := Gv.a0 ((Gv.ble hg Gv.bw : w.heap.size ≤ gb104)); have n3_ := Gv.a0 ((Gv.ble hg Gv.bw : w.heap.size ≤ gb104)); clear HB; have HB := n0_; have BK104 := n1_; have GW104 := n2_; have GE104 := n3_; clear n0_ n1_ n2_ n3_; clear hb hbox hg) | ((with_reducible refine gate_dst (N := 2) rfl ?_); refine box_event ?hg (N := 2) ?hd (cs := #[.int .i64 0, .int .i64 0, .int .i64 0, .int .i64 0, .int .i64 0, .int .i64 0]) (t := 53) ?hr ?_; (case hd => rfl); (case hg => rfl); (case hr => first | (go_simp; done) | (go_simp; rfl)); intro gb105 hg w4 hbox hb; have n0_ := Gv.a0 (Gv.bb BK104.out hb); have n1_ := Gv.a0 (below_step Gv.bw hb); have n2_ := Gv.a0 (hbox); have n3_ := Gv.a0 ((Gv.ble hg Gv.bw : w.heap.size ≤ gb105)); have n4_ := Gv.a0 ((Gv.ble hg Gv.bw : w.heap.size ≤ gb105)); have n5_ := Gv.a0 ((Gv.nlt hg (Gv.kb BK104.out) : gb104 ≠ gb105)); have n6_ := Gv.a0 ((Gv.ngt hg (Gv.kb BK104.out) : gb105 ≠ gb104)); clear BK104; clear HB; have BK104 := n0_; have HB := n1_; have BK105 := n2_; have GW105 := n3_; have GE105 := n4_; have NB104_105 := n5_; have NB105_104 := n6_; clear n0_ n1_ n2_ n3_ n4_ n5_ n6_; clear hb hbox hg) | ((with_reducible refine gate_dst (N := 3) rfl ?_); refine box_event ?hg (N := 3) ?hd (cs := #[.int .i64 0, .int .i64 0, .int .i64 0, .int .i64 0, .int .i64 0, .int .i64 0]) (t := 53) ?hr ?_; (case hd => rfl); (case hg => rfl); (case hr => first | (go_simp; done) | (go_simp; rfl)); intro gb106 hg w5 hbox hb; have n0_ := Gv.a0 (Gv.bb BK104.out hb); have n1_ := Gv.a0 (Gv.bb BK105.out hb); have n2_ := Gv.a0 (below_step Gv.bw hb); have n3_ := Gv.a0 (hbox); have n4_ := Gv.a0 ((Gv.ble hg Gv.bw : w.heap.size ≤ gb106)); have n5_ := Gv.a0 ((Gv.ble hg Gv.bw : w.heap.size ≤ gb106)); have n6_ := Gv.a0 ((Gv.nlt hg (Gv.kb BK104.out) : gb104 ≠ gb106)); have n7_ := Gv.a0 ((Gv.ngt hg (Gv.kb BK104.out) : gb106 ≠ gb104)); have n8_ := Gv.a0 ((Gv.nlt hg (Gv.kb BK105.out) : gb105 ≠ gb106)); have n9_ := Gv.a0 ((Gv.ngt hg (Gv.kb BK105.out) : gb106 ≠ gb105)); clear BK104; clear BK105; clear HB; have BK104 := n0_; have BK105 := n1_; have HB := n2_; have BK106 := n3_; have GW106 := n4_; have GE106 := n5_; have NB104_106 := n6_; have NB106_104 := n7_; have NB105_106 := n8_; have NB106_105 := n9_; clear n0_ n1_ n2_ n3_ n4_ n5_ n6_ n7_ n8_ n9_; clear hb hbox hg; have hnb6 := NB104_105.out; have hnc6 := NB105_104.out; have hnb7 := NB104_106.out; have hnc7 := NB106_104.out; obtain ⟨hcz8_0, hcz8_1, hcz8_2, hcz8_3, hcz8_4, hcz8_5⟩ := Gv.c6 BK104.out; obtain ⟨hfz8_0, hfz8_1, hfz8_2, hfz8_3, hfz8_4, hfz8_5⟩ := Gv.f6 BK104.out) | ((with_reducible refine gate_callee (f := 32) rfl ?_); refine goesL_ (some 6) rfl rfl Try.func32 (by kernel_rfl) rfl #[.agg #[.int .i64 a0_0, .int .i64 a0_1, .int .i64 a0_2, .int .i64 a0_3, .int .i64 a0_4]] rfl Gv.lm ?_; (with_reducible refine (laws_toAddr.calls a0_0 a0_1 a0_2 a0_3 a0_4 t107 t108 t109 t110 t111 _ A2.out).mono ?_); rintro e w9 ⟨rfl, hb⟩; refine ⟨_, rfl, ?_⟩; have n0_ := Gv.a0 (Gv.bb BK104.out hb); have n1_ := Gv.a0 (Gv.bb BK105.out hb); have n2_ := Gv.a0 (Gv.bb BK106.out hb); have n3_ := Gv.a0 (below_step Gv.bw hb); clear BK104; clear BK105; clear BK106; clear HB; have BK104 := n0_; have BK105 := n1_; have BK106 := n2_; have HB := n3_; clear n0_ n1_ n2_ n3_; (try clear hb); (try clear hb2); (try clear hk); (try clear hi); have hnb10 := NB106_105.out; have hnc10 := NB105_106.out; obtain ⟨hcz11_0, hcz11_1, hcz11_2, hcz11_3, hcz11_4, hcz11_5⟩ := Gv.c6 BK106.out; obtain ⟨hfz11_0, hfz11_1, hfz11_2, hfz11_3, hfz11_4, hfz11_5⟩ := Gv.f6 BK106.out; obtain ⟨hcz12_0, hcz12_1, hcz12_2, hcz12_3, hcz12_4, hcz12_5⟩ := Gv.c6 BK104.out; obtain ⟨hfz12_0, hfz12_1, hfz12_2, hfz12_3, hfz12_4, hfz12_5⟩ := Gv.f6 BK104.out; obtain ⟨hcz13_0, hcz13_1, hcz13_2, hcz13_3, hcz13_4, hcz13_5⟩ := Gv.c6 BK105.out; obtain ⟨hfz13_0, hfz13_1, hfz13_2, hfz13_3, hfz13_4, hfz13_5⟩ := Gv.f6 BK105.out))
 refine bodyPost_ret (results_cell_row rfl _ _ gb105 53 #[.int .i64 t107, .int .i64 t108, .int .i64 t109, .int .i64 t110, .int .i64 t111, .int .i64 a0_5] (0, 0) _ rfl (by (with_reducible repeat (first | refine blk_drewN ?_ _ | refine blk_drew ?_ | refine blk_alloc ?_ _)); refine blk_put (cs := #[.int .i64 t107, .int .i64 t108, .int .i64 t109, .int .i64 t110, .int .i64 t111, .int .i64 0]) ?_ 5 _ rfl; (with_reducible repeat (first | refine blk_drewN ?_ _ | refine blk_drew ?_ | refine blk_alloc ?_ _)); refine blk_put (cs := #[.int .i64 t107, .int .i64 t108, .int .i64 t109, .int .i64 t110, .int .i64 0, .int .i64 0]) ?_ 4 _ rfl; (with_reducible repeat (first | refine blk_drewN ?_ _ | refine blk_drew ?_ | refine blk_alloc ?_ _)); refine blk_put (cs := #[.int .i64 t107, .int .i64 t108, .int .i64 t109, .int .i64 0, .int .i64 0, .int .i64 0]) ?_ 3 _ rfl; (with_reducible repeat (first | refine blk_drewN ?_ _ | refine blk_drew ?_ | refine blk_alloc ?_ _)); refine blk_put (cs := #[.int .i64 t107, .int .i64 t108, .int .i64 0, .int .i64 0, .int .i64 0, .int .i64 0]) ?_ 2 _ rfl; (with_reducible repeat (first | refine blk_drewN ?_ _ | refine blk_drew ?_ | refine blk_alloc ?_ _)); refine blk_put (cs := #[.int .i64 t107, .int .i64 0, .int .i64 0, .int .i64 0, .int .i64 0, .int .i64 0]) ?_ 1 _ rfl; (with_reducible repeat (first | refine blk_drewN ?_ _ | refine blk_drew ?_ | refine blk_alloc ?_ _)); refine blk_put (cs := #[.int .i64 0, .int .i64 0, .int .i64 0, .int .i64 0, .int .i64 0, .int .i64 0]) ?_ 0 _ rfl; (with_reducible repeat (first | refine blk_drewN ?_ _ | refine blk_drew ?_ | refine blk_alloc ?_ _)); refine blk_far ?_ NB105_106.out _; (with_reducible repeat (first | refine blk_drewN ?_ _ | refine blk_drew ?_ | refine blk_alloc ?_ _)); refine blk_far ?_ NB105_106.out _; (with_reducible repeat (first | refine blk_drewN ?_ _ | refine blk_drew ?_ | refine blk_alloc ?_ _)); refine blk_far ?_ NB105_106.out _; (with_reducible repeat (first | refine blk_drewN ?_ _ | refine blk_drew ?_ | refine blk_alloc ?_ _)); refine blk_far ?_ NB105_106.out _; (with_reducible repeat (first | refine blk_drewN ?_ _ | refine blk_drew ?_ | refine blk_alloc ?_ _)); refine blk_far ?_ NB105_106.out _; (with_reducible repeat (first | refine blk_drewN ?_ _ | refine blk_drew ?_ | refine blk_alloc ?_ _)); refine blk_far ?_ NB105_106.out _; (with_reducible repeat (first | refine blk_drewN ?_ _ | refine blk_drew ?_ | refine blk_alloc ?_ _)); exact BK105.out) Try.underlying53 rfl (by kernel_rfl)) rfl ?_
 exact ⟨Gv.rt, Gv.bw⟩

/-! ### laws_toRule: function 26 -/
def laws_toRule.f (a0_0 : Int) (a0_1 : Int) (a0_2 : Int) (a0_3 : Int) (a0_4 : Int) (a0_5 : Int) (a0_6 : Int) (a0_7 : Int) (a0_8 : Int) (a0_9 : Int) (a0_10 : Int) (a0_11 : Int) (a0_12 : Int) (a0_13 : Int) (a0_14 : Int) (a0_15 : Int) (a0_16 : Int) (a0_17 : Int) (a0_18 : Int) (a0_19 : Int) (a0_20 : Int) : Option (Int × Int × Int × Int × Int × Int × Int × Int × Int × Int × Int × Int × Int × Int × Int × Int × Int × Int × Int × Int × Int) := (laws_toPrefix.f a0_1 a0_2 a0_3 a0_4 a0_5 a0_6).bind fun bt115 => ((laws_toPrefix.f a0_7 a0_8 a0_9 a0_10 a0_11 a0_12).bind fun bt121 => (some (a0_0, bt115.1, bt115.2.1, bt115.2.2.1, bt115.2.2.2.1, bt115.2.2.2.2.1, bt115.2.2.2.2.2, bt121.1, bt121.2.1, bt121.2.2.1, bt121.2.2.2.1, bt121.2.2.2.2.1, bt121.2.2.2.2.2, a0_13, a0_14, a0_15, a0_16, a0_17, a0_18, a0_19, a0_20)))
set_option maxHeartbeats 8000000 in
set_option maxRecDepth 100000 in
theorem laws_toRule.calls (a0_0 : Int) (a0_1 : Int) (a0_2 : Int) (a0_3 : Int) (a0_4 : Int) (a0_5 : Int) (a0_6 : Int) (a0_7 : Int) (a0_8 : Int) (a0_9 : Int) (a0_10 : Int) (a0_11 : Int) (a0_12 : Int) (a0_13 : Int) (a0_14 : Int) (a0_15 : Int) (a0_16 : Int) (a0_17 : Int) (a0_18 : Int) (a0_19 : Int) (a0_20 : Int) (r1 : Int) (r2 : Int) (r3 : Int) (r4 : Int) (r5 : Int) (r6 : Int) (r7 : Int) (r8 : Int) (r9 : Int) (r10 : Int) (r11 : Int) (r12 : Int) (r13 : Int) (r14 : Int) (r15 : Int) (r16 : Int) (r17 : Int) (r18 : Int) (r19 : Int) (r20 : Int) (r21 : Int) (w : World) (h : laws_toRule.f a0_0 a0_1 a0_2 a0_3 a0_4 a0_5 a0_6 a0_7 a0_8 a0_9 a0_10 a0_11 a0_12 a0_13 a0_14 a0_15 a0_16 a0_17 a0_18 a0_19 a0_20 = some (r1, r2, r3, r4, r5, r6, r7, r8, r9, r10, r11, r12, r13, r14, r15, r16, r17, r18, r19, r20, r21)) :
  Calls Try.prog 26 #[.agg #[.int .i64 a0_0, .int .i64 a0_1, .int .i64 a0_2, .int .i64 a0_3, .int .i64 a0_4, .int .i64 a0_5, .int .i64 a0_6, .int .i64 a0_7, .int .i64 a0_8, .int .i64 a0_9, .int .i64 a0_10, .int .i64 a0_11, .int .i64 a0_12, .int .i64 a0_13, .int .i64 a0_14, .int .i64 a0_15, .int .i64 a0_16, .int .i64 a0_17, .int .i64 a0_18, .int .i64 a0_19, .int .i64 a0_20]] w fun e w' => e = .returned (.agg #[.int .i64 r1, .int .i64 r2, .int .i64 r3, .int .i64 r4, .int .i64 r5, .int .i64 r6, .int .i64 r7, .int .i64 r8, .int .i64 r9, .int .i64 r10, .int .i64 r11, .int .i64 r12, .int .i64 r13, .int .i64 r14, .int .i64 r15, .int .i64 r16, .int .i64 r17, .int .i64 r18, .int .i64 r19, .int .i64 r20, .int .i64 r21]) ∧ Below w.heap.size w w' := by
 have hu50 := Try.underlying50
 have hu55 := Try.underlying55
 have hu48 := Try.underlying48
 have hu53 := Try.underlying53
 have HB := Gv.a0 (Below.refl w.heap.size w)
 have H : ((laws_toPrefix.f a0_1 a0_2 a0_3 a0_4 a0_5 a0_6).bind fun bt115 => ((laws_toPrefix.f a0_7 a0_8 a0_9 a0_10 a0_11 a0_12).bind fun bt121 => (some (a0_0, bt115.1, bt115.2.1, bt115.2.2.1, bt115.2.2.2.1, bt115.2.2.2.2.1, bt115.2.2.2.2.2, bt121.1, bt121.2.1, bt121.2.2.1, bt121.2.2.2.1, bt121.2.2.2.2.1, bt121.2.2.2.2.2, a0_13, a0_14, a0_15, a0_16, a0_17, a0_18, a0_19, a0_20)))) = some (r1, r2, r3, r4, r5, r6, r7, r8, r9, r10, r11, r12, r13, r14, r15, r16, r17, r18, r19, r20, r21) := h
 clear h
 replace H := Option.bind_eq_some_iff.mp H
 obtain ⟨⟨t115, t116, t117, t118, t119, t120⟩, A20, H⟩ := H
 replace H : ((laws_toPrefix.f a0_7 a0_8 a0_9 a0_10 a0_11 a0_12).bind fun bt121 => (some (a0_0, t115, t116, t117, t118, t119, t120, bt121.1, bt121.2.1, bt121.2.2.1, bt121.2.2.2.1, bt121.2.2.2.2.1, bt121.2.2.2.2.2, a0_13, a0_14, a0_15, a0_16, a0_17, a0_18, a0_19, a0_20))) = some (r1, r2, r3, r4, r5, r6, r7, r8, r9, r10, r11, r12, r13, r14, r15, r16, r17, r18, r19, r20, r21) := H
 have A2 := Gv.a0 A20
 clear A20
 replace H := Option.bind_eq_some_iff.mp H
 obtain ⟨⟨t121, t122, t123, t124, t125, t126⟩, A30, H⟩ := H
 replace H : (some (a0_0, t115, t116, t117, t118, t119, t120, t121, t122, t123, t124, t125, t126, a0_13, a0_14, a0_15, a0_16, a0_17, a0_18, a0_19, a0_20)) = some (r1, r2, r3, r4, r5, r6, r7, r8, r9, r10, r11, r12, r13, r14, r15, r16, r17, r18, r19, r20, r21) := H
 have A3 := Gv.a0 A30
 clear A30
 simp only [Option.some.injEq, Prod.mk.injEq] at H
 obtain ⟨rfl, rfl, rfl, rfl, rfl, rfl, rfl, rfl, rfl, rfl, rfl, rfl, rfl, rfl, rfl, rfl, rfl, rfl, rfl, rfl, rfl⟩ := H
 go_enter Try.func26, Try.ntmps26
 go_wp2_with (first | ((with_reducible refine gate_dst (N := 1) rfl ?_); refine box_event ?hg (N := 1) ?hd (cs := #[.int .i64 a0_0, .int .i64 a0_1, .int .i64 a0_2, .int .i64 a0_3, .int .i64 a0_4, .int .i64 a0_5, .int .i64 a0_6, .int .i64 a0_7, .int .i64 a0_8, .int .i64 a0_9, .int .i64 a0_10, .int .i64 a0_11, .int .i64 a0_12, .int .i64 a0_13, .int .i64 a0_14, .int .i64 a0_15, .int .i64 a0_16, .int .i64 a0_17, .int .i64 a0_18, .int .i64 a0_19, .int .i64 a0_20]) (t := 50) ?hr ?_; (case hd => rfl); (case hg => rfl); (case hr => first | (go_simp; done) | (go_simp; rfl)); intro gb112 hg w4 hbox hb; have n0_ := Gv.a0 (below_step Gv.bw hb); have n1_ := Gv.a0 (hbox); have n2_ := Gv.a0 ((Gv.ble hg Gv.bw : w.heap.size ≤ gb112)); have n3_ := Gv.a0 ((Gv.ble hg Gv.bw : w.heap.size ≤ gb112)); clear HB; have HB := n0_; have BK112 := n1_; have GW112 := n2_; have GE112 := n3_; clear n0_ n1_ n2_ n3_; clear hb hbox hg) | ((with_reducible refine gate_dst (N := 2) rfl ?_); refine box_event ?hg (N := 2) ?hd (cs := #[.int .i64 0, .int .i64 0, .int .i64 0, .int .i64 0, .int .i64 0, .int .i64 0, .int .i64 0, .int .i64 0, .int .i64 0, .int .i64 0, .int .i64 0, .int .i64 0, .int .i64 0, .int .i64 0, .int .i64 0, .int .i64 0, .int .i64 0, .int .i64 0, .int .i64 0, .int .i64 0, .int .i64 0]) (t := 55) ?hr ?_; (case hd => rfl); (case hg => rfl); (case hr => first | (go_simp; done) | (go_simp; rfl)); intro gb113 hg w5 hbox hb; have n0_ := Gv.a0 (Gv.bb BK112.out hb); have n1_ := Gv.a0 (below_step Gv.bw hb); have n2_ := Gv.a0 (hbox); have n3_ := Gv.a0 ((Gv.ble hg Gv.bw : w.heap.size ≤ gb113)); have n4_ := Gv.a0 ((Gv.ble hg Gv.bw : w.heap.size ≤ gb113)); have n5_ := Gv.a0 ((Gv.nlt hg (Gv.kb BK112.out) : gb112 ≠ gb113)); have n6_ := Gv.a0 ((Gv.ngt hg (Gv.kb BK112.out) : gb113 ≠ gb112)); clear BK112; clear HB; have BK112 := n0_; have HB := n1_; have BK113 := n2_; have GW113 := n3_; have GE113 := n4_; have NB112_113 := n5_; have NB113_112 := n6_; clear n0_ n1_ n2_ n3_ n4_ n5_ n6_; clear hb hbox hg) | ((with_reducible refine gate_dst (N := 3) rfl ?_); refine box_event ?hg (N := 3) ?hd (cs := #[.int .i64 0, .int .i64 0, .int .i64 0, .int .i64 0, .int .i64 0, .int .i64 0, .int .i64 0, .int .i64 0, .int .i64 0, .int .i64 0, .int .i64 0, .int .i64 0, .int .i64 0, .int .i64 0, .int .i64 0, .int .i64 0, .int .i64 0, .int .i64 0, .int .i64 0, .int .i64 0, .int .i64 0]) (t := 55) ?hr ?_; (case hd => rfl); (case hg => rfl); (case hr => first | (go_simp; done) | (go_simp; rfl)); intro gb114 hg w6 hbox hb; have n0_ := Gv.a0 (Gv.bb BK112.out hb); have n1_ := Gv.a0 (Gv.bb BK113.out hb); have n2_ := Gv.a0 (below_step Gv.bw hb); have n3_ := Gv.a0 (hbox); have n4_ := Gv.a0 ((Gv.ble hg Gv.bw : w.heap.size ≤ gb114)); have n5_ := Gv.a0 ((Gv.ble hg Gv.bw : w.heap.size ≤ gb114)); have n6_ := Gv.a0 ((Gv.nlt hg (Gv.kb BK112.out) : gb112 ≠ gb114)); have n7_ := Gv.a0 ((Gv.ngt hg (Gv.kb BK112.out) : gb114 ≠ gb112)); have n8_ := Gv.a0 ((Gv.nlt hg (Gv.kb BK113.out) : gb113 ≠ gb114)); have n9_ := Gv.a0 ((Gv.ngt hg (Gv.kb BK113.out) : gb114 ≠ gb113)); clear BK112; clear BK113; clear HB; have BK112 := n0_; have BK113 := n1_; have HB := n2_; have BK114 := n3_; have GW114 := n4_; have GE114 := n5_; have NB112_114 := n6_; have NB114_112 := n7_; have NB113_114 := n8_; have NB114_113 := n9_; clear n0_ n1_ n2_ n3_ n4_ n5_ n6_ n7_ n8_ n9_; clear hb hbox hg; have hnb7 := NB112_113.out; have hnc7 := NB113_112.out; have hnb8 := NB112_114.out; have hnc8 := NB114_112.out; have hnb10 := NB114_113.out; have hnc10 := NB113_114.out) | ((with_reducible refine gate_callee (f := 43) rfl ?_); refine goesL_ (some 9) rfl rfl Try.func43 (by kernel_rfl) rfl #[.agg #[.int .i64 a0_1, .int .i64 a0_2, .int .i64 a0_3, .int .i64 a0_4, .int .i64 a0_5, .int .i64 a0_6]] rfl Gv.lm ?_; (with_reducible refine (laws_toPrefix.calls a0_1 a0_2 a0_3 a0_4 a0_5 a0_6 t115 t116 t117 t118 t119 t120 _ A2.out).mono ?_); rintro e w12 ⟨rfl, hb⟩; refine ⟨_, rfl, ?_⟩; have n0_ := Gv.a0 (below_step HB.out hb); have n1_ := Gv.a0 (Gv.bb BK112.out hb); have n2_ := Gv.a0 (Gv.bb BK113.out hb); have n3_ := Gv.a0 (Gv.bb BK114.out hb); clear HB BK112 BK113 BK114 hb; have HB := n0_; have BK112 := n1_; have BK113 := n2_; have BK114 := n3_; clear n0_ n1_ n2_ n3_) | ((with_reducible refine gate_callee (f := 43) rfl ?_); refine goesL_ (some 13) rfl rfl Try.func43 (by kernel_rfl) rfl #[.agg #[.int .i64 a0_7, .int .i64 a0_8, .int .i64 a0_9, .int .i64 a0_10, .int .i64 a0_11, .int .i64 a0_12]] rfl Gv.lm ?_; (with_reducible refine (laws_toPrefix.calls a0_7 a0_8 a0_9 a0_10 a0_11 a0_12 t121 t122 t123 t124 t125 t126 _ A3.out).mono ?_); rintro e w15 ⟨rfl, hb⟩; refine ⟨_, rfl, ?_⟩; have n0_ := Gv.a0 (below_step HB.out hb); have n1_ := Gv.a0 (Gv.bb BK112.out hb); have n2_ := Gv.a0 (Gv.bb BK113.out hb); have n3_ := Gv.a0 (Gv.bb BK114.out hb); clear HB BK112 BK113 BK114 hb; have HB := n0_; have BK112 := n1_; have BK113 := n2_; have BK114 := n3_; clear n0_ n1_ n2_ n3_) | ((with_reducible refine Gv.gate_load (t := 3) rfl ?_); refine Gv.get_event (g := gb112) rfl rfl rfl BK112.out rfl Try.underlying3 rfl ?_) | ((with_reducible refine Gv.gate_load (t := 48) rfl ?_); refine Gv.mid_event (g := gb112) [.int .i64 a0_1, .int .i64 a0_2, .int .i64 a0_3, .int .i64 a0_4, .int .i64 a0_5, .int .i64 a0_6] rfl rfl rfl BK112.out rfl Try.underlying48 rfl (by kernel_rfl) ?_) | ((with_reducible refine Gv.gate_load (t := 48) rfl ?_); refine Gv.mid_event (g := gb112) [.int .i64 a0_7, .int .i64 a0_8, .int .i64 a0_9, .int .i64 a0_10, .int .i64 a0_11, .int .i64 a0_12] rfl rfl rfl BK112.out rfl Try.underlying48 rfl (by kernel_rfl) ?_) | ((with_reducible refine Gv.gate_load (t := 53) rfl ?_); refine Gv.mid_event (g := gb112) [.int .i64 a0_1, .int .i64 a0_2, .int .i64 a0_3, .int .i64 a0_4, .int .i64 a0_5, .int .i64 a0_6] rfl rfl rfl BK112.out rfl Try.underlying53 rfl (by kernel_rfl) ?_) | ((with_reducible refine Gv.gate_load (t := 53) rfl ?_); refine Gv.mid_event (g := gb112) [.int .i64 a0_7, .int .i64 a0_8, .int .i64 a0_9, .int .i64 a0_10, .int .i64 a0_11, .int .i64 a0_12] rfl rfl rfl BK112.out rfl Try.underlying53 rfl (by kernel_rfl) ?_) | ((with_reducible refine gate_store (t := 3) rfl ?_); refine Gv.put_event (g := gb114) rfl rfl rfl rfl rfl BK114.out (by kernel_rfl) (by simp) ?_; intro wp_ hbox hoth hbel; simp only [List.setIfInBounds_toArray, List.set_cons_succ, List.set_cons_zero] at hbox; have n0_ := Gv.a0 (hbox); have n1_ := Gv.a0 (hbel w HB.out GE114.out); have n2_ := Gv.a0 ((hoth gb112 NB112_114.out).trans BK112.out); have n3_ := Gv.a0 ((hoth gb113 NB113_114.out).trans BK113.out); clear HB BK112 BK113 BK114; have BK114 := n0_; have HB := n1_; have BK112 := n2_; have BK113 := n3_; clear n0_ n1_ n2_ n3_ hbox hoth hbel) | ((with_reducible refine gate_store (t := 48) rfl ?_); refine Gv.mput_event (g := gb114) (cs' := #[.int .i64 a0_0, .int .i64 t115, .int .i64 t116, .int .i64 t117, .int .i64 t118, .int .i64 t119, .int .i64 t120, .int .i64 0, .int .i64 0, .int .i64 0, .int .i64 0, .int .i64 0, .int .i64 0, .int .i64 0, .int .i64 0, .int .i64 0, .int .i64 0, .int .i64 0, .int .i64 0, .int .i64 0, .int .i64 0]) rfl rfl rfl rfl rfl BK114.out (by kernel_rfl) rfl (by simp) rfl ?_; intro wp_ hbox hoth hbel; have n0_ := Gv.a0 (hbox); have n1_ := Gv.a0 (hbel w HB.out GE114.out); have n2_ := Gv.a0 ((hoth gb112 NB112_114.out).trans BK112.out); have n3_ := Gv.a0 ((hoth gb113 NB113_114.out).trans BK113.out); clear HB BK112 BK113 BK114; have BK114 := n0_; have HB := n1_; have BK112 := n2_; have BK113 := n3_; clear n0_ n1_ n2_ n3_ hbox hoth hbel) | ((with_reducible refine gate_store (t := 48) rfl ?_); refine Gv.mput_event (g := gb114) (cs' := #[.int .i64 a0_0, .int .i64 t115, .int .i64 t116, .int .i64 t117, .int .i64 t118, .int .i64 t119, .int .i64 t120, .int .i64 t121, .int .i64 t122, .int .i64 t123, .int .i64 t124, .int .i64 t125, .int .i64 t126, .int .i64 0, .int .i64 0, .int .i64 0, .int .i64 0, .int .i64 0, .int .i64 0, .int .i64 0, .int .i64 0]) rfl rfl rfl rfl rfl BK114.out (by kernel_rfl) rfl (by simp) rfl ?_; intro wp_ hbox hoth hbel; have n0_ := Gv.a0 (hbox); have n1_ := Gv.a0 (hbel w HB.out GE114.out); have n2_ := Gv.a0 ((hoth gb112 NB112_114.out).trans BK112.out); have n3_ := Gv.a0 ((hoth gb113 NB113_114.out).trans BK113.out); clear HB BK112 BK113 BK114; have BK114 := n0_; have HB := n1_; have BK112 := n2_; have BK113 := n3_; clear n0_ n1_ n2_ n3_ hbox hoth hbel) | ((with_reducible refine gate_store (t := 53) rfl ?_); refine Gv.mput_event (g := gb114) (cs' := #[.int .i64 a0_0, .int .i64 t115, .int .i64 t116, .int .i64 t117, .int .i64 t118, .int .i64 t119, .int .i64 t120, .int .i64 0, .int .i64 0, .int .i64 0, .int .i64 0, .int .i64 0, .int .i64 0, .int .i64 0, .int .i64 0, .int .i64 0, .int .i64 0, .int .i64 0, .int .i64 0, .int .i64 0, .int .i64 0]) rfl rfl rfl rfl rfl BK114.out (by kernel_rfl) rfl (by simp) rfl ?_; intro wp_ hbox hoth hbel; have n0_ := Gv.a0 (hbox); have n1_ := Gv.a0 (hbel w HB.out GE114.out); have n2_ := Gv.a0 ((hoth gb112 NB112_114.out).trans BK112.out); have n3_ := Gv.a0 ((hoth gb113 NB113_114.out).trans BK113.out); clear HB BK112 BK113 BK114; have BK114 := n0_; have HB := n1_; have BK112 := n2_; have BK113 := n3_; clear n0_ n1_ n2_ n3_ hbox hoth hbel) | ((with_reducible refine gate_store (t := 53) rfl ?_); refine Gv.mput_event (g := gb114) (cs' := #[.int .i64 a0_0, .int .i64 t115, .int .i64 t116, .int .i64 t117, .int .i64 t118, .int .i64 t119, .int .i64 t120, .int .i64 t121, .int .i64 t122, .int .i64 t123, .int .i64 t124, .int .i64 t125, .int .i64 t126, .int .i64 0, .int .i64 0, .int .i64 0, .int .i64 0, .int .i64 0, .int .i64 0, .int .i64 0, .int .i64 0]) rfl rfl rfl rfl rfl BK114.out (by kernel_rfl) rfl (by simp) rfl ?_; intro wp_ hbox hoth hbel; have n0_ := Gv.a0 (hbox); have n1_ := Gv.a0 (hbel w HB.out GE114.out); have n2_ := Gv.a0 ((hoth gb112 NB112_114.out).trans BK112.out); have n3_ := Gv.a0 ((hoth gb113 NB113_114.out).trans BK113.out); clear HB BK112 BK113 BK114; have BK114 := n0_; have HB := n1_; have BK112 := n2_; have BK113 := n3_; clear n0_ n1_ n2_ n3_ hbox hoth hbel) | ((with_reducible refine Gv.gate_load (t := 55) rfl ?_); refine wpList_load_row rfl 55 _ rfl gb114 rfl 55 _ _ _ BK114.out Try.underlying55 rfl (by kernel_rfl) ?_) | ((with_reducible refine gate_store (t := 55) (p := 2) rfl ?_); refine Gv.store_event (g := gb113) (cells := #[.int .i64 a0_0, .int .i64 t115, .int .i64 t116, .int .i64 t117, .int .i64 t118, .int .i64 t119, .int .i64 t120, .int .i64 t121, .int .i64 t122, .int .i64 t123, .int .i64 t124, .int .i64 t125, .int .i64 t126, .int .i64 a0_13, .int .i64 a0_14, .int .i64 a0_15, .int .i64 a0_16, .int .i64 a0_17, .int .i64 a0_18, .int .i64 a0_19, .int .i64 a0_20]) rfl rfl rfl rfl rfl BK113.out (by kernel_rfl) rfl (by simp; and_intros <;> rfl) ?_; intro wp_ hbox hoth hbel; have n0_ := Gv.a0 (hbox); have n1_ := Gv.a0 (hbel w HB.out GE113.out); have n2_ := Gv.a0 ((hoth gb112 NB112_113.out).trans BK112.out); have n3_ := Gv.a0 ((hoth gb114 NB114_113.out).trans BK114.out); clear HB BK112 BK113 BK114; have BK113 := n0_; have HB := n1_; have BK112 := n2_; have BK114 := n3_; clear n0_ n1_ n2_ n3_ hbox hoth hbel))
 refine bodyPost_ret (results_cell_row rfl _ _ gb113 55 #[.int .i64 a0_0, .int .i64 t115, .int .i64 t116, .int .i64 t117, .int .i64 t118, .int .i64 t119, .int .i64 t120, .int .i64 t121, .int .i64 t122, .int .i64 t123, .int .i64 t124, .int .i64 t125, .int .i64 t126, .int .i64 a0_13, .int .i64 a0_14, .int .i64 a0_15, .int .i64 a0_16, .int .i64 a0_17, .int .i64 a0_18, .int .i64 a0_19, .int .i64 a0_20] (0, 0) _ rfl BK113.out Try.underlying55 rfl (by kernel_rfl)) rfl ?_
 exact ⟨Gv.rt, Gv.bw⟩

/-! ### laws_toRuleS: function 10 -/
def laws_toRuleS.l0 : Nat → List (S50) → List (S55) → Int → Option ((List (S55)))
 | 0, _, _, _ => none
 | k + 1, x0, x3, x4 => if x4 < (x0.length : Int) then (if 0 ≤ x4 then ((laws_toRule.f ((rd_T50 x0 x4).f0) ((rd_T50 x0 x4).f1.f0.f0) ((rd_T50 x0 x4).f1.f0.f1) ((rd_T50 x0 x4).f1.f0.f2) ((rd_T50 x0 x4).f1.f0.f3) ((rd_T50 x0 x4).f1.f0.f4) ((rd_T50 x0 x4).f1.f1) ((rd_T50 x0 x4).f2.f0.f0) ((rd_T50 x0 x4).f2.f0.f1) ((rd_T50 x0 x4).f2.f0.f2) ((rd_T50 x0 x4).f2.f0.f3) ((rd_T50 x0 x4).f2.f0.f4) ((rd_T50 x0 x4).f2.f1) ((rd_T50 x0 x4).f3) ((rd_T50 x0 x4).f4) ((rd_T50 x0 x4).f5) ((rd_T50 x0 x4).f6) ((rd_T50 x0 x4).f7) ((rd_T50 x0 x4).f8) ((rd_T50 x0 x4).f9) ((rd_T50 x0 x4).f10)).bind fun bt131 => (if x4 < (x3.length : Int) then (laws_toRuleS.l0 k x0 (x3.set (x4 : Int).toNat (⟨bt131.1, (⟨(⟨bt131.2.1, bt131.2.2.1, bt131.2.2.2.1, bt131.2.2.2.2.1, bt131.2.2.2.2.2.1⟩ : S34), bt131.2.2.2.2.2.2.1⟩ : S53), (⟨(⟨bt131.2.2.2.2.2.2.2.1, bt131.2.2.2.2.2.2.2.2.1, bt131.2.2.2.2.2.2.2.2.2.1, bt131.2.2.2.2.2.2.2.2.2.2.1, bt131.2.2.2.2.2.2.2.2.2.2.2.1⟩ : S34), bt131.2.2.2.2.2.2.2.2.2.2.2.2.1⟩ : S53), bt131.2.2.2.2.2.2.2.2.2.2.2.2.2.1, bt131.2.2.2.2.2.2.2.2.2.2.2.2.2.2.1, bt131.2.2.2.2.2.2.2.2.2.2.2.2.2.2.2.1, bt131.2.2.2.2.2.2.2.2.2.2.2.2.2.2.2.2.1, bt131.2.2.2.2.2.2.2.2.2.2.2.2.2.2.2.2.2.1, bt131.2.2.2.2.2.2.2.2.2.2.2.2.2.2.2.2.2.2.1, bt131.2.2.2.2.2.2.2.2.2.2.2.2.2.2.2.2.2.2.2.1, bt131.2.2.2.2.2.2.2.2.2.2.2.2.2.2.2.2.2.2.2.2⟩ : S55)) (wrap64 (x4 + 1))) else (none))) else (none)) else (some x3)
def laws_toRuleS.f (k : Nat) (l0 : List (S50)) : Option ((List (S55))) := if 0 ≤ (l0.length : Int) then (if ((l0.length : Int) : Int).toNat ≤ 1675446289944 then (laws_toRuleS.l0 k l0 (List.replicate ((l0.length : Int) : Int).toNat z55) 0) else (none)) else (none)
theorem laws_toRuleS.mono_l : ∀ k, (∀ y0 y1 y2, LeO (laws_toRuleS.l0 k y0 y1 y2) (laws_toRuleS.l0 (k + 1) y0 y1 y2))
 | 0 => fun _ _ _ r h => by simp [laws_toRuleS.l0] at h
 | k + 1 => by
  have ih0 := laws_toRuleS.mono_l k
  ·intro y0 y1 y2
   unfold laws_toRuleS.l0
   repeat' first
   | (with_reducible exact ih0 _ _ _)
   | (with_reducible exact LeO.refl _)
   | (with_reducible exact LeO.none _)
   | (with_reducible refine LeO.ite ?_ ?_)
   | (with_reducible refine LeO.bind ?_ (fun _ => ?_))
   | exact ih0 _ _ _
   | exact LeO.none _
   | refine LeO.ite ?_ ?_
   | refine LeO.bind ?_ (fun _ => ?_)
theorem laws_toRuleS.mono : ∀ a0 k, LeO (laws_toRuleS.f k a0) (laws_toRuleS.f (k + 1) a0) := by
 intro a0 k
 have ih0 := laws_toRuleS.mono_l k
 unfold laws_toRuleS.f
 repeat' first
   | (with_reducible exact ih0 _ _ _)
   | (with_reducible exact LeO.refl _)
   | (with_reducible exact LeO.none _)
   | (with_reducible refine LeO.ite ?_ ?_)
   | (with_reducible refine LeO.bind ?_ (fun _ => ?_))
   | exact ih0 _ _ _
   | exact LeO.none _
   | refine LeO.ite ?_ ?_
   | refine LeO.bind ?_ (fun _ => ?_)
set_option maxHeartbeats 8000000 in
set_option maxRecDepth 100000 in
theorem laws_toRuleS.calls (k : Nat) (A0 : Option Addr) (c0 : Nat) (l0 : List (S50)) (r : List (S55)) (w : World) (hr0 : Kd.C k50 w A0 l0.length l0) (hc0 : l0.length ≤ c0) (h : laws_toRuleS.f k l0 = some r) :
  Calls Try.prog 10 #[.slice A0 l0.length c0] w fun e w' => ∃ v0_ : Value, e = .returned (v0_) ∧ Kd.R k55 55 w' w.heap.size (fun _ => True) v0_ r ∧ Below w.heap.size w w' := by
 have hu50 := Try.underlying50
 have hu55 := Try.underlying55
 have HR0 := Gv.a0 hr0
 have HC0 := Gv.a0 hc0
 clear hr0 hc0
 have HB := Gv.a0 (Below.refl w.heap.size w)
 have H : (if 0 ≤ (l0.length : Int) then (if ((l0.length : Int) : Int).toNat ≤ 1675446289944 then (laws_toRuleS.l0 k l0 (List.replicate ((l0.length : Int) : Int).toNat z55) 0) else (none)) else (none)) = some r := h
 clear h
 by_cases c2 : 0 ≤ (l0.length : Int)
 ·rw [if_pos c2] at H
  have c2b0 := eq_true c2
  have c2b1 : decide (0 ≤ (l0.length : Int)) = true := decide_eq_true c2
  clear c2
  by_cases c3 : ((l0.length : Int) : Int).toNat ≤ 1675446289944
  ·rw [if_pos c3] at H
   have c3b0 := eq_true c3
   have c3b1 : decide (((l0.length : Int) : Int).toNat ≤ 1675446289944) = true := decide_eq_true c3
   clear c3
   obtain ⟨y127, hy127⟩ : ∃ y_ : List (S55), y_ = (List.replicate ((l0.length : Int) : Int).toNat z55) := ⟨_, rfl⟩
   replace H : (laws_toRuleS.l0 k l0 y127 0) = some r := by first | (rw [hy127]; with_reducible exact H) | (have H2_ := (Option.bind_some _ _).symm.trans H; rw [hy127]; with_reducible exact H2_) | (have H2_ := (Option.bind_some _ _).symm.trans H; with_reducible exact H2_) | with_reducible exact H | (rw [hy127]; exact H) | exact H
   have Ny127 := Gv.a0 hy127
   clear hy127
   have H' := Gv.a0 H
   clear H
   go_enter Try.func10, Try.ntmps10
   go_wp2_with (first | ((with_reducible refine gate_dst (N := 7) rfl ?_); refine Kd.R_make k55 _ 55 rfl (N := 7) rfl 25 _ _ rfl (l0.length : Int) rfl rfl Try.underlying25 (.agg #[(.int .i64 0), (.int .i64 0), (.int .i64 0), (.int .i64 0), (.int .i64 0), (.int .i64 0), (.int .i64 0), (.int .i64 0), (.int .i64 0), (.int .i64 0), (.int .i64 0), (.int .i64 0), (.int .i64 0), (.int .i64 0), (.int .i64 0), (.int .i64 0), (.int .i64 0), (.int .i64 0), (.int .i64 0), (.int .i64 0), (.int .i64 0)]) 168 info55 rfl (by decide) (by omega) z55 (ok := fun _ => True) (okp := fun _ => True) (k55_mkM _ _ _ z55 ) (fun _ hk => hk) trivial (of_decide_eq_true (by first | (with_reducible assumption) | assumption)) (Nat.le_trans (Nat.mul_le_mul_right _ (of_decide_eq_true (by first | (with_reducible assumption) | assumption) : (l0.length : Int).toNat ≤ 1675446289944)) (by omega)) (Below.refl _ _) (Nat.le_refl _) ?_; intro v128 w4 ho5 hb hg_ hnew_; clear hg_ hnew_; (first | rw [← Ny127.out] at ho5 | (simp only [Int.reduceToNat] at ho5; rw [← Ny127.out] at ho5)); have n0_ := Gv.a0 (Kd.R_lower ho5 (below_size Gv.bw)); have n1_ := Gv.a0 (below_step Gv.bw hb); clear HB; have HO129 := n0_; have HB := n1_; clear n0_ n1_; clear hb ho5))
   go_loopg [4] k (fun kq v4 w' => ∃ (x3_1 : List (S55)) (x4_1 : Int), v4 = .int .i64 x4_1 ∧ Aside0 (laws_toRuleS.l0 kq l0 x3_1 x4_1 = some r) ∧ Aside0 (kq ≤ k) ∧ Aside0 (Kd.R k55 55 w' w.heap.size (fun _ => True) v128 x3_1) ∧ Aside0 (Below w.heap.size w w'))
   case atStart => exact ⟨(y127), (0), Gv.rq, H', ⟨Nat.le_refl _⟩, ⟨Gv.kr HO129.out⟩, ⟨Gv.bw⟩⟩
   case round =>
    clear H'
    try clear c1
    try clear c2
    try clear c2b0
    try clear c2b1
    try clear p2
    try clear c3
    try clear c3b0
    try clear c3b1
    obtain ⟨x3_1, x4_1, rfl, HA, HK1, HO_3, HB⟩ := hrel
    cases gk with
    | zero => exact absurd HA.out (by simp [laws_toRuleS.l0])
    | succ k1 =>
     have H := HA.out
     clear HA
     simp only [laws_toRuleS.l0] at H
     by_cases c6 : x4_1 < (l0.length : Int)
     ·rw [if_pos c6] at H
      have c6b0 : decide (x4_1 < (l0.length : Int)) = true := decide_eq_true c6
      clear c6
      by_cases c7 : 0 ≤ x4_1
      ·rw [if_pos c7] at H
       have c7b0 : decide (0 ≤ x4_1) = true := decide_eq_true c7
       clear c7
       replace H := Option.bind_eq_some_iff.mp H
       obtain ⟨⟨t131, t132, t133, t134, t135, t136, t137, t138, t139, t140, t141, t142, t143, t144, t145, t146, t147, t148, t149, t150, t151⟩, A80, H⟩ := H
       replace H : (if x4_1 < (x3_1.length : Int) then (laws_toRuleS.l0 k1 l0 (x3_1.set (x4_1 : Int).toNat (⟨t131, (⟨(⟨t132, t133, t134, t135, t136⟩ : S34), t137⟩ : S53), (⟨(⟨t138, t139, t140, t141, t142⟩ : S34), t143⟩ : S53), t144, t145, t146, t147, t148, t149, t150, t151⟩ : S55)) (wrap64 (x4_1 + 1))) else (none)) = some r := H
       have A8 := Gv.a0 A80
       clear A80
       by_cases c9 : x4_1 < (x3_1.length : Int)
       ·rw [if_pos c9] at H
        have c9b0 : decide (x4_1 < (x3_1.length : Int)) = true := decide_eq_true c9
        clear c9
        obtain ⟨y152, hy152⟩ : ∃ y_ : List (S55), y_ = (x3_1.set (x4_1 : Int).toNat (⟨t131, (⟨(⟨t132, t133, t134, t135, t136⟩ : S34), t137⟩ : S53), (⟨(⟨t138, t139, t140, t141, t142⟩ : S34), t143⟩ : S53), t144, t145, t146, t147, t148, t149, t150, t151⟩ : S55)) := ⟨_, rfl⟩
        replace H : (laws_toRuleS.l0 k1 l0 y152 (wrap64 (x4_1 + 1))) = some r := by first | (rw [hy152]; with_reducible exact H) | (have H2_ := (Option.bind_some _ _).symm.trans H; rw [hy152]; with_reducible exact H2_) | (have H2_ := (Option.bind_some _ _).symm.trans H; with_reducible exact H2_) | with_reducible exact H | (rw [hy152]; exact H) | exact H
        have Ny152 := Gv.a0 hy152
        clear hy152
        have H' := Gv.a0 H
        clear H
        have p130 : 0 ≤ (x4_1 : Int) := of_decide_eq_true (by first | (with_reducible assumption) | assumption)
        have q130 : x4_1 < (l0.length : Int) := of_decide_eq_true (by first | (with_reducible assumption) | assumption)
        obtain ⟨ad130, e130, hx130_0, hx130_1, hx130_2, hx130_3, hx130_4, hx130_5, hx130_6, hx130_7, hx130_8, hx130_9, hx130_10, hx130_11, hx130_12, hx130_13, hx130_14, hx130_15, hx130_16, hx130_17, hx130_18, hx130_19, hx130_20⟩ := at_T50 HR0.out x4_1 p130 q130
        cases e130
        replace hx130_0 := Gv.bx HB.out hx130_0
        replace hx130_1 := Gv.bx HB.out hx130_1
        replace hx130_2 := Gv.bx HB.out hx130_2
        replace hx130_3 := Gv.bx HB.out hx130_3
        replace hx130_4 := Gv.bx HB.out hx130_4
        replace hx130_5 := Gv.bx HB.out hx130_5
        replace hx130_6 := Gv.bx HB.out hx130_6
        replace hx130_7 := Gv.bx HB.out hx130_7
        replace hx130_8 := Gv.bx HB.out hx130_8
        replace hx130_9 := Gv.bx HB.out hx130_9
        replace hx130_10 := Gv.bx HB.out hx130_10
        replace hx130_11 := Gv.bx HB.out hx130_11
        replace hx130_12 := Gv.bx HB.out hx130_12
        replace hx130_13 := Gv.bx HB.out hx130_13
        replace hx130_14 := Gv.bx HB.out hx130_14
        replace hx130_15 := Gv.bx HB.out hx130_15
        replace hx130_16 := Gv.bx HB.out hx130_16
        replace hx130_17 := Gv.bx HB.out hx130_17
        replace hx130_18 := Gv.bx HB.out hx130_18
        replace hx130_19 := Gv.bx HB.out hx130_19
        replace hx130_20 := Gv.bx HB.out hx130_20
        replace p130 := eq_true p130
        replace q130 := eq_true q130
        go_wp2_with (first | ((with_reducible refine gate_callee (f := 26) rfl ?_); refine goesL_ (some 20) rfl rfl Try.func26 (by kernel_rfl) rfl #[.agg #[.int .i64 ((rd_T50 l0 x4_1).f0), .int .i64 ((rd_T50 l0 x4_1).f1.f0.f0), .int .i64 ((rd_T50 l0 x4_1).f1.f0.f1), .int .i64 ((rd_T50 l0 x4_1).f1.f0.f2), .int .i64 ((rd_T50 l0 x4_1).f1.f0.f3), .int .i64 ((rd_T50 l0 x4_1).f1.f0.f4), .int .i64 ((rd_T50 l0 x4_1).f1.f1), .int .i64 ((rd_T50 l0 x4_1).f2.f0.f0), .int .i64 ((rd_T50 l0 x4_1).f2.f0.f1), .int .i64 ((rd_T50 l0 x4_1).f2.f0.f2), .int .i64 ((rd_T50 l0 x4_1).f2.f0.f3), .int .i64 ((rd_T50 l0 x4_1).f2.f0.f4), .int .i64 ((rd_T50 l0 x4_1).f2.f1), .int .i64 ((rd_T50 l0 x4_1).f3), .int .i64 ((rd_T50 l0 x4_1).f4), .int .i64 ((rd_T50 l0 x4_1).f5), .int .i64 ((rd_T50 l0 x4_1).f6), .int .i64 ((rd_T50 l0 x4_1).f7), .int .i64 ((rd_T50 l0 x4_1).f8), .int .i64 ((rd_T50 l0 x4_1).f9), .int .i64 ((rd_T50 l0 x4_1).f10)]] rfl Gv.lm ?_; (with_reducible refine (laws_toRule.calls _ _ _ _ _ _ _ _ _ _ _ _ _ _ _ _ _ _ _ _ _ t131 t132 t133 t134 t135 t136 t137 t138 t139 t140 t141 t142 t143 t144 t145 t146 t147 t148 t149 t150 t151 _ A8.out).mono ?_); rintro e w11 ⟨rfl, hb⟩; refine ⟨_, rfl, ?_⟩; have n0_ := Gv.a0 (Kd.R_below (Gv.kr HO_3.out) hb); have n1_ := Gv.a0 (below_step Gv.bw hb); clear HO_3; clear HB; have HO_3 := n0_; have HB := n1_; clear n0_ n1_; (try clear hb); (try clear hb2); (try clear hk); (try clear hi); have p10 : 0 ≤ (x4_1 : Int) := of_decide_eq_true (by first | (with_reducible assumption) | assumption); have q10 : (x4_1 : Int) < ((x3_1.length : Int) : Int) := of_decide_eq_true (by first | (with_reducible assumption) | assumption); obtain ⟨go10, co10, eo10, gb10, gl10, cl10, HG10⟩ := Kd.R_form HO_3.out (by omega); (first | cases eo10 | (injection eo10 with ea_ en_ ec_; (first | subst ea_ | (injection ea_ with ea_; subst ea_)); subst ec_; clear en_)); have GB10 := Gv.a0 gb10; have GG10 := Gv.a0 HG10; clear gb10 gl10 HG10; replace p10 := eq_true p10; replace q10 := eq_true q10; have HX12 := Gv.a0 (show Kd.R k55 55 w11 w.heap.size (fun _ => True) (.slice (some ⟨go10, 0, none⟩) x3_1.length co10) x3_1 from (Gv.kr HO_3.out))) | ((with_reducible refine gate_store (t := 55) (p := 21) rfl ?_); refine Gv.row_store (d := k55) (x4_1 : Int) (⟨t131, (⟨(⟨t132, t133, t134, t135, t136⟩ : S34), t137⟩ : S53), (⟨(⟨t138, t139, t140, t141, t142⟩ : S34), t143⟩ : S53), t144, t145, t146, t147, t148, t149, t150, t151⟩ : S55) rfl rfl rfl rfl rfl (by kernel_rfl) HX12.out (of_decide_eq_true (by first | (with_reducible assumption) | assumption)) (by have h_ : (x4_1 : Int) < ((x3_1.length : Int) : Int) := of_decide_eq_true (by first | (with_reducible assumption) | assumption); first | exact h_ | (have e_ := (Kd.R_reads' HO_3.out).1; omega) | simpa using h_) rfl rfl (k55_mkM _ _ _ (⟨t131, (⟨(⟨t132, t133, t134, t135, t136⟩ : S34), t137⟩ : S53), (⟨(⟨t138, t139, t140, t141, t142⟩ : S34), t143⟩ : S53), t144, t145, t146, t147, t148, t149, t150, t151⟩ : S55) ) ?_; intro w13 hR_ hoth_ hbel_; have n0_ := Gv.a0 (show Kd.R k55 55 w13 w.heap.size (fun _ => True) (.slice (some ⟨go10, 0, none⟩) x3_1.length co10) y152 from by rw [Ny152.out]; exact hR_); have n1_ := Gv.a0 (hbel_ w HB.out GB10.out); clear HO_3 HB HX12; have HO_3 := n0_; have HB := n1_; clear n0_ n1_ hR_ hoth_ hbel_) | ((with_reducible refine Gv.gate_load (t := 50) rfl ?_); refine Gv.load_event (cs := [_, _, _, _, _, _, _, _, _, _, _, _, _, _, _, _, _, _, _, _, _]) rfl rfl rfl ⟨hx130_0, hx130_1, hx130_2, hx130_3, hx130_4, hx130_5, hx130_6, hx130_7, hx130_8, hx130_9, hx130_10, hx130_11, hx130_12, hx130_13, hx130_14, hx130_15, hx130_16, hx130_17, hx130_18, hx130_19, hx130_20, trivial⟩ Try.underlying50 rfl (by kernel_rfl) ?_))
        go_roundg k1
        case measure => have := HK1.out; omega
        case rel => exact ⟨(y152), (wrap64 (x4_1 + 1)), Gv.rq, H', ⟨by have := HK1.out; omega⟩, ⟨Gv.kr HO_3.out⟩, ⟨Gv.bw⟩⟩
       ·rw [if_neg c9] at H
        exact absurd H (by simp)
      ·rw [if_neg c7] at H
       exact absurd H (by simp)
     ·rw [if_neg c6] at H
      have c6b0 : decide (x4_1 < (l0.length : Int)) = false := decide_eq_false c6
      clear c6
      obtain rfl := Option.some.inj H
      go_wp2
      go_ret
      exact ⟨_, Gv.rt, Gv.kr HO_3.out, Gv.bw⟩
  ·rw [if_neg c3] at H
   exact absurd H (by simp)
 ·rw [if_neg c2] at H
  exact absurd H (by simp)

/-! ### laws_eqAddr: function 68 -/
def laws_eqAddr.f (a0_0 : Int) (a0_1 : Int) (a0_2 : Int) (a0_3 : Int) (a0_4 : Int) (a1_0 : Int) (a1_1 : Int) (a1_2 : Int) (a1_3 : Int) (a1_4 : Int) : Option (Bool) := if a0_0 = a1_0 then (if a0_1 = a1_1 then (if a0_2 = a1_2 then (if a0_3 = a1_3 then (if a0_4 = a1_4 then (some true) else (none)) else (none)) else (none)) else (none)) else (none)
set_option maxHeartbeats 8000000 in
set_option maxRecDepth 100000 in
theorem laws_eqAddr.calls (a0_0 : Int) (a0_1 : Int) (a0_2 : Int) (a0_3 : Int) (a0_4 : Int) (a1_0 : Int) (a1_1 : Int) (a1_2 : Int) (a1_3 : Int) (a1_4 : Int) (r : Bool) (w : World) (h : laws_eqAddr.f a0_0 a0_1 a0_2 a0_3 a0_4 a1_0 a1_1 a1_2 a1_3 a1_4 = some r) :
  Calls Try.prog 68 #[.agg #[.int .i64 a0_0, .int .i64 a0_1, .int .i64 a0_2, .int .i64 a0_3, .int .i64 a0_4], .agg #[.int .i64 a1_0, .int .i64 a1_1, .int .i64 a1_2, .int .i64 a1_3, .int .i64 a1_4]] w fun e w' => e = .returned (.bool r) ∧ Below w.heap.size w w' := by
 have hu34 := Try.underlying34
 have HB := Gv.a0 (Below.refl w.heap.size w)
 have H : (if a0_0 = a1_0 then (if a0_1 = a1_1 then (if a0_2 = a1_2 then (if a0_3 = a1_3 then (if a0_4 = a1_4 then (some true) else (none)) else (none)) else (none)) else (none)) else (none)) = some r := h
 clear h
 by_cases c3 : a0_0 = a1_0
 ·rw [if_pos c3] at H
  have c3b0 : (a0_0 == a1_0) = true := beq_iff_eq.mpr c3
  have c3b1 : (a0_0 != a1_0) = false := bne_eq_false_iff_eq.mpr c3
  clear c3
  by_cases c4 : a0_1 = a1_1
  ·rw [if_pos c4] at H
   have c4b0 : (a0_1 == a1_1) = true := beq_iff_eq.mpr c4
   have c4b1 : (a0_1 != a1_1) = false := bne_eq_false_iff_eq.mpr c4
   clear c4
   by_cases c5 : a0_2 = a1_2
   ·rw [if_pos c5] at H
    have c5b0 : (a0_2 == a1_2) = true := beq_iff_eq.mpr c5
    have c5b1 : (a0_2 != a1_2) = false := bne_eq_false_iff_eq.mpr c5
    clear c5
    by_cases c6 : a0_3 = a1_3
    ·rw [if_pos c6] at H
     have c6b0 : (a0_3 == a1_3) = true := beq_iff_eq.mpr c6
     have c6b1 : (a0_3 != a1_3) = false := bne_eq_false_iff_eq.mpr c6
     clear c6
     by_cases c7 : a0_4 = a1_4
     ·rw [if_pos c7] at H
      have c7b0 : (a0_4 == a1_4) = true := beq_iff_eq.mpr c7
      have c7b1 : (a0_4 != a1_4) = false := bne_eq_false_iff_eq.mpr c7
      clear c7
      obtain rfl := Option.some.inj H
      go_enter Try.func68, Try.ntmps68
      go_wp2_with (first | ((with_reducible refine gate_dst (N := 2) rfl ?_); refine box_event ?hg (N := 2) ?hd (cs := #[.int .i64 a0_0, .int .i64 a0_1, .int .i64 a0_2, .int .i64 a0_3, .int .i64 a0_4]) (t := 34) ?hr ?_; (case hd => rfl); (case hg => rfl); (case hr => first | (go_simp; done) | (go_simp; rfl)); intro gb153 hg w8 hbox hb; have n0_ := Gv.a0 (below_step Gv.bw hb); have n1_ := Gv.a0 (hbox); have n2_ := Gv.a0 ((Gv.ble hg Gv.bw : w.heap.size ≤ gb153)); have n3_ := Gv.a0 ((Gv.ble hg Gv.bw : w.heap.size ≤ gb153)); clear HB; have HB := n0_; have BK153 := n1_; have GW153 := n2_; have GE153 := n3_; clear n0_ n1_ n2_ n3_; clear hb hbox hg) | ((with_reducible refine gate_dst (N := 3) rfl ?_); refine box_event ?hg (N := 3) ?hd (cs := #[.int .i64 a1_0, .int .i64 a1_1, .int .i64 a1_2, .int .i64 a1_3, .int .i64 a1_4]) (t := 34) ?hr ?_; (case hd => rfl); (case hg => rfl); (case hr => first | (go_simp; done) | (go_simp; rfl)); intro gb154 hg w9 hbox hb; have n0_ := Gv.a0 (Gv.bb BK153.out hb); have n1_ := Gv.a0 (below_step Gv.bw hb); have n2_ := Gv.a0 (hbox); have n3_ := Gv.a0 ((Gv.ble hg Gv.bw : w.heap.size ≤ gb154)); have n4_ := Gv.a0 ((Gv.ble hg Gv.bw : w.heap.size ≤ gb154)); have n5_ := Gv.a0 ((Gv.nlt hg (Gv.kb BK153.out) : gb153 ≠ gb154)); have n6_ := Gv.a0 ((Gv.ngt hg (Gv.kb BK153.out) : gb154 ≠ gb153)); clear BK153; clear HB; have BK153 := n0_; have HB := n1_; have BK154 := n2_; have GW154 := n3_; have GE154 := n4_; have NB153_154 := n5_; have NB154_153 := n6_; clear n0_ n1_ n2_ n3_ n4_ n5_ n6_; clear hb hbox hg; have hnb10 := NB153_154.out; have hnc10 := NB154_153.out; obtain ⟨hcz11_0, hcz11_1, hcz11_2, hcz11_3, hcz11_4⟩ := Gv.c5 BK153.out; obtain ⟨hfz11_0, hfz11_1, hfz11_2, hfz11_3, hfz11_4⟩ := Gv.f5 BK153.out; obtain ⟨hcz12_0, hcz12_1, hcz12_2, hcz12_3, hcz12_4⟩ := Gv.c5 BK154.out; obtain ⟨hfz12_0, hfz12_1, hfz12_2, hfz12_3, hfz12_4⟩ := Gv.f5 BK154.out))
      go_ret
      exact ⟨Gv.rt, Gv.bw⟩
     ·rw [if_neg c7] at H
      exact absurd H (by simp)
    ·rw [if_neg c6] at H
     exact absurd H (by simp)
   ·rw [if_neg c5] at H
    exact absurd H (by simp)
  ·rw [if_neg c4] at H
   exact absurd H (by simp)
 ·rw [if_neg c3] at H
  exact absurd H (by simp)

/-! ### laws_eqPrefix: function 49 -/
def laws_eqPrefix.f (a0_0 : Int) (a0_1 : Int) (a0_2 : Int) (a0_3 : Int) (a0_4 : Int) (a0_5 : Int) (a1_0 : Int) (a1_1 : Int) (a1_2 : Int) (a1_3 : Int) (a1_4 : Int) (a1_5 : Int) : Option (Bool) := (laws_eqAddr.f a0_0 a0_1 a0_2 a0_3 a0_4 a1_0 a1_1 a1_2 a1_3 a1_4).bind fun t157 => (if t157 = true then (if a0_5 = a1_5 then (some true) else (none)) else (none))
set_option maxHeartbeats 8000000 in
set_option maxRecDepth 100000 in
theorem laws_eqPrefix.calls (a0_0 : Int) (a0_1 : Int) (a0_2 : Int) (a0_3 : Int) (a0_4 : Int) (a0_5 : Int) (a1_0 : Int) (a1_1 : Int) (a1_2 : Int) (a1_3 : Int) (a1_4 : Int) (a1_5 : Int) (r : Bool) (w : World) (h : laws_eqPrefix.f a0_0 a0_1 a0_2 a0_3 a0_4 a0_5 a1_0 a1_1 a1_2 a1_3 a1_4 a1_5 = some r) :
  Calls Try.prog 49 #[.agg #[.int .i64 a0_0, .int .i64 a0_1, .int .i64 a0_2, .int .i64 a0_3, .int .i64 a0_4, .int .i64 a0_5], .agg #[.int .i64 a1_0, .int .i64 a1_1, .int .i64 a1_2, .int .i64 a1_3, .int .i64 a1_4, .int .i64 a1_5]] w fun e w' => e = .returned (.bool r) ∧ Below w.heap.size w w' := by
 have hu53 := Try.underlying53
 have hu34 := Try.underlying34
 have HB := Gv.a0 (Below.refl w.heap.size w)
 have H : ((laws_eqAddr.f a0_0 a0_1 a0_2 a0_3 a0_4 a1_0 a1_1 a1_2 a1_3 a1_4).bind fun t157 => (if t157 = true then (if a0_5 = a1_5 then (some true) else (none)) else (none))) = some r := h
 clear h
 replace H := Option.bind_eq_some_iff.mp H
 obtain ⟨t157, A30, H⟩ := H
 replace H : (if t157 = true then (if a0_5 = a1_5 then (some true) else (none)) else (none)) = some r := H
 have A3 := Gv.a0 A30
 clear A30
 by_cases c4 : t157 = true
 ·subst c4
  have H1 : (if a0_5 = a1_5 then (some true) else (none)) = some r := by rw [if_pos rfl] at H; exact H
  clear H
  have H := H1
  clear H1
  by_cases c5 : a0_5 = a1_5
  ·rw [if_pos c5] at H
   have c5b0 : (a0_5 == a1_5) = true := beq_iff_eq.mpr c5
   have c5b1 : (a0_5 != a1_5) = false := bne_eq_false_iff_eq.mpr c5
   clear c5
   obtain rfl := Option.some.inj H
   go_enter Try.func49, Try.ntmps49
   go_wp2_with (first | ((with_reducible refine gate_dst (N := 2) rfl ?_); refine box_event ?hg (N := 2) ?hd (cs := #[.int .i64 a0_0, .int .i64 a0_1, .int .i64 a0_2, .int .i64 a0_3, .int .i64 a0_4, .int .i64 a0_5]) (t := 53) ?hr ?_; (case hd => rfl); (case hg => rfl); (case hr => first | (go_simp; done) | (go_simp; rfl)); intro gb155 hg w6 hbox hb; have n0_ := Gv.a0 (below_step Gv.bw hb); have n1_ := Gv.a0 (hbox); have n2_ := Gv.a0 ((Gv.ble hg Gv.bw : w.heap.size ≤ gb155)); have n3_ := Gv.a0 ((Gv.ble hg Gv.bw : w.heap.size ≤ gb155)); clear HB; have HB := n0_; have BK155 := n1_; have GW155 := n2_; have GE155 := n3_; clear n0_ n1_ n2_ n3_; clear hb hbox hg) | ((with_reducible refine gate_dst (N := 3) rfl ?_); refine box_event ?hg (N := 3) ?hd (cs := #[.int .i64 a1_0, .int .i64 a1_1, .int .i64 a1_2, .int .i64 a1_3, .int .i64 a1_4, .int .i64 a1_5]) (t := 53) ?hr ?_; (case hd => rfl); (case hg => rfl); (case hr => first | (go_simp; done) | (go_simp; rfl)); intro gb156 hg w7 hbox hb; have n0_ := Gv.a0 (Gv.bb BK155.out hb); have n1_ := Gv.a0 (below_step Gv.bw hb); have n2_ := Gv.a0 (hbox); have n3_ := Gv.a0 ((Gv.ble hg Gv.bw : w.heap.size ≤ gb156)); have n4_ := Gv.a0 ((Gv.ble hg Gv.bw : w.heap.size ≤ gb156)); have n5_ := Gv.a0 ((Gv.nlt hg (Gv.kb BK155.out) : gb155 ≠ gb156)); have n6_ := Gv.a0 ((Gv.ngt hg (Gv.kb BK155.out) : gb156 ≠ gb155)); clear BK155; clear HB; have BK155 := n0_; have HB := n1_; have BK156 := n2_; have GW156 := n3_; have GE156 := n4_; have NB155_156 := n5_; have NB156_155 := n6_; clear n0_ n1_ n2_ n3_ n4_ n5_ n6_; clear hb hbox hg; have hnb8 := NB155_156.out; have hnc8 := NB156_155.out; obtain ⟨hcz9_0, hcz9_1, hcz9_2, hcz9_3, hcz9_4, hcz9_5⟩ := Gv.c6 BK155.out; obtain ⟨hfz9_0, hfz9_1, hfz9_2, hfz9_3, hfz9_4, hfz9_5⟩ := Gv.f6 BK155.out; obtain ⟨hcz10_0, hcz10_1, hcz10_2, hcz10_3, hcz10_4, hcz10_5⟩ := Gv.c6 BK156.out; obtain ⟨hfz10_0, hfz10_1, hfz10_2, hfz10_3, hfz10_4, hfz10_5⟩ := Gv.f6 BK156.out) | ((with_reducible refine gate_callee (f := 68) rfl ?_); refine goesL_ (some 9) rfl rfl Try.func68 (by kernel_rfl) rfl #[.agg #[.int .i64 a0_0, .int .i64 a0_1, .int .i64 a0_2, .int .i64 a0_3, .int .i64 a0_4], .agg #[.int .i64 a1_0, .int .i64 a1_1, .int .i64 a1_2, .int .i64 a1_3, .int .i64 a1_4]] rfl Gv.lm ?_; (with_reducible refine (laws_eqAddr.calls a0_0 a0_1 a0_2 a0_3 a0_4 a1_0 a1_1 a1_2 a1_3 a1_4 true _ A3.out).mono ?_); rintro e w11 ⟨rfl, hb⟩; refine ⟨_, rfl, ?_⟩; have n0_ := Gv.a0 (Gv.bb BK155.out hb); have n1_ := Gv.a0 (Gv.bb BK156.out hb); have n2_ := Gv.a0 (below_step Gv.bw hb); clear BK155; clear BK156; clear HB; have BK155 := n0_; have BK156 := n1_; have HB := n2_; clear n0_ n1_ n2_; (try clear hb); (try clear hb2); (try clear hk); (try clear hi); obtain ⟨hcz12_0, hcz12_1, hcz12_2, hcz12_3, hcz12_4, hcz12_5⟩ := Gv.c6 BK155.out; obtain ⟨hfz12_0, hfz12_1, hfz12_2, hfz12_3, hfz12_4, hfz12_5⟩ := Gv.f6 BK155.out; obtain ⟨hcz13_0, hcz13_1, hcz13_2, hcz13_3, hcz13_4, hcz13_5⟩ := Gv.c6 BK156.out; obtain ⟨hfz13_0, hfz13_1, hfz13_2, hfz13_3, hfz13_4, hfz13_5⟩ := Gv.f6 BK156.out))
   go_ret
   exact ⟨Gv.rt, Gv.bw⟩
  ·rw [if_neg c5] at H
   exact absurd H (by simp)
 ·replace c4 := Bool.eq_false_iff.mpr c4
  subst c4
  have H1 : (none) = some r := by rw [if_neg (show ¬ (false = true) by decide)] at H; exact H
  clear H
  have H := H1
  clear H1
  exact absurd H (by simp)

/-! ### laws_eqRule: function 30 -/
def laws_eqRule.f (a0_0 : Int) (a0_1 : Int) (a0_2 : Int) (a0_3 : Int) (a0_4 : Int) (a0_5 : Int) (a0_6 : Int) (a0_7 : Int) (a0_8 : Int) (a0_9 : Int) (a0_10 : Int) (a0_11 : Int) (a0_12 : Int) (a0_13 : Int) (a0_14 : Int) (a0_15 : Int) (a0_16 : Int) (a0_17 : Int) (a0_18 : Int) (a0_19 : Int) (a0_20 : Int) (a1_0 : Int) (a1_1 : Int) (a1_2 : Int) (a1_3 : Int) (a1_4 : Int) (a1_5 : Int) (a1_6 : Int) (a1_7 : Int) (a1_8 : Int) (a1_9 : Int) (a1_10 : Int) (a1_11 : Int) (a1_12 : Int) (a1_13 : Int) (a1_14 : Int) (a1_15 : Int) (a1_16 : Int) (a1_17 : Int) (a1_18 : Int) (a1_19 : Int) (a1_20 : Int) : Option (Bool) := if a0_0 = a1_0 then ((laws_eqPrefix.f a0_1 a0_2 a0_3 a0_4 a0_5 a0_6 a1_1 a1_2 a1_3 a1_4 a1_5 a1_6).bind fun t160 => (if t160 = true then ((laws_eqPrefix.f a0_7 a0_8 a0_9 a0_10 a0_11 a0_12 a1_7 a1_8 a1_9 a1_10 a1_11 a1_12).bind fun t161 => (if t161 = true then (if a0_13 = a1_13 then (if a0_14 = a1_14 then (if a0_15 = a1_15 then (if a0_16 = a1_16 then (if a0_17 = a1_17 then (if a0_18 = a1_18 then (if a0_19 = a1_19 then (if a0_20 = a1_20 then (some true) else (none)) else (none)) else (none)) else (none)) else (none)) else (none)) else (none)) else (none)) else (none))) else (none))) else (none)
set_option maxHeartbeats 8000000 in
set_option maxRecDepth 100000 in
theorem laws_eqRule.calls (a0_0 : Int) (a0_1 : Int) (a0_2 : Int) (a0_3 : Int) (a0_4 : Int) (a0_5 : Int) (a0_6 : Int) (a0_7 : Int) (a0_8 : Int) (a0_9 : Int) (a0_10 : Int) (a0_11 : Int) (a0_12 : Int) (a0_13 : Int) (a0_14 : Int) (a0_15 : Int) (a0_16 : Int) (a0_17 : Int) (a0_18 : Int) (a0_19 : Int) (a0_20 : Int) (a1_0 : Int) (a1_1 : Int) (a1_2 : Int) (a1_3 : Int) (a1_4 : Int) (a1_5 : Int) (a1_6 : Int) (a1_7 : Int) (a1_8 : Int) (a1_9 : Int) (a1_10 : Int) (a1_11 : Int) (a1_12 : Int) (a1_13 : Int) (a1_14 : Int) (a1_15 : Int) (a1_16 : Int) (a1_17 : Int) (a1_18 : Int) (a1_19 : Int) (a1_20 : Int) (r : Bool) (w : World) (h : laws_eqRule.f a0_0 a0_1 a0_2 a0_3 a0_4 a0_5 a0_6 a0_7 a0_8 a0_9 a0_10 a0_11 a0_12 a0_13 a0_14 a0_15 a0_16 a0_17 a0_18 a0_19 a0_20 a1_0 a1_1 a1_2 a1_3 a1_4 a1_5 a1_6 a1_7 a1_8 a1_9 a1_10 a1_11 a1_12 a1_13 a1_14 a1_15 a1_16 a1_17 a1_18 a1_19 a1_20 = some r) :
  Calls Try.prog 30 #[.agg #[.int .i64 a0_0, .int .i64 a0_1, .int .i64 a0_2, .int .i64 a0_3, .int .i64 a0_4, .int .i64 a0_5, .int .i64 a0_6, .int .i64 a0_7, .int .i64 a0_8, .int .i64 a0_9, .int .i64 a0_10, .int .i64 a0_11, .int .i64 a0_12, .int .i64 a0_13, .int .i64 a0_14, .int .i64 a0_15, .int .i64 a0_16, .int .i64 a0_17, .int .i64 a0_18, .int .i64 a0_19, .int .i64 a0_20], .agg #[.int .i64 a1_0, .int .i64 a1_1, .int .i64 a1_2, .int .i64 a1_3, .int .i64 a1_4, .int .i64 a1_5, .int .i64 a1_6, .int .i64 a1_7, .int .i64 a1_8, .int .i64 a1_9, .int .i64 a1_10, .int .i64 a1_11, .int .i64 a1_12, .int .i64 a1_13, .int .i64 a1_14, .int .i64 a1_15, .int .i64 a1_16, .int .i64 a1_17, .int .i64 a1_18, .int .i64 a1_19, .int .i64 a1_20]] w fun e w' => e = .returned (.bool r) ∧ Below w.heap.size w w' := by
 have hu55 := Try.underlying55
 have hu53 := Try.underlying53
 have HB := Gv.a0 (Below.refl w.heap.size w)
 have H : (if a0_0 = a1_0 then ((laws_eqPrefix.f a0_1 a0_2 a0_3 a0_4 a0_5 a0_6 a1_1 a1_2 a1_3 a1_4 a1_5 a1_6).bind fun t160 => (if t160 = true then ((laws_eqPrefix.f a0_7 a0_8 a0_9 a0_10 a0_11 a0_12 a1_7 a1_8 a1_9 a1_10 a1_11 a1_12).bind fun t161 => (if t161 = true then (if a0_13 = a1_13 then (if a0_14 = a1_14 then (if a0_15 = a1_15 then (if a0_16 = a1_16 then (if a0_17 = a1_17 then (if a0_18 = a1_18 then (if a0_19 = a1_19 then (if a0_20 = a1_20 then (some true) else (none)) else (none)) else (none)) else (none)) else (none)) else (none)) else (none)) else (none)) else (none))) else (none))) else (none)) = some r := h
 clear h
 by_cases c3 : a0_0 = a1_0
 ·rw [if_pos c3] at H
  have c3b0 : (a0_0 == a1_0) = true := beq_iff_eq.mpr c3
  have c3b1 : (a0_0 != a1_0) = false := bne_eq_false_iff_eq.mpr c3
  clear c3
  replace H := Option.bind_eq_some_iff.mp H
  obtain ⟨t160, A40, H⟩ := H
  replace H : (if t160 = true then ((laws_eqPrefix.f a0_7 a0_8 a0_9 a0_10 a0_11 a0_12 a1_7 a1_8 a1_9 a1_10 a1_11 a1_12).bind fun t161 => (if t161 = true then (if a0_13 = a1_13 then (if a0_14 = a1_14 then (if a0_15 = a1_15 then (if a0_16 = a1_16 then (if a0_17 = a1_17 then (if a0_18 = a1_18 then (if a0_19 = a1_19 then (if a0_20 = a1_20 then (some true) else (none)) else (none)) else (none)) else (none)) else (none)) else (none)) else (none)) else (none)) else (none))) else (none)) = some r := H
  have A4 := Gv.a0 A40
  clear A40
  by_cases c5 : t160 = true
  ·subst c5
   have H1 : ((laws_eqPrefix.f a0_7 a0_8 a0_9 a0_10 a0_11 a0_12 a1_7 a1_8 a1_9 a1_10 a1_11 a1_12).bind fun t161 => (if t161 = true then (if a0_13 = a1_13 then (if a0_14 = a1_14 then (if a0_15 = a1_15 then (if a0_16 = a1_16 then (if a0_17 = a1_17 then (if a0_18 = a1_18 then (if a0_19 = a1_19 then (if a0_20 = a1_20 then (some true) else (none)) else (none)) else (none)) else (none)) else (none)) else (none)) else (none)) else (none)) else (none))) = some r := by rw [if_pos rfl] at H; exact H
   clear H
   have H := H1
   clear H1
   replace H := Option.bind_eq_some_iff.mp H
   obtain ⟨t161, A60, H⟩ := H
   replace H : (if t161 = true then (if a0_13 = a1_13 then (if a0_14 = a1_14 then (if a0_15 = a1_15 then (if a0_16 = a1_16 then (if a0_17 = a1_17 then (if a0_18 = a1_18 then (if a0_19 = a1_19 then (if a0_20 = a1_20 then (some true) else (none)) else (none)) else (none)) else (none)) else (none)) else (none)) else (none)) else (none)) else (none)) = some r := H
   have A6 := Gv.a0 A60
   clear A60
   by_cases c7 : t161 = true
   ·subst c7
    have H1 : (if a0_13 = a1_13 then (if a0_14 = a1_14 then (if a0_15 = a1_15 then (if a0_16 = a1_16 then (if a0_17 = a1_17 then (if a0_18 = a1_18 then (if a0_19 = a1_19 then (if a0_20 = a1_20 then (some true) else (none)) else (none)) else (none)) else (none)) else (none)) else (none)) else (none)) else (none)) = some r := by rw [if_pos rfl] at H; exact H
    clear H
    have H := H1
    clear H1
    by_cases c8 : a0_13 = a1_13
    ·rw [if_pos c8] at H
     have c8b0 : (a0_13 == a1_13) = true := beq_iff_eq.mpr c8
     have c8b1 : (a0_13 != a1_13) = false := bne_eq_false_iff_eq.mpr c8
     clear c8
     by_cases c9 : a0_14 = a1_14
     ·rw [if_pos c9] at H
      have c9b0 : (a0_14 == a1_14) = true := beq_iff_eq.mpr c9
      have c9b1 : (a0_14 != a1_14) = false := bne_eq_false_iff_eq.mpr c9
      clear c9
      by_cases c10 : a0_15 = a1_15
      ·rw [if_pos c10] at H
       have c10b0 : (a0_15 == a1_15) = true := beq_iff_eq.mpr c10
       have c10b1 : (a0_15 != a1_15) = false := bne_eq_false_iff_eq.mpr c10
       clear c10
       by_cases c11 : a0_16 = a1_16
       ·rw [if_pos c11] at H
        have c11b0 : (a0_16 == a1_16) = true := beq_iff_eq.mpr c11
        have c11b1 : (a0_16 != a1_16) = false := bne_eq_false_iff_eq.mpr c11
        clear c11
        by_cases c12 : a0_17 = a1_17
        ·rw [if_pos c12] at H
         have c12b0 : (a0_17 == a1_17) = true := beq_iff_eq.mpr c12
         have c12b1 : (a0_17 != a1_17) = false := bne_eq_false_iff_eq.mpr c12
         clear c12
         by_cases c13 : a0_18 = a1_18
         ·rw [if_pos c13] at H
          have c13b0 : (a0_18 == a1_18) = true := beq_iff_eq.mpr c13
          have c13b1 : (a0_18 != a1_18) = false := bne_eq_false_iff_eq.mpr c13
          clear c13
          by_cases c14 : a0_19 = a1_19
          ·rw [if_pos c14] at H
           have c14b0 : (a0_19 == a1_19) = true := beq_iff_eq.mpr c14
           have c14b1 : (a0_19 != a1_19) = false := bne_eq_false_iff_eq.mpr c14
           clear c14
           by_cases c15 : a0_20 = a1_20
           ·rw [if_pos c15] at H
            have c15b0 : (a0_20 == a1_20) = true := beq_iff_eq.mpr c15
            have c15b1 : (a0_20 != a1_20) = false := bne_eq_false_iff_eq.mpr c15
            clear c15
            obtain rfl := Option.some.inj H
            go_enter Try.func30, Try.ntmps30
            go_wp2_with (first | ((with_reducible refine gate_dst (N := 2) rfl ?_); refine box_event ?hg (N := 2) ?hd (cs := #[.int .i64 a0_0, .int .i64 a0_1, .int .i64 a0_2, .int .i64 a0_3, .int .i64 a0_4, .int .i64 a0_5, .int .i64 a0_6, .int .i64 a0_7, .int .i64 a0_8, .int .i64 a0_9, .int .i64 a0_10, .int .i64 a0_11, .int .i64 a0_12, .int .i64 a0_13, .int .i64 a0_14, .int .i64 a0_15, .int .i64 a0_16, .int .i64 a0_17, .int .i64 a0_18, .int .i64 a0_19, .int .i64 a0_20]) (t := 55) ?hr ?_; (case hd => rfl); (case hg => rfl); (case hr => first | (go_simp; done) | (go_simp; rfl)); intro gb158 hg w16 hbox hb; have n0_ := Gv.a0 (below_step Gv.bw hb); have n1_ := Gv.a0 (hbox); have n2_ := Gv.a0 ((Gv.ble hg Gv.bw : w.heap.size ≤ gb158)); have n3_ := Gv.a0 ((Gv.ble hg Gv.bw : w.heap.size ≤ gb158)); clear HB; have HB := n0_; have BK158 := n1_; have GW158 := n2_; have GE158 := n3_; clear n0_ n1_ n2_ n3_; clear hb hbox hg) | ((with_reducible refine gate_store (t := 55) (p := 2) rfl ?_); refine Gv.store_event rfl rfl rfl rfl rfl (Gv.kb BK158.out) (by kernel_rfl) rfl (by simp; and_intros <;> rfl) ?_; intro w16s hbox hoth hbel; have n0_ := Gv.a0 (hbox); have n1_ := Gv.a0 (hbel w Gv.bw GE158.out); clear BK158 HB; have BK158 := n0_; have HB := n1_; clear n0_ n1_ hbox hoth hbel) | ((with_reducible refine gate_dst (N := 3) rfl ?_); refine box_event ?hg (N := 3) ?hd (cs := #[.int .i64 a1_0, .int .i64 a1_1, .int .i64 a1_2, .int .i64 a1_3, .int .i64 a1_4, .int .i64 a1_5, .int .i64 a1_6, .int .i64 a1_7, .int .i64 a1_8, .int .i64 a1_9, .int .i64 a1_10, .int .i64 a1_11, .int .i64 a1_12, .int .i64 a1_13, .int .i64 a1_14, .int .i64 a1_15, .int .i64 a1_16, .int .i64 a1_17, .int .i64 a1_18, .int .i64 a1_19, .int .i64 a1_20]) (t := 55) ?hr ?_; (case hd => rfl); (case hg => rfl); (case hr => first | (go_simp; done) | (go_simp; rfl)); intro gb159 hg w17 hbox hb; have n0_ := Gv.a0 (Gv.bb BK158.out hb); have n1_ := Gv.a0 (below_step Gv.bw hb); have n2_ := Gv.a0 (hbox); have n3_ := Gv.a0 ((Gv.ble hg Gv.bw : w.heap.size ≤ gb159)); have n4_ := Gv.a0 ((Gv.ble hg Gv.bw : w.heap.size ≤ gb159)); have n5_ := Gv.a0 ((Gv.nlt hg (Gv.kb BK158.out) : gb158 ≠ gb159)); have n6_ := Gv.a0 ((Gv.ngt hg (Gv.kb BK158.out) : gb159 ≠ gb158)); clear BK158; clear HB; have BK158 := n0_; have HB := n1_; have BK159 := n2_; have GW159 := n3_; have GE159 := n4_; have NB158_159 := n5_; have NB159_158 := n6_; clear n0_ n1_ n2_ n3_ n4_ n5_ n6_; clear hb hbox hg; have hnb18 := NB158_159.out; have hnc18 := NB159_158.out; obtain ⟨hcz19_0, hcz19_1, hcz19_2, hcz19_3, hcz19_4, hcz19_5, hcz19_6, hcz19_7, hcz19_8, hcz19_9, hcz19_10, hcz19_11, hcz19_12, hcz19_13, hcz19_14, hcz19_15, hcz19_16, hcz19_17, hcz19_18, hcz19_19, hcz19_20⟩ := Gv.c21 BK158.out; obtain ⟨hcz20_0, hcz20_1, hcz20_2, hcz20_3, hcz20_4, hcz20_5, hcz20_6, hcz20_7, hcz20_8, hcz20_9, hcz20_10, hcz20_11, hcz20_12, hcz20_13, hcz20_14, hcz20_15, hcz20_16, hcz20_17, hcz20_18, hcz20_19, hcz20_20⟩ := Gv.c21 BK159.out) | ((with_reducible refine gate_store (t := 55) (p := 3) rfl ?_); refine Gv.store_event rfl rfl rfl rfl rfl (Gv.kb BK159.out) (by kernel_rfl) rfl (by simp; and_intros <;> rfl) ?_; intro w17s hbox hoth hbel; have n0_ := Gv.a0 (hbox); have n1_ := Gv.a0 (hbel w Gv.bw GE159.out); have n2_ := Gv.a0 ((hoth gb158 NB158_159.out).trans (Gv.kb BK158.out)); clear BK159 HB BK158; have BK159 := n0_; have HB := n1_; have BK158 := n2_; clear n0_ n1_ n2_ hbox hoth hbel; (try clear hcz19_0 hcz19_1 hcz19_2 hcz19_3 hcz19_4 hcz19_5 hcz19_6 hcz19_7 hcz19_8 hcz19_9 hcz19_10 hcz19_11 hcz19_12 hcz19_13 hcz19_14 hcz19_15 hcz19_16 hcz19_17 hcz19_18 hcz19_19 hcz19_20 hcz20_0 hcz20_1 hcz20_2 hcz20_3 hcz20_4 hcz20_5 hcz20_6 hcz20_7 hcz20_8 hcz20_9 hcz20_10 hcz20_11 hcz20_12 hcz20_13 hcz20_14 hcz20_15 hcz20_16 hcz20_17 hcz20_18 hcz20_19 hcz20_20); obtain ⟨hcz19_0, hcz19_1, hcz19_2, hcz19_3, hcz19_4, hcz19_5, hcz19_6, hcz19_7, hcz19_8, hcz19_9, hcz19_10, hcz19_11, hcz19_12, hcz19_13, hcz19_14, hcz19_15, hcz19_16, hcz19_17, hcz19_18, hcz19_19, hcz19_20⟩ := Gv.c21 BK158.out; obtain ⟨hcz20_0, hcz20_1, hcz20_2, hcz20_3, hcz20_4, hcz20_5, hcz20_6, hcz20_7, hcz20_8, hcz20_9, hcz20_10, hcz20_11, hcz20_12, hcz20_13, hcz20_14, hcz20_15, hcz20_16, hcz20_17, hcz20_18, hcz20_19, hcz20_20⟩ := Gv.c21 BK159.out) | ((with_reducible refine gate_callee (f := 49) rfl ?_); refine goesL_ (some 14) rfl rfl Try.func49 (by kernel_rfl) rfl #[.agg #[.int .i64 a0_1, .int .i64 a0_2, .int .i64 a0_3, .int .i64 a0_4, .int .i64 a0_5, .int .i64 a0_6], .agg #[.int .i64 a1_1, .int .i64 a1_2, .int .i64 a1_3, .int .i64 a1_4, .int .i64 a1_5, .int .i64 a1_6]] rfl Gv.lm ?_; (with_reducible refine (laws_eqPrefix.calls a0_1 a0_2 a0_3 a0_4 a0_5 a0_6 a1_1 a1_2 a1_3 a1_4 a1_5 a1_6 true _ A4.out).mono ?_); rintro e w21 ⟨rfl, hb⟩; refine ⟨_, rfl, ?_⟩; have n0_ := Gv.a0 (Gv.bb BK158.out hb); have n1_ := Gv.a0 (Gv.bb BK159.out hb); have n2_ := Gv.a0 (below_step Gv.bw hb); clear BK158; clear BK159; clear HB; have BK158 := n0_; have BK159 := n1_; have HB := n2_; clear n0_ n1_ n2_; (try clear hb); (try clear hb2); (try clear hk); (try clear hi); obtain ⟨hcz22_0, hcz22_1, hcz22_2, hcz22_3, hcz22_4, hcz22_5, hcz22_6, hcz22_7, hcz22_8, hcz22_9, hcz22_10, hcz22_11, hcz22_12, hcz22_13, hcz22_14, hcz22_15, hcz22_16, hcz22_17, hcz22_18, hcz22_19, hcz22_20⟩ := Gv.c21 BK158.out; obtain ⟨hcz23_0, hcz23_1, hcz23_2, hcz23_3, hcz23_4, hcz23_5, hcz23_6, hcz23_7, hcz23_8, hcz23_9, hcz23_10, hcz23_11, hcz23_12, hcz23_13, hcz23_14, hcz23_15, hcz23_16, hcz23_17, hcz23_18, hcz23_19, hcz23_20⟩ := Gv.c21 BK159.out) | ((with_reducible refine gate_callee (f := 49) rfl ?_); refine goesL_ (some 20) rfl rfl Try.func49 (by kernel_rfl) rfl #[.agg #[.int .i64 a0_7, .int .i64 a0_8, .int .i64 a0_9, .int .i64 a0_10, .int .i64 a0_11, .int .i64 a0_12], .agg #[.int .i64 a1_7, .int .i64 a1_8, .int .i64 a1_9, .int .i64 a1_10, .int .i64 a1_11, .int .i64 a1_12]] rfl Gv.lm ?_; (with_reducible refine (laws_eqPrefix.calls a0_7 a0_8 a0_9 a0_10 a0_11 a0_12 a1_7 a1_8 a1_9 a1_10 a1_11 a1_12 true _ A6.out).mono ?_); rintro e w24 ⟨rfl, hb⟩; refine ⟨_, rfl, ?_⟩; have n0_ := Gv.a0 (Gv.bb BK158.out hb); have n1_ := Gv.a0 (Gv.bb BK159.out hb); have n2_ := Gv.a0 (below_step Gv.bw hb); clear BK158; clear BK159; clear HB; have BK158 := n0_; have BK159 := n1_; have HB := n2_; clear n0_ n1_ n2_; (try clear hb); (try clear hb2); (try clear hk); (try clear hi); obtain ⟨hcz25_0, hcz25_1, hcz25_2, hcz25_3, hcz25_4, hcz25_5, hcz25_6, hcz25_7, hcz25_8, hcz25_9, hcz25_10, hcz25_11, hcz25_12, hcz25_13, hcz25_14, hcz25_15, hcz25_16, hcz25_17, hcz25_18, hcz25_19, hcz25_20⟩ := Gv.c21 BK158.out; obtain ⟨hcz26_0, hcz26_1, hcz26_2, hcz26_3, hcz26_4, hcz26_5, hcz26_6, hcz26_7, hcz26_8, hcz26_9, hcz26_10, hcz26_11, hcz26_12, hcz26_13, hcz26_14, hcz26_15, hcz26_16, hcz26_17, hcz26_18, hcz26_19, hcz26_20⟩ := Gv.c21 BK159.out) | ((with_reducible refine Gv.gate_load (t := 55) rfl ?_); (try (refine gate_guard (by rfl) ?_; dsimp only)); refine wpList_load_row rfl 55 _ rfl gb158 rfl 55 _ _ _ (by first | exact Gv.kb0 BK158.out | exact Gv.kb1 (Gv.kb0 BK158.out)) Try.underlying55 rfl (by kernel_rfl) ?_) | ((with_reducible refine Gv.gate_load (t := 55) rfl ?_); (try (refine gate_guard (by rfl) ?_; dsimp only)); refine wpList_load_row rfl 55 _ rfl gb159 rfl 55 _ _ _ (by first | exact Gv.kb0 BK159.out | exact Gv.kb1 (Gv.kb0 BK159.out)) Try.underlying55 rfl (by kernel_rfl) ?_))
            go_ret
            exact ⟨Gv.rt, Gv.bw⟩
           ·rw [if_neg c15] at H
            exact absurd H (by simp)
          ·rw [if_neg c14] at H
           exact absurd H (by simp)
         ·rw [if_neg c13] at H
          exact absurd H (by simp)
        ·rw [if_neg c12] at H
         exact absurd H (by simp)
       ·rw [if_neg c11] at H
        exact absurd H (by simp)
      ·rw [if_neg c10] at H
       exact absurd H (by simp)
     ·rw [if_neg c9] at H
      exact absurd H (by simp)
    ·rw [if_neg c8] at H
     exact absurd H (by simp)
   ·replace c7 := Bool.eq_false_iff.mpr c7
    subst c7
    have H1 : (none) = some r := by rw [if_neg (show ¬ (false = true) by decide)] at H; exact H
    clear H
    have H := H1
    clear H1
    exact absurd H (by simp)
  ·replace c5 := Bool.eq_false_iff.mpr c5
   subst c5
   have H1 : (none) = some r := by rw [if_neg (show ¬ (false = true) by decide)] at H; exact H
   clear H
   have H := H1
   clear H1
   exact absurd H (by simp)
 ·rw [if_neg c3] at H
  exact absurd H (by simp)

/-! ### laws_eqRuleS: function 12 -/
def laws_eqRuleS.l0 : Nat → List (S55) → List (S55) → Int → Option (Bool)
 | 0, _, _, _ => none
 | k + 1, x0, x1, x5 => if x5 < (x0.length : Int) then (if 0 ≤ x5 then (if x5 < (x1.length : Int) then ((laws_eqRule.f ((rd_T55 x0 x5).f0) ((rd_T55 x0 x5).f1.f0.f0) ((rd_T55 x0 x5).f1.f0.f1) ((rd_T55 x0 x5).f1.f0.f2) ((rd_T55 x0 x5).f1.f0.f3) ((rd_T55 x0 x5).f1.f0.f4) ((rd_T55 x0 x5).f1.f1) ((rd_T55 x0 x5).f2.f0.f0) ((rd_T55 x0 x5).f2.f0.f1) ((rd_T55 x0 x5).f2.f0.f2) ((rd_T55 x0 x5).f2.f0.f3) ((rd_T55 x0 x5).f2.f0.f4) ((rd_T55 x0 x5).f2.f1) ((rd_T55 x0 x5).f3) ((rd_T55 x0 x5).f4) ((rd_T55 x0 x5).f5) ((rd_T55 x0 x5).f6) ((rd_T55 x0 x5).f7) ((rd_T55 x0 x5).f8) ((rd_T55 x0 x5).f9) ((rd_T55 x0 x5).f10) ((rd_T55 x1 x5).f0) ((rd_T55 x1 x5).f1.f0.f0) ((rd_T55 x1 x5).f1.f0.f1) ((rd_T55 x1 x5).f1.f0.f2) ((rd_T55 x1 x5).f1.f0.f3) ((rd_T55 x1 x5).f1.f0.f4) ((rd_T55 x1 x5).f1.f1) ((rd_T55 x1 x5).f2.f0.f0) ((rd_T55 x1 x5).f2.f0.f1) ((rd_T55 x1 x5).f2.f0.f2) ((rd_T55 x1 x5).f2.f0.f3) ((rd_T55 x1 x5).f2.f0.f4) ((rd_T55 x1 x5).f2.f1) ((rd_T55 x1 x5).f3) ((rd_T55 x1 x5).f4) ((rd_T55 x1 x5).f5) ((rd_T55 x1 x5).f6) ((rd_T55 x1 x5).f7) ((rd_T55 x1 x5).f8) ((rd_T55 x1 x5).f9) ((rd_T55 x1 x5).f10)).bind fun t164 => (if t164 = true then (laws_eqRuleS.l0 k x0 x1 (wrap64 (x5 + 1))) else (none))) else (none)) else (none)) else (some true)
def laws_eqRuleS.f (k : Nat) (l0 : List (S55)) (l1 : List (S55)) : Option (Bool) := if (l0.length : Int) = (l1.length : Int) then (laws_eqRuleS.l0 k l0 l1 0) else (none)
theorem laws_eqRuleS.mono_l : ∀ k, (∀ y0 y1 y2, LeO (laws_eqRuleS.l0 k y0 y1 y2) (laws_eqRuleS.l0 (k + 1) y0 y1 y2))
 | 0 => fun _ _ _ r h => by simp [laws_eqRuleS.l0] at h
 | k + 1 => by
  have ih0 := laws_eqRuleS.mono_l k
  ·intro y0 y1 y2
   unfold laws_eqRuleS.l0
   repeat' first
   | (with_reducible exact ih0 _ _ _)
   | (with_reducible exact LeO.refl _)
   | (with_reducible exact LeO.none _)
   | (with_reducible refine LeO.ite ?_ ?_)
   | (with_reducible refine LeO.bind ?_ (fun _ => ?_))
   | exact ih0 _ _ _
   | exact LeO.none _
   | refine LeO.ite ?_ ?_
   | refine LeO.bind ?_ (fun _ => ?_)
theorem laws_eqRuleS.mono : ∀ a0 a1 k, LeO (laws_eqRuleS.f k a0 a1) (laws_eqRuleS.f (k + 1) a0 a1) := by
 intro a0 a1 k
 have ih0 := laws_eqRuleS.mono_l k
 unfold laws_eqRuleS.f
 repeat' first
   | (with_reducible exact ih0 _ _ _)
   | (with_reducible exact LeO.refl _)
   | (with_reducible exact LeO.none _)
   | (with_reducible refine LeO.ite ?_ ?_)
   | (with_reducible refine LeO.bind ?_ (fun _ => ?_))
   | exact ih0 _ _ _
   | exact LeO.none _
   | refine LeO.ite ?_ ?_
   | refine LeO.bind ?_ (fun _ => ?_)
def laws_eqRuleS.T6 : Bool × List (List Nat × List Nat) := (true, [([], []), ([], []), ([0, 1], [0, 1]), ([2], [2]), ([], []), ([], []), ([4, 5], [4, 5]), ([6], [6]), ([3, 7], [3, 7]), ([8], [8])])
def laws_eqRuleS.B6 : List Nat := [0, 0, 3, 7, 0, 0, 48, 112, 255, 511]
theorem laws_eqRuleS.tab6 : rtab .any (opsOf Try.f12 6) = laws_eqRuleS.T6 := by kernel_rfl
theorem laws_eqRuleS.bits6 : waitsOk laws_eqRuleS.T6.2 laws_eqRuleS.B6 = true := by kernel_rfl
set_option maxHeartbeats 8000000 in
set_option maxRecDepth 100000 in
theorem laws_eqRuleS.calls (k : Nat) (A0 : Option Addr) (c0 : Nat) (l0 : List (S55)) (A1 : Option Addr) (c1 : Nat) (l1 : List (S55)) (r : Bool) (w : World) (hr0 : Kd.C k55 w A0 l0.length l0) (hc0 : l0.length ≤ c0) (hr1 : Kd.C k55 w A1 l1.length l1) (hc1 : l1.length ≤ c1) (h : laws_eqRuleS.f k l0 l1 = some r) :
  Calls Try.prog 12 #[.slice A0 l0.length c0, .slice A1 l1.length c1] w fun e w' => e = .returned (.bool r) ∧ Below w.heap.size w w' := by
 have hu55 := Try.underlying55
 have HR0 := Gv.a0 hr0
 have HC0 := Gv.a0 hc0
 clear hr0 hc0
 have HR1 := Gv.a0 hr1
 have HC1 := Gv.a0 hc1
 clear hr1 hc1
 have HB := Gv.a0 (Below.refl w.heap.size w)
 have H : (if (l0.length : Int) = (l1.length : Int) then (laws_eqRuleS.l0 k l0 l1 0) else (none)) = some r := h
 clear h
 by_cases c3 : (l0.length : Int) = (l1.length : Int)
 ·rw [if_pos c3] at H
  have c3b0 : ((l0.length : Int) == (l1.length : Int)) = true := beq_iff_eq.mpr c3
  have c3b1 : ((l0.length : Int) != (l1.length : Int)) = false := bne_eq_false_iff_eq.mpr c3
  have c3b2 : (l0.length == l1.length) = true := by first | simpa using c3 | (simp at c3 ⊢; omega)
  clear c3
  have H' := Gv.a0 H
  clear H
  go_enter Try.func12, Try.ntmps12
  go_wp2
  go_loopg [5] k (fun kq v5 w' => ∃ (x5_1 : Int), v5 = .int .i64 x5_1 ∧ Aside0 (laws_eqRuleS.l0 kq l0 l1 x5_1 = some r) ∧ Aside0 (kq ≤ k) ∧ Aside0 (Below w.heap.size w w'))
  case atStart => exact ⟨(0), Gv.rq, H', ⟨Nat.le_refl _⟩, ⟨Gv.bw⟩⟩
  case round =>
   clear H'
   try clear c1
   try clear p2
   try clear c3
   try clear c3b0
   try clear c3b1
   try clear c3b2
   obtain ⟨x5_1, rfl, HA, HK1, HB⟩ := hrel
   cases gk with
   | zero => exact absurd HA.out (by simp [laws_eqRuleS.l0])
   | succ k1 =>
    have H := HA.out
    clear HA
    simp only [laws_eqRuleS.l0] at H
    by_cases c4 : x5_1 < (l0.length : Int)
    ·rw [if_pos c4] at H
     have c4b0 : decide (x5_1 < (l0.length : Int)) = true := decide_eq_true c4
     clear c4
     by_cases c5 : 0 ≤ x5_1
     ·rw [if_pos c5] at H
      have c5b0 : decide (0 ≤ x5_1) = true := decide_eq_true c5
      clear c5
      by_cases c6 : x5_1 < (l1.length : Int)
      ·rw [if_pos c6] at H
       have c6b0 : decide (x5_1 < (l1.length : Int)) = true := decide_eq_true c6
       clear c6
       replace H := Option.bind_eq_some_iff.mp H
       obtain ⟨t164, A70, H⟩ := H
       replace H : (if t164 = true then (laws_eqRuleS.l0 k1 l0 l1 (wrap64 (x5_1 + 1))) else (none)) = some r := H
       have A7 := Gv.a0 A70
       clear A70
       by_cases c8 : t164 = true
       ·subst c8
        have H1 : (laws_eqRuleS.l0 k1 l0 l1 (wrap64 (x5_1 + 1))) = some r := by rw [if_pos rfl] at H; exact H
        clear H
        have H := H1
        clear H1
        have H' := Gv.a0 H
        clear H
        try go_wp2
        have n0_ := Gv.a0 (below_drew1 HB.out)
        clear HB
        have HB := n0_
        clear n0_
        have p162 : 0 ≤ (x5_1 : Int) := of_decide_eq_true (by first | (with_reducible assumption) | assumption)
        have q162 : x5_1 < (l0.length : Int) := of_decide_eq_true (by first | (with_reducible assumption) | assumption)
        obtain ⟨ad162, e162, hx162_0, hx162_1, hx162_2, hx162_3, hx162_4, hx162_5, hx162_6, hx162_7, hx162_8, hx162_9, hx162_10, hx162_11, hx162_12, hx162_13, hx162_14, hx162_15, hx162_16, hx162_17, hx162_18, hx162_19, hx162_20⟩ := at_T55 HR0.out x5_1 p162 q162
        have hw162_20 := hx162_20
        have hw162_19 := hx162_19
        have hw162_18 := hx162_18
        have hw162_17 := hx162_17
        have hw162_16 := hx162_16
        have hw162_15 := hx162_15
        have hw162_14 := hx162_14
        have hw162_13 := hx162_13
        have hw162_12 := hx162_12
        have hw162_11 := hx162_11
        have hw162_10 := hx162_10
        have hw162_9 := hx162_9
        have hw162_8 := hx162_8
        have hw162_7 := hx162_7
        have hw162_6 := hx162_6
        have hw162_5 := hx162_5
        have hw162_4 := hx162_4
        have hw162_3 := hx162_3
        have hw162_2 := hx162_2
        have hw162_1 := hx162_1
        have hw162_0 := hx162_0
        cases e162
        replace hx162_0 := Gv.bx HB.out hx162_0
        replace hx162_1 := Gv.bx HB.out hx162_1
        replace hx162_2 := Gv.bx HB.out hx162_2
        replace hx162_3 := Gv.bx HB.out hx162_3
        replace hx162_4 := Gv.bx HB.out hx162_4
        replace hx162_5 := Gv.bx HB.out hx162_5
        replace hx162_6 := Gv.bx HB.out hx162_6
        replace hx162_7 := Gv.bx HB.out hx162_7
        replace hx162_8 := Gv.bx HB.out hx162_8
        replace hx162_9 := Gv.bx HB.out hx162_9
        replace hx162_10 := Gv.bx HB.out hx162_10
        replace hx162_11 := Gv.bx HB.out hx162_11
        replace hx162_12 := Gv.bx HB.out hx162_12
        replace hx162_13 := Gv.bx HB.out hx162_13
        replace hx162_14 := Gv.bx HB.out hx162_14
        replace hx162_15 := Gv.bx HB.out hx162_15
        replace hx162_16 := Gv.bx HB.out hx162_16
        replace hx162_17 := Gv.bx HB.out hx162_17
        replace hx162_18 := Gv.bx HB.out hx162_18
        replace hx162_19 := Gv.bx HB.out hx162_19
        replace hx162_20 := Gv.bx HB.out hx162_20
        replace p162 := eq_true p162
        replace q162 := eq_true q162
        have p163 : 0 ≤ (x5_1 : Int) := of_decide_eq_true (by first | (with_reducible assumption) | assumption)
        have q163 : x5_1 < (l1.length : Int) := of_decide_eq_true (by first | (with_reducible assumption) | assumption)
        obtain ⟨ad163, e163, hx163_0, hx163_1, hx163_2, hx163_3, hx163_4, hx163_5, hx163_6, hx163_7, hx163_8, hx163_9, hx163_10, hx163_11, hx163_12, hx163_13, hx163_14, hx163_15, hx163_16, hx163_17, hx163_18, hx163_19, hx163_20⟩ := at_T55 HR1.out x5_1 p163 q163
        have hw163_20 := hx163_20
        have hw163_19 := hx163_19
        have hw163_18 := hx163_18
        have hw163_17 := hx163_17
        have hw163_16 := hx163_16
        have hw163_15 := hx163_15
        have hw163_14 := hx163_14
        have hw163_13 := hx163_13
        have hw163_12 := hx163_12
        have hw163_11 := hx163_11
        have hw163_10 := hx163_10
        have hw163_9 := hx163_9
        have hw163_8 := hx163_8
        have hw163_7 := hx163_7
        have hw163_6 := hx163_6
        have hw163_5 := hx163_5
        have hw163_4 := hx163_4
        have hw163_3 := hx163_3
        have hw163_2 := hx163_2
        have hw163_1 := hx163_1
        have hw163_0 := hx163_0
        cases e163
        replace hx163_0 := Gv.bx HB.out hx163_0
        replace hx163_1 := Gv.bx HB.out hx163_1
        replace hx163_2 := Gv.bx HB.out hx163_2
        replace hx163_3 := Gv.bx HB.out hx163_3
        replace hx163_4 := Gv.bx HB.out hx163_4
        replace hx163_5 := Gv.bx HB.out hx163_5
        replace hx163_6 := Gv.bx HB.out hx163_6
        replace hx163_7 := Gv.bx HB.out hx163_7
        replace hx163_8 := Gv.bx HB.out hx163_8
        replace hx163_9 := Gv.bx HB.out hx163_9
        replace hx163_10 := Gv.bx HB.out hx163_10
        replace hx163_11 := Gv.bx HB.out hx163_11
        replace hx163_12 := Gv.bx HB.out hx163_12
        replace hx163_13 := Gv.bx HB.out hx163_13
        replace hx163_14 := Gv.bx HB.out hx163_14
        replace hx163_15 := Gv.bx HB.out hx163_15
        replace hx163_16 := Gv.bx HB.out hx163_16
        replace hx163_17 := Gv.bx HB.out hx163_17
        replace hx163_18 := Gv.bx HB.out hx163_18
        replace hx163_19 := Gv.bx HB.out hx163_19
        replace hx163_20 := Gv.bx HB.out hx163_20
        replace p163 := eq_true p163
        replace q163 := eq_true q163
        refine start_ (n := 10) (S := fun w' => w'.cell? (ad162.add ((x5_1).toNat * 21)) = some (.int .i64 ((rd_T55 l0 x5_1).f0)) ∧ w'.cell? ⟨(ad162.add ((x5_1).toNat * 21)).block, (ad162.add ((x5_1).toNat * 21)).off + 1, none⟩ = some (.int .i64 ((rd_T55 l0 x5_1).f1.f0.f0)) ∧ w'.cell? ⟨(ad162.add ((x5_1).toNat * 21)).block, (ad162.add ((x5_1).toNat * 21)).off + 2, none⟩ = some (.int .i64 ((rd_T55 l0 x5_1).f1.f0.f1)) ∧ w'.cell? ⟨(ad162.add ((x5_1).toNat * 21)).block, (ad162.add ((x5_1).toNat * 21)).off + 3, none⟩ = some (.int .i64 ((rd_T55 l0 x5_1).f1.f0.f2)) ∧ w'.cell? ⟨(ad162.add ((x5_1).toNat * 21)).block, (ad162.add ((x5_1).toNat * 21)).off + 4, none⟩ = some (.int .i64 ((rd_T55 l0 x5_1).f1.f0.f3)) ∧ w'.cell? ⟨(ad162.add ((x5_1).toNat * 21)).block, (ad162.add ((x5_1).toNat * 21)).off + 5, none⟩ = some (.int .i64 ((rd_T55 l0 x5_1).f1.f0.f4)) ∧ w'.cell? ⟨(ad162.add ((x5_1).toNat * 21)).block, (ad162.add ((x5_1).toNat * 21)).off + 6, none⟩ = some (.int .i64 ((rd_T55 l0 x5_1).f1.f1)) ∧ w'.cell? ⟨(ad162.add ((x5_1).toNat * 21)).block, (ad162.add ((x5_1).toNat * 21)).off + 7, none⟩ = some (.int .i64 ((rd_T55 l0 x5_1).f2.f0.f0)) ∧ w'.cell? ⟨(ad162.add ((x5_1).toNat * 21)).block, (ad162.add ((x5_1).toNat * 21)).off + 8, none⟩ = some (.int .i64 ((rd_T55 l0 x5_1).f2.f0.f1)) ∧ w'.cell? ⟨(ad162.add ((x5_1).toNat * 21)).block, (ad162.add ((x5_1).toNat * 21)).off + 9, none⟩ = some (.int .i64 ((rd_T55 l0 x5_1).f2.f0.f2)) ∧ w'.cell? ⟨(ad162.add ((x5_1).toNat * 21)).block, (ad162.add ((x5_1).toNat * 21)).off + 10, none⟩ = some (.int .i64 ((rd_T55 l0 x5_1).f2.f0.f3)) ∧ w'.cell? ⟨(ad162.add ((x5_1).toNat * 21)).block, (ad162.add ((x5_1).toNat * 21)).off + 11, none⟩ = some (.int .i64 ((rd_T55 l0 x5_1).f2.f0.f4)) ∧ w'.cell? ⟨(ad162.add ((x5_1).toNat * 21)).block, (ad162.add ((x5_1).toNat * 21)).off + 12, none⟩ = some (.int .i64 ((rd_T55 l0 x5_1).f2.f1)) ∧ w'.cell? ⟨(ad162.add ((x5_1).toNat * 21)).block, (ad162.add ((x5_1).toNat * 21)).off + 13, none⟩ = some (.int .i64 ((rd_T55 l0 x5_1).f3)) ∧ w'.cell? ⟨(ad162.add ((x5_1).toNat * 21)).block, (ad162.add ((x5_1).toNat * 21)).off + 14, none⟩ = some (.int .i64 ((rd_T55 l0 x5_1).f4)) ∧ w'.cell? ⟨(ad162.add ((x5_1).toNat * 21)).block, (ad162.add ((x5_1).toNat * 21)).off + 15, none⟩ = some (.int .i64 ((rd_T55 l0 x5_1).f5)) ∧ w'.cell? ⟨(ad162.add ((x5_1).toNat * 21)).block, (ad162.add ((x5_1).toNat * 21)).off + 16, none⟩ = some (.int .i64 ((rd_T55 l0 x5_1).f6)) ∧ w'.cell? ⟨(ad162.add ((x5_1).toNat * 21)).block, (ad162.add ((x5_1).toNat * 21)).off + 17, none⟩ = some (.int .i64 ((rd_T55 l0 x5_1).f7)) ∧ w'.cell? ⟨(ad162.add ((x5_1).toNat * 21)).block, (ad162.add ((x5_1).toNat * 21)).off + 18, none⟩ = some (.int .i64 ((rd_T55 l0 x5_1).f8)) ∧ w'.cell? ⟨(ad162.add ((x5_1).toNat * 21)).block, (ad162.add ((x5_1).toNat * 21)).off + 19, none⟩ = some (.int .i64 ((rd_T55 l0 x5_1).f9)) ∧ w'.cell? ⟨(ad162.add ((x5_1).toNat * 21)).block, (ad162.add ((x5_1).toNat * 21)).off + 20, none⟩ = some (.int .i64 ((rd_T55 l0 x5_1).f10)) ∧ w'.cell? (ad163.add ((x5_1).toNat * 21)) = some (.int .i64 ((rd_T55 l1 x5_1).f0)) ∧ w'.cell? ⟨(ad163.add ((x5_1).toNat * 21)).block, (ad163.add ((x5_1).toNat * 21)).off + 1, none⟩ = some (.int .i64 ((rd_T55 l1 x5_1).f1.f0.f0)) ∧ w'.cell? ⟨(ad163.add ((x5_1).toNat * 21)).block, (ad163.add ((x5_1).toNat * 21)).off + 2, none⟩ = some (.int .i64 ((rd_T55 l1 x5_1).f1.f0.f1)) ∧ w'.cell? ⟨(ad163.add ((x5_1).toNat * 21)).block, (ad163.add ((x5_1).toNat * 21)).off + 3, none⟩ = some (.int .i64 ((rd_T55 l1 x5_1).f1.f0.f2)) ∧ w'.cell? ⟨(ad163.add ((x5_1).toNat * 21)).block, (ad163.add ((x5_1).toNat * 21)).off + 4, none⟩ = some (.int .i64 ((rd_T55 l1 x5_1).f1.f0.f3)) ∧ w'.cell? ⟨(ad163.add ((x5_1).toNat * 21)).block, (ad163.add ((x5_1).toNat * 21)).off + 5, none⟩ = some (.int .i64 ((rd_T55 l1 x5_1).f1.f0.f4)) ∧ w'.cell? ⟨(ad163.add ((x5_1).toNat * 21)).block, (ad163.add ((x5_1).toNat * 21)).off + 6, none⟩ = some (.int .i64 ((rd_T55 l1 x5_1).f1.f1)) ∧ w'.cell? ⟨(ad163.add ((x5_1).toNat * 21)).block, (ad163.add ((x5_1).toNat * 21)).off + 7, none⟩ = some (.int .i64 ((rd_T55 l1 x5_1).f2.f0.f0)) ∧ w'.cell? ⟨(ad163.add ((x5_1).toNat * 21)).block, (ad163.add ((x5_1).toNat * 21)).off + 8, none⟩ = some (.int .i64 ((rd_T55 l1 x5_1).f2.f0.f1)) ∧ w'.cell? ⟨(ad163.add ((x5_1).toNat * 21)).block, (ad163.add ((x5_1).toNat * 21)).off + 9, none⟩ = some (.int .i64 ((rd_T55 l1 x5_1).f2.f0.f2)) ∧ w'.cell? ⟨(ad163.add ((x5_1).toNat * 21)).block, (ad163.add ((x5_1).toNat * 21)).off + 10, none⟩ = some (.int .i64 ((rd_T55 l1 x5_1).f2.f0.f3)) ∧ w'.cell? ⟨(ad163.add ((x5_1).toNat * 21)).block, (ad163.add ((x5_1).toNat * 21)).off + 11, none⟩ = some (.int .i64 ((rd_T55 l1 x5_1).f2.f0.f4)) ∧ w'.cell? ⟨(ad163.add ((x5_1).toNat * 21)).block, (ad163.add ((x5_1).toNat * 21)).off + 12, none⟩ = some (.int .i64 ((rd_T55 l1 x5_1).f2.f1)) ∧ w'.cell? ⟨(ad163.add ((x5_1).toNat * 21)).block, (ad163.add ((x5_1).toNat * 21)).off + 13, none⟩ = some (.int .i64 ((rd_T55 l1 x5_1).f3)) ∧ w'.cell? ⟨(ad163.add ((x5_1).toNat * 21)).block, (ad163.add ((x5_1).toNat * 21)).off + 14, none⟩ = some (.int .i64 ((rd_T55 l1 x5_1).f4)) ∧ w'.cell? ⟨(ad163.add ((x5_1).toNat * 21)).block, (ad163.add ((x5_1).toNat * 21)).off + 15, none⟩ = some (.int .i64 ((rd_T55 l1 x5_1).f5)) ∧ w'.cell? ⟨(ad163.add ((x5_1).toNat * 21)).block, (ad163.add ((x5_1).toNat * 21)).off + 16, none⟩ = some (.int .i64 ((rd_T55 l1 x5_1).f6)) ∧ w'.cell? ⟨(ad163.add ((x5_1).toNat * 21)).block, (ad163.add ((x5_1).toNat * 21)).off + 17, none⟩ = some (.int .i64 ((rd_T55 l1 x5_1).f7)) ∧ w'.cell? ⟨(ad163.add ((x5_1).toNat * 21)).block, (ad163.add ((x5_1).toNat * 21)).off + 18, none⟩ = some (.int .i64 ((rd_T55 l1 x5_1).f8)) ∧ w'.cell? ⟨(ad163.add ((x5_1).toNat * 21)).block, (ad163.add ((x5_1).toNat * 21)).off + 19, none⟩ = some (.int .i64 ((rd_T55 l1 x5_1).f9)) ∧ w'.cell? ⟨(ad163.add ((x5_1).toNat * 21)).block, (ad163.add ((x5_1).toNat * 21)).off + 20, none⟩ = some (.int .i64 ((rd_T55 l1 x5_1).f10))) (ds := []) #[false, false, false, false, false, false, false, false, false, false] (by kernel_rfl) rfl rfl ⟨(Gv.bx HB.out hw162_0), (Gv.bx HB.out hw162_1), (Gv.bx HB.out hw162_2), (Gv.bx HB.out hw162_3), (Gv.bx HB.out hw162_4), (Gv.bx HB.out hw162_5), (Gv.bx HB.out hw162_6), (Gv.bx HB.out hw162_7), (Gv.bx HB.out hw162_8), (Gv.bx HB.out hw162_9), (Gv.bx HB.out hw162_10), (Gv.bx HB.out hw162_11), (Gv.bx HB.out hw162_12), (Gv.bx HB.out hw162_13), (Gv.bx HB.out hw162_14), (Gv.bx HB.out hw162_15), (Gv.bx HB.out hw162_16), (Gv.bx HB.out hw162_17), (Gv.bx HB.out hw162_18), (Gv.bx HB.out hw162_19), (Gv.bx HB.out hw162_20), (Gv.bx HB.out hw163_0), (Gv.bx HB.out hw163_1), (Gv.bx HB.out hw163_2), (Gv.bx HB.out hw163_3), (Gv.bx HB.out hw163_4), (Gv.bx HB.out hw163_5), (Gv.bx HB.out hw163_6), (Gv.bx HB.out hw163_7), (Gv.bx HB.out hw163_8), (Gv.bx HB.out hw163_9), (Gv.bx HB.out hw163_10), (Gv.bx HB.out hw163_11), (Gv.bx HB.out hw163_12), (Gv.bx HB.out hw163_13), (Gv.bx HB.out hw163_14), (Gv.bx HB.out hw163_15), (Gv.bx HB.out hw163_16), (Gv.bx HB.out hw163_17), (Gv.bx HB.out hw163_18), (Gv.bx HB.out hw163_19), (Gv.bx HB.out hw163_20)⟩ (fun hHeld => ?_); refine with_tabW laws_eqRuleS.tab6 laws_eqRuleS.bits6 (fun HT_ HW_ => ?_)
        generalize wr.drew = w9 at HB hx162_0 hx162_1 hx162_10 hx162_11 hx162_12 hx162_13 hx162_14 hx162_15 hx162_16 hx162_17 hx162_18 hx162_19 hx162_2 hx162_20 hx162_3 hx162_4 hx162_5 hx162_6 hx162_7 hx162_8 hx162_9 hx163_0 hx163_1 hx163_10 hx163_11 hx163_12 hx163_13 hx163_14 hx163_15 hx163_16 hx163_17 hx163_18 hx163_19 hx163_2 hx163_20 hx163_3 hx163_4 hx163_5 hx163_6 hx163_7 hx163_8 hx163_9 hHeld ⊢
        refine Gv.pu 0 (some 17) HT_ ?_
        refine Gv.pu 1 (some 18) HT_ ?_
        refine Gv.pu 2 (some 19) HT_ ?_
        refine Gv.pu 4 (some 21) HT_ ?_
        refine Gv.pu 5 (some 22) HT_ ?_
        refine Gv.pu 6 (some 23) HT_ ?_
        refine take_ (i := 3) (N := some 20) (v := ?_) (a' := ?_) #[true, true, true, true, true, true, true, false, false, false] rfl rfl (take_ofW HT_.out HW_.out (by kernel_rfl)) (fun _ _ _ h => h) (Or.inl ⟨by rfl, ?_⟩) hHeld ?_ ?_
        rotate_left
        ·rintro w' ⟨s0, s1, s2, s3, s4, s5, s6, s7, s8, s9, s10, s11, s12, s13, s14, s15, s16, s17, s18, s19, s20, s21, s22, s23, s24, s25, s26, s27, s28, s29, s30, s31, s32, s33, s34, s35, s36, s37, s38, s39, s40, s41⟩
         first | ((refine Gv.load_run (t := 55) (A := ad162.add ((x5_1).toNat * 21)) (cs := [_, _, _, _, _, _, _, _, _, _, _, _, _, _, _, _, _, _, _, _, _]) (x := ?xx1_) ?ho1_ ?hx1_ ⟨s0, s1, s2, s3, s4, s5, s6, s7, s8, s9, s10, s11, s12, s13, s14, s15, s16, s17, s18, s19, s20, trivial⟩ Try.underlying55 rfl (by kernel_rfl)); (case ho1_ => rfl); (case hx1_ => rfl)) | ((refine Gv.load_run (t := 55) (A := ad163.add ((x5_1).toNat * 21)) (cs := [_, _, _, _, _, _, _, _, _, _, _, _, _, _, _, _, _, _, _, _, _]) (x := ?xx2_) ?ho2_ ?hx2_ ⟨s21, s22, s23, s24, s25, s26, s27, s28, s29, s30, s31, s32, s33, s34, s35, s36, s37, s38, s39, s40, s41, trivial⟩ Try.underlying55 rfl (by kernel_rfl)); (case ho2_ => rfl); (case hx2_ => rfl)) | (go_simp; with_reducible rfl)
        rotate_left
        ·simp only [Act.put, List.setIfInBounds_toArray, List.set_cons_zero, List.set_cons_succ, i64_w, i32_w]
         rfl
        refine take_ (i := 7) (N := some 24) (v := ?_) (a' := ?_) #[true, true, true, true, true, true, true, true, false, false] rfl rfl (take_ofW HT_.out HW_.out (by kernel_rfl)) (fun _ _ _ h => h) (Or.inl ⟨by rfl, ?_⟩) hHeld ?_ ?_
        rotate_left
        ·rintro w' ⟨s0, s1, s2, s3, s4, s5, s6, s7, s8, s9, s10, s11, s12, s13, s14, s15, s16, s17, s18, s19, s20, s21, s22, s23, s24, s25, s26, s27, s28, s29, s30, s31, s32, s33, s34, s35, s36, s37, s38, s39, s40, s41⟩
         first | ((refine Gv.load_run (t := 55) (A := ad162.add ((x5_1).toNat * 21)) (cs := [_, _, _, _, _, _, _, _, _, _, _, _, _, _, _, _, _, _, _, _, _]) (x := ?xx4_) ?ho4_ ?hx4_ ⟨s0, s1, s2, s3, s4, s5, s6, s7, s8, s9, s10, s11, s12, s13, s14, s15, s16, s17, s18, s19, s20, trivial⟩ Try.underlying55 rfl (by kernel_rfl)); (case ho4_ => rfl); (case hx4_ => rfl)) | ((refine Gv.load_run (t := 55) (A := ad163.add ((x5_1).toNat * 21)) (cs := [_, _, _, _, _, _, _, _, _, _, _, _, _, _, _, _, _, _, _, _, _]) (x := ?xx5_) ?ho5_ ?hx5_ ⟨s21, s22, s23, s24, s25, s26, s27, s28, s29, s30, s31, s32, s33, s34, s35, s36, s37, s38, s39, s40, s41, trivial⟩ Try.underlying55 rfl (by kernel_rfl)); (case ho5_ => rfl); (case hx5_ => rfl)) | (go_simp; with_reducible rfl)
        rotate_left
        ·simp only [Act.put, List.setIfInBounds_toArray, List.set_cons_zero, List.set_cons_succ, i64_w, i32_w]
         rfl
        refine one_ (i := 8) (N := some 25) #[true, true, true, true, true, true, true, true, true, false] rfl rfl (one_of HT_.out (by kernel_rfl)) (by decide) (fun K hK => ?_)
        refine goes_ Try.func30 (by kernel_rfl) rfl #[.agg #[.int .i64 ((rd_T55 l0 x5_1).f0), .int .i64 ((rd_T55 l0 x5_1).f1.f0.f0), .int .i64 ((rd_T55 l0 x5_1).f1.f0.f1), .int .i64 ((rd_T55 l0 x5_1).f1.f0.f2), .int .i64 ((rd_T55 l0 x5_1).f1.f0.f3), .int .i64 ((rd_T55 l0 x5_1).f1.f0.f4), .int .i64 ((rd_T55 l0 x5_1).f1.f1), .int .i64 ((rd_T55 l0 x5_1).f2.f0.f0), .int .i64 ((rd_T55 l0 x5_1).f2.f0.f1), .int .i64 ((rd_T55 l0 x5_1).f2.f0.f2), .int .i64 ((rd_T55 l0 x5_1).f2.f0.f3), .int .i64 ((rd_T55 l0 x5_1).f2.f0.f4), .int .i64 ((rd_T55 l0 x5_1).f2.f1), .int .i64 ((rd_T55 l0 x5_1).f3), .int .i64 ((rd_T55 l0 x5_1).f4), .int .i64 ((rd_T55 l0 x5_1).f5), .int .i64 ((rd_T55 l0 x5_1).f6), .int .i64 ((rd_T55 l0 x5_1).f7), .int .i64 ((rd_T55 l0 x5_1).f8), .int .i64 ((rd_T55 l0 x5_1).f9), .int .i64 ((rd_T55 l0 x5_1).f10)], .agg #[.int .i64 ((rd_T55 l1 x5_1).f0), .int .i64 ((rd_T55 l1 x5_1).f1.f0.f0), .int .i64 ((rd_T55 l1 x5_1).f1.f0.f1), .int .i64 ((rd_T55 l1 x5_1).f1.f0.f2), .int .i64 ((rd_T55 l1 x5_1).f1.f0.f3), .int .i64 ((rd_T55 l1 x5_1).f1.f0.f4), .int .i64 ((rd_T55 l1 x5_1).f1.f1), .int .i64 ((rd_T55 l1 x5_1).f2.f0.f0), .int .i64 ((rd_T55 l1 x5_1).f2.f0.f1), .int .i64 ((rd_T55 l1 x5_1).f2.f0.f2), .int .i64 ((rd_T55 l1 x5_1).f2.f0.f3), .int .i64 ((rd_T55 l1 x5_1).f2.f0.f4), .int .i64 ((rd_T55 l1 x5_1).f2.f1), .int .i64 ((rd_T55 l1 x5_1).f3), .int .i64 ((rd_T55 l1 x5_1).f4), .int .i64 ((rd_T55 l1 x5_1).f5), .int .i64 ((rd_T55 l1 x5_1).f6), .int .i64 ((rd_T55 l1 x5_1).f7), .int .i64 ((rd_T55 l1 x5_1).f8), .int .i64 ((rd_T55 l1 x5_1).f9), .int .i64 ((rd_T55 l1 x5_1).f10)]] (by rfl) rfl rfl Gv.lm ?_
        with_reducible refine (laws_eqRule.calls ((rd_T55 l0 x5_1).f0) ((rd_T55 l0 x5_1).f1.f0.f0) ((rd_T55 l0 x5_1).f1.f0.f1) ((rd_T55 l0 x5_1).f1.f0.f2) ((rd_T55 l0 x5_1).f1.f0.f3) ((rd_T55 l0 x5_1).f1.f0.f4) ((rd_T55 l0 x5_1).f1.f1) ((rd_T55 l0 x5_1).f2.f0.f0) ((rd_T55 l0 x5_1).f2.f0.f1) ((rd_T55 l0 x5_1).f2.f0.f2) ((rd_T55 l0 x5_1).f2.f0.f3) ((rd_T55 l0 x5_1).f2.f0.f4) ((rd_T55 l0 x5_1).f2.f1) ((rd_T55 l0 x5_1).f3) ((rd_T55 l0 x5_1).f4) ((rd_T55 l0 x5_1).f5) ((rd_T55 l0 x5_1).f6) ((rd_T55 l0 x5_1).f7) ((rd_T55 l0 x5_1).f8) ((rd_T55 l0 x5_1).f9) ((rd_T55 l0 x5_1).f10) ((rd_T55 l1 x5_1).f0) ((rd_T55 l1 x5_1).f1.f0.f0) ((rd_T55 l1 x5_1).f1.f0.f1) ((rd_T55 l1 x5_1).f1.f0.f2) ((rd_T55 l1 x5_1).f1.f0.f3) ((rd_T55 l1 x5_1).f1.f0.f4) ((rd_T55 l1 x5_1).f1.f1) ((rd_T55 l1 x5_1).f2.f0.f0) ((rd_T55 l1 x5_1).f2.f0.f1) ((rd_T55 l1 x5_1).f2.f0.f2) ((rd_T55 l1 x5_1).f2.f0.f3) ((rd_T55 l1 x5_1).f2.f0.f4) ((rd_T55 l1 x5_1).f2.f1) ((rd_T55 l1 x5_1).f3) ((rd_T55 l1 x5_1).f4) ((rd_T55 l1 x5_1).f5) ((rd_T55 l1 x5_1).f6) ((rd_T55 l1 x5_1).f7) ((rd_T55 l1 x5_1).f8) ((rd_T55 l1 x5_1).f9) ((rd_T55 l1 x5_1).f10) true _ A7.out).mono ?_
        rintro e w10 ⟨rfl, hb⟩
        refine ⟨_, rfl, ?_⟩
        have n0_ := Gv.a0 (below_step Gv.bw hb)
        clear HB
        have HB := n0_
        clear n0_
        (try clear hb)
        (try clear hb2)
        (try clear hk)
        (try clear hi)
        refine hK.out _ _ ⟨(Gv.bx HB.out hw162_0), (Gv.bx HB.out hw162_1), (Gv.bx HB.out hw162_2), (Gv.bx HB.out hw162_3), (Gv.bx HB.out hw162_4), (Gv.bx HB.out hw162_5), (Gv.bx HB.out hw162_6), (Gv.bx HB.out hw162_7), (Gv.bx HB.out hw162_8), (Gv.bx HB.out hw162_9), (Gv.bx HB.out hw162_10), (Gv.bx HB.out hw162_11), (Gv.bx HB.out hw162_12), (Gv.bx HB.out hw162_13), (Gv.bx HB.out hw162_14), (Gv.bx HB.out hw162_15), (Gv.bx HB.out hw162_16), (Gv.bx HB.out hw162_17), (Gv.bx HB.out hw162_18), (Gv.bx HB.out hw162_19), (Gv.bx HB.out hw162_20), (Gv.bx HB.out hw163_0), (Gv.bx HB.out hw163_1), (Gv.bx HB.out hw163_2), (Gv.bx HB.out hw163_3), (Gv.bx HB.out hw163_4), (Gv.bx HB.out hw163_5), (Gv.bx HB.out hw163_6), (Gv.bx HB.out hw163_7), (Gv.bx HB.out hw163_8), (Gv.bx HB.out hw163_9), (Gv.bx HB.out hw163_10), (Gv.bx HB.out hw163_11), (Gv.bx HB.out hw163_12), (Gv.bx HB.out hw163_13), (Gv.bx HB.out hw163_14), (Gv.bx HB.out hw163_15), (Gv.bx HB.out hw163_16), (Gv.bx HB.out hw163_17), (Gv.bx HB.out hw163_18), (Gv.bx HB.out hw163_19), (Gv.bx HB.out hw163_20)⟩ (fun hHeld => ?_)
        clear hK K
        refine norm_ (a' := ?_) ?_ ?_
        rotate_left
        ·show Act.put _ (some 25) _ = _
         simp only [Act.put, List.setIfInBounds_toArray, List.set_cons_zero, List.set_cons_succ, i64_w, i32_w]
         rfl
        refine Gv.pu 9 (some 26) HT_ ?_
        refine done_ (done_of HT_.out (by kernel_rfl)) ?_
        try go_wp2
        go_roundg k1
        case measure => have := HK1.out; omega
        case rel => exact ⟨(wrap64 (x5_1 + 1)), Gv.rq, H', ⟨by have := HK1.out; omega⟩, ⟨Gv.bw⟩⟩
       ·replace c8 := Bool.eq_false_iff.mpr c8
        subst c8
        have H1 : (none) = some r := by rw [if_neg (show ¬ (false = true) by decide)] at H; exact H
        clear H
        have H := H1
        clear H1
        exact absurd H (by simp)
      ·rw [if_neg c6] at H
       exact absurd H (by simp)
     ·rw [if_neg c5] at H
      exact absurd H (by simp)
    ·rw [if_neg c4] at H
     have c4b0 : decide (x5_1 < (l0.length : Int)) = false := decide_eq_false c4
     clear c4
     obtain rfl := Option.some.inj H
     go_wp2
     go_ret
     exact ⟨Gv.rt, Gv.bw⟩
 ·rw [if_neg c3] at H
  exact absurd H (by simp)

/-! ### laws_markRuleS: function 19 -/
def laws_markRuleS.f (l0 : List (S55)) (a1 : Int) : Option (Int × (List (S55))) := some (Gv.stepN (Gv.stepN Gv.nx 21) l0.length a1, Gv.mkL (fun a : Int => (⟨(Gv.stepN Gv.nx 0 a), (⟨(⟨(Gv.stepN Gv.nx 1 a), (Gv.stepN Gv.nx 2 a), (Gv.stepN Gv.nx 3 a), (Gv.stepN Gv.nx 4 a), (Gv.stepN Gv.nx 5 a)⟩ : S34), (Gv.stepN Gv.nx 6 a)⟩ : S53), (⟨(⟨(Gv.stepN Gv.nx 7 a), (Gv.stepN Gv.nx 8 a), (Gv.stepN Gv.nx 9 a), (Gv.stepN Gv.nx 10 a), (Gv.stepN Gv.nx 11 a)⟩ : S34), (Gv.stepN Gv.nx 12 a)⟩ : S53), (Gv.stepN Gv.nx 13 a), (Gv.stepN Gv.nx 14 a), (Gv.stepN Gv.nx 15 a), (Gv.stepN Gv.nx 16 a), (Gv.stepN Gv.nx 17 a), (Gv.stepN Gv.nx 18 a), (Gv.stepN Gv.nx 19 a), (Gv.stepN Gv.nx 20 a)⟩ : S55)) (Gv.stepN Gv.nx 21) l0.length a1)
set_option maxHeartbeats 8000000 in
set_option maxRecDepth 100000 in
theorem laws_markRuleS.calls (P0_ : Nat → Prop) (u9000_ : Value) (l0 : List (S55)) (a1 : Int) (r1 : Int) (r2 : List (S55)) (w0 w : World) (hB : Below w0.heap.size w0 w) (ho0 : Kd.R k55 55 w w0.heap.size P0_ u9000_ l0) (h : laws_markRuleS.f l0 a1 = some (r1, r2)) :
  Calls Try.prog 19 #[u9000_, .int .i64 a1] w fun e w' => e = .returned (.int .i64 r1) ∧ Kd.R k55 55 w' w0.heap.size (fun k_ => (P0_ k_ ∨ w.heap.size ≤ k_)) u9000_ r2 ∧ Below w0.heap.size w0 w' ∧ Kept w w' (fun k_ => P0_ k_) := by
 obtain ⟨rfl, rfl⟩ := Prod.mk.inj (Option.some.inj h)
 clear h
 obtain ⟨hok, inner, ⟨hlen, ho⟩, hrep⟩ := ho0
 rcases ho with ⟨rfl, hz⟩ | ⟨g, cap, cur, rfl, hbase, hg, hnc, hcm, hsz, htk⟩
 ·have hl : l0 = [] := List.length_eq_zero_iff.1 hz
  subst hl
  have HB := Gv.a0 hB
  clear hrep hok hlen hB
  go_enter Try.func19, Try.ntmps19
  go_wp2
  go_loopg [1, 5] 0 (fun gg s1 s5 wr => s1 = .int .i64 a1 ∧ s5 = .int .i64 0 ∧ wr = w)
  case atStart => exact ⟨rfl, rfl, rfl⟩
  case round =>
   obtain ⟨rfl, rfl, rfl⟩ := hrel
   go_wp2_with fail
   go_ret
   exact ⟨rfl, Kd.R_nil _ _ _ _ _, HB.out, Kept.refl _ _⟩
 ·have hS : l0.length * 21 ≤ cap * 21 := Nat.mul_le_mul_right _ hnc
  have hN : inner.length = l0.length * 21 := hlen
  have hP : P0_ g := hok g rfl
  have hle : w0.heap.size ≤ g := hbase
  have hcap : cap ≤ 9223372036854775807 := by
   unfold maxLen at hcm
   omega
  have HM0 := Gv.a0 (show Gv.MK w0 w g 55 (l0.length * 21) (cap * 21) inner w [] 0 from ⟨rfl, ⟨cur, hg, hsz, htk⟩, fun _ _ => rfl, hB, Nat.le_refl _⟩)
  have HF := Gv.a0 (And.intro hnc (And.intro hcm hP))
  clear hok hlen hrep hbase hg hcm hsz htk hB hP hnc
  go_enter Try.func19, Try.ntmps19
  go_wp2
  go_loopg [1, 5] l0.length (fun gg s1 s5 wr => ∃ kk : Nat, kk ≤ l0.length ∧ l0.length - kk ≤ gg ∧ s1 = .int .i64 (Gv.stepN (Gv.stepN Gv.nx 21) kk a1) ∧ s5 = .int .i64 kk ∧ Aside0 (Gv.MK w0 w g 55 (l0.length * 21) (cap * 21) inner wr ((Gv.mkL (fun a : Int => (⟨(Gv.stepN Gv.nx 0 a), (⟨(⟨(Gv.stepN Gv.nx 1 a), (Gv.stepN Gv.nx 2 a), (Gv.stepN Gv.nx 3 a), (Gv.stepN Gv.nx 4 a), (Gv.stepN Gv.nx 5 a)⟩ : S34), (Gv.stepN Gv.nx 6 a)⟩ : S53), (⟨(⟨(Gv.stepN Gv.nx 7 a), (Gv.stepN Gv.nx 8 a), (Gv.stepN Gv.nx 9 a), (Gv.stepN Gv.nx 10 a), (Gv.stepN Gv.nx 11 a)⟩ : S34), (Gv.stepN Gv.nx 12 a)⟩ : S53), (Gv.stepN Gv.nx 13 a), (Gv.stepN Gv.nx 14 a), (Gv.stepN Gv.nx 15 a), (Gv.stepN Gv.nx 16 a), (Gv.stepN Gv.nx 17 a), (Gv.stepN Gv.nx 18 a), (Gv.stepN Gv.nx 19 a), (Gv.stepN Gv.nx 20 a)⟩ : S55)) (Gv.stepN Gv.nx 21) kk a1).flatMap (fun x : S55 => ([.int .i64 x.f0, .int .i64 x.f1.f0.f0, .int .i64 x.f1.f0.f1, .int .i64 x.f1.f0.f2, .int .i64 x.f1.f0.f3, .int .i64 x.f1.f0.f4, .int .i64 x.f1.f1, .int .i64 x.f2.f0.f0, .int .i64 x.f2.f0.f1, .int .i64 x.f2.f0.f2, .int .i64 x.f2.f0.f3, .int .i64 x.f2.f0.f4, .int .i64 x.f2.f1, .int .i64 x.f3, .int .i64 x.f4, .int .i64 x.f5, .int .i64 x.f6, .int .i64 x.f7, .int .i64 x.f8, .int .i64 x.f9, .int .i64 x.f10] : List Value))) (kk * 21)))
  case atStart => exact ⟨0, Nat.zero_le _, by omega, rfl, rfl, ⟨HM0.out⟩⟩
  case round =>
   obtain ⟨kk, hkk, hgg, rfl, rfl, HM⟩ := hrel
   obtain ⟨x_, hx_⟩ : ∃ x_, x_ = Gv.stepN (Gv.stepN Gv.nx 21) kk a1 := ⟨_, rfl⟩
   rw [← hx_]
   obtain ⟨done, hd_⟩ : ∃ d_, d_ = (Gv.mkL (fun a : Int => (⟨(Gv.stepN Gv.nx 0 a), (⟨(⟨(Gv.stepN Gv.nx 1 a), (Gv.stepN Gv.nx 2 a), (Gv.stepN Gv.nx 3 a), (Gv.stepN Gv.nx 4 a), (Gv.stepN Gv.nx 5 a)⟩ : S34), (Gv.stepN Gv.nx 6 a)⟩ : S53), (⟨(⟨(Gv.stepN Gv.nx 7 a), (Gv.stepN Gv.nx 8 a), (Gv.stepN Gv.nx 9 a), (Gv.stepN Gv.nx 10 a), (Gv.stepN Gv.nx 11 a)⟩ : S34), (Gv.stepN Gv.nx 12 a)⟩ : S53), (Gv.stepN Gv.nx 13 a), (Gv.stepN Gv.nx 14 a), (Gv.stepN Gv.nx 15 a), (Gv.stepN Gv.nx 16 a), (Gv.stepN Gv.nx 17 a), (Gv.stepN Gv.nx 18 a), (Gv.stepN Gv.nx 19 a), (Gv.stepN Gv.nx 20 a)⟩ : S55)) (Gv.stepN Gv.nx 21) kk a1).flatMap (fun x : S55 => ([.int .i64 x.f0, .int .i64 x.f1.f0.f0, .int .i64 x.f1.f0.f1, .int .i64 x.f1.f0.f2, .int .i64 x.f1.f0.f3, .int .i64 x.f1.f0.f4, .int .i64 x.f1.f1, .int .i64 x.f2.f0.f0, .int .i64 x.f2.f0.f1, .int .i64 x.f2.f0.f2, .int .i64 x.f2.f0.f3, .int .i64 x.f2.f0.f4, .int .i64 x.f2.f1, .int .i64 x.f3, .int .i64 x.f4, .int .i64 x.f5, .int .i64 x.f6, .int .i64 x.f7, .int .i64 x.f8, .int .i64 x.f9, .int .i64 x.f10] : List Value)) := ⟨_, rfl⟩
   rw [← hd_] at HM
   have HX := Gv.a0 hx_
   have HD := Gv.a0 hd_
   clear hx_ hd_
   by_cases hlt : kk < l0.length
   ·have hltz : (kk : Int) < (l0.length : Int) := by omega
    have hk0 : 0 ≤ (kk : Int) := by omega
    go_wp2_with (first | ((with_reducible refine gate_store (t := 3) rfl ?_); refine Gv.mark_event rfl rfl rfl rfl rfl (.inl ⟨_, _, rfl⟩) (by kernel_rfl) HM.out hS hN (by omega) (by omega) hle ?_; intro wm hM; have HM' := Gv.a0 hM; clear hM HM; have HM := HM'; clear HM'))
    go_roundg (l0.length - (kk + 1))
    case measure => omega
    case rel =>
     refine ⟨kk + 1, by omega, by omega, by rw [Gv.stepN, ← HX.out]; rfl, by go_num, ⟨?_⟩⟩
     have hm := HM.out
     rw [HD.out] at hm
     rw [Gv.mkL, List.flatMap_append, ← HX.out, Nat.succ_mul]
     simp only [List.append_assoc, List.cons_append, List.nil_append] at hm
     exact hm
   ·have hk : kk = l0.length := by omega
    have hltz : ¬ (kk : Int) < (l0.length : Int) := by omega
    have HK := Gv.a0 hk
    clear hk
    go_wp2_with fail
    go_ret
    obtain ⟨h1, ⟨cur, h2, h3, h4⟩, h5, h6, h7⟩ := HM.out
    have hk := HK.out
    subst hk
    rw [HX.out]
    rw [HD.out, List.drop_eq_nil_of_le (by omega), List.append_nil] at h4
    refine ⟨rfl, ⟨fun k hk => ?_, _, ⟨?_, .inr ⟨g, cap, cur, ?_, hle, h2, ?_, HF.out.2.1, h3, ?_⟩⟩, Gv.mkL_reps _ _ _ (fun x => k55_mkM _ _ _ x) (fun _ => rfl) _⟩, h6, h7, fun i hi hni => h5 i (fun e => hni (by rw [e]; exact HF.out.2.2))⟩
    ·have : g = k := by simpa [Value.ownBlock] using hk
     subst this
     exact .inl HF.out.2.2
    ·rw [← HD.out, h1, Gv.mkL_length]; rfl
    ·rw [Gv.mkL_length]
    ·rw [Gv.mkL_length]; exact HF.out.1
    ·rw [Gv.mkL_length]; exact h4

/-! ### laws_heldRuleS: function 24 -/
def laws_heldRuleS.f (l0 : List (S55)) (a1 : Int) : Option (Int) := Gv.heldL (fun (x : S55) (a : Int) => decide (x.f0 = Gv.stepN Gv.nx 0 a) && (decide (x.f1.f0.f0 = Gv.stepN Gv.nx 1 a) && (decide (x.f1.f0.f1 = Gv.stepN Gv.nx 2 a) && (decide (x.f1.f0.f2 = Gv.stepN Gv.nx 3 a) && (decide (x.f1.f0.f3 = Gv.stepN Gv.nx 4 a) && (decide (x.f1.f0.f4 = Gv.stepN Gv.nx 5 a) && (decide (x.f1.f1 = Gv.stepN Gv.nx 6 a) && (decide (x.f2.f0.f0 = Gv.stepN Gv.nx 7 a) && (decide (x.f2.f0.f1 = Gv.stepN Gv.nx 8 a) && (decide (x.f2.f0.f2 = Gv.stepN Gv.nx 9 a) && (decide (x.f2.f0.f3 = Gv.stepN Gv.nx 10 a) && (decide (x.f2.f0.f4 = Gv.stepN Gv.nx 11 a) && (decide (x.f2.f1 = Gv.stepN Gv.nx 12 a) && (decide (x.f3 = Gv.stepN Gv.nx 13 a) && (decide (x.f4 = Gv.stepN Gv.nx 14 a) && (decide (x.f5 = Gv.stepN Gv.nx 15 a) && (decide (x.f6 = Gv.stepN Gv.nx 16 a) && (decide (x.f7 = Gv.stepN Gv.nx 17 a) && (decide (x.f8 = Gv.stepN Gv.nx 18 a) && (decide (x.f9 = Gv.stepN Gv.nx 19 a) && (decide (x.f10 = Gv.stepN Gv.nx 20 a)))))))))))))))))))))) (Gv.stepN Gv.nx 21) l0 a1
set_option maxHeartbeats 8000000 in
set_option maxRecDepth 100000 in
theorem laws_heldRuleS.calls (A0 : Option Addr) (c0 : Nat) (l0 : List (S55)) (a1 : Int) (r : Int) (w : World) (hr0 : Kd.C k55 w A0 l0.length l0) (hc0 : l0.length ≤ c0) (h : laws_heldRuleS.f l0 a1 = some r) :
  Calls Try.prog 24 #[.slice A0 l0.length c0, .int .i64 a1] w fun e w' => e = .returned (.int .i64 r) ∧ Below w.heap.size w w' := by
 have hlm := hr0.2.1
 have HR0 := Gv.a0 hr0
 have H0 := Gv.a0 h
 clear hr0 h hc0
 go_enter Try.func24, Try.ntmps24
 go_wp2
 go_loopg [1, 5] l0.length (fun gg s1 s5 wr => ∃ (kk : Nat) (x_ : Int), kk ≤ l0.length ∧ l0.length - kk ≤ gg ∧ s1 = .int .i64 x_ ∧ s5 = .int .i64 kk ∧ Aside0 (Gv.heldL (fun (x : S55) (a : Int) => decide (x.f0 = Gv.stepN Gv.nx 0 a) && (decide (x.f1.f0.f0 = Gv.stepN Gv.nx 1 a) && (decide (x.f1.f0.f1 = Gv.stepN Gv.nx 2 a) && (decide (x.f1.f0.f2 = Gv.stepN Gv.nx 3 a) && (decide (x.f1.f0.f3 = Gv.stepN Gv.nx 4 a) && (decide (x.f1.f0.f4 = Gv.stepN Gv.nx 5 a) && (decide (x.f1.f1 = Gv.stepN Gv.nx 6 a) && (decide (x.f2.f0.f0 = Gv.stepN Gv.nx 7 a) && (decide (x.f2.f0.f1 = Gv.stepN Gv.nx 8 a) && (decide (x.f2.f0.f2 = Gv.stepN Gv.nx 9 a) && (decide (x.f2.f0.f3 = Gv.stepN Gv.nx 10 a) && (decide (x.f2.f0.f4 = Gv.stepN Gv.nx 11 a) && (decide (x.f2.f1 = Gv.stepN Gv.nx 12 a) && (decide (x.f3 = Gv.stepN Gv.nx 13 a) && (decide (x.f4 = Gv.stepN Gv.nx 14 a) && (decide (x.f5 = Gv.stepN Gv.nx 15 a) && (decide (x.f6 = Gv.stepN Gv.nx 16 a) && (decide (x.f7 = Gv.stepN Gv.nx 17 a) && (decide (x.f8 = Gv.stepN Gv.nx 18 a) && (decide (x.f9 = Gv.stepN Gv.nx 19 a) && (decide (x.f10 = Gv.stepN Gv.nx 20 a)))))))))))))))))))))) (Gv.stepN Gv.nx 21) (l0.drop kk) x_ = some r) ∧ Aside0 (Drawn0 w wr))
 case atStart => exact ⟨0, a1, Nat.zero_le _, by omega, rfl, rfl, ⟨H0.out⟩, ⟨Drawn0.refl w⟩⟩
 case round =>
  obtain ⟨kk, z0, hkk, hg, rfl, rfl, HN, HD⟩ := hrel
  by_cases hlt : kk < l0.length
  ·have hltz : (kk : Int) < (l0.length : Int) := by omega
   have hk0 : 0 ≤ (kk : Int) := by omega
   obtain ⟨ad, e1, hx0, hx1, hx2, hx3, hx4, hx5, hx6, hx7, hx8, hx9, hx10, hx11, hx12, hx13, hx14, hx15, hx16, hx17, hx18, hx19, hx20⟩ := at_T55 (Kd.C_below HR0.out HD.out.below) (kk : Int) hk0 hltz
   cases e1
   obtain ⟨y_, hy_⟩ : ∃ y_, y_ = rd_T55 l0 kk := ⟨_, rfl⟩
   rw [← hy_, Int.toNat_natCast] at hx0 hx1 hx2 hx3 hx4 hx5 hx6 hx7 hx8 hx9 hx10 hx11 hx12 hx13 hx14 hx15 hx16 hx17 hx18 hx19 hx20
   have hN := HN.out
   have hget : l0.drop kk = y_ :: l0.drop (kk + 1) := by
    rw [hy_, List.drop_eq_getElem_cons hlt]
    congr 1
    unfold rd_T55
    rw [Int.toNat_natCast, List.getD_eq_getElem?_getD, List.getElem?_eq_getElem hlt]
    rfl
   rw [hget, Gv.heldL] at hN
   clear hget hy_ HN
   by_cases hq : (fun (x : S55) (a : Int) => decide (x.f0 = Gv.stepN Gv.nx 0 a) && (decide (x.f1.f0.f0 = Gv.stepN Gv.nx 1 a) && (decide (x.f1.f0.f1 = Gv.stepN Gv.nx 2 a) && (decide (x.f1.f0.f2 = Gv.stepN Gv.nx 3 a) && (decide (x.f1.f0.f3 = Gv.stepN Gv.nx 4 a) && (decide (x.f1.f0.f4 = Gv.stepN Gv.nx 5 a) && (decide (x.f1.f1 = Gv.stepN Gv.nx 6 a) && (decide (x.f2.f0.f0 = Gv.stepN Gv.nx 7 a) && (decide (x.f2.f0.f1 = Gv.stepN Gv.nx 8 a) && (decide (x.f2.f0.f2 = Gv.stepN Gv.nx 9 a) && (decide (x.f2.f0.f3 = Gv.stepN Gv.nx 10 a) && (decide (x.f2.f0.f4 = Gv.stepN Gv.nx 11 a) && (decide (x.f2.f1 = Gv.stepN Gv.nx 12 a) && (decide (x.f3 = Gv.stepN Gv.nx 13 a) && (decide (x.f4 = Gv.stepN Gv.nx 14 a) && (decide (x.f5 = Gv.stepN Gv.nx 15 a) && (decide (x.f6 = Gv.stepN Gv.nx 16 a) && (decide (x.f7 = Gv.stepN Gv.nx 17 a) && (decide (x.f8 = Gv.stepN Gv.nx 18 a) && (decide (x.f9 = Gv.stepN Gv.nx 19 a) && (decide (x.f10 = Gv.stepN Gv.nx 20 a)))))))))))))))))))))) y_ z0 = true
   ·rw [if_pos hq] at hN
    simp only [Bool.and_eq_true, decide_eq_true_eq] at hq
    obtain ⟨q0, q1, q2, q3, q4, q5, q6, q7, q8, q9, q10, q11, q12, q13, q14, q15, q16, q17, q18, q19, q20⟩ := hq
    have e0 : Gv.stepN Gv.nx 0 z0 = z0 := rfl
    obtain ⟨z1, hw1⟩ : ∃ z_, IntKind.i64.wrap (z0 + 1) = z_ := ⟨_, rfl⟩
    have e1 : Gv.stepN Gv.nx 1 z0 = z1 := by rw [Gv.stepN, e0]; first | exact hw1 | exact (i64_w _).symm.trans hw1
    obtain ⟨z2, hw2⟩ : ∃ z_, IntKind.i64.wrap (z1 + 1) = z_ := ⟨_, rfl⟩
    have e2 : Gv.stepN Gv.nx 2 z0 = z2 := by rw [Gv.stepN, e1]; first | exact hw2 | exact (i64_w _).symm.trans hw2
    obtain ⟨z3, hw3⟩ : ∃ z_, IntKind.i64.wrap (z2 + 1) = z_ := ⟨_, rfl⟩
    have e3 : Gv.stepN Gv.nx 3 z0 = z3 := by rw [Gv.stepN, e2]; first | exact hw3 | exact (i64_w _).symm.trans hw3
    obtain ⟨z4, hw4⟩ : ∃ z_, IntKind.i64.wrap (z3 + 1) = z_ := ⟨_, rfl⟩
    have e4 : Gv.stepN Gv.nx 4 z0 = z4 := by rw [Gv.stepN, e3]; first | exact hw4 | exact (i64_w _).symm.trans hw4
    obtain ⟨z5, hw5⟩ : ∃ z_, IntKind.i64.wrap (z4 + 1) = z_ := ⟨_, rfl⟩
    have e5 : Gv.stepN Gv.nx 5 z0 = z5 := by rw [Gv.stepN, e4]; first | exact hw5 | exact (i64_w _).symm.trans hw5
    obtain ⟨z6, hw6⟩ : ∃ z_, IntKind.i64.wrap (z5 + 1) = z_ := ⟨_, rfl⟩
    have e6 : Gv.stepN Gv.nx 6 z0 = z6 := by rw [Gv.stepN, e5]; first | exact hw6 | exact (i64_w _).symm.trans hw6
    obtain ⟨z7, hw7⟩ : ∃ z_, IntKind.i64.wrap (z6 + 1) = z_ := ⟨_, rfl⟩
    have e7 : Gv.stepN Gv.nx 7 z0 = z7 := by rw [Gv.stepN, e6]; first | exact hw7 | exact (i64_w _).symm.trans hw7
    obtain ⟨z8, hw8⟩ : ∃ z_, IntKind.i64.wrap (z7 + 1) = z_ := ⟨_, rfl⟩
    have e8 : Gv.stepN Gv.nx 8 z0 = z8 := by rw [Gv.stepN, e7]; first | exact hw8 | exact (i64_w _).symm.trans hw8
    obtain ⟨z9, hw9⟩ : ∃ z_, IntKind.i64.wrap (z8 + 1) = z_ := ⟨_, rfl⟩
    have e9 : Gv.stepN Gv.nx 9 z0 = z9 := by rw [Gv.stepN, e8]; first | exact hw9 | exact (i64_w _).symm.trans hw9
    obtain ⟨z10, hw10⟩ : ∃ z_, IntKind.i64.wrap (z9 + 1) = z_ := ⟨_, rfl⟩
    have e10 : Gv.stepN Gv.nx 10 z0 = z10 := by rw [Gv.stepN, e9]; first | exact hw10 | exact (i64_w _).symm.trans hw10
    obtain ⟨z11, hw11⟩ : ∃ z_, IntKind.i64.wrap (z10 + 1) = z_ := ⟨_, rfl⟩
    have e11 : Gv.stepN Gv.nx 11 z0 = z11 := by rw [Gv.stepN, e10]; first | exact hw11 | exact (i64_w _).symm.trans hw11
    obtain ⟨z12, hw12⟩ : ∃ z_, IntKind.i64.wrap (z11 + 1) = z_ := ⟨_, rfl⟩
    have e12 : Gv.stepN Gv.nx 12 z0 = z12 := by rw [Gv.stepN, e11]; first | exact hw12 | exact (i64_w _).symm.trans hw12
    obtain ⟨z13, hw13⟩ : ∃ z_, IntKind.i64.wrap (z12 + 1) = z_ := ⟨_, rfl⟩
    have e13 : Gv.stepN Gv.nx 13 z0 = z13 := by rw [Gv.stepN, e12]; first | exact hw13 | exact (i64_w _).symm.trans hw13
    obtain ⟨z14, hw14⟩ : ∃ z_, IntKind.i64.wrap (z13 + 1) = z_ := ⟨_, rfl⟩
    have e14 : Gv.stepN Gv.nx 14 z0 = z14 := by rw [Gv.stepN, e13]; first | exact hw14 | exact (i64_w _).symm.trans hw14
    obtain ⟨z15, hw15⟩ : ∃ z_, IntKind.i64.wrap (z14 + 1) = z_ := ⟨_, rfl⟩
    have e15 : Gv.stepN Gv.nx 15 z0 = z15 := by rw [Gv.stepN, e14]; first | exact hw15 | exact (i64_w _).symm.trans hw15
    obtain ⟨z16, hw16⟩ : ∃ z_, IntKind.i64.wrap (z15 + 1) = z_ := ⟨_, rfl⟩
    have e16 : Gv.stepN Gv.nx 16 z0 = z16 := by rw [Gv.stepN, e15]; first | exact hw16 | exact (i64_w _).symm.trans hw16
    obtain ⟨z17, hw17⟩ : ∃ z_, IntKind.i64.wrap (z16 + 1) = z_ := ⟨_, rfl⟩
    have e17 : Gv.stepN Gv.nx 17 z0 = z17 := by rw [Gv.stepN, e16]; first | exact hw17 | exact (i64_w _).symm.trans hw17
    obtain ⟨z18, hw18⟩ : ∃ z_, IntKind.i64.wrap (z17 + 1) = z_ := ⟨_, rfl⟩
    have e18 : Gv.stepN Gv.nx 18 z0 = z18 := by rw [Gv.stepN, e17]; first | exact hw18 | exact (i64_w _).symm.trans hw18
    obtain ⟨z19, hw19⟩ : ∃ z_, IntKind.i64.wrap (z18 + 1) = z_ := ⟨_, rfl⟩
    have e19 : Gv.stepN Gv.nx 19 z0 = z19 := by rw [Gv.stepN, e18]; first | exact hw19 | exact (i64_w _).symm.trans hw19
    obtain ⟨z20, hw20⟩ : ∃ z_, IntKind.i64.wrap (z19 + 1) = z_ := ⟨_, rfl⟩
    have e20 : Gv.stepN Gv.nx 20 z0 = z20 := by rw [Gv.stepN, e19]; first | exact hw20 | exact (i64_w _).symm.trans hw20
    obtain ⟨z21, hw21⟩ : ∃ z_, IntKind.i64.wrap (z20 + 1) = z_ := ⟨_, rfl⟩
    have e21 : Gv.stepN Gv.nx 21 z0 = z21 := by rw [Gv.stepN, e20]; first | exact hw21 | exact (i64_w _).symm.trans hw21
    rw [q0, e0] at hx0
    rw [q1, e1] at hx1
    rw [q2, e2] at hx2
    rw [q3, e3] at hx3
    rw [q4, e4] at hx4
    rw [q5, e5] at hx5
    rw [q6, e6] at hx6
    rw [q7, e7] at hx7
    rw [q8, e8] at hx8
    rw [q9, e9] at hx9
    rw [q10, e10] at hx10
    rw [q11, e11] at hx11
    rw [q12, e12] at hx12
    rw [q13, e13] at hx13
    rw [q14, e14] at hx14
    rw [q15, e15] at hx15
    rw [q16, e16] at hx16
    rw [q17, e17] at hx17
    rw [q18, e18] at hx18
    rw [q19, e19] at hx19
    rw [q20, e20] at hx20
    rw [e21] at hN
    have HN2 := Gv.a0 hN
    clear hN q0 q1 q2 q3 q4 q5 q6 q7 q8 q9 q10 q11 q12 q13 q14 q15 q16 q17 q18 q19 q20
    go_wp2_with fail
    go_roundg (l0.length - (kk + 1))
    case measure => omega
    case rel => exact ⟨kk + 1, z21, by omega, by omega, by simp [*], by go_num, HN2, HD⟩
   ·rw [if_neg hq] at hN
    cases hN
  ·have hltz : ¬ (kk : Int) < (l0.length : Int) := by omega
   have hN := HN.out
   rw [List.drop_eq_nil_of_le (by omega), Gv.heldL] at hN
   have HN2 := Gv.a0 (Option.some.inj hN)
   clear hN
   go_wp2_with fail
   go_ret
   exact ⟨by rw [← HN2.out]; rfl, by first | exact HD.out | exact HD.out.below⟩

/-! ### spec_l03Any: function 60 -/
def spec_l03Any.f (a0_0 : Int) (a0_1 : Int) (a0_2 : Int) (a0_3 : Int) (a0_4 : Int) (a0_5 : Int) : Option (Bool) := some ((a0_0 == 0 && (a0_1 == 0 && (a0_2 == 0 && (a0_3 == 0 && (a0_4 == 0))))) && (a0_5 == 0))
set_option maxHeartbeats 8000000 in
set_option maxRecDepth 100000 in
theorem spec_l03Any.calls (a0_0 : Int) (a0_1 : Int) (a0_2 : Int) (a0_3 : Int) (a0_4 : Int) (a0_5 : Int) (r : Bool) (w : World) (h : spec_l03Any.f a0_0 a0_1 a0_2 a0_3 a0_4 a0_5 = some r) :
  Calls Try.prog 60 #[.agg #[.int .i64 a0_0, .int .i64 a0_1, .int .i64 a0_2, .int .i64 a0_3, .int .i64 a0_4, .int .i64 a0_5]] w fun e w' => e = .returned (.bool r) ∧ Below w.heap.size w w' := by
 have hu53 := Try.underlying53
 have HB := Gv.a0 (Below.refl w.heap.size w)
 have H : (some ((a0_0 == 0 && (a0_1 == 0 && (a0_2 == 0 && (a0_3 == 0 && (a0_4 == 0))))) && (a0_5 == 0))) = some r := h
 clear h
 obtain rfl := Option.some.inj H
 go_enter Try.func60, Try.ntmps60
 go_wp2_with (first | ((with_reducible refine gate_dst (N := 1) rfl ?_); refine box_event ?hg (N := 1) ?hd (cs := #[.int .i64 a0_0, .int .i64 a0_1, .int .i64 a0_2, .int .i64 a0_3, .int .i64 a0_4, .int .i64 a0_5]) (t := 53) ?hr ?_; (case hd => rfl); (case hg => rfl); (case hr => first | (go_simp; done) | (go_simp; rfl)); intro gb166 hg w2 hbox hb; have n0_ := Gv.a0 (below_step Gv.bw hb); have n1_ := Gv.a0 (hbox); have n2_ := Gv.a0 ((Gv.ble hg Gv.bw : w.heap.size ≤ gb166)); have n3_ := Gv.a0 ((Gv.ble hg Gv.bw : w.heap.size ≤ gb166)); clear HB; have HB := n0_; have BK166 := n1_; have GW166 := n2_; have GE166 := n3_; clear n0_ n1_ n2_ n3_; clear hb hbox hg; obtain ⟨hcz3_0, hcz3_1, hcz3_2, hcz3_3, hcz3_4, hcz3_5⟩ := Gv.c6 BK166.out; obtain ⟨hfz3_0, hfz3_1, hfz3_2, hfz3_3, hfz3_4, hfz3_5⟩ := Gv.f6 BK166.out))
 go_ret
 exact ⟨Gv.rt, Gv.bw⟩

/-! ### spec_l03Half: function 72 -/
def spec_l03Half.f (a0 : Int) : Option (Bool) := if a0 ≥ 0 then (some (decide (a0 ≤ 4294967295))) else (some false)
set_option maxHeartbeats 8000000 in
set_option maxRecDepth 100000 in
theorem spec_l03Half.calls (a0 : Int) (r : Bool) (w : World) (h : spec_l03Half.f a0 = some r) :
  Calls Try.prog 72 #[.int .i64 a0] w fun e w' => e = .returned (.bool r) ∧ Drawn0 w w' := by
 have H : (if a0 ≥ 0 then (some (decide (a0 ≤ 4294967295))) else (some false)) = some r := h
 clear h
 by_cases c2 : a0 ≥ 0
 ·rw [if_pos c2] at H
  have c2b0 : decide (0 ≤ a0) = true := decide_eq_true c2
  clear c2
  obtain rfl := Option.some.inj H
  go_enter Try.func72, Try.ntmps72
  go_wp2
  go_ret
  exact ⟨by first | rfl | (simp; done) | (simp [Int.tdiv_eq_ediv_of_nonneg]; done) | (simp [*]; done), by repeat (first | exact Drawn0.refl _ | apply Drawn0.step)⟩
 ·rw [if_neg c2] at H
  have c2b0 : decide (0 ≤ a0) = false := decide_eq_false c2
  clear c2
  obtain rfl := Option.some.inj H
  go_enter Try.func72, Try.ntmps72
  go_wp2
  go_ret
  exact ⟨by first | rfl | (simp; done) | (simp [Int.tdiv_eq_ediv_of_nonneg]; done) | (simp [*]; done), by repeat (first | exact Drawn0.refl _ | apply Drawn0.step)⟩

/-! ### spec_AddrOk: function 61 -/
def spec_AddrOk.f (a0_0 : Int) (a0_1 : Int) (a0_2 : Int) (a0_3 : Int) (a0_4 : Int) : Option (Bool) := if a0_0 = 4 then (if a0_1 = 0 then (if a0_2 = 0 then (if a0_3 = 0 then ((spec_l03Half.f a0_4).bind fun t168 => (some t168)) else (some false)) else (some false)) else (some false)) else (if a0_0 = 6 then ((spec_l03Half.f a0_1).bind fun t169 => (if t169 = true then ((spec_l03Half.f a0_2).bind fun t170 => (if t170 = true then ((spec_l03Half.f a0_3).bind fun t171 => (if t171 = true then ((spec_l03Half.f a0_4).bind fun t172 => (some t172)) else (some false))) else (some false))) else (some false))) else (some false))
set_option maxHeartbeats 8000000 in
set_option maxRecDepth 100000 in
theorem spec_AddrOk.calls (a0_0 : Int) (a0_1 : Int) (a0_2 : Int) (a0_3 : Int) (a0_4 : Int) (r : Bool) (w : World) (h : spec_AddrOk.f a0_0 a0_1 a0_2 a0_3 a0_4 = some r) :
  Calls Try.prog 61 #[.agg #[.int .i64 a0_0, .int .i64 a0_1, .int .i64 a0_2, .int .i64 a0_3, .int .i64 a0_4]] w fun e w' => e = .returned (.bool r) ∧ Below w.heap.size w w' := by
 have hu34 := Try.underlying34
 have HB := Gv.a0 (Below.refl w.heap.size w)
 have H : (if a0_0 = 4 then (if a0_1 = 0 then (if a0_2 = 0 then (if a0_3 = 0 then ((spec_l03Half.f a0_4).bind fun t168 => (some t168)) else (some false)) else (some false)) else (some false)) else (if a0_0 = 6 then ((spec_l03Half.f a0_1).bind fun t169 => (if t169 = true then ((spec_l03Half.f a0_2).bind fun t170 => (if t170 = true then ((spec_l03Half.f a0_3).bind fun t171 => (if t171 = true then ((spec_l03Half.f a0_4).bind fun t172 => (some t172)) else (some false))) else (some false))) else (some false))) else (some false))) = some r := h
 clear h
 by_cases c2 : a0_0 = 4
 ·rw [if_pos c2] at H
  have c2b0 : (a0_0 == 4) = true := beq_iff_eq.mpr c2
  have c2b1 : (a0_0 != 4) = false := bne_eq_false_iff_eq.mpr c2
  clear c2
  by_cases c3 : a0_1 = 0
  ·rw [if_pos c3] at H
   have c3b0 : (a0_1 == 0) = true := beq_iff_eq.mpr c3
   have c3b1 : (a0_1 != 0) = false := bne_eq_false_iff_eq.mpr c3
   clear c3
   by_cases c4 : a0_2 = 0
   ·rw [if_pos c4] at H
    have c4b0 : (a0_2 == 0) = true := beq_iff_eq.mpr c4
    have c4b1 : (a0_2 != 0) = false := bne_eq_false_iff_eq.mpr c4
    clear c4
    by_cases c5 : a0_3 = 0
    ·rw [if_pos c5] at H
     have c5b0 : (a0_3 == 0) = true := beq_iff_eq.mpr c5
     have c5b1 : (a0_3 != 0) = false := bne_eq_false_iff_eq.mpr c5
     clear c5
     replace H := Option.bind_eq_some_iff.mp H
     obtain ⟨t168, A60, H⟩ := H
     replace H : (some t168) = some r := H
     have A6 := Gv.a0 A60
     clear A60
     obtain rfl := Option.some.inj H
     go_enter Try.func61, Try.ntmps61
     go_wp2_with (first | ((with_reducible refine gate_dst (N := 1) rfl ?_); refine box_event ?hg (N := 1) ?hd (cs := #[.int .i64 a0_0, .int .i64 a0_1, .int .i64 a0_2, .int .i64 a0_3, .int .i64 a0_4]) (t := 34) ?hr ?_; (case hd => rfl); (case hg => rfl); (case hr => first | (go_simp; done) | (go_simp; rfl)); intro gb167 hg w7 hbox hb; have n0_ := Gv.a0 (below_step Gv.bw hb); have n1_ := Gv.a0 (hbox); have n2_ := Gv.a0 ((Gv.ble hg Gv.bw : w.heap.size ≤ gb167)); have n3_ := Gv.a0 ((Gv.ble hg Gv.bw : w.heap.size ≤ gb167)); clear HB; have HB := n0_; have BK167 := n1_; have GW167 := n2_; have GE167 := n3_; clear n0_ n1_ n2_ n3_; clear hb hbox hg; obtain ⟨hcz8_0, hcz8_1, hcz8_2, hcz8_3, hcz8_4⟩ := Gv.c5 BK167.out; obtain ⟨hfz8_0, hfz8_1, hfz8_2, hfz8_3, hfz8_4⟩ := Gv.f5 BK167.out) | (go_at_call 72; (with_reducible refine (spec_l03Half.calls a0_4 t168 _ A6.out).mono ?_); rintro e w' ⟨rfl, ⟨nd, rfl⟩⟩))
     go_ret
     exact ⟨Gv.rt, Gv.bw⟩
    ·rw [if_neg c5] at H
     have c5b0 : (a0_3 == 0) = false := beq_eq_false_iff_ne.mpr c5
     have c5b1 : (a0_3 != 0) = true := bne_iff_ne.mpr c5
     obtain rfl := Option.some.inj H
     go_enter Try.func61, Try.ntmps61
     go_wp2_with (first | ((with_reducible refine gate_dst (N := 1) rfl ?_); refine box_event ?hg (N := 1) ?hd (cs := #[.int .i64 a0_0, .int .i64 a0_1, .int .i64 a0_2, .int .i64 a0_3, .int .i64 a0_4]) (t := 34) ?hr ?_; (case hd => rfl); (case hg => rfl); (case hr => first | (go_simp; done) | (go_simp; rfl)); intro gb167 hg w9 hbox hb; have n0_ := Gv.a0 (below_step Gv.bw hb); have n1_ := Gv.a0 (hbox); have n2_ := Gv.a0 ((Gv.ble hg Gv.bw : w.heap.size ≤ gb167)); have n3_ := Gv.a0 ((Gv.ble hg Gv.bw : w.heap.size ≤ gb167)); clear HB; have HB := n0_; have BK167 := n1_; have GW167 := n2_; have GE167 := n3_; clear n0_ n1_ n2_ n3_; clear hb hbox hg; obtain ⟨hcz10_0, hcz10_1, hcz10_2, hcz10_3, hcz10_4⟩ := Gv.c5 BK167.out; obtain ⟨hfz10_0, hfz10_1, hfz10_2, hfz10_3, hfz10_4⟩ := Gv.f5 BK167.out))
     go_ret
     exact ⟨Gv.rt, Gv.bw⟩
   ·rw [if_neg c4] at H
    have c4b0 : (a0_2 == 0) = false := beq_eq_false_iff_ne.mpr c4
    have c4b1 : (a0_2 != 0) = true := bne_iff_ne.mpr c4
    obtain rfl := Option.some.inj H
    go_enter Try.func61, Try.ntmps61
    go_wp2_with (first | ((with_reducible refine gate_dst (N := 1) rfl ?_); refine box_event ?hg (N := 1) ?hd (cs := #[.int .i64 a0_0, .int .i64 a0_1, .int .i64 a0_2, .int .i64 a0_3, .int .i64 a0_4]) (t := 34) ?hr ?_; (case hd => rfl); (case hg => rfl); (case hr => first | (go_simp; done) | (go_simp; rfl)); intro gb167 hg w11 hbox hb; have n0_ := Gv.a0 (below_step Gv.bw hb); have n1_ := Gv.a0 (hbox); have n2_ := Gv.a0 ((Gv.ble hg Gv.bw : w.heap.size ≤ gb167)); have n3_ := Gv.a0 ((Gv.ble hg Gv.bw : w.heap.size ≤ gb167)); clear HB; have HB := n0_; have BK167 := n1_; have GW167 := n2_; have GE167 := n3_; clear n0_ n1_ n2_ n3_; clear hb hbox hg; obtain ⟨hcz12_0, hcz12_1, hcz12_2, hcz12_3, hcz12_4⟩ := Gv.c5 BK167.out; obtain ⟨hfz12_0, hfz12_1, hfz12_2, hfz12_3, hfz12_4⟩ := Gv.f5 BK167.out))
    go_ret
    exact ⟨Gv.rt, Gv.bw⟩
  ·rw [if_neg c3] at H
   have c3b0 : (a0_1 == 0) = false := beq_eq_false_iff_ne.mpr c3
   have c3b1 : (a0_1 != 0) = true := bne_iff_ne.mpr c3
   obtain rfl := Option.some.inj H
   go_enter Try.func61, Try.ntmps61
   go_wp2_with (first | ((with_reducible refine gate_dst (N := 1) rfl ?_); refine box_event ?hg (N := 1) ?hd (cs := #[.int .i64 a0_0, .int .i64 a0_1, .int .i64 a0_2, .int .i64 a0_3, .int .i64 a0_4]) (t := 34) ?hr ?_; (case hd => rfl); (case hg => rfl); (case hr => first | (go_simp; done) | (go_simp; rfl)); intro gb167 hg w13 hbox hb; have n0_ := Gv.a0 (below_step Gv.bw hb); have n1_ := Gv.a0 (hbox); have n2_ := Gv.a0 ((Gv.ble hg Gv.bw : w.heap.size ≤ gb167)); have n3_ := Gv.a0 ((Gv.ble hg Gv.bw : w.heap.size ≤ gb167)); clear HB; have HB := n0_; have BK167 := n1_; have GW167 := n2_; have GE167 := n3_; clear n0_ n1_ n2_ n3_; clear hb hbox hg; obtain ⟨hcz14_0, hcz14_1, hcz14_2, hcz14_3, hcz14_4⟩ := Gv.c5 BK167.out; obtain ⟨hfz14_0, hfz14_1, hfz14_2, hfz14_3, hfz14_4⟩ := Gv.f5 BK167.out))
   go_ret
   exact ⟨Gv.rt, Gv.bw⟩
 ·rw [if_neg c2] at H
  have c2b0 : (a0_0 == 4) = false := beq_eq_false_iff_ne.mpr c2
  have c2b1 : (a0_0 != 4) = true := bne_iff_ne.mpr c2
  by_cases c15 : a0_0 = 6
  ·rw [if_pos c15] at H
   have c15b0 : (a0_0 == 6) = true := beq_iff_eq.mpr c15
   have c15b1 : (a0_0 != 6) = false := bne_eq_false_iff_eq.mpr c15
   clear c15
   replace H := Option.bind_eq_some_iff.mp H
   obtain ⟨t169, A160, H⟩ := H
   replace H : (if t169 = true then ((spec_l03Half.f a0_2).bind fun t170 => (if t170 = true then ((spec_l03Half.f a0_3).bind fun t171 => (if t171 = true then ((spec_l03Half.f a0_4).bind fun t172 => (some t172)) else (some false))) else (some false))) else (some false)) = some r := H
   have A16 := Gv.a0 A160
   clear A160
   by_cases c17 : t169 = true
   ·subst c17
    have H1 : ((spec_l03Half.f a0_2).bind fun t170 => (if t170 = true then ((spec_l03Half.f a0_3).bind fun t171 => (if t171 = true then ((spec_l03Half.f a0_4).bind fun t172 => (some t172)) else (some false))) else (some false))) = some r := by rw [if_pos rfl] at H; exact H
    clear H
    have H := H1
    clear H1
    replace H := Option.bind_eq_some_iff.mp H
    obtain ⟨t170, A180, H⟩ := H
    replace H : (if t170 = true then ((spec_l03Half.f a0_3).bind fun t171 => (if t171 = true then ((spec_l03Half.f a0_4).bind fun t172 => (some t172)) else (some false))) else (some false)) = some r := H
    have A18 := Gv.a0 A180
    clear A180
    by_cases c19 : t170 = true
    ·subst c19
     have H1 : ((spec_l03Half.f a0_3).bind fun t171 => (if t171 = true then ((spec_l03Half.f a0_4).bind fun t172 => (some t172)) else (some false))) = some r := by rw [if_pos rfl] at H; exact H
     clear H
     have H := H1
     clear H1
     replace H := Option.bind_eq_some_iff.mp H
     obtain ⟨t171, A200, H⟩ := H
     replace H : (if t171 = true then ((spec_l03Half.f a0_4).bind fun t172 => (some t172)) else (some false)) = some r := H
     have A20 := Gv.a0 A200
     clear A200
     by_cases c21 : t171 = true
     ·subst c21
      have H1 : ((spec_l03Half.f a0_4).bind fun t172 => (some t172)) = some r := by rw [if_pos rfl] at H; exact H
      clear H
      have H := H1
      clear H1
      replace H := Option.bind_eq_some_iff.mp H
      obtain ⟨t172, A220, H⟩ := H
      replace H : (some t172) = some r := H
      have A22 := Gv.a0 A220
      clear A220
      obtain rfl := Option.some.inj H
      go_enter Try.func61, Try.ntmps61
      go_wp2_with (first | ((with_reducible refine gate_dst (N := 1) rfl ?_); refine box_event ?hg (N := 1) ?hd (cs := #[.int .i64 a0_0, .int .i64 a0_1, .int .i64 a0_2, .int .i64 a0_3, .int .i64 a0_4]) (t := 34) ?hr ?_; (case hd => rfl); (case hg => rfl); (case hr => first | (go_simp; done) | (go_simp; rfl)); intro gb167 hg w23 hbox hb; have n0_ := Gv.a0 (below_step Gv.bw hb); have n1_ := Gv.a0 (hbox); have n2_ := Gv.a0 ((Gv.ble hg Gv.bw : w.heap.size ≤ gb167)); have n3_ := Gv.a0 ((Gv.ble hg Gv.bw : w.heap.size ≤ gb167)); clear HB; have HB := n0_; have BK167 := n1_; have GW167 := n2_; have GE167 := n3_; clear n0_ n1_ n2_ n3_; clear hb hbox hg; obtain ⟨hcz24_0, hcz24_1, hcz24_2, hcz24_3, hcz24_4⟩ := Gv.c5 BK167.out; obtain ⟨hfz24_0, hfz24_1, hfz24_2, hfz24_3, hfz24_4⟩ := Gv.f5 BK167.out) | (go_at_call 72; (with_reducible refine (spec_l03Half.calls a0_1 true _ A16.out).mono ?_); rintro e w' ⟨rfl, ⟨nd, rfl⟩⟩) | (go_at_call 72; (with_reducible refine (spec_l03Half.calls a0_2 true _ A18.out).mono ?_); rintro e w' ⟨rfl, ⟨nd, rfl⟩⟩) | (go_at_call 72; (with_reducible refine (spec_l03Half.calls a0_3 true _ A20.out).mono ?_); rintro e w' ⟨rfl, ⟨nd, rfl⟩⟩) | (go_at_call 72; (with_reducible refine (spec_l03Half.calls a0_4 t172 _ A22.out).mono ?_); rintro e w' ⟨rfl, ⟨nd, rfl⟩⟩))
      go_ret
      exact ⟨Gv.rt, Gv.bw⟩
     ·replace c21 := Bool.eq_false_iff.mpr c21
      subst c21
      have H1 : (some false) = some r := by rw [if_neg (show ¬ (false = true) by decide)] at H; exact H
      clear H
      have H := H1
      clear H1
      obtain rfl := Option.some.inj H
      go_enter Try.func61, Try.ntmps61
      go_wp2_with (first | ((with_reducible refine gate_dst (N := 1) rfl ?_); refine box_event ?hg (N := 1) ?hd (cs := #[.int .i64 a0_0, .int .i64 a0_1, .int .i64 a0_2, .int .i64 a0_3, .int .i64 a0_4]) (t := 34) ?hr ?_; (case hd => rfl); (case hg => rfl); (case hr => first | (go_simp; done) | (go_simp; rfl)); intro gb167 hg w25 hbox hb; have n0_ := Gv.a0 (below_step Gv.bw hb); have n1_ := Gv.a0 (hbox); have n2_ := Gv.a0 ((Gv.ble hg Gv.bw : w.heap.size ≤ gb167)); have n3_ := Gv.a0 ((Gv.ble hg Gv.bw : w.heap.size ≤ gb167)); clear HB; have HB := n0_; have BK167 := n1_; have GW167 := n2_; have GE167 := n3_; clear n0_ n1_ n2_ n3_; clear hb hbox hg; obtain ⟨hcz26_0, hcz26_1, hcz26_2, hcz26_3, hcz26_4⟩ := Gv.c5 BK167.out; obtain ⟨hfz26_0, hfz26_1, hfz26_2, hfz26_3, hfz26_4⟩ := Gv.f5 BK167.out) | (go_at_call 72; (with_reducible refine (spec_l03Half.calls a0_1 true _ A16.out).mono ?_); rintro e w' ⟨rfl, ⟨nd, rfl⟩⟩) | (go_at_call 72; (with_reducible refine (spec_l03Half.calls a0_2 true _ A18.out).mono ?_); rintro e w' ⟨rfl, ⟨nd, rfl⟩⟩) | (go_at_call 72; (with_reducible refine (spec_l03Half.calls a0_3 false _ A20.out).mono ?_); rintro e w' ⟨rfl, ⟨nd, rfl⟩⟩))
      go_ret
      exact ⟨Gv.rt, Gv.bw⟩
    ·replace c19 := Bool.eq_false_iff.mpr c19
     subst c19
     have H1 : (some false) = some r := by rw [if_neg (show ¬ (false = true) by decide)] at H; exact H
     clear H
     have H := H1
     clear H1
     obtain rfl := Option.some.inj H
     go_enter Try.func61, Try.ntmps61
     go_wp2_with (first | ((with_reducible refine gate_dst (N := 1) rfl ?_); refine box_event ?hg (N := 1) ?hd (cs := #[.int .i64 a0_0, .int .i64 a0_1, .int .i64 a0_2, .int .i64 a0_3, .int .i64 a0_4]) (t := 34) ?hr ?_; (case hd => rfl); (case hg => rfl); (case hr => first | (go_simp; done) | (go_simp; rfl)); intro gb167 hg w27 hbox hb; have n0_ := Gv.a0 (below_step Gv.bw hb); have n1_ := Gv.a0 (hbox); have n2_ := Gv.a0 ((Gv.ble hg Gv.bw : w.heap.size ≤ gb167)); have n3_ := Gv.a0 ((Gv.ble hg Gv.bw : w.heap.size ≤ gb167)); clear HB; have HB := n0_; have BK167 := n1_; have GW167 := n2_; have GE167 := n3_; clear n0_ n1_ n2_ n3_; clear hb hbox hg; obtain ⟨hcz28_0, hcz28_1, hcz28_2, hcz28_3, hcz28_4⟩ := Gv.c5 BK167.out; obtain ⟨hfz28_0, hfz28_1, hfz28_2, hfz28_3, hfz28_4⟩ := Gv.f5 BK167.out) | (go_at_call 72; (with_reducible refine (spec_l03Half.calls a0_1 true _ A16.out).mono ?_); rintro e w' ⟨rfl, ⟨nd, rfl⟩⟩) | (go_at_call 72; (with_reducible refine (spec_l03Half.calls a0_2 false _ A18.out).mono ?_); rintro e w' ⟨rfl, ⟨nd, rfl⟩⟩))
     go_ret
     exact ⟨Gv.rt, Gv.bw⟩
   ·replace c17 := Bool.eq_false_iff.mpr c17
    subst c17
    have H1 : (some false) = some r := by rw [if_neg (show ¬ (false = true) by decide)] at H; exact H
    clear H
    have H := H1
    clear H1
    obtain rfl := Option.some.inj H
    go_enter Try.func61, Try.ntmps61
    go_wp2_with (first | ((with_reducible refine gate_dst (N := 1) rfl ?_); refine box_event ?hg (N := 1) ?hd (cs := #[.int .i64 a0_0, .int .i64 a0_1, .int .i64 a0_2, .int .i64 a0_3, .int .i64 a0_4]) (t := 34) ?hr ?_; (case hd => rfl); (case hg => rfl); (case hr => first | (go_simp; done) | (go_simp; rfl)); intro gb167 hg w29 hbox hb; have n0_ := Gv.a0 (below_step Gv.bw hb); have n1_ := Gv.a0 (hbox); have n2_ := Gv.a0 ((Gv.ble hg Gv.bw : w.heap.size ≤ gb167)); have n3_ := Gv.a0 ((Gv.ble hg Gv.bw : w.heap.size ≤ gb167)); clear HB; have HB := n0_; have BK167 := n1_; have GW167 := n2_; have GE167 := n3_; clear n0_ n1_ n2_ n3_; clear hb hbox hg; obtain ⟨hcz30_0, hcz30_1, hcz30_2, hcz30_3, hcz30_4⟩ := Gv.c5 BK167.out; obtain ⟨hfz30_0, hfz30_1, hfz30_2, hfz30_3, hfz30_4⟩ := Gv.f5 BK167.out) | (go_at_call 72; (with_reducible refine (spec_l03Half.calls a0_1 false _ A16.out).mono ?_); rintro e w' ⟨rfl, ⟨nd, rfl⟩⟩))
    go_ret
    exact ⟨Gv.rt, Gv.bw⟩
  ·rw [if_neg c15] at H
   have c15b0 : (a0_0 == 6) = false := beq_eq_false_iff_ne.mpr c15
   have c15b1 : (a0_0 != 6) = true := bne_iff_ne.mpr c15
   obtain rfl := Option.some.inj H
   go_enter Try.func61, Try.ntmps61
   go_wp2_with (first | ((with_reducible refine gate_dst (N := 1) rfl ?_); refine box_event ?hg (N := 1) ?hd (cs := #[.int .i64 a0_0, .int .i64 a0_1, .int .i64 a0_2, .int .i64 a0_3, .int .i64 a0_4]) (t := 34) ?hr ?_; (case hd => rfl); (case hg => rfl); (case hr => first | (go_simp; done) | (go_simp; rfl)); intro gb167 hg w31 hbox hb; have n0_ := Gv.a0 (below_step Gv.bw hb); have n1_ := Gv.a0 (hbox); have n2_ := Gv.a0 ((Gv.ble hg Gv.bw : w.heap.size ≤ gb167)); have n3_ := Gv.a0 ((Gv.ble hg Gv.bw : w.heap.size ≤ gb167)); clear HB; have HB := n0_; have BK167 := n1_; have GW167 := n2_; have GE167 := n3_; clear n0_ n1_ n2_ n3_; clear hb hbox hg; obtain ⟨hcz32_0, hcz32_1, hcz32_2, hcz32_3, hcz32_4⟩ := Gv.c5 BK167.out; obtain ⟨hfz32_0, hfz32_1, hfz32_2, hfz32_3, hfz32_4⟩ := Gv.f5 BK167.out))
   go_ret
   exact ⟨Gv.rt, Gv.bw⟩

/-! ### spec_l03Bits: function 62 -/
def spec_l03Bits.f (a0_0 : Int) (a0_1 : Int) (a0_2 : Int) (a0_3 : Int) (a0_4 : Int) : Option (Int) := if a0_0 = 4 then (some 32) else (some 128)
set_option maxHeartbeats 8000000 in
set_option maxRecDepth 100000 in
theorem spec_l03Bits.calls (a0_0 : Int) (a0_1 : Int) (a0_2 : Int) (a0_3 : Int) (a0_4 : Int) (r : Int) (w : World) (h : spec_l03Bits.f a0_0 a0_1 a0_2 a0_3 a0_4 = some r) :
  Calls Try.prog 62 #[.agg #[.int .i64 a0_0, .int .i64 a0_1, .int .i64 a0_2, .int .i64 a0_3, .int .i64 a0_4]] w fun e w' => e = .returned (.int .i64 r) ∧ Below w.heap.size w w' := by
 have hu34 := Try.underlying34
 have HB := Gv.a0 (Below.refl w.heap.size w)
 have H : (if a0_0 = 4 then (some 32) else (some 128)) = some r := h
 clear h
 by_cases c2 : a0_0 = 4
 ·rw [if_pos c2] at H
  have c2b0 : (a0_0 == 4) = true := beq_iff_eq.mpr c2
  have c2b1 : (a0_0 != 4) = false := bne_eq_false_iff_eq.mpr c2
  clear c2
  obtain rfl := Option.some.inj H
  go_enter Try.func62, Try.ntmps62
  go_wp2_with (first | ((with_reducible refine gate_dst (N := 1) rfl ?_); refine box_event ?hg (N := 1) ?hd (cs := #[.int .i64 a0_0, .int .i64 a0_1, .int .i64 a0_2, .int .i64 a0_3, .int .i64 a0_4]) (t := 34) ?hr ?_; (case hd => rfl); (case hg => rfl); (case hr => first | (go_simp; done) | (go_simp; rfl)); intro gb173 hg w3 hbox hb; have n0_ := Gv.a0 (below_step Gv.bw hb); have n1_ := Gv.a0 (hbox); have n2_ := Gv.a0 ((Gv.ble hg Gv.bw : w.heap.size ≤ gb173)); have n3_ := Gv.a0 ((Gv.ble hg Gv.bw : w.heap.size ≤ gb173)); clear HB; have HB := n0_; have BK173 := n1_; have GW173 := n2_; have GE173 := n3_; clear n0_ n1_ n2_ n3_; clear hb hbox hg; obtain ⟨hcz4_0, hcz4_1, hcz4_2, hcz4_3, hcz4_4⟩ := Gv.c5 BK173.out; obtain ⟨hfz4_0, hfz4_1, hfz4_2, hfz4_3, hfz4_4⟩ := Gv.f5 BK173.out))
  go_ret
  exact ⟨Gv.rt, Gv.bw⟩
 ·rw [if_neg c2] at H
  have c2b0 : (a0_0 == 4) = false := beq_eq_false_iff_ne.mpr c2
  have c2b1 : (a0_0 != 4) = true := bne_iff_ne.mpr c2
  obtain rfl := Option.some.inj H
  go_enter Try.func62, Try.ntmps62
  go_wp2_with (first | ((with_reducible refine gate_dst (N := 1) rfl ?_); refine box_event ?hg (N := 1) ?hd (cs := #[.int .i64 a0_0, .int .i64 a0_1, .int .i64 a0_2, .int .i64 a0_3, .int .i64 a0_4]) (t := 34) ?hr ?_; (case hd => rfl); (case hg => rfl); (case hr => first | (go_simp; done) | (go_simp; rfl)); intro gb173 hg w5 hbox hb; have n0_ := Gv.a0 (below_step Gv.bw hb); have n1_ := Gv.a0 (hbox); have n2_ := Gv.a0 ((Gv.ble hg Gv.bw : w.heap.size ≤ gb173)); have n3_ := Gv.a0 ((Gv.ble hg Gv.bw : w.heap.size ≤ gb173)); clear HB; have HB := n0_; have BK173 := n1_; have GW173 := n2_; have GE173 := n3_; clear n0_ n1_ n2_ n3_; clear hb hbox hg; obtain ⟨hcz6_0, hcz6_1, hcz6_2, hcz6_3, hcz6_4⟩ := Gv.c5 BK173.out; obtain ⟨hfz6_0, hfz6_1, hfz6_2, hfz6_3, hfz6_4⟩ := Gv.f5 BK173.out))
  go_ret
  exact ⟨Gv.rt, Gv.bw⟩

/-! ### spec_l01Low: function 84 -/
def spec_l01Low.f (a0 : Int) (a1 : Int) : Option (Int) := if a1 = 0 then (none) else (if (Int.tmod a0 a1) < 0 then (some (wrap64 ((Int.tmod a0 a1) + a1))) else (some (Int.tmod a0 a1)))
set_option maxHeartbeats 8000000 in
set_option maxRecDepth 100000 in
theorem spec_l01Low.calls (a0 : Int) (a1 : Int) (r : Int) (w : World) (h : spec_l01Low.f a0 a1 = some r) :
  Calls Try.prog 84 #[.int .i64 a0, .int .i64 a1] w fun e w' => e = .returned (.int .i64 r) ∧ Drawn0 w w' := by
 have H : (if a1 = 0 then (none) else (if (Int.tmod a0 a1) < 0 then (some (wrap64 ((Int.tmod a0 a1) + a1))) else (some (Int.tmod a0 a1)))) = some r := h
 clear h
 by_cases c3 : a1 = 0
 ·rw [if_pos c3] at H
  exact absurd H (by simp)
 ·rw [if_neg c3] at H
  have c3b0 : (a1 == 0) = false := beq_eq_false_iff_ne.mpr c3
  have c3b1 : (a1 != 0) = true := bne_iff_ne.mpr c3
  by_cases c4 : (Int.tmod a0 a1) < 0
  ·rw [if_pos c4] at H
   have c4b0 : decide ((Int.tmod a0 a1) < 0) = true := decide_eq_true c4
   clear c4
   obtain rfl := Option.some.inj H
   go_enter Try.func84, Try.ntmps84
   go_wp2
   go_ret
   exact ⟨by first | rfl | (simp; done) | (simp [Int.tdiv_eq_ediv_of_nonneg]; done) | (simp [*]; done), by repeat (first | exact Drawn0.refl _ | apply Drawn0.step)⟩
  ·rw [if_neg c4] at H
   have c4b0 : decide ((Int.tmod a0 a1) < 0) = false := decide_eq_false c4
   clear c4
   obtain rfl := Option.some.inj H
   go_enter Try.func84, Try.ntmps84
   go_wp2
   go_ret
   exact ⟨by first | rfl | (simp; done) | (simp [Int.tdiv_eq_ediv_of_nonneg]; done) | (simp [*]; done), by repeat (first | exact Drawn0.refl _ | apply Drawn0.step)⟩

/-! ### spec_Put16: function 85 -/
def spec_Put16.f (a0 : Int) : Option (List Int) := (spec_l01Low.f a0 65536).bind fun t174 => (some (([(wrap64 (Int.tdiv t174 256)) % 256, (Int.tmod t174 256) % 256] : List Int)))
set_option maxHeartbeats 8000000 in
set_option maxRecDepth 100000 in
theorem spec_Put16.calls (a0 : Int) (r : List Int) (w : World) (h : spec_Put16.f a0 = some r) :
  Calls Try.prog 85 #[.int .i64 a0] w fun e w' => ∃ v0_ : Value, e = .returned (v0_) ∧ Kd.R (Kd.int .u8) 5 w' w.heap.size (fun _ => True) v0_ r ∧ Below w.heap.size w w' := by
 have HB := Gv.a0 (Below.refl w.heap.size w)
 have H : ((spec_l01Low.f a0 65536).bind fun t174 => (some (([(wrap64 (Int.tdiv t174 256)) % 256, (Int.tmod t174 256) % 256] : List Int)))) = some r := h
 clear h
 replace H := Option.bind_eq_some_iff.mp H
 obtain ⟨t174, A20, H⟩ := H
 replace H : (some (([(wrap64 (Int.tdiv t174 256)) % 256, (Int.tmod t174 256) % 256] : List Int))) = some r := H
 have A2 := Gv.a0 A20
 clear A20
 obtain ⟨y175, hy175⟩ : ∃ y_ : List Int, y_ = (([(wrap64 (Int.tdiv t174 256)) % 256, (Int.tmod t174 256) % 256] : List Int)) := ⟨_, rfl⟩
 replace H : (some y175) = some r := by first | (rw [hy175]; with_reducible exact H) | (have H2_ := (Option.bind_some _ _).symm.trans H; rw [hy175]; with_reducible exact H2_) | (have H2_ := (Option.bind_some _ _).symm.trans H; with_reducible exact H2_) | with_reducible exact H | (rw [hy175]; exact H) | exact H
 have Ny175 := Gv.a0 hy175
 clear hy175
 obtain rfl := Option.some.inj H
 go_enter Try.func85, Try.ntmps85
 go_wp2_with (first | ((with_reducible refine gate_callee (f := 84) rfl ?_); refine goesL_ (some 5) rfl rfl Try.func84 (by kernel_rfl) rfl #[.int .i64 a0, .int .i64 65536] rfl Gv.lm ?_; (with_reducible refine (spec_l01Low.calls a0 65536 t174 _ A2.out).mono ?_); rintro e w' ⟨rfl, ⟨nd, rfl⟩⟩; refine ⟨_, rfl, ?_⟩) | ((with_reducible refine gate_dst (N := 12) rfl ?_); refine Kd.R_lit (Kd.int .u8) _ 5 ?hg (N := 12) ?hd (xs := ([(wrap64 (Int.tdiv t174 256)) % 256, (Int.tmod t174 256) % 256] : List Int)) (inner := [.int .u8 ((wrap64 (Int.tdiv t174 256)) % 256), .int .u8 ((Int.tmod t174 256) % 256)]) (ok := fun _ => True) (okp := fun _ => True) ?hr ?hp (fun _ hk => hk) trivial (Below.refl _ _) (Nat.le_refl _) (by simp) ?_; (case hd => rfl); (case hg => rfl); (case hr => first | (go_simp; done) | (go_simp; rfl)); (case hp => exact (Reps.one (show Kd.M (Kd.int .u8) _ _ _ ((wrap64 (Int.tdiv t174 256)) % 256) [.int .u8 ((wrap64 (Int.tdiv t174 256)) % 256)] from rfl) (Reps.one (show Kd.M (Kd.int .u8) _ _ _ ((Int.tmod t174 256) % 256) [.int .u8 ((Int.tmod t174 256) % 256)] from rfl) (Reps.none _ _)))); intro v176 w3 ho4 hb hg_ hnew_; clear hg_ hnew_; (first | rw [← Ny175.out] at ho4 | (simp only [Int.reduceToNat] at ho4; rw [← Ny175.out] at ho4)); have n0_ := Gv.a0 (Kd.R_lower ho4 (below_size Gv.bw)); have n1_ := Gv.a0 (below_step Gv.bw hb); clear HB; have HO177 := n0_; have HB := n1_; clear n0_ n1_; clear hb ho4))
 go_ret
 exact ⟨_, Gv.rt, Gv.kr HO177.out, Gv.bw⟩

/-! ### spec_Put32: function 79 -/
def spec_Put32.f (a0 : Int) : Option (List Int) := (spec_l01Low.f a0 4294967296).bind fun t178 => ((spec_Put16.f (wrap64 (Int.tdiv t178 65536))).bind fun t179 => ((spec_Put16.f (Int.tmod t178 65536)).bind fun t182 => (if t179.length + t182.length < 140737488355328 then (some (t179 ++ t182)) else (none))))
set_option maxHeartbeats 8000000 in
set_option maxRecDepth 100000 in
theorem spec_Put32.calls (a0 : Int) (r : List Int) (w : World) (h : spec_Put32.f a0 = some r) :
  Calls Try.prog 79 #[.int .i64 a0] w fun e w' => ∃ v0_ : Value, e = .returned (v0_) ∧ Kd.R (Kd.int .u8) 5 w' w.heap.size (fun _ => True) v0_ r ∧ Below w.heap.size w w' := by
 have HB := Gv.a0 (Below.refl w.heap.size w)
 have H : ((spec_l01Low.f a0 4294967296).bind fun t178 => ((spec_Put16.f (wrap64 (Int.tdiv t178 65536))).bind fun t179 => ((spec_Put16.f (Int.tmod t178 65536)).bind fun t182 => (if t179.length + t182.length < 140737488355328 then (some (t179 ++ t182)) else (none))))) = some r := h
 clear h
 replace H := Option.bind_eq_some_iff.mp H
 obtain ⟨t178, A20, H⟩ := H
 replace H : ((spec_Put16.f (wrap64 (Int.tdiv t178 65536))).bind fun t179 => ((spec_Put16.f (Int.tmod t178 65536)).bind fun t182 => (if t179.length + t182.length < 140737488355328 then (some (t179 ++ t182)) else (none)))) = some r := H
 have A2 := Gv.a0 A20
 clear A20
 replace H := Option.bind_eq_some_iff.mp H
 obtain ⟨t179, A30, H⟩ := H
 replace H : ((spec_Put16.f (Int.tmod t178 65536)).bind fun t182 => (if t179.length + t182.length < 140737488355328 then (some (t179 ++ t182)) else (none))) = some r := H
 have A3 := Gv.a0 A30
 clear A30
 replace H := Option.bind_eq_some_iff.mp H
 obtain ⟨t182, A40, H⟩ := H
 replace H : (if t179.length + t182.length < 140737488355328 then (some (t179 ++ t182)) else (none)) = some r := H
 have A4 := Gv.a0 A40
 clear A40
 by_cases c5 : t179.length + t182.length < 140737488355328
 ·rw [if_pos c5] at H
  have LMc5 := Gv.a0 c5
  clear c5
  obtain ⟨y185, hy185⟩ : ∃ y_ : List Int, y_ = (t179 ++ t182) := ⟨_, rfl⟩
  replace H : (some y185) = some r := by first | (rw [hy185]; with_reducible exact H) | (have H2_ := (Option.bind_some _ _).symm.trans H; rw [hy185]; with_reducible exact H2_) | (have H2_ := (Option.bind_some _ _).symm.trans H; with_reducible exact H2_) | with_reducible exact H | (rw [hy185]; exact H) | exact H
  have Ny185 := Gv.a0 hy185
  clear hy185
  obtain rfl := Option.some.inj H
  go_enter Try.func79, Try.ntmps79
  go_wp2_with (first | ((with_reducible refine gate_callee (f := 84) rfl ?_); refine goesL_ (some 5) rfl rfl Try.func84 (by kernel_rfl) rfl #[.int .i64 a0, .int .i64 4294967296] rfl Gv.lm ?_; (with_reducible refine (spec_l01Low.calls a0 4294967296 t178 _ A2.out).mono ?_); rintro e w' ⟨rfl, ⟨nd, rfl⟩⟩; refine ⟨_, rfl, ?_⟩) | ((with_reducible refine gate_callee (f := 85) rfl ?_); refine goesL_ (some 8) rfl rfl Try.func85 (by kernel_rfl) rfl #[.int .i64 (wrap64 (Int.tdiv t178 65536))] rfl Gv.lm ?_; (with_reducible refine (spec_Put16.calls (wrap64 (Int.tdiv t178 65536)) t179 _ A3.out).mono ?_); rintro e w6 ⟨v180, rfl, ho0, hb⟩; refine ⟨_, rfl, ?_⟩; have n0_ := Gv.a0 (Kd.R_lower ho0 (below_size Gv.bw)); have n1_ := Gv.a0 (below_step Gv.bw hb); clear HB; have HO181 := n0_; have HB := n1_; clear n0_ n1_; (try clear hb); (try clear hb2); (try clear hk); (try clear hi); (try clear ho0)) | ((with_reducible refine gate_callee (f := 85) rfl ?_); refine goesL_ (some 11) rfl rfl Try.func85 (by kernel_rfl) rfl #[.int .i64 (Int.tmod t178 65536)] rfl Gv.lm ?_; (with_reducible refine (spec_Put16.calls (Int.tmod t178 65536) t182 _ A4.out).mono ?_); rintro e w7 ⟨v183, rfl, ho0, hb⟩; refine ⟨_, rfl, ?_⟩; have n0_ := Gv.a0 (Kd.R_elder' (Gv.kr HO181.out) (Kd.R_base ho0) hb); have n1_ := Gv.a0 (Kd.R_lower (Kd.R_new' ho0 (Kd.R_lt (Gv.kr HO181.out))) (below_size Gv.bw)); have n2_ := Gv.a0 (below_step Gv.bw hb); clear HO181; clear HB; have HO181 := n0_; have HO184 := n1_; have HB := n2_; clear n0_ n1_ n2_; (try clear hb); (try clear hb2); (try clear hk); (try clear hi); (try clear ho0); obtain ⟨Ao9, co9, eo9⟩ := Kd.R_slice HO184.out; subst eo9) | ((with_reducible refine gate_builtin (b := .append) (xs := #[.tmp 8, .tmp 11]) rfl ?_); at_builtin; refine Kd.R_append_rows (Kd.int .u8) (w0 := w) w.heap.size rfl (.tmp 8) (.tmp 11) 80 5 (.int .u8 0) 1 rfl Try.underlying80 info5 rfl (by decide) (by omega) v180 t179 t182 _ _ _ (fun k_ => some k_ ≠ (.slice Ao9 t182.length co9 : Value).ownBlock) (fun _ => False) rfl rfl ?aO ?aR (fun _ _ h => h) (fun _ h => h.elim) ?aF ?aB ?aS ?aL ?_; (case aR => repeat (first | exact (Kd.R_reads' HO184.out).2.2 | (with_reducible refine Kd.C_alloc ?_ _) | (with_reducible refine Kd.C_drewN ?_ _) | (with_reducible refine Kd.C_drew ?_))); (case aB => exact Gv.bw); (case aF => exact (fun k_ hk => Kd.fresh' (Kd.R_lt (Gv.kr HO184.out)) k_ hk)); (case aO => exact (by (with_reducible repeat (first | apply Kd.R_alloc | apply Kd.R_drewN | apply Kd.R_drew)); exact Kd.R_mono HO181.out (fun _ hk => hk.2))); (case aS => exact (below_size Gv.bw)); (case aL => have := LMc5.out; omega); intro v186 w8 ho hb hg hat; rw [← Ny185.out] at ho; have n0_ := Gv.a0 (Kd.R_after (ok := (fun _ => True)) (Gv.kr HO184.out) hg hat); have n1_ := Gv.a0 (hb); have n2_ := Gv.a0 (ho); clear HO184; clear HB; clear HO181; have HO184 := n0_; have HB := n1_; have HO187 := n2_; clear n0_ n1_ n2_; clear ho hb hg hat))
  go_ret
  exact ⟨_, Gv.rt, by (with_reducible repeat (first | apply Kd.R_alloc | apply Kd.R_drewN | apply Kd.R_drew)); exact Kd.R_mono HO187.out (fun _ hk => trivial), Gv.bw⟩
 ·rw [if_neg c5] at H
  exact absurd H (by simp)

/-! ### spec_AddrBytes: function 73 -/
def spec_AddrBytes.f (a0_0 : Int) (a0_1 : Int) (a0_2 : Int) (a0_3 : Int) (a0_4 : Int) : Option (List Int) := (spec_AddrOk.f a0_0 a0_1 a0_2 a0_3 a0_4).bind fun t189 => (if t189 = true then (if a0_0 = 4 then ((spec_Put32.f a0_4).bind fun t190 => (some t190)) else ((spec_Put32.f a0_1).bind fun t193 => ((spec_Put32.f a0_2).bind fun t196 => (if t193.length + t196.length < 140737488355328 then ((some (t193 ++ t196 : List Int)).bind fun y199 => ((spec_Put32.f a0_3).bind fun t202 => (if y199.length + t202.length < 140737488355328 then ((some (y199 ++ t202 : List Int)).bind fun y205 => ((spec_Put32.f a0_4).bind fun t208 => (if y205.length + t208.length < 140737488355328 then (some (y205 ++ t208)) else (none)))) else (none)))) else (none))))) else (some ([] : List Int)))
def spec_AddrBytes.T5 : Bool × List (List Nat × List Nat) := (true, [([], []), ([0], [0]), ([1], [1]), ([], []), ([3], [3]), ([4, 2], [4]), ([2, 5, 5], [2, 5]), ([6, 6, 0, 1, 2, 3, 4, 5, 6], [6])])
def spec_AddrBytes.B5 : List Nat := [0, 1, 3, 0, 8, 31, 63, 127]
theorem spec_AddrBytes.tab5 : rtab .any (opsOf Try.f73 5) = spec_AddrBytes.T5 := by kernel_rfl
theorem spec_AddrBytes.bits5 : waitsOk spec_AddrBytes.T5.2 spec_AddrBytes.B5 = true := by kernel_rfl
def spec_AddrBytes.T6 : Bool × List (List Nat × List Nat) := (true, [([], []), ([], []), ([1], [1]), ([2], [2]), ([0, 3, 3], [0, 3]), ([], []), ([5], [5]), ([6, 4], [6]), ([4, 7, 7], [4, 7]), ([8, 8, 0, 1, 2, 3, 4, 5, 6, 7, 8], [8])])
def spec_AddrBytes.B6 : List Nat := [0, 0, 2, 6, 15, 0, 32, 127, 255, 511]
theorem spec_AddrBytes.tab6 : rtab .any (opsOf Try.f73 6) = spec_AddrBytes.T6 := by kernel_rfl
theorem spec_AddrBytes.bits6 : waitsOk spec_AddrBytes.T6.2 spec_AddrBytes.B6 = true := by kernel_rfl
set_option maxHeartbeats 8000000 in
set_option maxRecDepth 100000 in
theorem spec_AddrBytes.calls (a0_0 : Int) (a0_1 : Int) (a0_2 : Int) (a0_3 : Int) (a0_4 : Int) (r : List Int) (w : World) (h : spec_AddrBytes.f a0_0 a0_1 a0_2 a0_3 a0_4 = some r) :
  Calls Try.prog 73 #[.agg #[.int .i64 a0_0, .int .i64 a0_1, .int .i64 a0_2, .int .i64 a0_3, .int .i64 a0_4]] w fun e w' => ∃ v0_ : Value, e = .returned (v0_) ∧ Kd.R (Kd.int .u8) 5 w' w.heap.size (fun _ => True) v0_ r ∧ Below w.heap.size w w' := by
 have hu34 := Try.underlying34
 have HB := Gv.a0 (Below.refl w.heap.size w)
 have H : ((spec_AddrOk.f a0_0 a0_1 a0_2 a0_3 a0_4).bind fun t189 => (if t189 = true then (if a0_0 = 4 then ((spec_Put32.f a0_4).bind fun t190 => (some t190)) else ((spec_Put32.f a0_1).bind fun t193 => ((spec_Put32.f a0_2).bind fun t196 => (if t193.length + t196.length < 140737488355328 then ((some (t193 ++ t196 : List Int)).bind fun y199 => ((spec_Put32.f a0_3).bind fun t202 => (if y199.length + t202.length < 140737488355328 then ((some (y199 ++ t202 : List Int)).bind fun y205 => ((spec_Put32.f a0_4).bind fun t208 => (if y205.length + t208.length < 140737488355328 then (some (y205 ++ t208)) else (none)))) else (none)))) else (none))))) else (some ([] : List Int)))) = some r := h
 clear h
 replace H := Option.bind_eq_some_iff.mp H
 obtain ⟨t189, A20, H⟩ := H
 replace H : (if t189 = true then (if a0_0 = 4 then ((spec_Put32.f a0_4).bind fun t190 => (some t190)) else ((spec_Put32.f a0_1).bind fun t193 => ((spec_Put32.f a0_2).bind fun t196 => (if t193.length + t196.length < 140737488355328 then ((some (t193 ++ t196 : List Int)).bind fun y199 => ((spec_Put32.f a0_3).bind fun t202 => (if y199.length + t202.length < 140737488355328 then ((some (y199 ++ t202 : List Int)).bind fun y205 => ((spec_Put32.f a0_4).bind fun t208 => (if y205.length + t208.length < 140737488355328 then (some (y205 ++ t208)) else (none)))) else (none)))) else (none))))) else (some ([] : List Int))) = some r := H
 have A2 := Gv.a0 A20
 clear A20
 by_cases c3 : t189 = true
 ·subst c3
  have H1 : (if a0_0 = 4 then ((spec_Put32.f a0_4).bind fun t190 => (some t190)) else ((spec_Put32.f a0_1).bind fun t193 => ((spec_Put32.f a0_2).bind fun t196 => (if t193.length + t196.length < 140737488355328 then ((some (t193 ++ t196 : List Int)).bind fun y199 => ((spec_Put32.f a0_3).bind fun t202 => (if y199.length + t202.length < 140737488355328 then ((some (y199 ++ t202 : List Int)).bind fun y205 => ((spec_Put32.f a0_4).bind fun t208 => (if y205.length + t208.length < 140737488355328 then (some (y205 ++ t208)) else (none)))) else (none)))) else (none))))) = some r := by rw [if_pos rfl] at H; exact H
  clear H
  have H := H1
  clear H1
  by_cases c4 : a0_0 = 4
  ·rw [if_pos c4] at H
   have c4b0 : (a0_0 == 4) = true := beq_iff_eq.mpr c4
   have c4b1 : (a0_0 != 4) = false := bne_eq_false_iff_eq.mpr c4
   clear c4
   replace H := Option.bind_eq_some_iff.mp H
   obtain ⟨t190, A50, H⟩ := H
   replace H : (some t190) = some r := H
   have A5 := Gv.a0 A50
   clear A50
   obtain rfl := Option.some.inj H
   go_enter Try.func73, Try.ntmps73
   go_wp2_with (first | ((with_reducible refine gate_dst (N := 1) rfl ?_); refine box_event ?hg (N := 1) ?hd (cs := #[.int .i64 a0_0, .int .i64 a0_1, .int .i64 a0_2, .int .i64 a0_3, .int .i64 a0_4]) (t := 34) ?hr ?_; (case hd => rfl); (case hg => rfl); (case hr => first | (go_simp; done) | (go_simp; rfl)); intro gb188 hg w6 hbox hb; have n0_ := Gv.a0 (below_step Gv.bw hb); have n1_ := Gv.a0 (hbox); have n2_ := Gv.a0 ((Gv.ble hg Gv.bw : w.heap.size ≤ gb188)); have n3_ := Gv.a0 ((Gv.ble hg Gv.bw : w.heap.size ≤ gb188)); clear HB; have HB := n0_; have BK188 := n1_; have GW188 := n2_; have GE188 := n3_; clear n0_ n1_ n2_ n3_; clear hb hbox hg; obtain ⟨hcz7_0, hcz7_1, hcz7_2, hcz7_3, hcz7_4⟩ := Gv.c5 BK188.out; obtain ⟨hfz7_0, hfz7_1, hfz7_2, hfz7_3, hfz7_4⟩ := Gv.f5 BK188.out) | ((with_reducible refine gate_callee (f := 61) rfl ?_); refine goesL_ (some 5) rfl rfl Try.func61 (by kernel_rfl) rfl #[.agg #[.int .i64 a0_0, .int .i64 a0_1, .int .i64 a0_2, .int .i64 a0_3, .int .i64 a0_4]] rfl Gv.lm ?_; (with_reducible refine (spec_AddrOk.calls a0_0 a0_1 a0_2 a0_3 a0_4 true _ A2.out).mono ?_); rintro e w8 ⟨rfl, hb⟩; refine ⟨_, rfl, ?_⟩; have n0_ := Gv.a0 (Gv.bb BK188.out hb); have n1_ := Gv.a0 (below_step Gv.bw hb); clear BK188; clear HB; have BK188 := n0_; have HB := n1_; clear n0_ n1_; (try clear hb); (try clear hb2); (try clear hk); (try clear hi); obtain ⟨hcz9_0, hcz9_1, hcz9_2, hcz9_3, hcz9_4⟩ := Gv.c5 BK188.out; obtain ⟨hfz9_0, hfz9_1, hfz9_2, hfz9_3, hfz9_4⟩ := Gv.f5 BK188.out) | ((with_reducible refine gate_callee (f := 79) rfl ?_); refine goesL_ (some 12) rfl rfl Try.func79 (by kernel_rfl) rfl #[.int .i64 a0_4] rfl Gv.lm ?_; (with_reducible refine (spec_Put32.calls a0_4 t190 _ A5.out).mono ?_); rintro e w10 ⟨v191, rfl, ho0, hb⟩; refine ⟨_, rfl, ?_⟩; have n0_ := Gv.a0 (Kd.R_lower ho0 (below_size Gv.bw)); have n1_ := Gv.a0 (Gv.bb BK188.out hb); have n2_ := Gv.a0 (below_step Gv.bw hb); clear BK188; clear HB; have HO192 := n0_; have BK188 := n1_; have HB := n2_; clear n0_ n1_ n2_; (try clear hb); (try clear hb2); (try clear hk); (try clear hi); (try clear ho0)))
   go_ret
   exact ⟨_, Gv.rt, Gv.kr HO192.out, Gv.bw⟩
  ·rw [if_neg c4] at H
   have c4b0 : (a0_0 == 4) = false := beq_eq_false_iff_ne.mpr c4
   have c4b1 : (a0_0 != 4) = true := bne_iff_ne.mpr c4
   replace H := Option.bind_eq_some_iff.mp H
   obtain ⟨t193, A110, H⟩ := H
   replace H : ((spec_Put32.f a0_2).bind fun t196 => (if t193.length + t196.length < 140737488355328 then ((some (t193 ++ t196 : List Int)).bind fun y199 => ((spec_Put32.f a0_3).bind fun t202 => (if y199.length + t202.length < 140737488355328 then ((some (y199 ++ t202 : List Int)).bind fun y205 => ((spec_Put32.f a0_4).bind fun t208 => (if y205.length + t208.length < 140737488355328 then (some (y205 ++ t208)) else (none)))) else (none)))) else (none))) = some r := H
   have A11 := Gv.a0 A110
   clear A110
   replace H := Option.bind_eq_some_iff.mp H
   obtain ⟨t196, A120, H⟩ := H
   replace H : (if t193.length + t196.length < 140737488355328 then ((some (t193 ++ t196 : List Int)).bind fun y199 => ((spec_Put32.f a0_3).bind fun t202 => (if y199.length + t202.length < 140737488355328 then ((some (y199 ++ t202 : List Int)).bind fun y205 => ((spec_Put32.f a0_4).bind fun t208 => (if y205.length + t208.length < 140737488355328 then (some (y205 ++ t208)) else (none)))) else (none)))) else (none)) = some r := H
   have A12 := Gv.a0 A120
   clear A120
   by_cases c13 : t193.length + t196.length < 140737488355328
   ·rw [if_pos c13] at H
    have LMc13 := Gv.a0 c13
    clear c13
    obtain ⟨y199, hy199⟩ : ∃ y_ : List Int, y_ = (t193 ++ t196) := ⟨_, rfl⟩
    replace H : ((spec_Put32.f a0_3).bind fun t202 => (if y199.length + t202.length < 140737488355328 then ((some (y199 ++ t202 : List Int)).bind fun y205 => ((spec_Put32.f a0_4).bind fun t208 => (if y205.length + t208.length < 140737488355328 then (some (y205 ++ t208)) else (none)))) else (none))) = some r := by first | (rw [hy199]; with_reducible exact H) | (have H2_ := (Option.bind_some _ _).symm.trans H; rw [hy199]; with_reducible exact H2_) | (have H2_ := (Option.bind_some _ _).symm.trans H; with_reducible exact H2_) | with_reducible exact H | (rw [hy199]; exact H) | exact H
    have Ny199 := Gv.a0 hy199
    clear hy199
    replace H := Option.bind_eq_some_iff.mp H
    obtain ⟨t202, A140, H⟩ := H
    replace H : (if y199.length + t202.length < 140737488355328 then ((some (y199 ++ t202 : List Int)).bind fun y205 => ((spec_Put32.f a0_4).bind fun t208 => (if y205.length + t208.length < 140737488355328 then (some (y205 ++ t208)) else (none)))) else (none)) = some r := H
    have A14 := Gv.a0 A140
    clear A140
    by_cases c15 : y199.length + t202.length < 140737488355328
    ·rw [if_pos c15] at H
     have LMc15 := Gv.a0 c15
     clear c15
     obtain ⟨y205, hy205⟩ : ∃ y_ : List Int, y_ = (y199 ++ t202) := ⟨_, rfl⟩
     replace H : ((spec_Put32.f a0_4).bind fun t208 => (if y205.length + t208.length < 140737488355328 then (some (y205 ++ t208)) else (none))) = some r := by first | (rw [hy205]; with_reducible exact H) | (have H2_ := (Option.bind_some _ _).symm.trans H; rw [hy205]; with_reducible exact H2_) | (have H2_ := (Option.bind_some _ _).symm.trans H; with_reducible exact H2_) | with_reducible exact H | (rw [hy205]; exact H) | exact H
     have Ny205 := Gv.a0 hy205
     clear hy205
     replace H := Option.bind_eq_some_iff.mp H
     obtain ⟨t208, A160, H⟩ := H
     replace H : (if y205.length + t208.length < 140737488355328 then (some (y205 ++ t208)) else (none)) = some r := H
     have A16 := Gv.a0 A160
     clear A160
     by_cases c17 : y205.length + t208.length < 140737488355328
     ·rw [if_pos c17] at H
      have LMc17 := Gv.a0 c17
      clear c17
      obtain ⟨y211, hy211⟩ : ∃ y_ : List Int, y_ = (y205 ++ t208) := ⟨_, rfl⟩
      replace H : (some y211) = some r := by first | (rw [hy211]; with_reducible exact H) | (have H2_ := (Option.bind_some _ _).symm.trans H; rw [hy211]; with_reducible exact H2_) | (have H2_ := (Option.bind_some _ _).symm.trans H; with_reducible exact H2_) | with_reducible exact H | (rw [hy211]; exact H) | exact H
      have Ny211 := Gv.a0 hy211
      clear hy211
      obtain rfl := Option.some.inj H
      go_enter Try.func73, Try.ntmps73
      try go_wp2_with (first | ((with_reducible refine gate_dst (N := 1) rfl ?_); refine box_event ?hg (N := 1) ?hd (cs := #[.int .i64 a0_0, .int .i64 a0_1, .int .i64 a0_2, .int .i64 a0_3, .int .i64 a0_4]) (t := 34) ?hr ?_; (case hd => rfl); (case hg => rfl); (case hr => first | (go_simp; done) | (go_simp; rfl)); intro gb188 hg w18 hbox hb; have n0_ := Gv.a0 (below_step Gv.bw hb); have n1_ := Gv.a0 (hbox); have n2_ := Gv.a0 ((Gv.ble hg Gv.bw : w.heap.size ≤ gb188)); have n3_ := Gv.a0 ((Gv.ble hg Gv.bw : w.heap.size ≤ gb188)); clear HB; have HB := n0_; have BK188 := n1_; have GW188 := n2_; have GE188 := n3_; clear n0_ n1_ n2_ n3_; clear hb hbox hg; obtain ⟨hcz19_0, hcz19_1, hcz19_2, hcz19_3, hcz19_4⟩ := Gv.c5 BK188.out; obtain ⟨hfz19_0, hfz19_1, hfz19_2, hfz19_3, hfz19_4⟩ := Gv.f5 BK188.out) | ((with_reducible refine gate_callee (f := 61) rfl ?_); refine goesL_ (some 5) rfl rfl Try.func61 (by kernel_rfl) rfl #[.agg #[.int .i64 a0_0, .int .i64 a0_1, .int .i64 a0_2, .int .i64 a0_3, .int .i64 a0_4]] rfl Gv.lm ?_; (with_reducible refine (spec_AddrOk.calls a0_0 a0_1 a0_2 a0_3 a0_4 true _ A2.out).mono ?_); rintro e w20 ⟨rfl, hb⟩; refine ⟨_, rfl, ?_⟩; have n0_ := Gv.a0 (Gv.bb BK188.out hb); have n1_ := Gv.a0 (below_step Gv.bw hb); clear BK188; clear HB; have BK188 := n0_; have HB := n1_; clear n0_ n1_; (try clear hb); (try clear hb2); (try clear hk); (try clear hi); obtain ⟨hcz21_0, hcz21_1, hcz21_2, hcz21_3, hcz21_4⟩ := Gv.c5 BK188.out; obtain ⟨hfz21_0, hfz21_1, hfz21_2, hfz21_3, hfz21_4⟩ := Gv.f5 BK188.out))
      have n0_ := Gv.a0 (blk_drew BK188.out)
      have n1_ := Gv.a0 (below_drew1 HB.out)
      clear BK188
      clear HB
      have BK188 := n0_
      have HB := n1_
      clear n0_ n1_
      refine start_ (n := 8) (S := fun w' => w'.cell? ⟨gb188, 0, none⟩ = some (.int .i64 a0_0) ∧ w'.cell? ⟨gb188, 1, none⟩ = some (.int .i64 a0_1) ∧ w'.cell? ⟨gb188, 2, none⟩ = some (.int .i64 a0_2) ∧ w'.cell? ⟨gb188, 3, none⟩ = some (.int .i64 a0_3) ∧ w'.cell? ⟨gb188, 4, none⟩ = some (.int .i64 a0_4)) (ds := []) #[false, false, false, false, false, false, false, false] (by kernel_rfl) rfl rfl ⟨(blk_cell BK188.out 0).trans rfl, (blk_cell BK188.out 1).trans rfl, (blk_cell BK188.out 2).trans rfl, (blk_cell BK188.out 3).trans rfl, (blk_cell BK188.out 4).trans rfl⟩ (fun hHeld => ?_); refine with_tabW spec_AddrBytes.tab5 spec_AddrBytes.bits5 (fun HT_ HW_ => ?_)
      generalize w20.drew = w22 at BK188 HB hHeld ⊢
      refine Gv.pu 0 (some 13) HT_ ?_
      refine Gv.pu 3 (some 16) HT_ ?_
      refine take_ (i := 1) (N := some 14) (v := ?_) (a' := ?_) #[true, true, false, true, false, false, false, false] rfl rfl (take_ofW HT_.out HW_.out (by kernel_rfl)) (fun _ _ _ h => h) (Or.inl ⟨by rfl, ?_⟩) hHeld ?_ ?_
      rotate_left
      ·rintro w' ⟨s0, s1, s2, s3, s4⟩
       go_simp
       with_reducible rfl
      rotate_left
      ·simp only [Act.put, List.setIfInBounds_toArray, List.set_cons_zero, List.set_cons_succ, i64_w, i32_w]
       rfl
      refine take_ (i := 4) (N := some 17) (v := ?_) (a' := ?_) #[true, true, false, true, true, false, false, false] rfl rfl (take_ofW HT_.out HW_.out (by kernel_rfl)) (fun _ _ _ h => h) (Or.inl ⟨by rfl, ?_⟩) hHeld ?_ ?_
      rotate_left
      ·rintro w' ⟨s0, s1, s2, s3, s4⟩
       go_simp
       with_reducible rfl
      rotate_left
      ·simp only [Act.put, List.setIfInBounds_toArray, List.set_cons_zero, List.set_cons_succ, i64_w, i32_w]
       rfl
      refine one_ (i := 2) (N := some 15) #[true, true, true, true, true, false, false, false] rfl rfl (one_of HT_.out (by kernel_rfl)) (by decide) (fun K hK => ?_)
      refine goes_ Try.func79 (by kernel_rfl) rfl #[.int .i64 a0_1] (by rfl) rfl rfl Gv.lm ?_
      with_reducible refine (spec_Put32.calls a0_1 t193 _ A11.out).mono ?_
      rintro e w23 ⟨v194, rfl, ho0, hb⟩
      refine ⟨_, rfl, ?_⟩
      have n0_ := Gv.a0 (Kd.R_lower ho0 (below_size Gv.bw))
      have n1_ := Gv.a0 (Gv.bb BK188.out hb)
      have n2_ := Gv.a0 (below_step Gv.bw hb)
      clear BK188
      clear HB
      have HO195 := n0_
      have BK188 := n1_
      have HB := n2_
      clear n0_ n1_ n2_
      (try clear hb)
      (try clear hb2)
      (try clear hk)
      (try clear hi)
      (try clear ho0)
      refine hK.out _ _ ⟨(blk_cell BK188.out 0).trans rfl, (blk_cell BK188.out 1).trans rfl, (blk_cell BK188.out 2).trans rfl, (blk_cell BK188.out 3).trans rfl, (blk_cell BK188.out 4).trans rfl⟩ (fun hHeld => ?_)
      clear hK K
      refine norm_ (a' := ?_) ?_ ?_
      rotate_left
      ·show Act.put _ (some 15) _ = _
       simp only [Act.put, List.setIfInBounds_toArray, List.set_cons_zero, List.set_cons_succ, i64_w, i32_w]
       rfl
      refine one_ (i := 5) (N := some 18) #[true, true, true, true, true, true, false, false] rfl rfl (one_of HT_.out (by kernel_rfl)) (by decide) (fun K hK => ?_)
      refine goes_ Try.func79 (by kernel_rfl) rfl #[.int .i64 a0_2] (by rfl) rfl rfl Gv.lm ?_
      with_reducible refine (spec_Put32.calls a0_2 t196 _ A12.out).mono ?_
      rintro e w24 ⟨v197, rfl, ho0, hb⟩
      refine ⟨_, rfl, ?_⟩
      have n0_ := Gv.a0 (Kd.R_elder' (Gv.kr HO195.out) (Kd.R_base ho0) hb)
      have n1_ := Gv.a0 (Kd.R_lower (Kd.R_new' ho0 (Kd.R_lt (Gv.kr HO195.out))) (below_size Gv.bw))
      have n2_ := Gv.a0 (Gv.bb BK188.out hb)
      have n3_ := Gv.a0 (below_step Gv.bw hb)
      clear HO195
      clear BK188
      clear HB
      have HO195 := n0_
      have HO198 := n1_
      have BK188 := n2_
      have HB := n3_
      clear n0_ n1_ n2_ n3_
      (try clear hb)
      (try clear hb2)
      (try clear hk)
      (try clear hi)
      (try clear ho0)
      obtain ⟨Ao26, co26, eo26⟩ := Kd.R_slice HO198.out
      (first | subst eo26 | (injection eo26 with f1_ f2_ f3_; have f4_ := f1_.symm; have f5_ := f3_.symm; clear f1_ f2_ f3_; subst f4_; subst f5_))
      refine hK.out _ _ ⟨(blk_cell BK188.out 0).trans rfl, (blk_cell BK188.out 1).trans rfl, (blk_cell BK188.out 2).trans rfl, (blk_cell BK188.out 3).trans rfl, (blk_cell BK188.out 4).trans rfl⟩ (fun hHeld => ?_)
      clear hK K
      refine norm_ (a' := ?_) ?_ ?_
      rotate_left
      ·show Act.put _ (some 18) _ = _
       simp only [Act.put, List.setIfInBounds_toArray, List.set_cons_zero, List.set_cons_succ, i64_w, i32_w]
       rfl
      refine one_ (i := 6) (N := some 19) #[true, true, true, true, true, true, true, false] rfl rfl (one_of HT_.out (by kernel_rfl)) (by decide) (fun K hK => ?_)
      refine Kd.R_append_rows_step (Kd.int .u8) (w0 := w) w.heap.size (by rfl) (.tmp 15) (.tmp 18) 80 5 (.int .u8 0) 1 rfl Try.underlying80 info5 rfl (by decide) (by omega) v194 t193 t196 _ _ _ (fun k_ => some k_ ≠ (.slice Ao26 t196.length co26 : Value).ownBlock) (fun _ => False) rfl rfl ?aO ?aR (fun _ _ h => h) (fun _ h => h.elim) ?aF ?aB ?aS ?aL ?_
      (case aR => repeat (first | exact (Kd.R_reads' HO198.out).2.2 | (with_reducible refine Kd.C_alloc ?_ _) | (with_reducible refine Kd.C_drewN ?_ _) | (with_reducible refine Kd.C_drew ?_)))
      (case aB => exact Gv.bw)
      (case aF => exact (fun k_ hk => Kd.fresh' (Kd.R_lt (Gv.kr HO198.out)) k_ hk))
      (case aO => exact (by (with_reducible repeat (first | apply Kd.R_alloc | apply Kd.R_drewN | apply Kd.R_drew)); exact Kd.R_mono HO195.out (fun _ hk => hk.2)))
      (case aS => exact (below_size Gv.bw))
      (case aL => have := LMc13.out; omega)
      intro v200 w25 ho hb hg hat
      rw [← Ny199.out] at ho
      have n0_ := Gv.a0 (blk_grown (g := gb188) (o := .cells #[.int .i64 a0_0, .int .i64 a0_1, .int .i64 a0_2, .int .i64 a0_3, .int .i64 a0_4] 34 (0, 0)) Gv.bk hg (Kd.R_ne HO195.out BK188.out (by decide)))
      have n1_ := Gv.a0 (Kd.R_after (ok := (fun _ => True)) (Gv.kr HO198.out) hg hat)
      have n2_ := Gv.a0 (hb)
      have n3_ := Gv.a0 (ho)
      clear BK188
      clear HO198
      clear HB
      clear HO195
      have BK188 := n0_
      have HO198 := n1_
      have HB := n2_
      have HO201 := n3_
      clear n0_ n1_ n2_ n3_
      clear ho hb hg hat
      refine hK.out _ _ ⟨(blk_cell BK188.out 0).trans rfl, (blk_cell BK188.out 1).trans rfl, (blk_cell BK188.out 2).trans rfl, (blk_cell BK188.out 3).trans rfl, (blk_cell BK188.out 4).trans rfl⟩ (fun hHeld => ?_)
      clear hK K
      refine norm_ (a' := ?_) ?_ ?_
      rotate_left
      ·show Act.put _ (some 19) _ = _
       simp only [Act.put, List.setIfInBounds_toArray, List.set_cons_zero, List.set_cons_succ, i64_w, i32_w]
       rfl
      refine Gv.pu 7 (some 3) HT_ ?_
      refine done_ (done_of HT_.out (by kernel_rfl)) ?_
      try go_wp2
      have n0_ := Gv.a0 (Kd.R_drew HO198.out)
      have n1_ := Gv.a0 (Kd.R_drew HO201.out)
      have n2_ := Gv.a0 (blk_drew BK188.out)
      have n3_ := Gv.a0 (below_drew1 HB.out)
      clear HO198
      clear HO201
      clear BK188
      clear HB
      have HO198 := n0_
      have HO201 := n1_
      have BK188 := n2_
      have HB := n3_
      clear n0_ n1_ n2_ n3_
      refine start_ (n := 10) (S := fun w' => w'.cell? ⟨gb188, 0, none⟩ = some (.int .i64 a0_0) ∧ w'.cell? ⟨gb188, 1, none⟩ = some (.int .i64 a0_1) ∧ w'.cell? ⟨gb188, 2, none⟩ = some (.int .i64 a0_2) ∧ w'.cell? ⟨gb188, 3, none⟩ = some (.int .i64 a0_3) ∧ w'.cell? ⟨gb188, 4, none⟩ = some (.int .i64 a0_4)) (ds := []) #[false, false, false, false, false, false, false, false, false, false] (by kernel_rfl) rfl rfl ⟨(blk_cell BK188.out 0).trans rfl, (blk_cell BK188.out 1).trans rfl, (blk_cell BK188.out 2).trans rfl, (blk_cell BK188.out 3).trans rfl, (blk_cell BK188.out 4).trans rfl⟩ (fun hHeld => ?_); refine with_tabW spec_AddrBytes.tab6 spec_AddrBytes.bits6 (fun HT_ HW_ => ?_)
      generalize w25.drew = w27 at HO198 HO201 BK188 HB hHeld ⊢
      refine Gv.pu 0 (some 20) HT_ ?_
      refine Gv.pu 1 (some 21) HT_ ?_
      refine Gv.pu 5 (some 25) HT_ ?_
      refine take_ (i := 2) (N := some 22) (v := ?_) (a' := ?_) #[true, true, true, false, false, true, false, false, false, false] rfl rfl (take_ofW HT_.out HW_.out (by kernel_rfl)) (fun _ _ _ h => h) (Or.inl ⟨by rfl, ?_⟩) hHeld ?_ ?_
      rotate_left
      ·rintro w' ⟨s0, s1, s2, s3, s4⟩
       go_simp
       with_reducible rfl
      rotate_left
      ·simp only [Act.put, List.setIfInBounds_toArray, List.set_cons_zero, List.set_cons_succ, i64_w, i32_w]
       rfl
      refine take_ (i := 6) (N := some 26) (v := ?_) (a' := ?_) #[true, true, true, false, false, true, true, false, false, false] rfl rfl (take_ofW HT_.out HW_.out (by kernel_rfl)) (fun _ _ _ h => h) (Or.inl ⟨by rfl, ?_⟩) hHeld ?_ ?_
      rotate_left
      ·rintro w' ⟨s0, s1, s2, s3, s4⟩
       go_simp
       with_reducible rfl
      rotate_left
      ·simp only [Act.put, List.setIfInBounds_toArray, List.set_cons_zero, List.set_cons_succ, i64_w, i32_w]
       rfl
      refine one_ (i := 3) (N := some 23) #[true, true, true, true, false, true, true, false, false, false] rfl rfl (one_of HT_.out (by kernel_rfl)) (by decide) (fun K hK => ?_)
      refine goes_ Try.func79 (by kernel_rfl) rfl #[.int .i64 a0_3] (by rfl) rfl rfl Gv.lm ?_
      with_reducible refine (spec_Put32.calls a0_3 t202 _ A14.out).mono ?_
      rintro e w28 ⟨v203, rfl, ho0, hb⟩
      refine ⟨_, rfl, ?_⟩
      have n0_ := Gv.a0 (Kd.R_elder' (Gv.kr HO198.out) (Kd.R_base ho0) hb)
      have n1_ := Gv.a0 (Kd.R_elder' (Gv.kr HO201.out) (Kd.R_base ho0) hb)
      have n2_ := Gv.a0 (Kd.R_lower (Kd.R_new' (Kd.R_new' ho0 (Kd.R_lt (Gv.kr HO198.out))) (Kd.R_lt (Gv.kr HO201.out))) (below_size Gv.bw))
      have n3_ := Gv.a0 (Gv.bb BK188.out hb)
      have n4_ := Gv.a0 (below_step Gv.bw hb)
      clear HO198
      clear HO201
      clear BK188
      clear HB
      have HO198 := n0_
      have HO201 := n1_
      have HO204 := n2_
      have BK188 := n3_
      have HB := n4_
      clear n0_ n1_ n2_ n3_ n4_
      (try clear hb)
      (try clear hb2)
      (try clear hk)
      (try clear hi)
      (try clear ho0)
      obtain ⟨Ao30, co30, eo30⟩ := Kd.R_slice HO204.out
      (first | subst eo30 | (injection eo30 with f1_ f2_ f3_; have f4_ := f1_.symm; have f5_ := f3_.symm; clear f1_ f2_ f3_; subst f4_; subst f5_))
      refine hK.out _ _ ⟨(blk_cell BK188.out 0).trans rfl, (blk_cell BK188.out 1).trans rfl, (blk_cell BK188.out 2).trans rfl, (blk_cell BK188.out 3).trans rfl, (blk_cell BK188.out 4).trans rfl⟩ (fun hHeld => ?_)
      clear hK K
      refine norm_ (a' := ?_) ?_ ?_
      rotate_left
      ·show Act.put _ (some 23) _ = _
       simp only [Act.put, List.setIfInBounds_toArray, List.set_cons_zero, List.set_cons_succ, i64_w, i32_w]
       rfl
      refine one_ (i := 4) (N := some 24) #[true, true, true, true, true, true, true, false, false, false] rfl rfl (one_of HT_.out (by kernel_rfl)) (by decide) (fun K hK => ?_)
      refine Kd.R_append_rows_step (Kd.int .u8) (w0 := w) w.heap.size (by rfl) (.tmp 20) (.tmp 23) 80 5 (.int .u8 0) 1 rfl Try.underlying80 info5 rfl (by decide) (by omega) v200 y199 t202 _ _ _ (fun k_ => some k_ ≠ (.slice Ao26 t196.length co26 : Value).ownBlock ∧ some k_ ≠ (.slice Ao30 t202.length co30 : Value).ownBlock) (fun _ => False) rfl rfl ?aO ?aR (fun _ _ h => h) (fun _ h => h.elim) ?aF ?aB ?aS ?aL ?_
      (case aR => repeat (first | exact (Kd.R_reads' HO204.out).2.2 | (with_reducible refine Kd.C_alloc ?_ _) | (with_reducible refine Kd.C_drewN ?_ _) | (with_reducible refine Kd.C_drew ?_)))
      (case aB => exact Gv.bw)
      (case aF => exact (fun k_ hk => ⟨Kd.fresh' (Kd.R_lt (Gv.kr HO198.out)) k_ hk, Kd.fresh' (Kd.R_lt (Gv.kr HO204.out)) k_ hk⟩))
      (case aO => exact (Gv.kr HO201.out))
      (case aS => exact (below_size Gv.bw))
      (case aL => have := LMc15.out; omega)
      intro v206 w29 ho hb hg hat
      rw [← Ny205.out] at ho
      have n0_ := Gv.a0 (blk_grown (g := gb188) (o := .cells #[.int .i64 a0_0, .int .i64 a0_1, .int .i64 a0_2, .int .i64 a0_3, .int .i64 a0_4] 34 (0, 0)) Gv.bk hg (Kd.R_ne HO201.out BK188.out (by decide)))
      have n1_ := Gv.a0 (Kd.R_after (ok := (fun k_ => some k_ ≠ (.slice Ao30 t202.length co30 : Value).ownBlock)) (by (with_reducible repeat (first | apply Kd.R_alloc | apply Kd.R_drewN | apply Kd.R_drew)); exact Kd.R_mono HO198.out (fun _ hk => ⟨hk.2, hk.1.2⟩)) hg hat)
      have n2_ := Gv.a0 (Kd.R_after (ok := (fun k_ => some k_ ≠ (.slice Ao26 t196.length co26 : Value).ownBlock)) (by (with_reducible repeat (first | apply Kd.R_alloc | apply Kd.R_drewN | apply Kd.R_drew)); exact Kd.R_mono HO204.out (fun _ hk => ⟨hk.1.2, hk.2⟩)) hg hat)
      have n3_ := Gv.a0 (hb)
      have n4_ := Gv.a0 (ho)
      clear BK188
      clear HO198
      clear HO204
      clear HB
      clear HO201
      have BK188 := n0_
      have HO198 := n1_
      have HO204 := n2_
      have HB := n3_
      have HO207 := n4_
      clear n0_ n1_ n2_ n3_ n4_
      clear ho hb hg hat
      refine hK.out _ _ ⟨(blk_cell BK188.out 0).trans rfl, (blk_cell BK188.out 1).trans rfl, (blk_cell BK188.out 2).trans rfl, (blk_cell BK188.out 3).trans rfl, (blk_cell BK188.out 4).trans rfl⟩ (fun hHeld => ?_)
      clear hK K
      refine norm_ (a' := ?_) ?_ ?_
      rotate_left
      ·show Act.put _ (some 24) _ = _
       simp only [Act.put, List.setIfInBounds_toArray, List.set_cons_zero, List.set_cons_succ, i64_w, i32_w]
       rfl
      refine one_ (i := 7) (N := some 27) #[true, true, true, true, true, true, true, true, false, false] rfl rfl (one_of HT_.out (by kernel_rfl)) (by decide) (fun K hK => ?_)
      refine goes_ Try.func79 (by kernel_rfl) rfl #[.int .i64 a0_4] (by rfl) rfl rfl Gv.lm ?_
      with_reducible refine (spec_Put32.calls a0_4 t208 _ A16.out).mono ?_
      rintro e w31 ⟨v209, rfl, ho0, hb⟩
      refine ⟨_, rfl, ?_⟩
      have n0_ := Gv.a0 (Kd.R_elder' (Gv.kr HO198.out) (Kd.R_base ho0) hb)
      have n1_ := Gv.a0 (Kd.R_elder' (Gv.kr HO204.out) (Kd.R_base ho0) hb)
      have n2_ := Gv.a0 (Kd.R_elder' (Gv.kr HO207.out) (Kd.R_base ho0) hb)
      have n3_ := Gv.a0 (Kd.R_lower (Kd.R_new' (Kd.R_new' (Kd.R_new' ho0 (Kd.R_lt (Gv.kr HO198.out))) (Kd.R_lt (Gv.kr HO204.out))) (Kd.R_lt (Gv.kr HO207.out))) (below_size Gv.bw))
      have n4_ := Gv.a0 (Gv.bb BK188.out hb)
      have n5_ := Gv.a0 (below_step Gv.bw hb)
      clear HO198
      clear HO204
      clear HO207
      clear BK188
      clear HB
      have HO198 := n0_
      have HO204 := n1_
      have HO207 := n2_
      have HO210 := n3_
      have BK188 := n4_
      have HB := n5_
      clear n0_ n1_ n2_ n3_ n4_ n5_
      (try clear hb)
      (try clear hb2)
      (try clear hk)
      (try clear hi)
      (try clear ho0)
      obtain ⟨Ao33, co33, eo33⟩ := Kd.R_slice HO210.out
      (first | subst eo33 | (injection eo33 with f1_ f2_ f3_; have f4_ := f1_.symm; have f5_ := f3_.symm; clear f1_ f2_ f3_; subst f4_; subst f5_))
      refine hK.out _ _ ⟨(blk_cell BK188.out 0).trans rfl, (blk_cell BK188.out 1).trans rfl, (blk_cell BK188.out 2).trans rfl, (blk_cell BK188.out 3).trans rfl, (blk_cell BK188.out 4).trans rfl⟩ (fun hHeld => ?_)
      clear hK K
      refine norm_ (a' := ?_) ?_ ?_
      rotate_left
      ·show Act.put _ (some 27) _ = _
       simp only [Act.put, List.setIfInBounds_toArray, List.set_cons_zero, List.set_cons_succ, i64_w, i32_w]
       rfl
      refine one_ (i := 8) (N := some 28) #[true, true, true, true, true, true, true, true, true, false] rfl rfl (one_of HT_.out (by kernel_rfl)) (by decide) (fun K hK => ?_)
      refine Kd.R_append_rows_step (Kd.int .u8) (w0 := w) w.heap.size (by rfl) (.tmp 24) (.tmp 27) 80 5 (.int .u8 0) 1 rfl Try.underlying80 info5 rfl (by decide) (by omega) v206 y205 t208 _ _ _ (fun k_ => some k_ ≠ (.slice Ao26 t196.length co26 : Value).ownBlock ∧ some k_ ≠ (.slice Ao30 t202.length co30 : Value).ownBlock ∧ some k_ ≠ (.slice Ao33 t208.length co33 : Value).ownBlock) (fun _ => False) rfl rfl ?aO ?aR (fun _ _ h => h) (fun _ h => h.elim) ?aF ?aB ?aS ?aL ?_
      (case aR => repeat (first | exact (Kd.R_reads' HO210.out).2.2 | (with_reducible refine Kd.C_alloc ?_ _) | (with_reducible refine Kd.C_drewN ?_ _) | (with_reducible refine Kd.C_drew ?_)))
      (case aB => exact Gv.bw)
      (case aF => exact (fun k_ hk => ⟨Kd.fresh' (Kd.R_lt (Gv.kr HO198.out)) k_ hk, Kd.fresh' (Kd.R_lt (Gv.kr HO204.out)) k_ hk, Kd.fresh' (Kd.R_lt (Gv.kr HO210.out)) k_ hk⟩))
      (case aO => exact (by (with_reducible repeat (first | apply Kd.R_alloc | apply Kd.R_drewN | apply Kd.R_drew)); exact Kd.R_mono HO207.out (fun _ hk => ⟨hk.1.1, ⟨hk.1.2, hk.2⟩⟩)))
      (case aS => exact (below_size Gv.bw))
      (case aL => have := LMc17.out; omega)
      intro v212 w32 ho hb hg hat
      rw [← Ny211.out] at ho
      have n0_ := Gv.a0 (blk_grown (g := gb188) (o := .cells #[.int .i64 a0_0, .int .i64 a0_1, .int .i64 a0_2, .int .i64 a0_3, .int .i64 a0_4] 34 (0, 0)) Gv.bk hg (Kd.R_ne HO207.out BK188.out (by decide)))
      have n1_ := Gv.a0 (Kd.R_after (ok := (fun k_ => some k_ ≠ (.slice Ao30 t202.length co30 : Value).ownBlock ∧ some k_ ≠ (.slice Ao33 t208.length co33 : Value).ownBlock)) (by (with_reducible repeat (first | apply Kd.R_alloc | apply Kd.R_drewN | apply Kd.R_drew)); exact Kd.R_mono HO198.out (fun _ hk => ⟨⟨hk.1.1, hk.2⟩, hk.1.2⟩)) hg hat)
      have n2_ := Gv.a0 (Kd.R_after (ok := (fun k_ => some k_ ≠ (.slice Ao26 t196.length co26 : Value).ownBlock ∧ some k_ ≠ (.slice Ao33 t208.length co33 : Value).ownBlock)) (by (with_reducible repeat (first | apply Kd.R_alloc | apply Kd.R_drewN | apply Kd.R_drew)); exact Kd.R_mono HO204.out (fun _ hk => ⟨⟨hk.1.1, hk.2⟩, hk.1.2⟩)) hg hat)
      have n3_ := Gv.a0 (Kd.R_after (ok := (fun k_ => some k_ ≠ (.slice Ao26 t196.length co26 : Value).ownBlock ∧ some k_ ≠ (.slice Ao30 t202.length co30 : Value).ownBlock)) (by (with_reducible repeat (first | apply Kd.R_alloc | apply Kd.R_drewN | apply Kd.R_drew)); exact Kd.R_mono HO210.out (fun _ hk => ⟨⟨hk.1.1.2, hk.1.2⟩, hk.2⟩)) hg hat)
      have n4_ := Gv.a0 (hb)
      have n5_ := Gv.a0 (ho)
      clear BK188
      clear HO198
      clear HO204
      clear HO210
      clear HB
      clear HO207
      have BK188 := n0_
      have HO198 := n1_
      have HO204 := n2_
      have HO210 := n3_
      have HB := n4_
      have HO213 := n5_
      clear n0_ n1_ n2_ n3_ n4_ n5_
      clear ho hb hg hat
      refine hK.out _ _ ⟨(blk_cell BK188.out 0).trans rfl, (blk_cell BK188.out 1).trans rfl, (blk_cell BK188.out 2).trans rfl, (blk_cell BK188.out 3).trans rfl, (blk_cell BK188.out 4).trans rfl⟩ (fun hHeld => ?_)
      clear hK K
      refine norm_ (a' := ?_) ?_ ?_
      rotate_left
      ·show Act.put _ (some 28) _ = _
       simp only [Act.put, List.setIfInBounds_toArray, List.set_cons_zero, List.set_cons_succ, i64_w, i32_w]
       rfl
      refine Gv.pu 9 (some 2) HT_ ?_
      refine done_ (done_of HT_.out (by kernel_rfl)) ?_
      try go_wp2
      go_ret
      exact ⟨_, Gv.rt, by (with_reducible repeat (first | apply Kd.R_alloc | apply Kd.R_drewN | apply Kd.R_drew)); exact Kd.R_mono HO213.out (fun _ hk => trivial), Gv.bw⟩
     ·rw [if_neg c17] at H
      exact absurd H (by simp)
    ·rw [if_neg c15] at H
     exact absurd H (by simp)
   ·rw [if_neg c13] at H
    exact absurd H (by simp)
 ·replace c3 := Bool.eq_false_iff.mpr c3
  subst c3
  have H1 : (some ([] : List Int)) = some r := by rw [if_neg (show ¬ (false = true) by decide)] at H; exact H
  clear H
  have H := H1
  clear H1
  obtain rfl := Option.some.inj H
  go_enter Try.func73, Try.ntmps73
  go_wp2_with (first | ((with_reducible refine gate_dst (N := 1) rfl ?_); refine box_event ?hg (N := 1) ?hd (cs := #[.int .i64 a0_0, .int .i64 a0_1, .int .i64 a0_2, .int .i64 a0_3, .int .i64 a0_4]) (t := 34) ?hr ?_; (case hd => rfl); (case hg => rfl); (case hr => first | (go_simp; done) | (go_simp; rfl)); intro gb188 hg w34 hbox hb; have n0_ := Gv.a0 (below_step Gv.bw hb); have n1_ := Gv.a0 (hbox); have n2_ := Gv.a0 ((Gv.ble hg Gv.bw : w.heap.size ≤ gb188)); have n3_ := Gv.a0 ((Gv.ble hg Gv.bw : w.heap.size ≤ gb188)); clear HB; have HB := n0_; have BK188 := n1_; have GW188 := n2_; have GE188 := n3_; clear n0_ n1_ n2_ n3_; clear hb hbox hg; obtain ⟨hcz35_0, hcz35_1, hcz35_2, hcz35_3, hcz35_4⟩ := Gv.c5 BK188.out; obtain ⟨hfz35_0, hfz35_1, hfz35_2, hfz35_3, hfz35_4⟩ := Gv.f5 BK188.out) | ((with_reducible refine gate_callee (f := 61) rfl ?_); refine goesL_ (some 5) rfl rfl Try.func61 (by kernel_rfl) rfl #[.agg #[.int .i64 a0_0, .int .i64 a0_1, .int .i64 a0_2, .int .i64 a0_3, .int .i64 a0_4]] rfl Gv.lm ?_; (with_reducible refine (spec_AddrOk.calls a0_0 a0_1 a0_2 a0_3 a0_4 false _ A2.out).mono ?_); rintro e w36 ⟨rfl, hb⟩; refine ⟨_, rfl, ?_⟩; have n0_ := Gv.a0 (Gv.bb BK188.out hb); have n1_ := Gv.a0 (below_step Gv.bw hb); clear BK188; clear HB; have BK188 := n0_; have HB := n1_; clear n0_ n1_; (try clear hb); (try clear hb2); (try clear hk); (try clear hi)))
  go_ret
  exact ⟨_, Gv.rt, by first | exact Kd.R_nil _ _ _ _ _ | exact Kd.N_nil _ _ _ _ _ | exact Kd.V_nil _ _ _ _ _ | exact Kd.Q_nil _ _ _ _ _ | exact Kd.S_nil _ _ _ _ _, Gv.bw⟩

/-! ### spec_Be32: function 80 -/
mutual
def spec_Be32.j0 : Nat → List Int → Int → Bool → Option (Int × Bool)
 | 0, _, _, _ => none
 | k + 1, x0, x1, x16 => if x16 = true then (some (0, false)) else (spec_Be32.l0 k x0 x1 0 0)
def spec_Be32.l0 : Nat → List Int → Int → Int → Int → Option (Int × Bool)
 | 0, _, _, _, _ => none
 | k + 1, x0, x1, x6, x7 => if x7 < 4 then (if 0 ≤ (wrap64 (x1 + x7)) then (if (wrap64 (x1 + x7)) < (x0.length : Int) then (spec_Be32.l0 k x0 x1 (wrap64 ((wrap64 (256 * x6)) + (wrap64 (rd x0 (wrap64 (x1 + x7)))))) (wrap64 (x7 + 1))) else (none)) else (none)) else (some (x6, true))
end
def spec_Be32.f (k : Nat) (l0 : List Int) (a1 : Int) : Option (Int × Bool) := if a1 < 0 then (spec_Be32.j0 k l0 a1 true) else (spec_Be32.j0 k l0 a1 (decide (a1 > (wrap64 ((l0.length : Int) - 4)))))
theorem spec_Be32.mono_l : ∀ k, (∀ y0 y1 y2, LeO (spec_Be32.j0 k y0 y1 y2) (spec_Be32.j0 (k + 1) y0 y1 y2)) ∧ (∀ y0 y1 y2 y3, LeO (spec_Be32.l0 k y0 y1 y2 y3) (spec_Be32.l0 (k + 1) y0 y1 y2 y3))
 | 0 => ⟨fun _ _ _ r h => by simp [spec_Be32.j0] at h, fun _ _ _ _ r h => by simp [spec_Be32.l0] at h⟩
 | k + 1 => by
  obtain ⟨ih0, ih1⟩ := spec_Be32.mono_l k
  refine ⟨?_, ?_⟩
  ·intro y0 y1 y2
   unfold spec_Be32.j0
   repeat' first
   | (with_reducible exact ih0 _ _ _)
   | (with_reducible exact ih1 _ _ _ _)
   | (with_reducible exact LeO.refl _)
   | (with_reducible exact LeO.none _)
   | (with_reducible refine LeO.ite ?_ ?_)
   | (with_reducible refine LeO.bind ?_ (fun _ => ?_))
   | exact ih0 _ _ _
   | exact ih1 _ _ _ _
   | exact LeO.none _
   | refine LeO.ite ?_ ?_
   | refine LeO.bind ?_ (fun _ => ?_)
  ·intro y0 y1 y2 y3
   unfold spec_Be32.l0
   repeat' first
   | (with_reducible exact ih0 _ _ _)
   | (with_reducible exact ih1 _ _ _ _)
   | (with_reducible exact LeO.refl _)
   | (with_reducible exact LeO.none _)
   | (with_reducible refine LeO.ite ?_ ?_)
   | (with_reducible refine LeO.bind ?_ (fun _ => ?_))
   | exact ih0 _ _ _
   | exact ih1 _ _ _ _
   | exact LeO.none _
   | refine LeO.ite ?_ ?_
   | refine LeO.bind ?_ (fun _ => ?_)
theorem spec_Be32.mono : ∀ a0 a1 k, LeO (spec_Be32.f k a0 a1) (spec_Be32.f (k + 1) a0 a1) := by
 intro a0 a1 k
 obtain ⟨ih0, ih1⟩ := spec_Be32.mono_l k
 unfold spec_Be32.f
 repeat' first
   | (with_reducible exact ih0 _ _ _)
   | (with_reducible exact ih1 _ _ _ _)
   | (with_reducible exact LeO.refl _)
   | (with_reducible exact LeO.none _)
   | (with_reducible refine LeO.ite ?_ ?_)
   | (with_reducible refine LeO.bind ?_ (fun _ => ?_))
   | exact ih0 _ _ _
   | exact ih1 _ _ _ _
   | exact LeO.none _
   | refine LeO.ite ?_ ?_
   | refine LeO.bind ?_ (fun _ => ?_)
set_option maxHeartbeats 8000000 in
set_option maxRecDepth 100000 in
theorem spec_Be32.calls (k : Nat) (A0 : Option Addr) (c0 : Nat) (l0 : List Int) (a1 : Int) (r1 : Int) (r2 : Bool) (w : World) (hr0 : Kd.C (Kd.int .u8) w A0 l0.length l0) (hc0 : l0.length ≤ c0) (h : spec_Be32.f k l0 a1 = some (r1, r2)) :
  Calls Try.prog 80 #[.slice A0 l0.length c0, .int .i64 a1] w fun e w' => e = .returned (.tuple #[.int .i64 r1, .bool r2]) ∧ Drawn0 w w' := by
 have HR0 := Gv.a0 hr0
 have HC0 := Gv.a0 hc0
 clear hr0 hc0
 have H : (if a1 < 0 then (spec_Be32.j0 k l0 a1 true) else (spec_Be32.j0 k l0 a1 (decide (a1 > (wrap64 ((l0.length : Int) - 4)))))) = some (r1, r2) := h
 clear h
 have HC3 := Gv.a0 H
 clear H
 go_enter Try.func80, Try.ntmps80
 go_upto_region 1 with (fail)
 go_cut [16] (fun v16 wc => ∃ (kq : Nat) (x16_2 : Bool), v16 = .bool x16_2 ∧ Aside0 (spec_Be32.j0 kq l0 a1 x16_2 = some (r1, r2)) ∧ Aside0 (kq ≤ k) ∧ Drawn0 w wc)
 case first =>
  have H := HC3.out
  clear HC3
  by_cases c4 : a1 < 0
  ·rw [if_pos c4] at H
   have c4b0 : decide (a1 < 0) = true := decide_eq_true c4
   clear c4
   (first | rw [c4b0] | (simp only [i64_w, i32_w]; rw [c4b0]) | skip)
   have H' := Gv.a0 H
   clear H
   go_wp2
   go_meet
   case rel => exact ⟨_, (true), Gv.rq, H', ⟨by first | omega | exact Nat.le_refl _⟩, by repeat (first | exact Drawn0.refl _ | apply Drawn0.step)⟩
  ·rw [if_neg c4] at H
   have c4b0 : decide (a1 < 0) = false := decide_eq_false c4
   clear c4
   (first | rw [c4b0] | (simp only [i64_w, i32_w]; rw [c4b0]) | skip)
   have H' := Gv.a0 H
   clear H
   go_wp2
   go_meet
   case rel => exact ⟨_, (decide (a1 > (wrap64 ((l0.length : Int) - 4)))), Gv.rq, H', ⟨by first | omega | exact Nat.le_refl _⟩, by repeat (first | exact Drawn0.refl _ | apply Drawn0.step)⟩
 case rest =>
  clear HC3
  try clear p2
  try clear c4
  try clear c4b0
  obtain ⟨kq, x16_2, rfl, HA, HJ2, ⟨mc2, rfl⟩⟩ := hcut
  cases kq with
  | zero => exact absurd HA.out (by simp [spec_Be32.j0])
  | succ kj2 =>
   have H := HA.out
   clear HA
   simp only [spec_Be32.j0] at H
   by_cases c5 : x16_2 = true
   ·subst c5
    have H1 : (some (0, false)) = some (r1, r2) := by rw [if_pos rfl] at H; exact H
    clear H
    have H := H1
    clear H1
    simp only [Option.some.injEq, Prod.mk.injEq] at H
    obtain ⟨rfl, rfl⟩ := H
    go_wp2
    go_ret2
    exact ⟨by first | rfl | (simp; done) | (simp [Int.tdiv_eq_ediv_of_nonneg]; done) | (simp [*]; done), by repeat (first | exact Drawn0.refl _ | apply Drawn0.step)⟩
   ·replace c5 := Bool.eq_false_iff.mpr c5
    subst c5
    have H1 : (spec_Be32.l0 kj2 l0 a1 0 0) = some (r1, r2) := by rw [if_neg (show ¬ (false = true) by decide)] at H; exact H
    clear H
    have H := H1
    clear H1
    have H' := Gv.a0 H
    clear H
    go_wp2
    go_loopg [6, 7] kj2 (fun kq v6 v7 w' => ∃ (x6_2 : Int) (x7_2 : Int), v6 = .int .i64 x6_2 ∧ v7 = .int .i64 x7_2 ∧ Aside0 (spec_Be32.l0 kq l0 a1 x6_2 x7_2 = some (r1, r2)) ∧ Aside0 (kq ≤ kj2) ∧ Drawn0 w w')
    case atStart => exact ⟨(0), (0), Gv.rq, Gv.rq, H', ⟨Nat.le_refl _⟩, by repeat (first | exact Drawn0.refl _ | apply Drawn0.step)⟩
    case round =>
     clear H'
     try clear c2
     try clear p2
     try clear c4
     try clear c4b0
     try clear c5
     try clear p2
     obtain ⟨x6_2, x7_2, rfl, rfl, HA, HK2, ⟨m2, rfl⟩⟩ := hrel
     cases gk with
     | zero => exact absurd HA.out (by simp [spec_Be32.l0])
     | succ k2 =>
      have H := HA.out
      clear HA
      simp only [spec_Be32.l0] at H
      by_cases c6 : x7_2 < 4
      ·rw [if_pos c6] at H
       have c6b0 : decide (x7_2 < 4) = true := decide_eq_true c6
       clear c6
       obtain ⟨ji7, hji7⟩ : ∃ j_ : Int, (wrap64 (a1 + x7_2)) = j_ := ⟨_, rfl⟩
       replace H : (if 0 ≤ (ji7) then (if (ji7) < (l0.length : Int) then (spec_Be32.l0 k2 l0 a1 (wrap64 ((wrap64 (256 * x6_2)) + (wrap64 (rd l0 (ji7))))) (wrap64 (x7_2 + 1))) else (none)) else (none)) = some (r1, r2) := by first | (rw [hji7] at H; exact H) | (simp only [hji7] at H ⊢; exact H)
       have hji7w : (IntKind.i64.wrap (a1 + x7_2)) = ji7 := (i64_w _).trans hji7
       by_cases c8 : 0 ≤ (ji7)
       ·rw [if_pos c8] at H
        have c8b0 : decide (0 ≤ (ji7)) = true := decide_eq_true c8
        clear c8
        by_cases c9 : (ji7) < (l0.length : Int)
        ·rw [if_pos c9] at H
         have c9b0 : decide ((ji7) < (l0.length : Int)) = true := decide_eq_true c9
         clear c9
         have H' := Gv.a0 H
         clear H
         have p214 : 0 ≤ ((ji7) : Int) := of_decide_eq_true (by first | (with_reducible assumption) | assumption)
         have q214 : (ji7) < (l0.length : Int) := of_decide_eq_true (by first | (with_reducible assumption) | assumption)
         obtain ⟨ad214, e214, hx214_0⟩ := Kd.at_int HR0.out (ji7) p214 q214
         cases e214
         replace p214 := eq_true p214
         replace q214 := eq_true q214
         go_wp2
         go_roundg k2
         case measure => have := HJ2.out; have := HK2.out; omega
         case rel => exact ⟨(wrap64 ((wrap64 (256 * x6_2)) + (wrap64 (rd l0 (ji7))))), (wrap64 (x7_2 + 1)), (by first | rfl | (simp; done) | (simp only [← hji7] <;> (first | rfl | simp)) | (simp [*]; done)), Gv.rq, H', ⟨by have := HJ2.out; have := HK2.out; omega⟩, by repeat (first | exact Drawn0.refl _ | apply Drawn0.step)⟩
        ·rw [if_neg c9] at H
         exact absurd H (by simp)
       ·rw [if_neg c8] at H
        exact absurd H (by simp)
      ·rw [if_neg c6] at H
       have c6b0 : decide (x7_2 < 4) = false := decide_eq_false c6
       clear c6
       simp only [Option.some.injEq, Prod.mk.injEq] at H
       obtain ⟨rfl, rfl⟩ := H
       go_wp2
       go_ret2
       exact ⟨by first | rfl | (simp; done) | (simp [Int.tdiv_eq_ediv_of_nonneg]; done) | (simp [*]; done), by repeat (first | exact Drawn0.refl _ | apply Drawn0.step)⟩

/-! ### spec_AddrOf: function 74 -/
def spec_AddrOf.f (k : Nat) (l0 : List Int) : Option (Int × Int × Int × Int × Int × Bool) := if (l0.length : Int) = 4 then ((spec_Be32.f k l0 0).bind fun bt216 => (some (4, 0, 0, 0, bt216.1, true))) else (if (l0.length : Int) = 16 then ((spec_Be32.f k l0 0).bind fun bt218 => ((spec_Be32.f k l0 4).bind fun bt220 => ((spec_Be32.f k l0 8).bind fun bt222 => ((spec_Be32.f k l0 12).bind fun bt224 => (some (6, bt218.1, bt220.1, bt222.1, bt224.1, true)))))) else (some (0, 0, 0, 0, 0, false)))
theorem spec_AddrOf.mono : ∀ a0 k, LeO (spec_AddrOf.f k a0) (spec_AddrOf.f (k + 1) a0) := by
 intro a0 k
 unfold spec_AddrOf.f
 repeat' first
   | (with_reducible exact spec_Be32.mono _ _ _)
   | (with_reducible exact LeO.refl _)
   | (with_reducible exact LeO.none _)
   | (with_reducible refine LeO.ite ?_ ?_)
   | (with_reducible refine LeO.bind ?_ (fun _ => ?_))
   | exact spec_Be32.mono _ _ _
   | exact LeO.none _
   | refine LeO.ite ?_ ?_
   | refine LeO.bind ?_ (fun _ => ?_)
set_option maxHeartbeats 8000000 in
set_option maxRecDepth 100000 in
theorem spec_AddrOf.calls (k : Nat) (A0 : Option Addr) (c0 : Nat) (l0 : List Int) (r1 : Int) (r2 : Int) (r3 : Int) (r4 : Int) (r5 : Int) (r6 : Bool) (w : World) (hr0 : Kd.C (Kd.int .u8) w A0 l0.length l0) (hc0 : l0.length ≤ c0) (h : spec_AddrOf.f k l0 = some (r1, r2, r3, r4, r5, r6)) :
  Calls Try.prog 74 #[.slice A0 l0.length c0] w fun e w' => e = .returned (.tuple #[.agg #[.int .i64 r1, .int .i64 r2, .int .i64 r3, .int .i64 r4, .int .i64 r5], .bool r6]) ∧ Below w.heap.size w w' := by
 have hu34 := Try.underlying34
 have HR0 := Gv.a0 hr0
 have HC0 := Gv.a0 hc0
 clear hr0 hc0
 have HB := Gv.a0 (Below.refl w.heap.size w)
 have H : (if (l0.length : Int) = 4 then ((spec_Be32.f k l0 0).bind fun bt216 => (some (4, 0, 0, 0, bt216.1, true))) else (if (l0.length : Int) = 16 then ((spec_Be32.f k l0 0).bind fun bt218 => ((spec_Be32.f k l0 4).bind fun bt220 => ((spec_Be32.f k l0 8).bind fun bt222 => ((spec_Be32.f k l0 12).bind fun bt224 => (some (6, bt218.1, bt220.1, bt222.1, bt224.1, true)))))) else (some (0, 0, 0, 0, 0, false)))) = some (r1, r2, r3, r4, r5, r6) := h
 clear h
 by_cases c2 : (l0.length : Int) = 4
 ·rw [if_pos c2] at H
  have c2b0 : ((l0.length : Int) == 4) = true := beq_iff_eq.mpr c2
  have c2b1 : ((l0.length : Int) != 4) = false := bne_eq_false_iff_eq.mpr c2
  clear c2
  replace H := Option.bind_eq_some_iff.mp H
  obtain ⟨⟨t216, t217⟩, A30, H⟩ := H
  replace H : (some (4, 0, 0, 0, t216, true)) = some (r1, r2, r3, r4, r5, r6) := H
  have A3 := Gv.a0 A30
  clear A30
  simp only [Option.some.injEq, Prod.mk.injEq] at H
  obtain ⟨rfl, rfl, rfl, rfl, rfl, rfl⟩ := H
  go_enter Try.func74, Try.ntmps74
  go_wp2_with (first | ((with_reducible refine gate_dst (N := 2) rfl ?_); refine box_event ?hg (N := 2) ?hd (cs := #[.int .i64 0, .int .i64 0, .int .i64 0, .int .i64 0, .int .i64 0]) (t := 34) ?hr ?_; (case hd => rfl); (case hg => rfl); (case hr => first | (go_simp; done) | (go_simp; rfl)); intro gb215 hg w4 hbox hb; have n0_ := Gv.a0 (below_step Gv.bw hb); have n1_ := Gv.a0 (hbox); have n2_ := Gv.a0 ((Gv.ble hg Gv.bw : w.heap.size ≤ gb215)); have n3_ := Gv.a0 ((Gv.ble hg Gv.bw : w.heap.size ≤ gb215)); clear HB; have HB := n0_; have BK215 := n1_; have GW215 := n2_; have GE215 := n3_; clear n0_ n1_ n2_ n3_; clear hb hbox hg) | ((with_reducible refine gate_callee (f := 80) rfl ?_); refine goesL_ (some 19) rfl rfl Try.func80 (by kernel_rfl) rfl #[.slice A0 l0.length c0, .int .i64 0] rfl Gv.lm ?_; (with_reducible refine (spec_Be32.calls k _ _ l0 0 t216 t217 _ ?side1 ?side2 A3.out).mono ?_); (case side1 => repeat (first | exact (Kd.C_below HR0.out HB.out) | (with_reducible refine Kd.C_alloc ?_ _) | (with_reducible refine Kd.C_drewN ?_ _) | (with_reducible refine Kd.C_drew ?_))); (case side2 => exact HC0.out); rintro e w' ⟨rfl, ⟨nd, rfl⟩⟩; refine ⟨_, rfl, ?_⟩; (try (rw [drewN_self w4]; generalize hq_ : World.drewN w4 _ = w4; have n0_ : Aside0 (w4.heap[gb215]? = some (.cells #[.int .i64 0, .int .i64 0, .int .i64 0, .int .i64 0, .int .i64 0] 34 (0, 0))) := ⟨by rw [← hq_]; exact Gv.bk⟩; have n1_ : Aside0 (Below w.heap.size w w4) := ⟨by rw [← hq_]; exact Gv.bw⟩; clear BK215 HB hq_; have BK215 := n0_; have HB := n1_; clear n0_ n1_)); obtain ⟨hcz5_0, hcz5_1, hcz5_2, hcz5_3, hcz5_4⟩ := Gv.c5 BK215.out; obtain ⟨hfz5_0, hfz5_1, hfz5_2, hfz5_3, hfz5_4⟩ := Gv.f5 BK215.out))
  refine bodyPost_ret (results_ct rfl _ _ gb215 34 #[.int .i64 4, .int .i64 0, .int .i64 0, .int .i64 0, .int .i64 t216] (0, 0) _ rfl (by (with_reducible repeat (first | refine blk_drewN ?_ _ | refine blk_drew ?_ | refine blk_alloc ?_ _)); refine blk_put (cs := #[.int .i64 4, .int .i64 0, .int .i64 0, .int .i64 0, .int .i64 0]) ?_ 4 _ rfl; (with_reducible repeat (first | refine blk_drewN ?_ _ | refine blk_drew ?_ | refine blk_alloc ?_ _)); refine blk_put (cs := #[.int .i64 4, .int .i64 0, .int .i64 0, .int .i64 0, .int .i64 0]) ?_ 3 _ rfl; (with_reducible repeat (first | refine blk_drewN ?_ _ | refine blk_drew ?_ | refine blk_alloc ?_ _)); refine blk_put (cs := #[.int .i64 4, .int .i64 0, .int .i64 0, .int .i64 0, .int .i64 0]) ?_ 2 _ rfl; (with_reducible repeat (first | refine blk_drewN ?_ _ | refine blk_drew ?_ | refine blk_alloc ?_ _)); refine blk_put (cs := #[.int .i64 4, .int .i64 0, .int .i64 0, .int .i64 0, .int .i64 0]) ?_ 1 _ rfl; (with_reducible repeat (first | refine blk_drewN ?_ _ | refine blk_drew ?_ | refine blk_alloc ?_ _)); refine blk_put (cs := #[.int .i64 0, .int .i64 0, .int .i64 0, .int .i64 0, .int .i64 0]) ?_ 0 _ rfl; (with_reducible repeat (first | refine blk_drewN ?_ _ | refine blk_drew ?_ | refine blk_alloc ?_ _)); exact BK215.out) Try.underlying34 rfl (by kernel_rfl)) rfl ?_
  exact ⟨Gv.rt, Gv.bw⟩
 ·rw [if_neg c2] at H
  have c2b0 : ((l0.length : Int) == 4) = false := beq_eq_false_iff_ne.mpr c2
  have c2b1 : ((l0.length : Int) != 4) = true := bne_iff_ne.mpr c2
  by_cases c6 : (l0.length : Int) = 16
  ·rw [if_pos c6] at H
   have c6b0 : ((l0.length : Int) == 16) = true := beq_iff_eq.mpr c6
   have c6b1 : ((l0.length : Int) != 16) = false := bne_eq_false_iff_eq.mpr c6
   clear c6
   replace H := Option.bind_eq_some_iff.mp H
   obtain ⟨⟨t218, t219⟩, A70, H⟩ := H
   replace H : ((spec_Be32.f k l0 4).bind fun bt220 => ((spec_Be32.f k l0 8).bind fun bt222 => ((spec_Be32.f k l0 12).bind fun bt224 => (some (6, t218, bt220.1, bt222.1, bt224.1, true))))) = some (r1, r2, r3, r4, r5, r6) := H
   have A7 := Gv.a0 A70
   clear A70
   replace H := Option.bind_eq_some_iff.mp H
   obtain ⟨⟨t220, t221⟩, A80, H⟩ := H
   replace H : ((spec_Be32.f k l0 8).bind fun bt222 => ((spec_Be32.f k l0 12).bind fun bt224 => (some (6, t218, t220, bt222.1, bt224.1, true)))) = some (r1, r2, r3, r4, r5, r6) := H
   have A8 := Gv.a0 A80
   clear A80
   replace H := Option.bind_eq_some_iff.mp H
   obtain ⟨⟨t222, t223⟩, A90, H⟩ := H
   replace H : ((spec_Be32.f k l0 12).bind fun bt224 => (some (6, t218, t220, t222, bt224.1, true))) = some (r1, r2, r3, r4, r5, r6) := H
   have A9 := Gv.a0 A90
   clear A90
   replace H := Option.bind_eq_some_iff.mp H
   obtain ⟨⟨t224, t225⟩, A100, H⟩ := H
   replace H : (some (6, t218, t220, t222, t224, true)) = some (r1, r2, r3, r4, r5, r6) := H
   have A10 := Gv.a0 A100
   clear A100
   simp only [Option.some.injEq, Prod.mk.injEq] at H
   obtain ⟨rfl, rfl, rfl, rfl, rfl, rfl⟩ := H
   go_enter Try.func74, Try.ntmps74
   go_wp2_with (first | ((with_reducible refine gate_dst (N := 2) rfl ?_); refine box_event ?hg (N := 2) ?hd (cs := #[.int .i64 0, .int .i64 0, .int .i64 0, .int .i64 0, .int .i64 0]) (t := 34) ?hr ?_; (case hd => rfl); (case hg => rfl); (case hr => first | (go_simp; done) | (go_simp; rfl)); intro gb215 hg w11 hbox hb; have n0_ := Gv.a0 (below_step Gv.bw hb); have n1_ := Gv.a0 (hbox); have n2_ := Gv.a0 ((Gv.ble hg Gv.bw : w.heap.size ≤ gb215)); have n3_ := Gv.a0 ((Gv.ble hg Gv.bw : w.heap.size ≤ gb215)); clear HB; have HB := n0_; have BK215 := n1_; have GW215 := n2_; have GE215 := n3_; clear n0_ n1_ n2_ n3_; clear hb hbox hg) | ((with_reducible refine gate_callee (f := 80) rfl ?_); refine goesL_ (some 29) rfl rfl Try.func80 (by kernel_rfl) rfl #[.slice A0 l0.length c0, .int .i64 0] rfl Gv.lm ?_; (with_reducible refine (spec_Be32.calls k _ _ l0 0 t218 t219 _ ?side1 ?side2 A7.out).mono ?_); (case side1 => repeat (first | exact (Kd.C_below HR0.out HB.out) | (with_reducible refine Kd.C_alloc ?_ _) | (with_reducible refine Kd.C_drewN ?_ _) | (with_reducible refine Kd.C_drew ?_))); (case side2 => exact HC0.out); rintro e w' ⟨rfl, ⟨nd, rfl⟩⟩; refine ⟨_, rfl, ?_⟩; (try (rw [drewN_self w11]; generalize hq_ : World.drewN w11 _ = w11; have n0_ : Aside0 (w11.heap[gb215]? = some (.cells #[.int .i64 0, .int .i64 0, .int .i64 0, .int .i64 0, .int .i64 0] 34 (0, 0))) := ⟨by rw [← hq_]; exact Gv.bk⟩; have n1_ : Aside0 (Below w.heap.size w w11) := ⟨by rw [← hq_]; exact Gv.bw⟩; clear BK215 HB hq_; have BK215 := n0_; have HB := n1_; clear n0_ n1_))) | ((with_reducible refine gate_callee (f := 80) rfl ?_); refine goesL_ (some 34) rfl rfl Try.func80 (by kernel_rfl) rfl #[.slice A0 l0.length c0, .int .i64 4] rfl Gv.lm ?_; (with_reducible refine (spec_Be32.calls k _ _ l0 4 t220 t221 _ ?side1 ?side2 A8.out).mono ?_); (case side1 => repeat (first | exact (Kd.C_below HR0.out HB.out) | (with_reducible refine Kd.C_alloc ?_ _) | (with_reducible refine Kd.C_drewN ?_ _) | (with_reducible refine Kd.C_drew ?_))); (case side2 => exact HC0.out); rintro e w' ⟨rfl, ⟨nd, rfl⟩⟩; refine ⟨_, rfl, ?_⟩; (try (rw [drewN_self w11]; generalize hq_ : World.drewN w11 _ = w11; have n0_ : Aside0 (w11.heap[gb215]? = some (.cells #[.int .i64 0, .int .i64 0, .int .i64 0, .int .i64 0, .int .i64 0] 34 (0, 0))) := ⟨by rw [← hq_]; exact Gv.bk⟩; have n1_ : Aside0 (Below w.heap.size w w11) := ⟨by rw [← hq_]; exact Gv.bw⟩; clear BK215 HB hq_; have BK215 := n0_; have HB := n1_; clear n0_ n1_))) | ((with_reducible refine gate_callee (f := 80) rfl ?_); refine goesL_ (some 39) rfl rfl Try.func80 (by kernel_rfl) rfl #[.slice A0 l0.length c0, .int .i64 8] rfl Gv.lm ?_; (with_reducible refine (spec_Be32.calls k _ _ l0 8 t222 t223 _ ?side1 ?side2 A9.out).mono ?_); (case side1 => repeat (first | exact (Kd.C_below HR0.out HB.out) | (with_reducible refine Kd.C_alloc ?_ _) | (with_reducible refine Kd.C_drewN ?_ _) | (with_reducible refine Kd.C_drew ?_))); (case side2 => exact HC0.out); rintro e w' ⟨rfl, ⟨nd, rfl⟩⟩; refine ⟨_, rfl, ?_⟩; (try (rw [drewN_self w11]; generalize hq_ : World.drewN w11 _ = w11; have n0_ : Aside0 (w11.heap[gb215]? = some (.cells #[.int .i64 0, .int .i64 0, .int .i64 0, .int .i64 0, .int .i64 0] 34 (0, 0))) := ⟨by rw [← hq_]; exact Gv.bk⟩; have n1_ : Aside0 (Below w.heap.size w w11) := ⟨by rw [← hq_]; exact Gv.bw⟩; clear BK215 HB hq_; have BK215 := n0_; have HB := n1_; clear n0_ n1_))) | ((with_reducible refine gate_callee (f := 80) rfl ?_); refine goesL_ (some 44) rfl rfl Try.func80 (by kernel_rfl) rfl #[.slice A0 l0.length c0, .int .i64 12] rfl Gv.lm ?_; (with_reducible refine (spec_Be32.calls k _ _ l0 12 t224 t225 _ ?side1 ?side2 A10.out).mono ?_); (case side1 => repeat (first | exact (Kd.C_below HR0.out HB.out) | (with_reducible refine Kd.C_alloc ?_ _) | (with_reducible refine Kd.C_drewN ?_ _) | (with_reducible refine Kd.C_drew ?_))); (case side2 => exact HC0.out); rintro e w' ⟨rfl, ⟨nd, rfl⟩⟩; refine ⟨_, rfl, ?_⟩; (try (rw [drewN_self w11]; generalize hq_ : World.drewN w11 _ = w11; have n0_ : Aside0 (w11.heap[gb215]? = some (.cells #[.int .i64 0, .int .i64 0, .int .i64 0, .int .i64 0, .int .i64 0] 34 (0, 0))) := ⟨by rw [← hq_]; exact Gv.bk⟩; have n1_ : Aside0 (Below w.heap.size w w11) := ⟨by rw [← hq_]; exact Gv.bw⟩; clear BK215 HB hq_; have BK215 := n0_; have HB := n1_; clear n0_ n1_)); obtain ⟨hcz12_0, hcz12_1, hcz12_2, hcz12_3, hcz12_4⟩ := Gv.c5 BK215.out; obtain ⟨hfz12_0, hfz12_1, hfz12_2, hfz12_3, hfz12_4⟩ := Gv.f5 BK215.out))
   refine bodyPost_ret (results_ct rfl _ _ gb215 34 #[.int .i64 6, .int .i64 t218, .int .i64 t220, .int .i64 t222, .int .i64 t224] (0, 0) _ rfl (by (with_reducible repeat (first | refine blk_drewN ?_ _ | refine blk_drew ?_ | refine blk_alloc ?_ _)); refine blk_put (cs := #[.int .i64 6, .int .i64 t218, .int .i64 t220, .int .i64 t222, .int .i64 0]) ?_ 4 _ rfl; (with_reducible repeat (first | refine blk_drewN ?_ _ | refine blk_drew ?_ | refine blk_alloc ?_ _)); refine blk_put (cs := #[.int .i64 6, .int .i64 t218, .int .i64 t220, .int .i64 0, .int .i64 0]) ?_ 3 _ rfl; (with_reducible repeat (first | refine blk_drewN ?_ _ | refine blk_drew ?_ | refine blk_alloc ?_ _)); refine blk_put (cs := #[.int .i64 6, .int .i64 t218, .int .i64 0, .int .i64 0, .int .i64 0]) ?_ 2 _ rfl; (with_reducible repeat (first | refine blk_drewN ?_ _ | refine blk_drew ?_ | refine blk_alloc ?_ _)); refine blk_put (cs := #[.int .i64 6, .int .i64 0, .int .i64 0, .int .i64 0, .int .i64 0]) ?_ 1 _ rfl; (with_reducible repeat (first | refine blk_drewN ?_ _ | refine blk_drew ?_ | refine blk_alloc ?_ _)); refine blk_put (cs := #[.int .i64 0, .int .i64 0, .int .i64 0, .int .i64 0, .int .i64 0]) ?_ 0 _ rfl; (with_reducible repeat (first | refine blk_drewN ?_ _ | refine blk_drew ?_ | refine blk_alloc ?_ _)); exact BK215.out) Try.underlying34 rfl (by kernel_rfl)) rfl ?_
   exact ⟨Gv.rt, Gv.bw⟩
  ·rw [if_neg c6] at H
   have c6b0 : ((l0.length : Int) == 16) = false := beq_eq_false_iff_ne.mpr c6
   have c6b1 : ((l0.length : Int) != 16) = true := bne_iff_ne.mpr c6
   simp only [Option.some.injEq, Prod.mk.injEq] at H
   obtain ⟨rfl, rfl, rfl, rfl, rfl, rfl⟩ := H
   go_enter Try.func74, Try.ntmps74
   go_wp2_with (first | ((with_reducible refine gate_dst (N := 2) rfl ?_); refine box_event ?hg (N := 2) ?hd (cs := #[.int .i64 0, .int .i64 0, .int .i64 0, .int .i64 0, .int .i64 0]) (t := 34) ?hr ?_; (case hd => rfl); (case hg => rfl); (case hr => first | (go_simp; done) | (go_simp; rfl)); intro gb215 hg w13 hbox hb; have n0_ := Gv.a0 (below_step Gv.bw hb); have n1_ := Gv.a0 (hbox); have n2_ := Gv.a0 ((Gv.ble hg Gv.bw : w.heap.size ≤ gb215)); have n3_ := Gv.a0 ((Gv.ble hg Gv.bw : w.heap.size ≤ gb215)); clear HB; have HB := n0_; have BK215 := n1_; have GW215 := n2_; have GE215 := n3_; clear n0_ n1_ n2_ n3_; clear hb hbox hg; obtain ⟨hcz14_0, hcz14_1, hcz14_2, hcz14_3, hcz14_4⟩ := Gv.c5 BK215.out; obtain ⟨hfz14_0, hfz14_1, hfz14_2, hfz14_3, hfz14_4⟩ := Gv.f5 BK215.out))
   refine bodyPost_ret (results_ct rfl _ _ gb215 34 #[.int .i64 0, .int .i64 0, .int .i64 0, .int .i64 0, .int .i64 0] (0, 0) _ rfl (by (with_reducible repeat (first | refine blk_drewN ?_ _ | refine blk_drew ?_ | refine blk_alloc ?_ _)); refine blk_put (cs := #[.int .i64 0, .int .i64 0, .int .i64 0, .int .i64 0, .int .i64 0]) ?_ 4 _ rfl; (with_reducible repeat (first | refine blk_drewN ?_ _ | refine blk_drew ?_ | refine blk_alloc ?_ _)); refine blk_put (cs := #[.int .i64 0, .int .i64 0, .int .i64 0, .int .i64 0, .int .i64 0]) ?_ 3 _ rfl; (with_reducible repeat (first | refine blk_drewN ?_ _ | refine blk_drew ?_ | refine blk_alloc ?_ _)); refine blk_put (cs := #[.int .i64 0, .int .i64 0, .int .i64 0, .int .i64 0, .int .i64 0]) ?_ 2 _ rfl; (with_reducible repeat (first | refine blk_drewN ?_ _ | refine blk_drew ?_ | refine blk_alloc ?_ _)); refine blk_put (cs := #[.int .i64 0, .int .i64 0, .int .i64 0, .int .i64 0, .int .i64 0]) ?_ 1 _ rfl; (with_reducible repeat (first | refine blk_drewN ?_ _ | refine blk_drew ?_ | refine blk_alloc ?_ _)); refine blk_put (cs := #[.int .i64 0, .int .i64 0, .int .i64 0, .int .i64 0, .int .i64 0]) ?_ 0 _ rfl; (with_reducible repeat (first | refine blk_drewN ?_ _ | refine blk_drew ?_ | refine blk_alloc ?_ _)); exact BK215.out) Try.underlying34 rfl (by kernel_rfl)) rfl ?_
   exact ⟨Gv.rt, Gv.bw⟩

end Go.Proofs.Ytbihbbkdciebhaa.PRa
