/- Plain Lean functions of a law's Go functions, their contracts, by a program of this session (wip/pr.py over the kit's print). -/
import Derived.Test.YtbpkmdghloapjaaPBcx0
import Derived.Test.YtbpkmdghloapjaaPBcx2
namespace Go.Proofs.Ytbpkmdghloapjaa.PBc
open Go.RowKit Go.Proofs.YtbpkmdghloapjaaW.PrintWords Go.Proofs.YtbpkmdghloapjaaW.PrintLast Go.Proofs.YtbpkmdghloapjaaW.PrintMore
attribute [local go_sem] max2_int min2_int max_two min_two max_three min_three max_four min_four   -- for this text's walks alone
set_option linter.unusedVariables false
set_option linter.unusedSimpArgs false

attribute [local go_sem high] eqA29
/-! ### laws_szModuleS: function 16 -/
def laws_szModuleS.f (l0 : List (S35)) (a1 : Int) : Option (Int) := if (wrap64 (a1 - (l0.length : Int))) < 0 then (some (-1)) else (some (wrap64 (a1 - (l0.length : Int))))
set_option maxHeartbeats 8000000 in
set_option maxRecDepth 100000 in
theorem laws_szModuleS.calls (A0 : Option Addr) (c0 : Nat) (l0 : List (S35)) (a1 : Int) (r : Int) (w : World) (hr0 : Kd.C k35 w A0 l0.length l0) (hc0 : l0.length ≤ c0) (h : laws_szModuleS.f l0 a1 = some r) :
  Calls Try.prog 16 #[.slice A0 l0.length c0, .int .i64 a1] w fun e w' => e = .returned (.int .i64 r) ∧ Drawn0 w w' := by
 have HR0 := Gv.a0 hr0
 have HC0 := Gv.a0 hc0
 clear hr0 hc0
 have H : (if (wrap64 (a1 - (l0.length : Int))) < 0 then (some (-1)) else (some (wrap64 (a1 - (l0.length : Int))))) = some r := h
 clear h
 by_cases c3 : (wrap64 (a1 - (l0.length : Int))) < 0
 ·rw [if_pos c3] at H
  have c3b0 : decide ((wrap64 (a1 - (l0.length : Int))) < 0) = true := decide_eq_true c3
  clear c3
  obtain rfl := Option.some.inj H
  go_enter Try.func16, Try.ntmps16
  go_wp2
  go_ret
  exact ⟨by first | rfl | (simp; done) | (simp [Int.tdiv_eq_ediv_of_nonneg]; done) | (simp [*]; done), by repeat (first | exact Drawn0.refl _ | apply Drawn0.step)⟩
 ·rw [if_neg c3] at H
  have c3b0 : decide ((wrap64 (a1 - (l0.length : Int))) < 0) = false := decide_eq_false c3
  clear c3
  obtain rfl := Option.some.inj H
  go_enter Try.func16, Try.ntmps16
  go_wp2
  go_ret
  exact ⟨by first | rfl | (simp; done) | (simp [Int.tdiv_eq_ediv_of_nonneg]; done) | (simp [*]; done), by repeat (first | exact Drawn0.refl _ | apply Drawn0.step)⟩

/-! ### laws_toAddr: function 10 -/
def laws_toAddr.f (a0_0 : Int) (a0_1 : Int) (a0_2 : Int) (a0_3 : Int) (a0_4 : Int) : Option (Int × Int × Int × Int × Int) := some (a0_0, a0_1, a0_2, a0_3, a0_4)
set_option maxHeartbeats 8000000 in
set_option maxRecDepth 100000 in
theorem laws_toAddr.calls (a0_0 : Int) (a0_1 : Int) (a0_2 : Int) (a0_3 : Int) (a0_4 : Int) (r1 : Int) (r2 : Int) (r3 : Int) (r4 : Int) (r5 : Int) (w : World) (h : laws_toAddr.f a0_0 a0_1 a0_2 a0_3 a0_4 = some (r1, r2, r3, r4, r5)) :
  Calls Try.prog 10 #[.agg #[.int .i64 a0_0, .int .i64 a0_1, .int .i64 a0_2, .int .i64 a0_3, .int .i64 a0_4]] w fun e w' => e = .returned (.agg #[.int .i64 r1, .int .i64 r2, .int .i64 r3, .int .i64 r4, .int .i64 r5]) ∧ Below w.heap.size w w' := by
 have hu23 := Try.underlying23
 have hu26 := Try.underlying26
 have HB := Gv.a0 (Below.refl w.heap.size w)
 have H : (some (a0_0, a0_1, a0_2, a0_3, a0_4)) = some (r1, r2, r3, r4, r5) := h
 clear h
 simp only [Option.some.injEq, Prod.mk.injEq] at H
 obtain ⟨rfl, rfl, rfl, rfl, rfl⟩ := H
 go_enter Try.func10, Try.ntmps10
 go_wp2_with (first | ((with_reducible refine gate_dst (N := 1) rfl ?_); refine box_event ?hg (N := 1) ?hd (cs := #[.int .i64 a0_0, .int .i64 a0_1, .int .i64 a0_2, .int .i64 a0_3, .int .i64 a0_4]) (t := 23) ?hr ?_; (case hd => rfl); (case hg => rfl); (case hr => first | (go_simp; done) | (go_simp; rfl)); intro gb101 hg w2 hbox hb; have n0_ := Gv.a0 (below_step Gv.bw hb); have n1_ := Gv.a0 (hbox); have n2_ := Gv.a0 ((Gv.ble hg Gv.bw : w.heap.size ≤ gb101)); have n3_ := Gv.a0 ((Gv.ble hg Gv.bw : w.heap.size ≤ gb101)); clear HB; have HB := n0_; have BK101 := n1_; have GW101 := n2_; have GE101 := n3_; clear n0_ n1_ n2_ n3_; clear hb hbox hg) | ((with_reducible refine gate_dst (N := 2) rfl ?_); refine box_event ?hg (N := 2) ?hd (cs := #[.int .i64 0, .int .i64 0, .int .i64 0, .int .i64 0, .int .i64 0]) (t := 26) ?hr ?_; (case hd => rfl); (case hg => rfl); (case hr => first | (go_simp; done) | (go_simp; rfl)); intro gb102 hg w3 hbox hb; have n0_ := Gv.a0 (Gv.bb BK101.out hb); have n1_ := Gv.a0 (below_step Gv.bw hb); have n2_ := Gv.a0 (hbox); have n3_ := Gv.a0 ((Gv.ble hg Gv.bw : w.heap.size ≤ gb102)); have n4_ := Gv.a0 ((Gv.ble hg Gv.bw : w.heap.size ≤ gb102)); have n5_ := Gv.a0 ((Gv.nlt hg (Gv.kb BK101.out) : gb101 ≠ gb102)); have n6_ := Gv.a0 ((Gv.ngt hg (Gv.kb BK101.out) : gb102 ≠ gb101)); clear BK101; clear HB; have BK101 := n0_; have HB := n1_; have BK102 := n2_; have GW102 := n3_; have GE102 := n4_; have NB101_102 := n5_; have NB102_101 := n6_; clear n0_ n1_ n2_ n3_ n4_ n5_ n6_; clear hb hbox hg) | ((with_reducible refine gate_dst (N := 3) rfl ?_); refine box_event ?hg (N := 3) ?hd (cs := #[.int .i64 0, .int .i64 0, .int .i64 0, .int .i64 0, .int .i64 0]) (t := 26) ?hr ?_; (case hd => rfl); (case hg => rfl); (case hr => first | (go_simp; done) | (go_simp; rfl)); intro gb103 hg w4 hbox hb; have n0_ := Gv.a0 (Gv.bb BK101.out hb); have n1_ := Gv.a0 (Gv.bb BK102.out hb); have n2_ := Gv.a0 (below_step Gv.bw hb); have n3_ := Gv.a0 (hbox); have n4_ := Gv.a0 ((Gv.ble hg Gv.bw : w.heap.size ≤ gb103)); have n5_ := Gv.a0 ((Gv.ble hg Gv.bw : w.heap.size ≤ gb103)); have n6_ := Gv.a0 ((Gv.nlt hg (Gv.kb BK101.out) : gb101 ≠ gb103)); have n7_ := Gv.a0 ((Gv.ngt hg (Gv.kb BK101.out) : gb103 ≠ gb101)); have n8_ := Gv.a0 ((Gv.nlt hg (Gv.kb BK102.out) : gb102 ≠ gb103)); have n9_ := Gv.a0 ((Gv.ngt hg (Gv.kb BK102.out) : gb103 ≠ gb102)); clear BK101; clear BK102; clear HB; have BK101 := n0_; have BK102 := n1_; have HB := n2_; have BK103 := n3_; have GW103 := n4_; have GE103 := n5_; have NB101_103 := n6_; have NB103_101 := n7_; have NB102_103 := n8_; have NB103_102 := n9_; clear n0_ n1_ n2_ n3_ n4_ n5_ n6_ n7_ n8_ n9_; clear hb hbox hg; have hnb5 := NB101_102.out; have hnc5 := NB102_101.out; have hnb6 := NB101_103.out; have hnc6 := NB103_101.out; obtain ⟨hcz7_0, hcz7_1, hcz7_2, hcz7_3, hcz7_4⟩ := Gv.c5 BK101.out; obtain ⟨hfz7_0, hfz7_1, hfz7_2, hfz7_3, hfz7_4⟩ := Gv.f5 BK101.out; have hnb8 := NB103_102.out; have hnc8 := NB102_103.out; obtain ⟨hcz9_0, hcz9_1, hcz9_2, hcz9_3, hcz9_4⟩ := Gv.c5 BK103.out; obtain ⟨hfz9_0, hfz9_1, hfz9_2, hfz9_3, hfz9_4⟩ := Gv.f5 BK103.out; obtain ⟨hcz10_0, hcz10_1, hcz10_2, hcz10_3, hcz10_4⟩ := Gv.c5 BK102.out; obtain ⟨hfz10_0, hfz10_1, hfz10_2, hfz10_3, hfz10_4⟩ := Gv.f5 BK102.out))
 refine bodyPost_ret (results_cell_row rfl _ _ gb102 26 #[.int .i64 a0_0, .int .i64 a0_1, .int .i64 a0_2, .int .i64 a0_3, .int .i64 a0_4] (0, 0) _ rfl (by (with_reducible repeat (first | refine blk_drewN ?_ _ | refine blk_drew ?_ | refine blk_alloc ?_ _)); refine blk_put (cs := #[.int .i64 a0_0, .int .i64 a0_1, .int .i64 a0_2, .int .i64 a0_3, .int .i64 0]) ?_ 4 _ rfl; (with_reducible repeat (first | refine blk_drewN ?_ _ | refine blk_drew ?_ | refine blk_alloc ?_ _)); refine blk_put (cs := #[.int .i64 a0_0, .int .i64 a0_1, .int .i64 a0_2, .int .i64 0, .int .i64 0]) ?_ 3 _ rfl; (with_reducible repeat (first | refine blk_drewN ?_ _ | refine blk_drew ?_ | refine blk_alloc ?_ _)); refine blk_put (cs := #[.int .i64 a0_0, .int .i64 a0_1, .int .i64 0, .int .i64 0, .int .i64 0]) ?_ 2 _ rfl; (with_reducible repeat (first | refine blk_drewN ?_ _ | refine blk_drew ?_ | refine blk_alloc ?_ _)); refine blk_put (cs := #[.int .i64 a0_0, .int .i64 0, .int .i64 0, .int .i64 0, .int .i64 0]) ?_ 1 _ rfl; (with_reducible repeat (first | refine blk_drewN ?_ _ | refine blk_drew ?_ | refine blk_alloc ?_ _)); refine blk_put (cs := #[.int .i64 0, .int .i64 0, .int .i64 0, .int .i64 0, .int .i64 0]) ?_ 0 _ rfl; (with_reducible repeat (first | refine blk_drewN ?_ _ | refine blk_drew ?_ | refine blk_alloc ?_ _)); refine blk_far ?_ NB102_103.out _; (with_reducible repeat (first | refine blk_drewN ?_ _ | refine blk_drew ?_ | refine blk_alloc ?_ _)); refine blk_far ?_ NB102_103.out _; (with_reducible repeat (first | refine blk_drewN ?_ _ | refine blk_drew ?_ | refine blk_alloc ?_ _)); refine blk_far ?_ NB102_103.out _; (with_reducible repeat (first | refine blk_drewN ?_ _ | refine blk_drew ?_ | refine blk_alloc ?_ _)); refine blk_far ?_ NB102_103.out _; (with_reducible repeat (first | refine blk_drewN ?_ _ | refine blk_drew ?_ | refine blk_alloc ?_ _)); refine blk_far ?_ NB102_103.out _; (with_reducible repeat (first | refine blk_drewN ?_ _ | refine blk_drew ?_ | refine blk_alloc ?_ _)); exact BK102.out) Try.underlying26 rfl (by kernel_rfl)) rfl ?_
 exact ⟨Gv.rt, Gv.bw⟩

/-! ### laws_toPrefix: function 9 -/
def laws_toPrefix.f (a0_0 : Int) (a0_1 : Int) (a0_2 : Int) (a0_3 : Int) (a0_4 : Int) (a0_5 : Int) : Option (Int × Int × Int × Int × Int × Int) := (laws_toAddr.f a0_0 a0_1 a0_2 a0_3 a0_4).bind fun bt107 => (some (bt107.1, bt107.2.1, bt107.2.2.1, bt107.2.2.2.1, bt107.2.2.2.2, a0_5))
set_option maxHeartbeats 8000000 in
set_option maxRecDepth 100000 in
theorem laws_toPrefix.calls (a0_0 : Int) (a0_1 : Int) (a0_2 : Int) (a0_3 : Int) (a0_4 : Int) (a0_5 : Int) (r1 : Int) (r2 : Int) (r3 : Int) (r4 : Int) (r5 : Int) (r6 : Int) (w : World) (h : laws_toPrefix.f a0_0 a0_1 a0_2 a0_3 a0_4 a0_5 = some (r1, r2, r3, r4, r5, r6)) :
  Calls Try.prog 9 #[.agg #[.int .i64 a0_0, .int .i64 a0_1, .int .i64 a0_2, .int .i64 a0_3, .int .i64 a0_4, .int .i64 a0_5]] w fun e w' => e = .returned (.agg #[.int .i64 r1, .int .i64 r2, .int .i64 r3, .int .i64 r4, .int .i64 r5, .int .i64 r6]) ∧ Below w.heap.size w w' := by
 have hu25 := Try.underlying25
 have hu29 := Try.underlying29
 have hu23 := Try.underlying23
 have hu26 := Try.underlying26
 have HB := Gv.a0 (Below.refl w.heap.size w)
 have H : ((laws_toAddr.f a0_0 a0_1 a0_2 a0_3 a0_4).bind fun bt107 => (some (bt107.1, bt107.2.1, bt107.2.2.1, bt107.2.2.2.1, bt107.2.2.2.2, a0_5))) = some (r1, r2, r3, r4, r5, r6) := h
 clear h
 replace H := Option.bind_eq_some_iff.mp H
 obtain ⟨⟨t107, t108, t109, t110, t111⟩, A20, H⟩ := H
 replace H : (some (t107, t108, t109, t110, t111, a0_5)) = some (r1, r2, r3, r4, r5, r6) := H
 have A2 := Gv.a0 A20
 clear A20
 simp only [Option.some.injEq, Prod.mk.injEq] at H
 obtain ⟨rfl, rfl, rfl, rfl, rfl, rfl⟩ := H
 go_enter Try.func9, Try.ntmps9
 go_wp2_with (first | ((with_reducible refine gate_dst (N := 1) rfl ?_); refine box_event ?hg (N := 1) ?hd (cs := #[.int .i64 a0_0, .int .i64 a0_1, .int .i64 a0_2, .int .i64 a0_3, .int .i64 a0_4, .int .i64 a0_5]) (t := 25) ?hr ?_; (case hd => rfl); (case hg => rfl); (case hr => first | (go_simp; done) | (go_simp; rfl)); intro gb104 hg w3 hbox hb; have n0_ := Gv.a0 (below_step Gv.bw hb); have n1_ := Gv.a0 (hbox); have n2_ := Gv.a0 ((Gv.ble hg Gv.bw : w.heap.size ≤ gb104)); have n3_ := Gv.a0 ((Gv.ble hg Gv.bw : w.heap.size ≤ gb104)); clear HB; have HB := n0_; have BK104 := n1_; have GW104 := n2_; have GE104 := n3_; clear n0_ n1_ n2_ n3_; clear hb hbox hg) | ((with_reducible refine gate_dst (N := 2) rfl ?_); refine box_event ?hg (N := 2) ?hd (cs := #[.int .i64 0, .int .i64 0, .int .i64 0, .int .i64 0, .int .i64 0, .int .i64 0]) (t := 29) ?hr ?_; (case hd => rfl); (case hg => rfl); (case hr => first | (go_simp; done) | (go_simp; rfl)); intro gb105 hg w4 hbox hb; have n0_ := Gv.a0 (Gv.bb BK104.out hb); have n1_ := Gv.a0 (below_step Gv.bw hb); have n2_ := Gv.a0 (hbox); have n3_ := Gv.a0 ((Gv.ble hg Gv.bw : w.heap.size ≤ gb105)); have n4_ := Gv.a0 ((Gv.ble hg Gv.bw : w.heap.size ≤ gb105)); have n5_ := Gv.a0 ((Gv.nlt hg (Gv.kb BK104.out) : gb104 ≠ gb105)); have n6_ := Gv.a0 ((Gv.ngt hg (Gv.kb BK104.out) : gb105 ≠ gb104)); clear BK104; clear HB; have BK104 := n0_; have HB := n1_; have BK105 := n2_; have GW105 := n3_; have GE105 := n4_; have NB104_105 := n5_; have NB105_104 := n6_; clear n0_ n1_ n2_ n3_ n4_ n5_ n6_; clear hb hbox hg) | ((with_reducible refine gate_dst (N := 3) rfl ?_); refine box_event ?hg (N := 3) ?hd (cs := #[.int .i64 0, .int .i64 0, .int .i64 0, .int .i64 0, .int .i64 0, .int .i64 0]) (t := 29) ?hr ?_; (case hd => rfl); (case hg => rfl); (case hr => first | (go_simp; done) | (go_simp; rfl)); intro gb106 hg w5 hbox hb; have n0_ := Gv.a0 (Gv.bb BK104.out hb); have n1_ := Gv.a0 (Gv.bb BK105.out hb); have n2_ := Gv.a0 (below_step Gv.bw hb); have n3_ := Gv.a0 (hbox); have n4_ := Gv.a0 ((Gv.ble hg Gv.bw : w.heap.size ≤ gb106)); have n5_ := Gv.a0 ((Gv.ble hg Gv.bw : w.heap.size ≤ gb106)); have n6_ := Gv.a0 ((Gv.nlt hg (Gv.kb BK104.out) : gb104 ≠ gb106)); have n7_ := Gv.a0 ((Gv.ngt hg (Gv.kb BK104.out) : gb106 ≠ gb104)); have n8_ := Gv.a0 ((Gv.nlt hg (Gv.kb BK105.out) : gb105 ≠ gb106)); have n9_ := Gv.a0 ((Gv.ngt hg (Gv.kb BK105.out) : gb106 ≠ gb105)); clear BK104; clear BK105; clear HB; have BK104 := n0_; have BK105 := n1_; have HB := n2_; have BK106 := n3_; have GW106 := n4_; have GE106 := n5_; have NB104_106 := n6_; have NB106_104 := n7_; have NB105_106 := n8_; have NB106_105 := n9_; clear n0_ n1_ n2_ n3_ n4_ n5_ n6_ n7_ n8_ n9_; clear hb hbox hg; have hnb6 := NB104_105.out; have hnc6 := NB105_104.out; have hnb7 := NB104_106.out; have hnc7 := NB106_104.out; obtain ⟨hcz8_0, hcz8_1, hcz8_2, hcz8_3, hcz8_4, hcz8_5⟩ := Gv.c6 BK104.out; obtain ⟨hfz8_0, hfz8_1, hfz8_2, hfz8_3, hfz8_4, hfz8_5⟩ := Gv.f6 BK104.out) | ((with_reducible refine gate_callee (f := 10) rfl ?_); refine goesL_ (some 6) rfl rfl Try.func10 (by kernel_rfl) rfl #[.agg #[.int .i64 a0_0, .int .i64 a0_1, .int .i64 a0_2, .int .i64 a0_3, .int .i64 a0_4]] rfl Gv.lm ?_; (with_reducible refine (laws_toAddr.calls a0_0 a0_1 a0_2 a0_3 a0_4 t107 t108 t109 t110 t111 _ A2.out).mono ?_); rintro e w9 ⟨rfl, hb⟩; refine ⟨_, rfl, ?_⟩; have n0_ := Gv.a0 (Gv.bb BK104.out hb); have n1_ := Gv.a0 (Gv.bb BK105.out hb); have n2_ := Gv.a0 (Gv.bb BK106.out hb); have n3_ := Gv.a0 (below_step Gv.bw hb); clear BK104; clear BK105; clear BK106; clear HB; have BK104 := n0_; have BK105 := n1_; have BK106 := n2_; have HB := n3_; clear n0_ n1_ n2_ n3_; (try clear hb); (try clear hb2); (try clear hk); (try clear hi); have hnb10 := NB106_105.out; have hnc10 := NB105_106.out; obtain ⟨hcz11_0, hcz11_1, hcz11_2, hcz11_3, hcz11_4, hcz11_5⟩ := Gv.c6 BK106.out; obtain ⟨hfz11_0, hfz11_1, hfz11_2, hfz11_3, hfz11_4, hfz11_5⟩ := Gv.f6 BK106.out; obtain ⟨hcz12_0, hcz12_1, hcz12_2, hcz12_3, hcz12_4, hcz12_5⟩ := Gv.c6 BK104.out; obtain ⟨hfz12_0, hfz12_1, hfz12_2, hfz12_3, hfz12_4, hfz12_5⟩ := Gv.f6 BK104.out; obtain ⟨hcz13_0, hcz13_1, hcz13_2, hcz13_3, hcz13_4, hcz13_5⟩ := Gv.c6 BK105.out; obtain ⟨hfz13_0, hfz13_1, hfz13_2, hfz13_3, hfz13_4, hfz13_5⟩ := Gv.f6 BK105.out))
 refine bodyPost_ret (results_cell_row rfl _ _ gb105 29 #[.int .i64 t107, .int .i64 t108, .int .i64 t109, .int .i64 t110, .int .i64 t111, .int .i64 a0_5] (0, 0) _ rfl (by (with_reducible repeat (first | refine blk_drewN ?_ _ | refine blk_drew ?_ | refine blk_alloc ?_ _)); refine blk_put (cs := #[.int .i64 t107, .int .i64 t108, .int .i64 t109, .int .i64 t110, .int .i64 t111, .int .i64 0]) ?_ 5 _ rfl; (with_reducible repeat (first | refine blk_drewN ?_ _ | refine blk_drew ?_ | refine blk_alloc ?_ _)); refine blk_put (cs := #[.int .i64 t107, .int .i64 t108, .int .i64 t109, .int .i64 t110, .int .i64 0, .int .i64 0]) ?_ 4 _ rfl; (with_reducible repeat (first | refine blk_drewN ?_ _ | refine blk_drew ?_ | refine blk_alloc ?_ _)); refine blk_put (cs := #[.int .i64 t107, .int .i64 t108, .int .i64 t109, .int .i64 0, .int .i64 0, .int .i64 0]) ?_ 3 _ rfl; (with_reducible repeat (first | refine blk_drewN ?_ _ | refine blk_drew ?_ | refine blk_alloc ?_ _)); refine blk_put (cs := #[.int .i64 t107, .int .i64 t108, .int .i64 0, .int .i64 0, .int .i64 0, .int .i64 0]) ?_ 2 _ rfl; (with_reducible repeat (first | refine blk_drewN ?_ _ | refine blk_drew ?_ | refine blk_alloc ?_ _)); refine blk_put (cs := #[.int .i64 t107, .int .i64 0, .int .i64 0, .int .i64 0, .int .i64 0, .int .i64 0]) ?_ 1 _ rfl; (with_reducible repeat (first | refine blk_drewN ?_ _ | refine blk_drew ?_ | refine blk_alloc ?_ _)); refine blk_put (cs := #[.int .i64 0, .int .i64 0, .int .i64 0, .int .i64 0, .int .i64 0, .int .i64 0]) ?_ 0 _ rfl; (with_reducible repeat (first | refine blk_drewN ?_ _ | refine blk_drew ?_ | refine blk_alloc ?_ _)); refine blk_far ?_ NB105_106.out _; (with_reducible repeat (first | refine blk_drewN ?_ _ | refine blk_drew ?_ | refine blk_alloc ?_ _)); refine blk_far ?_ NB105_106.out _; (with_reducible repeat (first | refine blk_drewN ?_ _ | refine blk_drew ?_ | refine blk_alloc ?_ _)); refine blk_far ?_ NB105_106.out _; (with_reducible repeat (first | refine blk_drewN ?_ _ | refine blk_drew ?_ | refine blk_alloc ?_ _)); refine blk_far ?_ NB105_106.out _; (with_reducible repeat (first | refine blk_drewN ?_ _ | refine blk_drew ?_ | refine blk_alloc ?_ _)); refine blk_far ?_ NB105_106.out _; (with_reducible repeat (first | refine blk_drewN ?_ _ | refine blk_drew ?_ | refine blk_alloc ?_ _)); refine blk_far ?_ NB105_106.out _; (with_reducible repeat (first | refine blk_drewN ?_ _ | refine blk_drew ?_ | refine blk_alloc ?_ _)); exact BK105.out) Try.underlying29 rfl (by kernel_rfl)) rfl ?_
 exact ⟨Gv.rt, Gv.bw⟩

/-! ### laws_toModule: function 14 -/
def laws_toModule.f (a0_0 : Int) (a0_1 : Int) (a0_2 : Int) (a0_3 : Int) (a0_4 : Int) (a0_5 : Int) (a0_6 : Int) (a0_7 : Int) (a0_8 : Int) (a0_9 : Int) (a0_10 : Int) (a0_11 : Int) (a0_12 : Int) (a0_13 : Int) (a0_14 : Int) (a0_15 : Int) (a0_16 : Int) : Option (Int × Int × Int × Int × Int × Int × Int × Int × Int × Int × Int × Int × Int × Int × Int × Int × Int) := (laws_toPrefix.f a0_1 a0_2 a0_3 a0_4 a0_5 a0_6).bind fun bt115 => ((laws_toPrefix.f a0_7 a0_8 a0_9 a0_10 a0_11 a0_12).bind fun bt121 => (some (a0_0, bt115.1, bt115.2.1, bt115.2.2.1, bt115.2.2.2.1, bt115.2.2.2.2.1, bt115.2.2.2.2.2, bt121.1, bt121.2.1, bt121.2.2.1, bt121.2.2.2.1, bt121.2.2.2.2.1, bt121.2.2.2.2.2, a0_13, a0_14, a0_15, a0_16)))
set_option maxHeartbeats 8000000 in
set_option maxRecDepth 100000 in
theorem laws_toModule.calls (a0_0 : Int) (a0_1 : Int) (a0_2 : Int) (a0_3 : Int) (a0_4 : Int) (a0_5 : Int) (a0_6 : Int) (a0_7 : Int) (a0_8 : Int) (a0_9 : Int) (a0_10 : Int) (a0_11 : Int) (a0_12 : Int) (a0_13 : Int) (a0_14 : Int) (a0_15 : Int) (a0_16 : Int) (r1 : Int) (r2 : Int) (r3 : Int) (r4 : Int) (r5 : Int) (r6 : Int) (r7 : Int) (r8 : Int) (r9 : Int) (r10 : Int) (r11 : Int) (r12 : Int) (r13 : Int) (r14 : Int) (r15 : Int) (r16 : Int) (r17 : Int) (w : World) (h : laws_toModule.f a0_0 a0_1 a0_2 a0_3 a0_4 a0_5 a0_6 a0_7 a0_8 a0_9 a0_10 a0_11 a0_12 a0_13 a0_14 a0_15 a0_16 = some (r1, r2, r3, r4, r5, r6, r7, r8, r9, r10, r11, r12, r13, r14, r15, r16, r17)) :
  Calls Try.prog 14 #[.agg #[.int .i64 a0_0, .int .i64 a0_1, .int .i64 a0_2, .int .i64 a0_3, .int .i64 a0_4, .int .i64 a0_5, .int .i64 a0_6, .int .i64 a0_7, .int .i64 a0_8, .int .i64 a0_9, .int .i64 a0_10, .int .i64 a0_11, .int .i64 a0_12, .int .i64 a0_13, .int .i64 a0_14, .int .i64 a0_15, .int .i64 a0_16]] w fun e w' => e = .returned (.agg #[.int .i64 r1, .int .i64 r2, .int .i64 r3, .int .i64 r4, .int .i64 r5, .int .i64 r6, .int .i64 r7, .int .i64 r8, .int .i64 r9, .int .i64 r10, .int .i64 r11, .int .i64 r12, .int .i64 r13, .int .i64 r14, .int .i64 r15, .int .i64 r16, .int .i64 r17]) ∧ Below w.heap.size w w' := by
 have hu35 := Try.underlying35
 have hu38 := Try.underlying38
 have hu25 := Try.underlying25
 have hu29 := Try.underlying29
 have HB := Gv.a0 (Below.refl w.heap.size w)
 have H : ((laws_toPrefix.f a0_1 a0_2 a0_3 a0_4 a0_5 a0_6).bind fun bt115 => ((laws_toPrefix.f a0_7 a0_8 a0_9 a0_10 a0_11 a0_12).bind fun bt121 => (some (a0_0, bt115.1, bt115.2.1, bt115.2.2.1, bt115.2.2.2.1, bt115.2.2.2.2.1, bt115.2.2.2.2.2, bt121.1, bt121.2.1, bt121.2.2.1, bt121.2.2.2.1, bt121.2.2.2.2.1, bt121.2.2.2.2.2, a0_13, a0_14, a0_15, a0_16)))) = some (r1, r2, r3, r4, r5, r6, r7, r8, r9, r10, r11, r12, r13, r14, r15, r16, r17) := h
 clear h
 replace H := Option.bind_eq_some_iff.mp H
 obtain ⟨⟨t115, t116, t117, t118, t119, t120⟩, A20, H⟩ := H
 replace H : ((laws_toPrefix.f a0_7 a0_8 a0_9 a0_10 a0_11 a0_12).bind fun bt121 => (some (a0_0, t115, t116, t117, t118, t119, t120, bt121.1, bt121.2.1, bt121.2.2.1, bt121.2.2.2.1, bt121.2.2.2.2.1, bt121.2.2.2.2.2, a0_13, a0_14, a0_15, a0_16))) = some (r1, r2, r3, r4, r5, r6, r7, r8, r9, r10, r11, r12, r13, r14, r15, r16, r17) := H
 have A2 := Gv.a0 A20
 clear A20
 replace H := Option.bind_eq_some_iff.mp H
 obtain ⟨⟨t121, t122, t123, t124, t125, t126⟩, A30, H⟩ := H
 replace H : (some (a0_0, t115, t116, t117, t118, t119, t120, t121, t122, t123, t124, t125, t126, a0_13, a0_14, a0_15, a0_16)) = some (r1, r2, r3, r4, r5, r6, r7, r8, r9, r10, r11, r12, r13, r14, r15, r16, r17) := H
 have A3 := Gv.a0 A30
 clear A30
 simp only [Option.some.injEq, Prod.mk.injEq] at H
 obtain ⟨rfl, rfl, rfl, rfl, rfl, rfl, rfl, rfl, rfl, rfl, rfl, rfl, rfl, rfl, rfl, rfl, rfl⟩ := H
 go_enter Try.func14, Try.ntmps14
 go_wp2_with (first | ((with_reducible refine gate_dst (N := 1) rfl ?_); refine box_event ?hg (N := 1) ?hd (cs := #[.int .i64 a0_0, .int .i64 a0_1, .int .i64 a0_2, .int .i64 a0_3, .int .i64 a0_4, .int .i64 a0_5, .int .i64 a0_6, .int .i64 a0_7, .int .i64 a0_8, .int .i64 a0_9, .int .i64 a0_10, .int .i64 a0_11, .int .i64 a0_12, .int .i64 a0_13, .int .i64 a0_14, .int .i64 a0_15, .int .i64 a0_16]) (t := 35) ?hr ?_; (case hd => rfl); (case hg => rfl); (case hr => first | (go_simp; done) | (go_simp; rfl)); intro gb112 hg w4 hbox hb; have n0_ := Gv.a0 (below_step Gv.bw hb); have n1_ := Gv.a0 (hbox); have n2_ := Gv.a0 ((Gv.ble hg Gv.bw : w.heap.size ≤ gb112)); have n3_ := Gv.a0 ((Gv.ble hg Gv.bw : w.heap.size ≤ gb112)); clear HB; have HB := n0_; have BK112 := n1_; have GW112 := n2_; have GE112 := n3_; clear n0_ n1_ n2_ n3_; clear hb hbox hg) | ((with_reducible refine gate_dst (N := 2) rfl ?_); refine box_event ?hg (N := 2) ?hd (cs := #[.int .i64 0, .int .i64 0, .int .i64 0, .int .i64 0, .int .i64 0, .int .i64 0, .int .i64 0, .int .i64 0, .int .i64 0, .int .i64 0, .int .i64 0, .int .i64 0, .int .i64 0, .int .i64 0, .int .i64 0, .int .i64 0, .int .i64 0]) (t := 38) ?hr ?_; (case hd => rfl); (case hg => rfl); (case hr => first | (go_simp; done) | (go_simp; rfl)); intro gb113 hg w5 hbox hb; have n0_ := Gv.a0 (Gv.bb BK112.out hb); have n1_ := Gv.a0 (below_step Gv.bw hb); have n2_ := Gv.a0 (hbox); have n3_ := Gv.a0 ((Gv.ble hg Gv.bw : w.heap.size ≤ gb113)); have n4_ := Gv.a0 ((Gv.ble hg Gv.bw : w.heap.size ≤ gb113)); have n5_ := Gv.a0 ((Gv.nlt hg (Gv.kb BK112.out) : gb112 ≠ gb113)); have n6_ := Gv.a0 ((Gv.ngt hg (Gv.kb BK112.out) : gb113 ≠ gb112)); clear BK112; clear HB; have BK112 := n0_; have HB := n1_; have BK113 := n2_; have GW113 := n3_; have GE113 := n4_; have NB112_113 := n5_; have NB113_112 := n6_; clear n0_ n1_ n2_ n3_ n4_ n5_ n6_; clear hb hbox hg) | ((with_reducible refine gate_dst (N := 3) rfl ?_); refine box_event ?hg (N := 3) ?hd (cs := #[.int .i64 0, .int .i64 0, .int .i64 0, .int .i64 0, .int .i64 0, .int .i64 0, .int .i64 0, .int .i64 0, .int .i64 0, .int .i64 0, .int .i64 0, .int .i64 0, .int .i64 0, .int .i64 0, .int .i64 0, .int .i64 0, .int .i64 0]) (t := 38) ?hr ?_; (case hd => rfl); (case hg => rfl); (case hr => first | (go_simp; done) | (go_simp; rfl)); intro gb114 hg w6 hbox hb; have n0_ := Gv.a0 (Gv.bb BK112.out hb); have n1_ := Gv.a0 (Gv.bb BK113.out hb); have n2_ := Gv.a0 (below_step Gv.bw hb); have n3_ := Gv.a0 (hbox); have n4_ := Gv.a0 ((Gv.ble hg Gv.bw : w.heap.size ≤ gb114)); have n5_ := Gv.a0 ((Gv.ble hg Gv.bw : w.heap.size ≤ gb114)); have n6_ := Gv.a0 ((Gv.nlt hg (Gv.kb BK112.out) : gb112 ≠ gb114)); have n7_ := Gv.a0 ((Gv.ngt hg (Gv.kb BK112.out) : gb114 ≠ gb112)); have n8_ := Gv.a0 ((Gv.nlt hg (Gv.kb BK113.out) : gb113 ≠ gb114)); have n9_ := Gv.a0 ((Gv.ngt hg (Gv.kb BK113.out) : gb114 ≠ gb113)); clear BK112; clear BK113; clear HB; have BK112 := n0_; have BK113 := n1_; have HB := n2_; have BK114 := n3_; have GW114 := n4_; have GE114 := n5_; have NB112_114 := n6_; have NB114_112 := n7_; have NB113_114 := n8_; have NB114_113 := n9_; clear n0_ n1_ n2_ n3_ n4_ n5_ n6_ n7_ n8_ n9_; clear hb hbox hg; have hnb7 := NB112_113.out; have hnc7 := NB113_112.out; have hnb8 := NB112_114.out; have hnc8 := NB114_112.out; have hnb10 := NB114_113.out; have hnc10 := NB113_114.out) | ((with_reducible refine gate_callee (f := 9) rfl ?_); refine goesL_ (some 9) rfl rfl Try.func9 (by kernel_rfl) rfl #[.agg #[.int .i64 a0_1, .int .i64 a0_2, .int .i64 a0_3, .int .i64 a0_4, .int .i64 a0_5, .int .i64 a0_6]] rfl Gv.lm ?_; (with_reducible refine (laws_toPrefix.calls a0_1 a0_2 a0_3 a0_4 a0_5 a0_6 t115 t116 t117 t118 t119 t120 _ A2.out).mono ?_); rintro e w12 ⟨rfl, hb⟩; refine ⟨_, rfl, ?_⟩; have n0_ := Gv.a0 (below_step HB.out hb); have n1_ := Gv.a0 (Gv.bb BK112.out hb); have n2_ := Gv.a0 (Gv.bb BK113.out hb); have n3_ := Gv.a0 (Gv.bb BK114.out hb); clear HB BK112 BK113 BK114 hb; have HB := n0_; have BK112 := n1_; have BK113 := n2_; have BK114 := n3_; clear n0_ n1_ n2_ n3_) | ((with_reducible refine gate_callee (f := 9) rfl ?_); refine goesL_ (some 13) rfl rfl Try.func9 (by kernel_rfl) rfl #[.agg #[.int .i64 a0_7, .int .i64 a0_8, .int .i64 a0_9, .int .i64 a0_10, .int .i64 a0_11, .int .i64 a0_12]] rfl Gv.lm ?_; (with_reducible refine (laws_toPrefix.calls a0_7 a0_8 a0_9 a0_10 a0_11 a0_12 t121 t122 t123 t124 t125 t126 _ A3.out).mono ?_); rintro e w15 ⟨rfl, hb⟩; refine ⟨_, rfl, ?_⟩; have n0_ := Gv.a0 (below_step HB.out hb); have n1_ := Gv.a0 (Gv.bb BK112.out hb); have n2_ := Gv.a0 (Gv.bb BK113.out hb); have n3_ := Gv.a0 (Gv.bb BK114.out hb); clear HB BK112 BK113 BK114 hb; have HB := n0_; have BK112 := n1_; have BK113 := n2_; have BK114 := n3_; clear n0_ n1_ n2_ n3_) | ((with_reducible refine Gv.gate_load (t := 3) rfl ?_); refine Gv.get_event (g := gb112) rfl rfl rfl BK112.out rfl Try.underlying3 rfl ?_) | ((with_reducible refine Gv.gate_load (t := 25) rfl ?_); refine Gv.mid_event (g := gb112) [.int .i64 a0_1, .int .i64 a0_2, .int .i64 a0_3, .int .i64 a0_4, .int .i64 a0_5, .int .i64 a0_6] rfl rfl rfl BK112.out rfl Try.underlying25 rfl (by kernel_rfl) ?_) | ((with_reducible refine Gv.gate_load (t := 25) rfl ?_); refine Gv.mid_event (g := gb112) [.int .i64 a0_7, .int .i64 a0_8, .int .i64 a0_9, .int .i64 a0_10, .int .i64 a0_11, .int .i64 a0_12] rfl rfl rfl BK112.out rfl Try.underlying25 rfl (by kernel_rfl) ?_) | ((with_reducible refine Gv.gate_load (t := 29) rfl ?_); refine Gv.mid_event (g := gb112) [.int .i64 a0_1, .int .i64 a0_2, .int .i64 a0_3, .int .i64 a0_4, .int .i64 a0_5, .int .i64 a0_6] rfl rfl rfl BK112.out rfl Try.underlying29 rfl (by kernel_rfl) ?_) | ((with_reducible refine Gv.gate_load (t := 29) rfl ?_); refine Gv.mid_event (g := gb112) [.int .i64 a0_7, .int .i64 a0_8, .int .i64 a0_9, .int .i64 a0_10, .int .i64 a0_11, .int .i64 a0_12] rfl rfl rfl BK112.out rfl Try.underlying29 rfl (by kernel_rfl) ?_) | ((with_reducible refine gate_store (t := 3) rfl ?_); refine Gv.put_event (g := gb114) rfl rfl rfl rfl rfl BK114.out (by kernel_rfl) (by simp) ?_; intro wp_ hbox hoth hbel; simp only [List.setIfInBounds_toArray, List.set_cons_succ, List.set_cons_zero] at hbox; have n0_ := Gv.a0 (hbox); have n1_ := Gv.a0 (hbel w HB.out GE114.out); have n2_ := Gv.a0 ((hoth gb112 NB112_114.out).trans BK112.out); have n3_ := Gv.a0 ((hoth gb113 NB113_114.out).trans BK113.out); clear HB BK112 BK113 BK114; have BK114 := n0_; have HB := n1_; have BK112 := n2_; have BK113 := n3_; clear n0_ n1_ n2_ n3_ hbox hoth hbel) | ((with_reducible refine gate_store (t := 25) rfl ?_); refine Gv.mput_event (g := gb114) (cs' := #[.int .i64 a0_0, .int .i64 t115, .int .i64 t116, .int .i64 t117, .int .i64 t118, .int .i64 t119, .int .i64 t120, .int .i64 0, .int .i64 0, .int .i64 0, .int .i64 0, .int .i64 0, .int .i64 0, .int .i64 0, .int .i64 0, .int .i64 0, .int .i64 0]) rfl rfl rfl rfl rfl BK114.out (by kernel_rfl) rfl (by simp) rfl ?_; intro wp_ hbox hoth hbel; have n0_ := Gv.a0 (hbox); have n1_ := Gv.a0 (hbel w HB.out GE114.out); have n2_ := Gv.a0 ((hoth gb112 NB112_114.out).trans BK112.out); have n3_ := Gv.a0 ((hoth gb113 NB113_114.out).trans BK113.out); clear HB BK112 BK113 BK114; have BK114 := n0_; have HB := n1_; have BK112 := n2_; have BK113 := n3_; clear n0_ n1_ n2_ n3_ hbox hoth hbel) | ((with_reducible refine gate_store (t := 25) rfl ?_); refine Gv.mput_event (g := gb114) (cs' := #[.int .i64 a0_0, .int .i64 t115, .int .i64 t116, .int .i64 t117, .int .i64 t118, .int .i64 t119, .int .i64 t120, .int .i64 t121, .int .i64 t122, .int .i64 t123, .int .i64 t124, .int .i64 t125, .int .i64 t126, .int .i64 0, .int .i64 0, .int .i64 0, .int .i64 0]) rfl rfl rfl rfl rfl BK114.out (by kernel_rfl) rfl (by simp) rfl ?_; intro wp_ hbox hoth hbel; have n0_ := Gv.a0 (hbox); have n1_ := Gv.a0 (hbel w HB.out GE114.out); have n2_ := Gv.a0 ((hoth gb112 NB112_114.out).trans BK112.out); have n3_ := Gv.a0 ((hoth gb113 NB113_114.out).trans BK113.out); clear HB BK112 BK113 BK114; have BK114 := n0_; have HB := n1_; have BK112 := n2_; have BK113 := n3_; clear n0_ n1_ n2_ n3_ hbox hoth hbel) | ((with_reducible refine gate_store (t := 29) rfl ?_); refine Gv.mput_event (g := gb114) (cs' := #[.int .i64 a0_0, .int .i64 t115, .int .i64 t116, .int .i64 t117, .int .i64 t118, .int .i64 t119, .int .i64 t120, .int .i64 0, .int .i64 0, .int .i64 0, .int .i64 0, .int .i64 0, .int .i64 0, .int .i64 0, .int .i64 0, .int .i64 0, .int .i64 0]) rfl rfl rfl rfl rfl BK114.out (by kernel_rfl) rfl (by simp) rfl ?_; intro wp_ hbox hoth hbel; have n0_ := Gv.a0 (hbox); have n1_ := Gv.a0 (hbel w HB.out GE114.out); have n2_ := Gv.a0 ((hoth gb112 NB112_114.out).trans BK112.out); have n3_ := Gv.a0 ((hoth gb113 NB113_114.out).trans BK113.out); clear HB BK112 BK113 BK114; have BK114 := n0_; have HB := n1_; have BK112 := n2_; have BK113 := n3_; clear n0_ n1_ n2_ n3_ hbox hoth hbel) | ((with_reducible refine gate_store (t := 29) rfl ?_); refine Gv.mput_event (g := gb114) (cs' := #[.int .i64 a0_0, .int .i64 t115, .int .i64 t116, .int .i64 t117, .int .i64 t118, .int .i64 t119, .int .i64 t120, .int .i64 t121, .int .i64 t122, .int .i64 t123, .int .i64 t124, .int .i64 t125, .int .i64 t126, .int .i64 0, .int .i64 0, .int .i64 0, .int .i64 0]) rfl rfl rfl rfl rfl BK114.out (by kernel_rfl) rfl (by simp) rfl ?_; intro wp_ hbox hoth hbel; have n0_ := Gv.a0 (hbox); have n1_ := Gv.a0 (hbel w HB.out GE114.out); have n2_ := Gv.a0 ((hoth gb112 NB112_114.out).trans BK112.out); have n3_ := Gv.a0 ((hoth gb113 NB113_114.out).trans BK113.out); clear HB BK112 BK113 BK114; have BK114 := n0_; have HB := n1_; have BK112 := n2_; have BK113 := n3_; clear n0_ n1_ n2_ n3_ hbox hoth hbel) | ((with_reducible refine Gv.gate_load (t := 38) rfl ?_); refine wpList_load_row rfl 38 _ rfl gb114 rfl 38 _ _ _ BK114.out Try.underlying38 rfl (by kernel_rfl) ?_) | ((with_reducible refine gate_store (t := 38) (p := 2) rfl ?_); refine Gv.store_event (g := gb113) (cells := #[.int .i64 a0_0, .int .i64 t115, .int .i64 t116, .int .i64 t117, .int .i64 t118, .int .i64 t119, .int .i64 t120, .int .i64 t121, .int .i64 t122, .int .i64 t123, .int .i64 t124, .int .i64 t125, .int .i64 t126, .int .i64 a0_13, .int .i64 a0_14, .int .i64 a0_15, .int .i64 a0_16]) rfl rfl rfl rfl rfl BK113.out (by kernel_rfl) rfl (by simp; and_intros <;> rfl) ?_; intro wp_ hbox hoth hbel; have n0_ := Gv.a0 (hbox); have n1_ := Gv.a0 (hbel w HB.out GE113.out); have n2_ := Gv.a0 ((hoth gb112 NB112_113.out).trans BK112.out); have n3_ := Gv.a0 ((hoth gb114 NB114_113.out).trans BK114.out); clear HB BK112 BK113 BK114; have BK113 := n0_; have HB := n1_; have BK112 := n2_; have BK114 := n3_; clear n0_ n1_ n2_ n3_ hbox hoth hbel))
 refine bodyPost_ret (results_cell_row rfl _ _ gb113 38 #[.int .i64 a0_0, .int .i64 t115, .int .i64 t116, .int .i64 t117, .int .i64 t118, .int .i64 t119, .int .i64 t120, .int .i64 t121, .int .i64 t122, .int .i64 t123, .int .i64 t124, .int .i64 t125, .int .i64 t126, .int .i64 a0_13, .int .i64 a0_14, .int .i64 a0_15, .int .i64 a0_16] (0, 0) _ rfl BK113.out Try.underlying38 rfl (by kernel_rfl)) rfl ?_
 exact ⟨Gv.rt, Gv.bw⟩

/-! ### laws_toModuleS: function 18 -/
def laws_toModuleS.l0 : Nat → List (S35) → List (S38) → Int → Option ((List (S38)))
 | 0, _, _, _ => none
 | k + 1, x0, x3, x4 => if x4 < (x0.length : Int) then (if 0 ≤ x4 then ((laws_toModule.f ((rd_T35 x0 x4).f0) ((rd_T35 x0 x4).f1.f0.f0) ((rd_T35 x0 x4).f1.f0.f1) ((rd_T35 x0 x4).f1.f0.f2) ((rd_T35 x0 x4).f1.f0.f3) ((rd_T35 x0 x4).f1.f0.f4) ((rd_T35 x0 x4).f1.f1) ((rd_T35 x0 x4).f2.f0.f0) ((rd_T35 x0 x4).f2.f0.f1) ((rd_T35 x0 x4).f2.f0.f2) ((rd_T35 x0 x4).f2.f0.f3) ((rd_T35 x0 x4).f2.f0.f4) ((rd_T35 x0 x4).f2.f1) ((rd_T35 x0 x4).f3) ((rd_T35 x0 x4).f4) ((rd_T35 x0 x4).f5) ((rd_T35 x0 x4).f6)).bind fun bt131 => (if x4 < (x3.length : Int) then (laws_toModuleS.l0 k x0 (x3.set (x4 : Int).toNat (⟨bt131.1, (⟨(⟨bt131.2.1, bt131.2.2.1, bt131.2.2.2.1, bt131.2.2.2.2.1, bt131.2.2.2.2.2.1⟩ : S26), bt131.2.2.2.2.2.2.1⟩ : S29), (⟨(⟨bt131.2.2.2.2.2.2.2.1, bt131.2.2.2.2.2.2.2.2.1, bt131.2.2.2.2.2.2.2.2.2.1, bt131.2.2.2.2.2.2.2.2.2.2.1, bt131.2.2.2.2.2.2.2.2.2.2.2.1⟩ : S26), bt131.2.2.2.2.2.2.2.2.2.2.2.2.1⟩ : S29), bt131.2.2.2.2.2.2.2.2.2.2.2.2.2.1, bt131.2.2.2.2.2.2.2.2.2.2.2.2.2.2.1, bt131.2.2.2.2.2.2.2.2.2.2.2.2.2.2.2.1, bt131.2.2.2.2.2.2.2.2.2.2.2.2.2.2.2.2⟩ : S38)) (wrap64 (x4 + 1))) else (none))) else (none)) else (some x3)
def laws_toModuleS.f (k : Nat) (l0 : List (S35)) : Option ((List (S38))) := if 0 ≤ (l0.length : Int) then (if ((l0.length : Int) : Int).toNat ≤ 2069668946401 then (laws_toModuleS.l0 k l0 (List.replicate ((l0.length : Int) : Int).toNat z38) 0) else (none)) else (none)
theorem laws_toModuleS.mono_l : ∀ k, (∀ y0 y1 y2, LeO (laws_toModuleS.l0 k y0 y1 y2) (laws_toModuleS.l0 (k + 1) y0 y1 y2))
 | 0 => fun _ _ _ r h => by simp [laws_toModuleS.l0] at h
 | k + 1 => by
  have ih0 := laws_toModuleS.mono_l k
  ·intro y0 y1 y2
   unfold laws_toModuleS.l0
   repeat' first
   | (with_reducible exact ih0 _ _ _)
   | (with_reducible exact LeO.refl _)
   | (with_reducible exact LeO.none _)
   | (with_reducible refine LeO.ite ?_ ?_)
   | (with_reducible refine LeO.bind ?_ (fun _ => ?_))
   | exact ih0 _ _ _
   | exact LeO.none _
   | refine LeO.ite ?_ ?_
   | refine LeO.bind ?_ (fun _ => ?_)
theorem laws_toModuleS.mono : ∀ a0 k, LeO (laws_toModuleS.f k a0) (laws_toModuleS.f (k + 1) a0) := by
 intro a0 k
 have ih0 := laws_toModuleS.mono_l k
 unfold laws_toModuleS.f
 repeat' first
   | (with_reducible exact ih0 _ _ _)
   | (with_reducible exact LeO.refl _)
   | (with_reducible exact LeO.none _)
   | (with_reducible refine LeO.ite ?_ ?_)
   | (with_reducible refine LeO.bind ?_ (fun _ => ?_))
   | exact ih0 _ _ _
   | exact LeO.none _
   | refine LeO.ite ?_ ?_
   | refine LeO.bind ?_ (fun _ => ?_)
set_option maxHeartbeats 8000000 in
set_option maxRecDepth 100000 in
theorem laws_toModuleS.calls (k : Nat) (A0 : Option Addr) (c0 : Nat) (l0 : List (S35)) (r : List (S38)) (w : World) (hr0 : Kd.C k35 w A0 l0.length l0) (hc0 : l0.length ≤ c0) (h : laws_toModuleS.f k l0 = some r) :
  Calls Try.prog 18 #[.slice A0 l0.length c0] w fun e w' => ∃ v0_ : Value, e = .returned (v0_) ∧ Kd.R k38 38 w' w.heap.size (fun _ => True) v0_ r ∧ Below w.heap.size w w' := by
 have hu35 := Try.underlying35
 have hu38 := Try.underlying38
 have HR0 := Gv.a0 hr0
 have HC0 := Gv.a0 hc0
 clear hr0 hc0
 have HB := Gv.a0 (Below.refl w.heap.size w)
 have H : (if 0 ≤ (l0.length : Int) then (if ((l0.length : Int) : Int).toNat ≤ 2069668946401 then (laws_toModuleS.l0 k l0 (List.replicate ((l0.length : Int) : Int).toNat z38) 0) else (none)) else (none)) = some r := h
 clear h
 by_cases c2 : 0 ≤ (l0.length : Int)
 ·rw [if_pos c2] at H
  have c2b0 := eq_true c2
  have c2b1 : decide (0 ≤ (l0.length : Int)) = true := decide_eq_true c2
  clear c2
  by_cases c3 : ((l0.length : Int) : Int).toNat ≤ 2069668946401
  ·rw [if_pos c3] at H
   have c3b0 := eq_true c3
   have c3b1 : decide (((l0.length : Int) : Int).toNat ≤ 2069668946401) = true := decide_eq_true c3
   clear c3
   obtain ⟨y127, hy127⟩ : ∃ y_ : List (S38), y_ = (List.replicate ((l0.length : Int) : Int).toNat z38) := ⟨_, rfl⟩
   replace H : (laws_toModuleS.l0 k l0 y127 0) = some r := by first | (rw [hy127]; with_reducible exact H) | (have H2_ := (Option.bind_some _ _).symm.trans H; rw [hy127]; with_reducible exact H2_) | (have H2_ := (Option.bind_some _ _).symm.trans H; with_reducible exact H2_) | with_reducible exact H | (rw [hy127]; exact H) | exact H
   have Ny127 := Gv.a0 hy127
   clear hy127
   have H' := Gv.a0 H
   clear H
   go_enter Try.func18, Try.ntmps18
   go_wp2_with (first | ((with_reducible refine gate_dst (N := 7) rfl ?_); refine Kd.R_make k38 _ 38 rfl (N := 7) rfl 44 _ _ rfl (l0.length : Int) rfl rfl Try.underlying44 (.agg #[(.int .i64 0), (.int .i64 0), (.int .i64 0), (.int .i64 0), (.int .i64 0), (.int .i64 0), (.int .i64 0), (.int .i64 0), (.int .i64 0), (.int .i64 0), (.int .i64 0), (.int .i64 0), (.int .i64 0), (.int .i64 0), (.int .i64 0), (.int .i64 0), (.int .i64 0)]) 136 info38 rfl (by decide) (by omega) z38 (ok := fun _ => True) (okp := fun _ => True) (k38_mkM _ _ _ z38 ) (fun _ hk => hk) trivial (of_decide_eq_true (by first | (with_reducible assumption) | assumption)) (Nat.le_trans (Nat.mul_le_mul_right _ (of_decide_eq_true (by first | (with_reducible assumption) | assumption) : (l0.length : Int).toNat ≤ 2069668946401)) (by omega)) (Below.refl _ _) (Nat.le_refl _) ?_; intro v128 w4 ho5 hb hg_ hnew_; clear hg_ hnew_; (first | rw [← Ny127.out] at ho5 | (simp only [Int.reduceToNat] at ho5; rw [← Ny127.out] at ho5)); have n0_ := Gv.a0 (Kd.R_lower ho5 (below_size Gv.bw)); have n1_ := Gv.a0 (below_step Gv.bw hb); clear HB; have HO129 := n0_; have HB := n1_; clear n0_ n1_; clear hb ho5))
   go_loopg [4] k (fun kq v4 w' => ∃ (x3_1 : List (S38)) (x4_1 : Int), v4 = .int .i64 x4_1 ∧ Aside0 (laws_toModuleS.l0 kq l0 x3_1 x4_1 = some r) ∧ Aside0 (kq ≤ k) ∧ Aside0 (Kd.R k38 38 w' w.heap.size (fun _ => True) v128 x3_1) ∧ Aside0 (Below w.heap.size w w'))
   case atStart => exact ⟨(y127), (0), Gv.rq, H', ⟨Nat.le_refl _⟩, ⟨Gv.kr HO129.out⟩, ⟨Gv.bw⟩⟩
   case round =>
    clear H'
    try clear c1
    try clear c2
    try clear c2b0
    try clear c2b1
    try clear p2
    try clear c3
    try clear c3b0
    try clear c3b1
    obtain ⟨x3_1, x4_1, rfl, HA, HK1, HO_3, HB⟩ := hrel
    cases gk with
    | zero => exact absurd HA.out (by simp [laws_toModuleS.l0])
    | succ k1 =>
     have H := HA.out
     clear HA
     simp only [laws_toModuleS.l0] at H
     by_cases c6 : x4_1 < (l0.length : Int)
     ·rw [if_pos c6] at H
      have c6b0 : decide (x4_1 < (l0.length : Int)) = true := decide_eq_true c6
      clear c6
      by_cases c7 : 0 ≤ x4_1
      ·rw [if_pos c7] at H
       have c7b0 : decide (0 ≤ x4_1) = true := decide_eq_true c7
       clear c7
       replace H := Option.bind_eq_some_iff.mp H
       obtain ⟨⟨t131, t132, t133, t134, t135, t136, t137, t138, t139, t140, t141, t142, t143, t144, t145, t146, t147⟩, A80, H⟩ := H
       replace H : (if x4_1 < (x3_1.length : Int) then (laws_toModuleS.l0 k1 l0 (x3_1.set (x4_1 : Int).toNat (⟨t131, (⟨(⟨t132, t133, t134, t135, t136⟩ : S26), t137⟩ : S29), (⟨(⟨t138, t139, t140, t141, t142⟩ : S26), t143⟩ : S29), t144, t145, t146, t147⟩ : S38)) (wrap64 (x4_1 + 1))) else (none)) = some r := H
       have A8 := Gv.a0 A80
       clear A80
       by_cases c9 : x4_1 < (x3_1.length : Int)
       ·rw [if_pos c9] at H
        have c9b0 : decide (x4_1 < (x3_1.length : Int)) = true := decide_eq_true c9
        clear c9
        obtain ⟨y148, hy148⟩ : ∃ y_ : List (S38), y_ = (x3_1.set (x4_1 : Int).toNat (⟨t131, (⟨(⟨t132, t133, t134, t135, t136⟩ : S26), t137⟩ : S29), (⟨(⟨t138, t139, t140, t141, t142⟩ : S26), t143⟩ : S29), t144, t145, t146, t147⟩ : S38)) := ⟨_, rfl⟩
        replace H : (laws_toModuleS.l0 k1 l0 y148 (wrap64 (x4_1 + 1))) = some r := by first | (rw [hy148]; with_reducible exact H) | (have H2_ := (Option.bind_some _ _).symm.trans H; rw [hy148]; with_reducible exact H2_) | (have H2_ := (Option.bind_some _ _).symm.trans H; with_reducible exact H2_) | with_reducible exact H | (rw [hy148]; exact H) | exact H
        have Ny148 := Gv.a0 hy148
        clear hy148
        have H' := Gv.a0 H
        clear H
        have p130 : 0 ≤ (x4_1 : Int) := of_decide_eq_true (by first | (with_reducible assumption) | assumption)
        have q130 : x4_1 < (l0.length : Int) := of_decide_eq_true (by first | (with_reducible assumption) | assumption)
        obtain ⟨ad130, e130, hx130_0, hx130_1, hx130_2, hx130_3, hx130_4, hx130_5, hx130_6, hx130_7, hx130_8, hx130_9, hx130_10, hx130_11, hx130_12, hx130_13, hx130_14, hx130_15, hx130_16⟩ := at_T35 HR0.out x4_1 p130 q130
        cases e130
        replace hx130_0 := Gv.bx HB.out hx130_0
        replace hx130_1 := Gv.bx HB.out hx130_1
        replace hx130_2 := Gv.bx HB.out hx130_2
        replace hx130_3 := Gv.bx HB.out hx130_3
        replace hx130_4 := Gv.bx HB.out hx130_4
        replace hx130_5 := Gv.bx HB.out hx130_5
        replace hx130_6 := Gv.bx HB.out hx130_6
        replace hx130_7 := Gv.bx HB.out hx130_7
        replace hx130_8 := Gv.bx HB.out hx130_8
        replace hx130_9 := Gv.bx HB.out hx130_9
        replace hx130_10 := Gv.bx HB.out hx130_10
        replace hx130_11 := Gv.bx HB.out hx130_11
        replace hx130_12 := Gv.bx HB.out hx130_12
        replace hx130_13 := Gv.bx HB.out hx130_13
        replace hx130_14 := Gv.bx HB.out hx130_14
        replace hx130_15 := Gv.bx HB.out hx130_15
        replace hx130_16 := Gv.bx HB.out hx130_16
        replace p130 := eq_true p130
        replace q130 := eq_true q130
        go_wp2_with (first | ((with_reducible refine gate_callee (f := 14) rfl ?_); refine goesL_ (some 20) rfl rfl Try.func14 (by kernel_rfl) rfl #[.agg #[.int .i64 ((rd_T35 l0 x4_1).f0), .int .i64 ((rd_T35 l0 x4_1).f1.f0.f0), .int .i64 ((rd_T35 l0 x4_1).f1.f0.f1), .int .i64 ((rd_T35 l0 x4_1).f1.f0.f2), .int .i64 ((rd_T35 l0 x4_1).f1.f0.f3), .int .i64 ((rd_T35 l0 x4_1).f1.f0.f4), .int .i64 ((rd_T35 l0 x4_1).f1.f1), .int .i64 ((rd_T35 l0 x4_1).f2.f0.f0), .int .i64 ((rd_T35 l0 x4_1).f2.f0.f1), .int .i64 ((rd_T35 l0 x4_1).f2.f0.f2), .int .i64 ((rd_T35 l0 x4_1).f2.f0.f3), .int .i64 ((rd_T35 l0 x4_1).f2.f0.f4), .int .i64 ((rd_T35 l0 x4_1).f2.f1), .int .i64 ((rd_T35 l0 x4_1).f3), .int .i64 ((rd_T35 l0 x4_1).f4), .int .i64 ((rd_T35 l0 x4_1).f5), .int .i64 ((rd_T35 l0 x4_1).f6)]] rfl Gv.lm ?_; (with_reducible refine (laws_toModule.calls _ _ _ _ _ _ _ _ _ _ _ _ _ _ _ _ _ t131 t132 t133 t134 t135 t136 t137 t138 t139 t140 t141 t142 t143 t144 t145 t146 t147 _ A8.out).mono ?_); rintro e w11 ⟨rfl, hb⟩; refine ⟨_, rfl, ?_⟩; have n0_ := Gv.a0 (Kd.R_below (Gv.kr HO_3.out) hb); have n1_ := Gv.a0 (below_step Gv.bw hb); clear HO_3; clear HB; have HO_3 := n0_; have HB := n1_; clear n0_ n1_; (try clear hb); (try clear hb2); (try clear hk); (try clear hi); have p10 : 0 ≤ (x4_1 : Int) := of_decide_eq_true (by first | (with_reducible assumption) | assumption); have q10 : (x4_1 : Int) < ((x3_1.length : Int) : Int) := of_decide_eq_true (by first | (with_reducible assumption) | assumption); obtain ⟨go10, co10, eo10, gb10, gl10, cl10, HG10⟩ := Kd.R_form HO_3.out (by omega); (first | cases eo10 | (injection eo10 with ea_ en_ ec_; (first | subst ea_ | (injection ea_ with ea_; subst ea_)); subst ec_; clear en_)); have GB10 := Gv.a0 gb10; have GG10 := Gv.a0 HG10; clear gb10 gl10 HG10; replace p10 := eq_true p10; replace q10 := eq_true q10; have HX12 := Gv.a0 (show Kd.R k38 38 w11 w.heap.size (fun _ => True) (.slice (some ⟨go10, 0, none⟩) x3_1.length co10) x3_1 from (Gv.kr HO_3.out))) | ((with_reducible refine gate_store (t := 38) (p := 21) rfl ?_); refine Gv.row_store (d := k38) (x4_1 : Int) (⟨t131, (⟨(⟨t132, t133, t134, t135, t136⟩ : S26), t137⟩ : S29), (⟨(⟨t138, t139, t140, t141, t142⟩ : S26), t143⟩ : S29), t144, t145, t146, t147⟩ : S38) rfl rfl rfl rfl rfl (by kernel_rfl) HX12.out (of_decide_eq_true (by first | (with_reducible assumption) | assumption)) (by have h_ : (x4_1 : Int) < ((x3_1.length : Int) : Int) := of_decide_eq_true (by first | (with_reducible assumption) | assumption); first | exact h_ | (have e_ := (Kd.R_reads' HO_3.out).1; omega) | simpa using h_) rfl rfl (k38_mkM _ _ _ (⟨t131, (⟨(⟨t132, t133, t134, t135, t136⟩ : S26), t137⟩ : S29), (⟨(⟨t138, t139, t140, t141, t142⟩ : S26), t143⟩ : S29), t144, t145, t146, t147⟩ : S38) ) ?_; intro w13 hR_ hoth_ hbel_; have n0_ := Gv.a0 (show Kd.R k38 38 w13 w.heap.size (fun _ => True) (.slice (some ⟨go10, 0, none⟩) x3_1.length co10) y148 from by rw [Ny148.out]; exact hR_); have n1_ := Gv.a0 (hbel_ w HB.out GB10.out); clear HO_3 HB HX12; have HO_3 := n0_; have HB := n1_; clear n0_ n1_ hR_ hoth_ hbel_) | ((with_reducible refine Gv.gate_load (t := 35) rfl ?_); refine Gv.load_event (cs := [_, _, _, _, _, _, _, _, _, _, _, _, _, _, _, _, _]) rfl rfl rfl ⟨hx130_0, hx130_1, hx130_2, hx130_3, hx130_4, hx130_5, hx130_6, hx130_7, hx130_8, hx130_9, hx130_10, hx130_11, hx130_12, hx130_13, hx130_14, hx130_15, hx130_16, trivial⟩ Try.underlying35 rfl (by kernel_rfl) ?_))
        go_roundg k1
        case measure => have := HK1.out; omega
        case rel => exact ⟨(y148), (wrap64 (x4_1 + 1)), Gv.rq, H', ⟨by have := HK1.out; omega⟩, ⟨Gv.kr HO_3.out⟩, ⟨Gv.bw⟩⟩
       ·rw [if_neg c9] at H
        exact absurd H (by simp)
      ·rw [if_neg c7] at H
       exact absurd H (by simp)
     ·rw [if_neg c6] at H
      have c6b0 : decide (x4_1 < (l0.length : Int)) = false := decide_eq_false c6
      clear c6
      obtain rfl := Option.some.inj H
      go_wp2
      go_ret
      exact ⟨_, Gv.rt, Gv.kr HO_3.out, Gv.bw⟩
  ·rw [if_neg c3] at H
   exact absurd H (by simp)
 ·rw [if_neg c2] at H
  exact absurd H (by simp)

/-! ### laws_eqAddr: function 12 -/
def laws_eqAddr.f (a0_0 : Int) (a0_1 : Int) (a0_2 : Int) (a0_3 : Int) (a0_4 : Int) (a1_0 : Int) (a1_1 : Int) (a1_2 : Int) (a1_3 : Int) (a1_4 : Int) : Option (Bool) := if a0_0 = a1_0 then (if a0_1 = a1_1 then (if a0_2 = a1_2 then (if a0_3 = a1_3 then (if a0_4 = a1_4 then (some true) else (none)) else (none)) else (none)) else (none)) else (none)
set_option maxHeartbeats 8000000 in
set_option maxRecDepth 100000 in
theorem laws_eqAddr.calls (a0_0 : Int) (a0_1 : Int) (a0_2 : Int) (a0_3 : Int) (a0_4 : Int) (a1_0 : Int) (a1_1 : Int) (a1_2 : Int) (a1_3 : Int) (a1_4 : Int) (r : Bool) (w : World) (h : laws_eqAddr.f a0_0 a0_1 a0_2 a0_3 a0_4 a1_0 a1_1 a1_2 a1_3 a1_4 = some r) :
  Calls Try.prog 12 #[.agg #[.int .i64 a0_0, .int .i64 a0_1, .int .i64 a0_2, .int .i64 a0_3, .int .i64 a0_4], .agg #[.int .i64 a1_0, .int .i64 a1_1, .int .i64 a1_2, .int .i64 a1_3, .int .i64 a1_4]] w fun e w' => e = .returned (.bool r) ∧ Below w.heap.size w w' := by
 have hu26 := Try.underlying26
 have HB := Gv.a0 (Below.refl w.heap.size w)
 have H : (if a0_0 = a1_0 then (if a0_1 = a1_1 then (if a0_2 = a1_2 then (if a0_3 = a1_3 then (if a0_4 = a1_4 then (some true) else (none)) else (none)) else (none)) else (none)) else (none)) = some r := h
 clear h
 by_cases c3 : a0_0 = a1_0
 ·rw [if_pos c3] at H
  have c3b0 : (a0_0 == a1_0) = true := beq_iff_eq.mpr c3
  have c3b1 : (a0_0 != a1_0) = false := bne_eq_false_iff_eq.mpr c3
  clear c3
  by_cases c4 : a0_1 = a1_1
  ·rw [if_pos c4] at H
   have c4b0 : (a0_1 == a1_1) = true := beq_iff_eq.mpr c4
   have c4b1 : (a0_1 != a1_1) = false := bne_eq_false_iff_eq.mpr c4
   clear c4
   by_cases c5 : a0_2 = a1_2
   ·rw [if_pos c5] at H
    have c5b0 : (a0_2 == a1_2) = true := beq_iff_eq.mpr c5
    have c5b1 : (a0_2 != a1_2) = false := bne_eq_false_iff_eq.mpr c5
    clear c5
    by_cases c6 : a0_3 = a1_3
    ·rw [if_pos c6] at H
     have c6b0 : (a0_3 == a1_3) = true := beq_iff_eq.mpr c6
     have c6b1 : (a0_3 != a1_3) = false := bne_eq_false_iff_eq.mpr c6
     clear c6
     by_cases c7 : a0_4 = a1_4
     ·rw [if_pos c7] at H
      have c7b0 : (a0_4 == a1_4) = true := beq_iff_eq.mpr c7
      have c7b1 : (a0_4 != a1_4) = false := bne_eq_false_iff_eq.mpr c7
      clear c7
      obtain rfl := Option.some.inj H
      go_enter Try.func12, Try.ntmps12
      go_wp2_with (first | ((with_reducible refine gate_dst (N := 2) rfl ?_); refine box_event ?hg (N := 2) ?hd (cs := #[.int .i64 a0_0, .int .i64 a0_1, .int .i64 a0_2, .int .i64 a0_3, .int .i64 a0_4]) (t := 26) ?hr ?_; (case hd => rfl); (case hg => rfl); (case hr => first | (go_simp; done) | (go_simp; rfl)); intro gb149 hg w8 hbox hb; have n0_ := Gv.a0 (below_step Gv.bw hb); have n1_ := Gv.a0 (hbox); have n2_ := Gv.a0 ((Gv.ble hg Gv.bw : w.heap.size ≤ gb149)); have n3_ := Gv.a0 ((Gv.ble hg Gv.bw : w.heap.size ≤ gb149)); clear HB; have HB := n0_; have BK149 := n1_; have GW149 := n2_; have GE149 := n3_; clear n0_ n1_ n2_ n3_; clear hb hbox hg) | ((with_reducible refine gate_dst (N := 3) rfl ?_); refine box_event ?hg (N := 3) ?hd (cs := #[.int .i64 a1_0, .int .i64 a1_1, .int .i64 a1_2, .int .i64 a1_3, .int .i64 a1_4]) (t := 26) ?hr ?_; (case hd => rfl); (case hg => rfl); (case hr => first | (go_simp; done) | (go_simp; rfl)); intro gb150 hg w9 hbox hb; have n0_ := Gv.a0 (Gv.bb BK149.out hb); have n1_ := Gv.a0 (below_step Gv.bw hb); have n2_ := Gv.a0 (hbox); have n3_ := Gv.a0 ((Gv.ble hg Gv.bw : w.heap.size ≤ gb150)); have n4_ := Gv.a0 ((Gv.ble hg Gv.bw : w.heap.size ≤ gb150)); have n5_ := Gv.a0 ((Gv.nlt hg (Gv.kb BK149.out) : gb149 ≠ gb150)); have n6_ := Gv.a0 ((Gv.ngt hg (Gv.kb BK149.out) : gb150 ≠ gb149)); clear BK149; clear HB; have BK149 := n0_; have HB := n1_; have BK150 := n2_; have GW150 := n3_; have GE150 := n4_; have NB149_150 := n5_; have NB150_149 := n6_; clear n0_ n1_ n2_ n3_ n4_ n5_ n6_; clear hb hbox hg; have hnb10 := NB149_150.out; have hnc10 := NB150_149.out; obtain ⟨hcz11_0, hcz11_1, hcz11_2, hcz11_3, hcz11_4⟩ := Gv.c5 BK149.out; obtain ⟨hfz11_0, hfz11_1, hfz11_2, hfz11_3, hfz11_4⟩ := Gv.f5 BK149.out; obtain ⟨hcz12_0, hcz12_1, hcz12_2, hcz12_3, hcz12_4⟩ := Gv.c5 BK150.out; obtain ⟨hfz12_0, hfz12_1, hfz12_2, hfz12_3, hfz12_4⟩ := Gv.f5 BK150.out))
      go_ret
      exact ⟨Gv.rt, Gv.bw⟩
     ·rw [if_neg c7] at H
      exact absurd H (by simp)
    ·rw [if_neg c6] at H
     exact absurd H (by simp)
   ·rw [if_neg c5] at H
    exact absurd H (by simp)
  ·rw [if_neg c4] at H
   exact absurd H (by simp)
 ·rw [if_neg c3] at H
  exact absurd H (by simp)

/-! ### laws_eqPrefix: function 72 -/
def laws_eqPrefix.f (a0_0 : Int) (a0_1 : Int) (a0_2 : Int) (a0_3 : Int) (a0_4 : Int) (a0_5 : Int) (a1_0 : Int) (a1_1 : Int) (a1_2 : Int) (a1_3 : Int) (a1_4 : Int) (a1_5 : Int) : Option (Bool) := (laws_eqAddr.f a0_0 a0_1 a0_2 a0_3 a0_4 a1_0 a1_1 a1_2 a1_3 a1_4).bind fun t153 => (if t153 = true then (if a0_5 = a1_5 then (some true) else (none)) else (none))
set_option maxHeartbeats 8000000 in
set_option maxRecDepth 100000 in
theorem laws_eqPrefix.calls (a0_0 : Int) (a0_1 : Int) (a0_2 : Int) (a0_3 : Int) (a0_4 : Int) (a0_5 : Int) (a1_0 : Int) (a1_1 : Int) (a1_2 : Int) (a1_3 : Int) (a1_4 : Int) (a1_5 : Int) (r : Bool) (w : World) (h : laws_eqPrefix.f a0_0 a0_1 a0_2 a0_3 a0_4 a0_5 a1_0 a1_1 a1_2 a1_3 a1_4 a1_5 = some r) :
  Calls Try.prog 72 #[.agg #[.int .i64 a0_0, .int .i64 a0_1, .int .i64 a0_2, .int .i64 a0_3, .int .i64 a0_4, .int .i64 a0_5], .agg #[.int .i64 a1_0, .int .i64 a1_1, .int .i64 a1_2, .int .i64 a1_3, .int .i64 a1_4, .int .i64 a1_5]] w fun e w' => e = .returned (.bool r) ∧ Below w.heap.size w w' := by
 have hu29 := Try.underlying29
 have hu26 := Try.underlying26
 have HB := Gv.a0 (Below.refl w.heap.size w)
 have H : ((laws_eqAddr.f a0_0 a0_1 a0_2 a0_3 a0_4 a1_0 a1_1 a1_2 a1_3 a1_4).bind fun t153 => (if t153 = true then (if a0_5 = a1_5 then (some true) else (none)) else (none))) = some r := h
 clear h
 replace H := Option.bind_eq_some_iff.mp H
 obtain ⟨t153, A30, H⟩ := H
 replace H : (if t153 = true then (if a0_5 = a1_5 then (some true) else (none)) else (none)) = some r := H
 have A3 := Gv.a0 A30
 clear A30
 by_cases c4 : t153 = true
 ·subst c4
  have H1 : (if a0_5 = a1_5 then (some true) else (none)) = some r := by rw [if_pos rfl] at H; exact H
  clear H
  have H := H1
  clear H1
  by_cases c5 : a0_5 = a1_5
  ·rw [if_pos c5] at H
   have c5b0 : (a0_5 == a1_5) = true := beq_iff_eq.mpr c5
   have c5b1 : (a0_5 != a1_5) = false := bne_eq_false_iff_eq.mpr c5
   clear c5
   obtain rfl := Option.some.inj H
   go_enter Try.func72, Try.ntmps72
   go_wp2_with (first | ((with_reducible refine gate_dst (N := 2) rfl ?_); refine box_event ?hg (N := 2) ?hd (cs := #[.int .i64 a0_0, .int .i64 a0_1, .int .i64 a0_2, .int .i64 a0_3, .int .i64 a0_4, .int .i64 a0_5]) (t := 29) ?hr ?_; (case hd => rfl); (case hg => rfl); (case hr => first | (go_simp; done) | (go_simp; rfl)); intro gb151 hg w6 hbox hb; have n0_ := Gv.a0 (below_step Gv.bw hb); have n1_ := Gv.a0 (hbox); have n2_ := Gv.a0 ((Gv.ble hg Gv.bw : w.heap.size ≤ gb151)); have n3_ := Gv.a0 ((Gv.ble hg Gv.bw : w.heap.size ≤ gb151)); clear HB; have HB := n0_; have BK151 := n1_; have GW151 := n2_; have GE151 := n3_; clear n0_ n1_ n2_ n3_; clear hb hbox hg) | ((with_reducible refine gate_dst (N := 3) rfl ?_); refine box_event ?hg (N := 3) ?hd (cs := #[.int .i64 a1_0, .int .i64 a1_1, .int .i64 a1_2, .int .i64 a1_3, .int .i64 a1_4, .int .i64 a1_5]) (t := 29) ?hr ?_; (case hd => rfl); (case hg => rfl); (case hr => first | (go_simp; done) | (go_simp; rfl)); intro gb152 hg w7 hbox hb; have n0_ := Gv.a0 (Gv.bb BK151.out hb); have n1_ := Gv.a0 (below_step Gv.bw hb); have n2_ := Gv.a0 (hbox); have n3_ := Gv.a0 ((Gv.ble hg Gv.bw : w.heap.size ≤ gb152)); have n4_ := Gv.a0 ((Gv.ble hg Gv.bw : w.heap.size ≤ gb152)); have n5_ := Gv.a0 ((Gv.nlt hg (Gv.kb BK151.out) : gb151 ≠ gb152)); have n6_ := Gv.a0 ((Gv.ngt hg (Gv.kb BK151.out) : gb152 ≠ gb151)); clear BK151; clear HB; have BK151 := n0_; have HB := n1_; have BK152 := n2_; have GW152 := n3_; have GE152 := n4_; have NB151_152 := n5_; have NB152_151 := n6_; clear n0_ n1_ n2_ n3_ n4_ n5_ n6_; clear hb hbox hg; have hnb8 := NB151_152.out; have hnc8 := NB152_151.out; obtain ⟨hcz9_0, hcz9_1, hcz9_2, hcz9_3, hcz9_4, hcz9_5⟩ := Gv.c6 BK151.out; obtain ⟨hfz9_0, hfz9_1, hfz9_2, hfz9_3, hfz9_4, hfz9_5⟩ := Gv.f6 BK151.out; obtain ⟨hcz10_0, hcz10_1, hcz10_2, hcz10_3, hcz10_4, hcz10_5⟩ := Gv.c6 BK152.out; obtain ⟨hfz10_0, hfz10_1, hfz10_2, hfz10_3, hfz10_4, hfz10_5⟩ := Gv.f6 BK152.out) | ((with_reducible refine gate_callee (f := 12) rfl ?_); refine goesL_ (some 9) rfl rfl Try.func12 (by kernel_rfl) rfl #[.agg #[.int .i64 a0_0, .int .i64 a0_1, .int .i64 a0_2, .int .i64 a0_3, .int .i64 a0_4], .agg #[.int .i64 a1_0, .int .i64 a1_1, .int .i64 a1_2, .int .i64 a1_3, .int .i64 a1_4]] rfl Gv.lm ?_; (with_reducible refine (laws_eqAddr.calls a0_0 a0_1 a0_2 a0_3 a0_4 a1_0 a1_1 a1_2 a1_3 a1_4 true _ A3.out).mono ?_); rintro e w11 ⟨rfl, hb⟩; refine ⟨_, rfl, ?_⟩; have n0_ := Gv.a0 (Gv.bb BK151.out hb); have n1_ := Gv.a0 (Gv.bb BK152.out hb); have n2_ := Gv.a0 (below_step Gv.bw hb); clear BK151; clear BK152; clear HB; have BK151 := n0_; have BK152 := n1_; have HB := n2_; clear n0_ n1_ n2_; (try clear hb); (try clear hb2); (try clear hk); (try clear hi); obtain ⟨hcz12_0, hcz12_1, hcz12_2, hcz12_3, hcz12_4, hcz12_5⟩ := Gv.c6 BK151.out; obtain ⟨hfz12_0, hfz12_1, hfz12_2, hfz12_3, hfz12_4, hfz12_5⟩ := Gv.f6 BK151.out; obtain ⟨hcz13_0, hcz13_1, hcz13_2, hcz13_3, hcz13_4, hcz13_5⟩ := Gv.c6 BK152.out; obtain ⟨hfz13_0, hfz13_1, hfz13_2, hfz13_3, hfz13_4, hfz13_5⟩ := Gv.f6 BK152.out))
   go_ret
   exact ⟨Gv.rt, Gv.bw⟩
  ·rw [if_neg c5] at H
   exact absurd H (by simp)
 ·replace c4 := Bool.eq_false_iff.mpr c4
  subst c4
  have H1 : (none) = some r := by rw [if_neg (show ¬ (false = true) by decide)] at H; exact H
  clear H
  have H := H1
  clear H1
  exact absurd H (by simp)

/-! ### laws_eqModule: function 48 -/
def laws_eqModule.f (a0_0 : Int) (a0_1 : Int) (a0_2 : Int) (a0_3 : Int) (a0_4 : Int) (a0_5 : Int) (a0_6 : Int) (a0_7 : Int) (a0_8 : Int) (a0_9 : Int) (a0_10 : Int) (a0_11 : Int) (a0_12 : Int) (a0_13 : Int) (a0_14 : Int) (a0_15 : Int) (a0_16 : Int) (a1_0 : Int) (a1_1 : Int) (a1_2 : Int) (a1_3 : Int) (a1_4 : Int) (a1_5 : Int) (a1_6 : Int) (a1_7 : Int) (a1_8 : Int) (a1_9 : Int) (a1_10 : Int) (a1_11 : Int) (a1_12 : Int) (a1_13 : Int) (a1_14 : Int) (a1_15 : Int) (a1_16 : Int) : Option (Bool) := if a0_0 = a1_0 then ((laws_eqPrefix.f a0_1 a0_2 a0_3 a0_4 a0_5 a0_6 a1_1 a1_2 a1_3 a1_4 a1_5 a1_6).bind fun t156 => (if t156 = true then ((laws_eqPrefix.f a0_7 a0_8 a0_9 a0_10 a0_11 a0_12 a1_7 a1_8 a1_9 a1_10 a1_11 a1_12).bind fun t157 => (if t157 = true then (if a0_13 = a1_13 then (if a0_14 = a1_14 then (if a0_15 = a1_15 then (if a0_16 = a1_16 then (some true) else (none)) else (none)) else (none)) else (none)) else (none))) else (none))) else (none)
set_option maxHeartbeats 8000000 in
set_option maxRecDepth 100000 in
theorem laws_eqModule.calls (a0_0 : Int) (a0_1 : Int) (a0_2 : Int) (a0_3 : Int) (a0_4 : Int) (a0_5 : Int) (a0_6 : Int) (a0_7 : Int) (a0_8 : Int) (a0_9 : Int) (a0_10 : Int) (a0_11 : Int) (a0_12 : Int) (a0_13 : Int) (a0_14 : Int) (a0_15 : Int) (a0_16 : Int) (a1_0 : Int) (a1_1 : Int) (a1_2 : Int) (a1_3 : Int) (a1_4 : Int) (a1_5 : Int) (a1_6 : Int) (a1_7 : Int) (a1_8 : Int) (a1_9 : Int) (a1_10 : Int) (a1_11 : Int) (a1_12 : Int) (a1_13 : Int) (a1_14 : Int) (a1_15 : Int) (a1_16 : Int) (r : Bool) (w : World) (h : laws_eqModule.f a0_0 a0_1 a0_2 a0_3 a0_4 a0_5 a0_6 a0_7 a0_8 a0_9 a0_10 a0_11 a0_12 a0_13 a0_14 a0_15 a0_16 a1_0 a1_1 a1_2 a1_3 a1_4 a1_5 a1_6 a1_7 a1_8 a1_9 a1_10 a1_11 a1_12 a1_13 a1_14 a1_15 a1_16 = some r) :
  Calls Try.prog 48 #[.agg #[.int .i64 a0_0, .int .i64 a0_1, .int .i64 a0_2, .int .i64 a0_3, .int .i64 a0_4, .int .i64 a0_5, .int .i64 a0_6, .int .i64 a0_7, .int .i64 a0_8, .int .i64 a0_9, .int .i64 a0_10, .int .i64 a0_11, .int .i64 a0_12, .int .i64 a0_13, .int .i64 a0_14, .int .i64 a0_15, .int .i64 a0_16], .agg #[.int .i64 a1_0, .int .i64 a1_1, .int .i64 a1_2, .int .i64 a1_3, .int .i64 a1_4, .int .i64 a1_5, .int .i64 a1_6, .int .i64 a1_7, .int .i64 a1_8, .int .i64 a1_9, .int .i64 a1_10, .int .i64 a1_11, .int .i64 a1_12, .int .i64 a1_13, .int .i64 a1_14, .int .i64 a1_15, .int .i64 a1_16]] w fun e w' => e = .returned (.bool r) ∧ Below w.heap.size w w' := by
 have hu38 := Try.underlying38
 have hu29 := Try.underlying29
 have HB := Gv.a0 (Below.refl w.heap.size w)
 have H : (if a0_0 = a1_0 then ((laws_eqPrefix.f a0_1 a0_2 a0_3 a0_4 a0_5 a0_6 a1_1 a1_2 a1_3 a1_4 a1_5 a1_6).bind fun t156 => (if t156 = true then ((laws_eqPrefix.f a0_7 a0_8 a0_9 a0_10 a0_11 a0_12 a1_7 a1_8 a1_9 a1_10 a1_11 a1_12).bind fun t157 => (if t157 = true then (if a0_13 = a1_13 then (if a0_14 = a1_14 then (if a0_15 = a1_15 then (if a0_16 = a1_16 then (some true) else (none)) else (none)) else (none)) else (none)) else (none))) else (none))) else (none)) = some r := h
 clear h
 by_cases c3 : a0_0 = a1_0
 ·rw [if_pos c3] at H
  have c3b0 : (a0_0 == a1_0) = true := beq_iff_eq.mpr c3
  have c3b1 : (a0_0 != a1_0) = false := bne_eq_false_iff_eq.mpr c3
  clear c3
  replace H := Option.bind_eq_some_iff.mp H
  obtain ⟨t156, A40, H⟩ := H
  replace H : (if t156 = true then ((laws_eqPrefix.f a0_7 a0_8 a0_9 a0_10 a0_11 a0_12 a1_7 a1_8 a1_9 a1_10 a1_11 a1_12).bind fun t157 => (if t157 = true then (if a0_13 = a1_13 then (if a0_14 = a1_14 then (if a0_15 = a1_15 then (if a0_16 = a1_16 then (some true) else (none)) else (none)) else (none)) else (none)) else (none))) else (none)) = some r := H
  have A4 := Gv.a0 A40
  clear A40
  by_cases c5 : t156 = true
  ·subst c5
   have H1 : ((laws_eqPrefix.f a0_7 a0_8 a0_9 a0_10 a0_11 a0_12 a1_7 a1_8 a1_9 a1_10 a1_11 a1_12).bind fun t157 => (if t157 = true then (if a0_13 = a1_13 then (if a0_14 = a1_14 then (if a0_15 = a1_15 then (if a0_16 = a1_16 then (some true) else (none)) else (none)) else (none)) else (none)) else (none))) = some r := by rw [if_pos rfl] at H; exact H
   clear H
   have H := H1
   clear H1
   replace H := Option.bind_eq_some_iff.mp H
   obtain ⟨t157, A60, H⟩ := H
   replace H : (if t157 = true then (if a0_13 = a1_13 then (if a0_14 = a1_14 then (if a0_15 = a1_15 then (if a0_16 = a1_16 then (some true) else (none)) else (none)) else (none)) else (none)) else (none)) = some r := H
   have A6 := Gv.a0 A60
   clear A60
   by_cases c7 : t157 = true
   ·subst c7
    have H1 : (if a0_13 = a1_13 then (if a0_14 = a1_14 then (if a0_15 = a1_15 then (if a0_16 = a1_16 then (some true) else (none)) else (none)) else (none)) else (none)) = some r := by rw [if_pos rfl] at H; exact H
    clear H
    have H := H1
    clear H1
    by_cases c8 : a0_13 = a1_13
    ·rw [if_pos c8] at H
     have c8b0 : (a0_13 == a1_13) = true := beq_iff_eq.mpr c8
     have c8b1 : (a0_13 != a1_13) = false := bne_eq_false_iff_eq.mpr c8
     clear c8
     by_cases c9 : a0_14 = a1_14
     ·rw [if_pos c9] at H
      have c9b0 : (a0_14 == a1_14) = true := beq_iff_eq.mpr c9
      have c9b1 : (a0_14 != a1_14) = false := bne_eq_false_iff_eq.mpr c9
      clear c9
      by_cases c10 : a0_15 = a1_15
      ·rw [if_pos c10] at H
       have c10b0 : (a0_15 == a1_15) = true := beq_iff_eq.mpr c10
       have c10b1 : (a0_15 != a1_15) = false := bne_eq_false_iff_eq.mpr c10
       clear c10
       by_cases c11 : a0_16 = a1_16
       ·rw [if_pos c11] at H
        have c11b0 : (a0_16 == a1_16) = true := beq_iff_eq.mpr c11
        have c11b1 : (a0_16 != a1_16) = false := bne_eq_false_iff_eq.mpr c11
        clear c11
        obtain rfl := Option.some.inj H
        go_enter Try.func48, Try.ntmps48
        go_wp2_with (first | ((with_reducible refine gate_dst (N := 2) rfl ?_); refine box_event ?hg (N := 2) ?hd (cs := #[.int .i64 a0_0, .int .i64 a0_1, .int .i64 a0_2, .int .i64 a0_3, .int .i64 a0_4, .int .i64 a0_5, .int .i64 a0_6, .int .i64 a0_7, .int .i64 a0_8, .int .i64 a0_9, .int .i64 a0_10, .int .i64 a0_11, .int .i64 a0_12, .int .i64 a0_13, .int .i64 a0_14, .int .i64 a0_15, .int .i64 a0_16]) (t := 38) ?hr ?_; (case hd => rfl); (case hg => rfl); (case hr => first | (go_simp; done) | (go_simp; rfl)); intro gb154 hg w12 hbox hb; have n0_ := Gv.a0 (below_step Gv.bw hb); have n1_ := Gv.a0 (hbox); have n2_ := Gv.a0 ((Gv.ble hg Gv.bw : w.heap.size ≤ gb154)); have n3_ := Gv.a0 ((Gv.ble hg Gv.bw : w.heap.size ≤ gb154)); clear HB; have HB := n0_; have BK154 := n1_; have GW154 := n2_; have GE154 := n3_; clear n0_ n1_ n2_ n3_; clear hb hbox hg) | ((with_reducible refine gate_dst (N := 3) rfl ?_); refine box_event ?hg (N := 3) ?hd (cs := #[.int .i64 a1_0, .int .i64 a1_1, .int .i64 a1_2, .int .i64 a1_3, .int .i64 a1_4, .int .i64 a1_5, .int .i64 a1_6, .int .i64 a1_7, .int .i64 a1_8, .int .i64 a1_9, .int .i64 a1_10, .int .i64 a1_11, .int .i64 a1_12, .int .i64 a1_13, .int .i64 a1_14, .int .i64 a1_15, .int .i64 a1_16]) (t := 38) ?hr ?_; (case hd => rfl); (case hg => rfl); (case hr => first | (go_simp; done) | (go_simp; rfl)); intro gb155 hg w13 hbox hb; have n0_ := Gv.a0 (Gv.bb BK154.out hb); have n1_ := Gv.a0 (below_step Gv.bw hb); have n2_ := Gv.a0 (hbox); have n3_ := Gv.a0 ((Gv.ble hg Gv.bw : w.heap.size ≤ gb155)); have n4_ := Gv.a0 ((Gv.ble hg Gv.bw : w.heap.size ≤ gb155)); have n5_ := Gv.a0 ((Gv.nlt hg (Gv.kb BK154.out) : gb154 ≠ gb155)); have n6_ := Gv.a0 ((Gv.ngt hg (Gv.kb BK154.out) : gb155 ≠ gb154)); clear BK154; clear HB; have BK154 := n0_; have HB := n1_; have BK155 := n2_; have GW155 := n3_; have GE155 := n4_; have NB154_155 := n5_; have NB155_154 := n6_; clear n0_ n1_ n2_ n3_ n4_ n5_ n6_; clear hb hbox hg; have hnb14 := NB154_155.out; have hnc14 := NB155_154.out; obtain ⟨hcz15_0, hcz15_1, hcz15_2, hcz15_3, hcz15_4, hcz15_5, hcz15_6, hcz15_7, hcz15_8, hcz15_9, hcz15_10, hcz15_11, hcz15_12, hcz15_13, hcz15_14, hcz15_15, hcz15_16⟩ := Gv.c17 BK154.out; obtain ⟨hfz15_0, hfz15_1, hfz15_2, hfz15_3, hfz15_4, hfz15_5, hfz15_6, hfz15_7, hfz15_8, hfz15_9, hfz15_10, hfz15_11, hfz15_12, hfz15_13, hfz15_14, hfz15_15, hfz15_16⟩ := Gv.f17 BK154.out; obtain ⟨hcz16_0, hcz16_1, hcz16_2, hcz16_3, hcz16_4, hcz16_5, hcz16_6, hcz16_7, hcz16_8, hcz16_9, hcz16_10, hcz16_11, hcz16_12, hcz16_13, hcz16_14, hcz16_15, hcz16_16⟩ := Gv.c17 BK155.out; obtain ⟨hfz16_0, hfz16_1, hfz16_2, hfz16_3, hfz16_4, hfz16_5, hfz16_6, hfz16_7, hfz16_8, hfz16_9, hfz16_10, hfz16_11, hfz16_12, hfz16_13, hfz16_14, hfz16_15, hfz16_16⟩ := Gv.f17 BK155.out) | ((with_reducible refine gate_callee (f := 72) rfl ?_); refine goesL_ (some 14) rfl rfl Try.func72 (by kernel_rfl) rfl #[.agg #[.int .i64 a0_1, .int .i64 a0_2, .int .i64 a0_3, .int .i64 a0_4, .int .i64 a0_5, .int .i64 a0_6], .agg #[.int .i64 a1_1, .int .i64 a1_2, .int .i64 a1_3, .int .i64 a1_4, .int .i64 a1_5, .int .i64 a1_6]] rfl Gv.lm ?_; (with_reducible refine (laws_eqPrefix.calls a0_1 a0_2 a0_3 a0_4 a0_5 a0_6 a1_1 a1_2 a1_3 a1_4 a1_5 a1_6 true _ A4.out).mono ?_); rintro e w17 ⟨rfl, hb⟩; refine ⟨_, rfl, ?_⟩; have n0_ := Gv.a0 (Gv.bb BK154.out hb); have n1_ := Gv.a0 (Gv.bb BK155.out hb); have n2_ := Gv.a0 (below_step Gv.bw hb); clear BK154; clear BK155; clear HB; have BK154 := n0_; have BK155 := n1_; have HB := n2_; clear n0_ n1_ n2_; (try clear hb); (try clear hb2); (try clear hk); (try clear hi); obtain ⟨hcz18_0, hcz18_1, hcz18_2, hcz18_3, hcz18_4, hcz18_5, hcz18_6, hcz18_7, hcz18_8, hcz18_9, hcz18_10, hcz18_11, hcz18_12, hcz18_13, hcz18_14, hcz18_15, hcz18_16⟩ := Gv.c17 BK154.out; obtain ⟨hfz18_0, hfz18_1, hfz18_2, hfz18_3, hfz18_4, hfz18_5, hfz18_6, hfz18_7, hfz18_8, hfz18_9, hfz18_10, hfz18_11, hfz18_12, hfz18_13, hfz18_14, hfz18_15, hfz18_16⟩ := Gv.f17 BK154.out; obtain ⟨hcz19_0, hcz19_1, hcz19_2, hcz19_3, hcz19_4, hcz19_5, hcz19_6, hcz19_7, hcz19_8, hcz19_9, hcz19_10, hcz19_11, hcz19_12, hcz19_13, hcz19_14, hcz19_15, hcz19_16⟩ := Gv.c17 BK155.out; obtain ⟨hfz19_0, hfz19_1, hfz19_2, hfz19_3, hfz19_4, hfz19_5, hfz19_6, hfz19_7, hfz19_8, hfz19_9, hfz19_10, hfz19_11, hfz19_12, hfz19_13, hfz19_14, hfz19_15, hfz19_16⟩ := Gv.f17 BK155.out) | ((with_reducible refine gate_callee (f := 72) rfl ?_); refine goesL_ (some 20) rfl rfl Try.func72 (by kernel_rfl) rfl #[.agg #[.int .i64 a0_7, .int .i64 a0_8, .int .i64 a0_9, .int .i64 a0_10, .int .i64 a0_11, .int .i64 a0_12], .agg #[.int .i64 a1_7, .int .i64 a1_8, .int .i64 a1_9, .int .i64 a1_10, .int .i64 a1_11, .int .i64 a1_12]] rfl Gv.lm ?_; (with_reducible refine (laws_eqPrefix.calls a0_7 a0_8 a0_9 a0_10 a0_11 a0_12 a1_7 a1_8 a1_9 a1_10 a1_11 a1_12 true _ A6.out).mono ?_); rintro e w20 ⟨rfl, hb⟩; refine ⟨_, rfl, ?_⟩; have n0_ := Gv.a0 (Gv.bb BK154.out hb); have n1_ := Gv.a0 (Gv.bb BK155.out hb); have n2_ := Gv.a0 (below_step Gv.bw hb); clear BK154; clear BK155; clear HB; have BK154 := n0_; have BK155 := n1_; have HB := n2_; clear n0_ n1_ n2_; (try clear hb); (try clear hb2); (try clear hk); (try clear hi); obtain ⟨hcz21_0, hcz21_1, hcz21_2, hcz21_3, hcz21_4, hcz21_5, hcz21_6, hcz21_7, hcz21_8, hcz21_9, hcz21_10, hcz21_11, hcz21_12, hcz21_13, hcz21_14, hcz21_15, hcz21_16⟩ := Gv.c17 BK154.out; obtain ⟨hfz21_0, hfz21_1, hfz21_2, hfz21_3, hfz21_4, hfz21_5, hfz21_6, hfz21_7, hfz21_8, hfz21_9, hfz21_10, hfz21_11, hfz21_12, hfz21_13, hfz21_14, hfz21_15, hfz21_16⟩ := Gv.f17 BK154.out; obtain ⟨hcz22_0, hcz22_1, hcz22_2, hcz22_3, hcz22_4, hcz22_5, hcz22_6, hcz22_7, hcz22_8, hcz22_9, hcz22_10, hcz22_11, hcz22_12, hcz22_13, hcz22_14, hcz22_15, hcz22_16⟩ := Gv.c17 BK155.out; obtain ⟨hfz22_0, hfz22_1, hfz22_2, hfz22_3, hfz22_4, hfz22_5, hfz22_6, hfz22_7, hfz22_8, hfz22_9, hfz22_10, hfz22_11, hfz22_12, hfz22_13, hfz22_14, hfz22_15, hfz22_16⟩ := Gv.f17 BK155.out))
        go_ret
        exact ⟨Gv.rt, Gv.bw⟩
       ·rw [if_neg c11] at H
        exact absurd H (by simp)
      ·rw [if_neg c10] at H
       exact absurd H (by simp)
     ·rw [if_neg c9] at H
      exact absurd H (by simp)
    ·rw [if_neg c8] at H
     exact absurd H (by simp)
   ·replace c7 := Bool.eq_false_iff.mpr c7
    subst c7
    have H1 : (none) = some r := by rw [if_neg (show ¬ (false = true) by decide)] at H; exact H
    clear H
    have H := H1
    clear H1
    exact absurd H (by simp)
  ·replace c5 := Bool.eq_false_iff.mpr c5
   subst c5
   have H1 : (none) = some r := by rw [if_neg (show ¬ (false = true) by decide)] at H; exact H
   clear H
   have H := H1
   clear H1
   exact absurd H (by simp)
 ·rw [if_neg c3] at H
  exact absurd H (by simp)

/-! ### laws_eqModuleS: function 20 -/
def laws_eqModuleS.l0 : Nat → List (S38) → List (S38) → Int → Option (Bool)
 | 0, _, _, _ => none
 | k + 1, x0, x1, x5 => if x5 < (x0.length : Int) then (if 0 ≤ x5 then (if x5 < (x1.length : Int) then ((laws_eqModule.f ((rd_T38 x0 x5).f0) ((rd_T38 x0 x5).f1.f0.f0) ((rd_T38 x0 x5).f1.f0.f1) ((rd_T38 x0 x5).f1.f0.f2) ((rd_T38 x0 x5).f1.f0.f3) ((rd_T38 x0 x5).f1.f0.f4) ((rd_T38 x0 x5).f1.f1) ((rd_T38 x0 x5).f2.f0.f0) ((rd_T38 x0 x5).f2.f0.f1) ((rd_T38 x0 x5).f2.f0.f2) ((rd_T38 x0 x5).f2.f0.f3) ((rd_T38 x0 x5).f2.f0.f4) ((rd_T38 x0 x5).f2.f1) ((rd_T38 x0 x5).f3) ((rd_T38 x0 x5).f4) ((rd_T38 x0 x5).f5) ((rd_T38 x0 x5).f6) ((rd_T38 x1 x5).f0) ((rd_T38 x1 x5).f1.f0.f0) ((rd_T38 x1 x5).f1.f0.f1) ((rd_T38 x1 x5).f1.f0.f2) ((rd_T38 x1 x5).f1.f0.f3) ((rd_T38 x1 x5).f1.f0.f4) ((rd_T38 x1 x5).f1.f1) ((rd_T38 x1 x5).f2.f0.f0) ((rd_T38 x1 x5).f2.f0.f1) ((rd_T38 x1 x5).f2.f0.f2) ((rd_T38 x1 x5).f2.f0.f3) ((rd_T38 x1 x5).f2.f0.f4) ((rd_T38 x1 x5).f2.f1) ((rd_T38 x1 x5).f3) ((rd_T38 x1 x5).f4) ((rd_T38 x1 x5).f5) ((rd_T38 x1 x5).f6)).bind fun t160 => (if t160 = true then (laws_eqModuleS.l0 k x0 x1 (wrap64 (x5 + 1))) else (none))) else (none)) else (none)) else (some true)
def laws_eqModuleS.f (k : Nat) (l0 : List (S38)) (l1 : List (S38)) : Option (Bool) := if (l0.length : Int) = (l1.length : Int) then (laws_eqModuleS.l0 k l0 l1 0) else (none)
theorem laws_eqModuleS.mono_l : ∀ k, (∀ y0 y1 y2, LeO (laws_eqModuleS.l0 k y0 y1 y2) (laws_eqModuleS.l0 (k + 1) y0 y1 y2))
 | 0 => fun _ _ _ r h => by simp [laws_eqModuleS.l0] at h
 | k + 1 => by
  have ih0 := laws_eqModuleS.mono_l k
  ·intro y0 y1 y2
   unfold laws_eqModuleS.l0
   repeat' first
   | (with_reducible exact ih0 _ _ _)
   | (with_reducible exact LeO.refl _)
   | (with_reducible exact LeO.none _)
   | (with_reducible refine LeO.ite ?_ ?_)
   | (with_reducible refine LeO.bind ?_ (fun _ => ?_))
   | exact ih0 _ _ _
   | exact LeO.none _
   | refine LeO.ite ?_ ?_
   | refine LeO.bind ?_ (fun _ => ?_)
theorem laws_eqModuleS.mono : ∀ a0 a1 k, LeO (laws_eqModuleS.f k a0 a1) (laws_eqModuleS.f (k + 1) a0 a1) := by
 intro a0 a1 k
 have ih0 := laws_eqModuleS.mono_l k
 unfold laws_eqModuleS.f
 repeat' first
   | (with_reducible exact ih0 _ _ _)
   | (with_reducible exact LeO.refl _)
   | (with_reducible exact LeO.none _)
   | (with_reducible refine LeO.ite ?_ ?_)
   | (with_reducible refine LeO.bind ?_ (fun _ => ?_))
   | exact ih0 _ _ _
   | exact LeO.none _
   | refine LeO.ite ?_ ?_
   | refine LeO.bind ?_ (fun _ => ?_)
def laws_eqModuleS.T6 : Bool × List (List Nat × List Nat) := (true, [([], []), ([], []), ([0, 1], [0, 1]), ([2], [2]), ([], []), ([], []), ([4, 5], [4, 5]), ([6], [6]), ([3, 7], [3, 7]), ([8], [8])])
def laws_eqModuleS.B6 : List Nat := [0, 0, 3, 7, 0, 0, 48, 112, 255, 511]
theorem laws_eqModuleS.tab6 : rtab .any (opsOf Try.f20 6) = laws_eqModuleS.T6 := by kernel_rfl
theorem laws_eqModuleS.bits6 : waitsOk laws_eqModuleS.T6.2 laws_eqModuleS.B6 = true := by kernel_rfl
set_option maxHeartbeats 8000000 in
set_option maxRecDepth 100000 in
theorem laws_eqModuleS.calls (k : Nat) (A0 : Option Addr) (c0 : Nat) (l0 : List (S38)) (A1 : Option Addr) (c1 : Nat) (l1 : List (S38)) (r : Bool) (w : World) (hr0 : Kd.C k38 w A0 l0.length l0) (hc0 : l0.length ≤ c0) (hr1 : Kd.C k38 w A1 l1.length l1) (hc1 : l1.length ≤ c1) (h : laws_eqModuleS.f k l0 l1 = some r) :
  Calls Try.prog 20 #[.slice A0 l0.length c0, .slice A1 l1.length c1] w fun e w' => e = .returned (.bool r) ∧ Below w.heap.size w w' := by
 have hu38 := Try.underlying38
 have HR0 := Gv.a0 hr0
 have HC0 := Gv.a0 hc0
 clear hr0 hc0
 have HR1 := Gv.a0 hr1
 have HC1 := Gv.a0 hc1
 clear hr1 hc1
 have HB := Gv.a0 (Below.refl w.heap.size w)
 have H : (if (l0.length : Int) = (l1.length : Int) then (laws_eqModuleS.l0 k l0 l1 0) else (none)) = some r := h
 clear h
 by_cases c3 : (l0.length : Int) = (l1.length : Int)
 ·rw [if_pos c3] at H
  have c3b0 : ((l0.length : Int) == (l1.length : Int)) = true := beq_iff_eq.mpr c3
  have c3b1 : ((l0.length : Int) != (l1.length : Int)) = false := bne_eq_false_iff_eq.mpr c3
  have c3b2 : (l0.length == l1.length) = true := by first | simpa using c3 | (simp at c3 ⊢; omega)
  clear c3
  have H' := Gv.a0 H
  clear H
  go_enter Try.func20, Try.ntmps20
  go_wp2
  go_loopg [5] k (fun kq v5 w' => ∃ (x5_1 : Int), v5 = .int .i64 x5_1 ∧ Aside0 (laws_eqModuleS.l0 kq l0 l1 x5_1 = some r) ∧ Aside0 (kq ≤ k) ∧ Aside0 (Below w.heap.size w w'))
  case atStart => exact ⟨(0), Gv.rq, H', ⟨Nat.le_refl _⟩, ⟨Gv.bw⟩⟩
  case round =>
   clear H'
   try clear c1
   try clear c2
   try clear p2
   try clear c3
   try clear c3b0
   try clear c3b1
   try clear c3b2
   obtain ⟨x5_1, rfl, HA, HK1, HB⟩ := hrel
   cases gk with
   | zero => exact absurd HA.out (by simp [laws_eqModuleS.l0])
   | succ k1 =>
    have H := HA.out
    clear HA
    simp only [laws_eqModuleS.l0] at H
    by_cases c4 : x5_1 < (l0.length : Int)
    ·rw [if_pos c4] at H
     have c4b0 : decide (x5_1 < (l0.length : Int)) = true := decide_eq_true c4
     clear c4
     by_cases c5 : 0 ≤ x5_1
     ·rw [if_pos c5] at H
      have c5b0 : decide (0 ≤ x5_1) = true := decide_eq_true c5
      clear c5
      by_cases c6 : x5_1 < (l1.length : Int)
      ·rw [if_pos c6] at H
       have c6b0 : decide (x5_1 < (l1.length : Int)) = true := decide_eq_true c6
       clear c6
       replace H := Option.bind_eq_some_iff.mp H
       obtain ⟨t160, A70, H⟩ := H
       replace H : (if t160 = true then (laws_eqModuleS.l0 k1 l0 l1 (wrap64 (x5_1 + 1))) else (none)) = some r := H
       have A7 := Gv.a0 A70
       clear A70
       by_cases c8 : t160 = true
       ·subst c8
        have H1 : (laws_eqModuleS.l0 k1 l0 l1 (wrap64 (x5_1 + 1))) = some r := by rw [if_pos rfl] at H; exact H
        clear H
        have H := H1
        clear H1
        have H' := Gv.a0 H
        clear H
        try go_wp2
        have n0_ := Gv.a0 (below_drew1 HB.out)
        clear HB
        have HB := n0_
        clear n0_
        have p158 : 0 ≤ (x5_1 : Int) := of_decide_eq_true (by first | (with_reducible assumption) | assumption)
        have q158 : x5_1 < (l0.length : Int) := of_decide_eq_true (by first | (with_reducible assumption) | assumption)
        obtain ⟨ad158, e158, hx158_0, hx158_1, hx158_2, hx158_3, hx158_4, hx158_5, hx158_6, hx158_7, hx158_8, hx158_9, hx158_10, hx158_11, hx158_12, hx158_13, hx158_14, hx158_15, hx158_16⟩ := at_T38 HR0.out x5_1 p158 q158
        have hw158_16 := hx158_16
        have hw158_15 := hx158_15
        have hw158_14 := hx158_14
        have hw158_13 := hx158_13
        have hw158_12 := hx158_12
        have hw158_11 := hx158_11
        have hw158_10 := hx158_10
        have hw158_9 := hx158_9
        have hw158_8 := hx158_8
        have hw158_7 := hx158_7
        have hw158_6 := hx158_6
        have hw158_5 := hx158_5
        have hw158_4 := hx158_4
        have hw158_3 := hx158_3
        have hw158_2 := hx158_2
        have hw158_1 := hx158_1
        have hw158_0 := hx158_0
        cases e158
        replace hx158_0 := Gv.bx HB.out hx158_0
        replace hx158_1 := Gv.bx HB.out hx158_1
        replace hx158_2 := Gv.bx HB.out hx158_2
        replace hx158_3 := Gv.bx HB.out hx158_3
        replace hx158_4 := Gv.bx HB.out hx158_4
        replace hx158_5 := Gv.bx HB.out hx158_5
        replace hx158_6 := Gv.bx HB.out hx158_6
        replace hx158_7 := Gv.bx HB.out hx158_7
        replace hx158_8 := Gv.bx HB.out hx158_8
        replace hx158_9 := Gv.bx HB.out hx158_9
        replace hx158_10 := Gv.bx HB.out hx158_10
        replace hx158_11 := Gv.bx HB.out hx158_11
        replace hx158_12 := Gv.bx HB.out hx158_12
        replace hx158_13 := Gv.bx HB.out hx158_13
        replace hx158_14 := Gv.bx HB.out hx158_14
        replace hx158_15 := Gv.bx HB.out hx158_15
        replace hx158_16 := Gv.bx HB.out hx158_16
        replace p158 := eq_true p158
        replace q158 := eq_true q158
        have p159 : 0 ≤ (x5_1 : Int) := of_decide_eq_true (by first | (with_reducible assumption) | assumption)
        have q159 : x5_1 < (l1.length : Int) := of_decide_eq_true (by first | (with_reducible assumption) | assumption)
        obtain ⟨ad159, e159, hx159_0, hx159_1, hx159_2, hx159_3, hx159_4, hx159_5, hx159_6, hx159_7, hx159_8, hx159_9, hx159_10, hx159_11, hx159_12, hx159_13, hx159_14, hx159_15, hx159_16⟩ := at_T38 HR1.out x5_1 p159 q159
        have hw159_16 := hx159_16
        have hw159_15 := hx159_15
        have hw159_14 := hx159_14
        have hw159_13 := hx159_13
        have hw159_12 := hx159_12
        have hw159_11 := hx159_11
        have hw159_10 := hx159_10
        have hw159_9 := hx159_9
        have hw159_8 := hx159_8
        have hw159_7 := hx159_7
        have hw159_6 := hx159_6
        have hw159_5 := hx159_5
        have hw159_4 := hx159_4
        have hw159_3 := hx159_3
        have hw159_2 := hx159_2
        have hw159_1 := hx159_1
        have hw159_0 := hx159_0
        cases e159
        replace hx159_0 := Gv.bx HB.out hx159_0
        replace hx159_1 := Gv.bx HB.out hx159_1
        replace hx159_2 := Gv.bx HB.out hx159_2
        replace hx159_3 := Gv.bx HB.out hx159_3
        replace hx159_4 := Gv.bx HB.out hx159_4
        replace hx159_5 := Gv.bx HB.out hx159_5
        replace hx159_6 := Gv.bx HB.out hx159_6
        replace hx159_7 := Gv.bx HB.out hx159_7
        replace hx159_8 := Gv.bx HB.out hx159_8
        replace hx159_9 := Gv.bx HB.out hx159_9
        replace hx159_10 := Gv.bx HB.out hx159_10
        replace hx159_11 := Gv.bx HB.out hx159_11
        replace hx159_12 := Gv.bx HB.out hx159_12
        replace hx159_13 := Gv.bx HB.out hx159_13
        replace hx159_14 := Gv.bx HB.out hx159_14
        replace hx159_15 := Gv.bx HB.out hx159_15
        replace hx159_16 := Gv.bx HB.out hx159_16
        replace p159 := eq_true p159
        replace q159 := eq_true q159
        refine start_ (n := 10) (S := fun w' => w'.cell? (ad158.add ((x5_1).toNat * 17)) = some (.int .i64 ((rd_T38 l0 x5_1).f0)) ∧ w'.cell? ⟨(ad158.add ((x5_1).toNat * 17)).block, (ad158.add ((x5_1).toNat * 17)).off + 1, none⟩ = some (.int .i64 ((rd_T38 l0 x5_1).f1.f0.f0)) ∧ w'.cell? ⟨(ad158.add ((x5_1).toNat * 17)).block, (ad158.add ((x5_1).toNat * 17)).off + 2, none⟩ = some (.int .i64 ((rd_T38 l0 x5_1).f1.f0.f1)) ∧ w'.cell? ⟨(ad158.add ((x5_1).toNat * 17)).block, (ad158.add ((x5_1).toNat * 17)).off + 3, none⟩ = some (.int .i64 ((rd_T38 l0 x5_1).f1.f0.f2)) ∧ w'.cell? ⟨(ad158.add ((x5_1).toNat * 17)).block, (ad158.add ((x5_1).toNat * 17)).off + 4, none⟩ = some (.int .i64 ((rd_T38 l0 x5_1).f1.f0.f3)) ∧ w'.cell? ⟨(ad158.add ((x5_1).toNat * 17)).block, (ad158.add ((x5_1).toNat * 17)).off + 5, none⟩ = some (.int .i64 ((rd_T38 l0 x5_1).f1.f0.f4)) ∧ w'.cell? ⟨(ad158.add ((x5_1).toNat * 17)).block, (ad158.add ((x5_1).toNat * 17)).off + 6, none⟩ = some (.int .i64 ((rd_T38 l0 x5_1).f1.f1)) ∧ w'.cell? ⟨(ad158.add ((x5_1).toNat * 17)).block, (ad158.add ((x5_1).toNat * 17)).off + 7, none⟩ = some (.int .i64 ((rd_T38 l0 x5_1).f2.f0.f0)) ∧ w'.cell? ⟨(ad158.add ((x5_1).toNat * 17)).block, (ad158.add ((x5_1).toNat * 17)).off + 8, none⟩ = some (.int .i64 ((rd_T38 l0 x5_1).f2.f0.f1)) ∧ w'.cell? ⟨(ad158.add ((x5_1).toNat * 17)).block, (ad158.add ((x5_1).toNat * 17)).off + 9, none⟩ = some (.int .i64 ((rd_T38 l0 x5_1).f2.f0.f2)) ∧ w'.cell? ⟨(ad158.add ((x5_1).toNat * 17)).block, (ad158.add ((x5_1).toNat * 17)).off + 10, none⟩ = some (.int .i64 ((rd_T38 l0 x5_1).f2.f0.f3)) ∧ w'.cell? ⟨(ad158.add ((x5_1).toNat * 17)).block, (ad158.add ((x5_1).toNat * 17)).off + 11, none⟩ = some (.int .i64 ((rd_T38 l0 x5_1).f2.f0.f4)) ∧ w'.cell? ⟨(ad158.add ((x5_1).toNat * 17)).block, (ad158.add ((x5_1).toNat * 17)).off + 12, none⟩ = some (.int .i64 ((rd_T38 l0 x5_1).f2.f1)) ∧ w'.cell? ⟨(ad158.add ((x5_1).toNat * 17)).block, (ad158.add ((x5_1).toNat * 17)).off + 13, none⟩ = some (.int .i64 ((rd_T38 l0 x5_1).f3)) ∧ w'.cell? ⟨(ad158.add ((x5_1).toNat * 17)).block, (ad158.add ((x5_1).toNat * 17)).off + 14, none⟩ = some (.int .i64 ((rd_T38 l0 x5_1).f4)) ∧ w'.cell? ⟨(ad158.add ((x5_1).toNat * 17)).block, (ad158.add ((x5_1).toNat * 17)).off + 15, none⟩ = some (.int .i64 ((rd_T38 l0 x5_1).f5)) ∧ w'.cell? ⟨(ad158.add ((x5_1).toNat * 17)).block, (ad158.add ((x5_1).toNat * 17)).off + 16, none⟩ = some (.int .i64 ((rd_T38 l0 x5_1).f6)) ∧ w'.cell? (ad159.add ((x5_1).toNat * 17)) = some (.int .i64 ((rd_T38 l1 x5_1).f0)) ∧ w'.cell? ⟨(ad159.add ((x5_1).toNat * 17)).block, (ad159.add ((x5_1).toNat * 17)).off + 1, none⟩ = some (.int .i64 ((rd_T38 l1 x5_1).f1.f0.f0)) ∧ w'.cell? ⟨(ad159.add ((x5_1).toNat * 17)).block, (ad159.add ((x5_1).toNat * 17)).off + 2, none⟩ = some (.int .i64 ((rd_T38 l1 x5_1).f1.f0.f1)) ∧ w'.cell? ⟨(ad159.add ((x5_1).toNat * 17)).block, (ad159.add ((x5_1).toNat * 17)).off + 3, none⟩ = some (.int .i64 ((rd_T38 l1 x5_1).f1.f0.f2)) ∧ w'.cell? ⟨(ad159.add ((x5_1).toNat * 17)).block, (ad159.add ((x5_1).toNat * 17)).off + 4, none⟩ = some (.int .i64 ((rd_T38 l1 x5_1).f1.f0.f3)) ∧ w'.cell? ⟨(ad159.add ((x5_1).toNat * 17)).block, (ad159.add ((x5_1).toNat * 17)).off + 5, none⟩ = some (.int .i64 ((rd_T38 l1 x5_1).f1.f0.f4)) ∧ w'.cell? ⟨(ad159.add ((x5_1).toNat * 17)).block, (ad159.add ((x5_1).toNat * 17)).off + 6, none⟩ = some (.int .i64 ((rd_T38 l1 x5_1).f1.f1)) ∧ w'.cell? ⟨(ad159.add ((x5_1).toNat * 17)).block, (ad159.add ((x5_1).toNat * 17)).off + 7, none⟩ = some (.int .i64 ((rd_T38 l1 x5_1).f2.f0.f0)) ∧ w'.cell? ⟨(ad159.add ((x5_1).toNat * 17)).block, (ad159.add ((x5_1).toNat * 17)).off + 8, none⟩ = some (.int .i64 ((rd_T38 l1 x5_1).f2.f0.f1)) ∧ w'.cell? ⟨(ad159.add ((x5_1).toNat * 17)).block, (ad159.add ((x5_1).toNat * 17)).off + 9, none⟩ = some (.int .i64 ((rd_T38 l1 x5_1).f2.f0.f2)) ∧ w'.cell? ⟨(ad159.add ((x5_1).toNat * 17)).block, (ad159.add ((x5_1).toNat * 17)).off + 10, none⟩ = some (.int .i64 ((rd_T38 l1 x5_1).f2.f0.f3)) ∧ w'.cell? ⟨(ad159.add ((x5_1).toNat * 17)).block, (ad159.add ((x5_1).toNat * 17)).off + 11, none⟩ = some (.int .i64 ((rd_T38 l1 x5_1).f2.f0.f4)) ∧ w'.cell? ⟨(ad159.add ((x5_1).toNat * 17)).block, (ad159.add ((x5_1).toNat * 17)).off + 12, none⟩ = some (.int .i64 ((rd_T38 l1 x5_1).f2.f1)) ∧ w'.cell? ⟨(ad159.add ((x5_1).toNat * 17)).block, (ad159.add ((x5_1).toNat * 17)).off + 13, none⟩ = some (.int .i64 ((rd_T38 l1 x5_1).f3)) ∧ w'.cell? ⟨(ad159.add ((x5_1).toNat * 17)).block, (ad159.add ((x5_1).toNat * 17)).off + 14, none⟩ = some (.int .i64 ((rd_T38 l1 x5_1).f4)) ∧ w'.cell? ⟨(ad159.add ((x5_1).toNat * 17)).block, (ad159.add ((x5_1).toNat * 17)).off + 15, none⟩ = some (.int .i64 ((rd_T38 l1 x5_1).f5)) ∧ w'.cell? ⟨(ad159.add ((x5_1).toNat * 17)).block, (ad159.add ((x5_1).toNat * 17)).off + 16, none⟩ = some (.int .i64 ((rd_T38 l1 x5_1).f6))) (ds := []) #[false, false, false, false, false, false, false, false, false, false] (by kernel_rfl) rfl rfl ⟨(Gv.bx HB.out hw158_0), (Gv.bx HB.out hw158_1), (Gv.bx HB.out hw158_2), (Gv.bx HB.out hw158_3), (Gv.bx HB.out hw158_4), (Gv.bx HB.out hw158_5), (Gv.bx HB.out hw158_6), (Gv.bx HB.out hw158_7), (Gv.bx HB.out hw158_8), (Gv.bx HB.out hw158_9), (Gv.bx HB.out hw158_10), (Gv.bx HB.out hw158_11), (Gv.bx HB.out hw158_12), (Gv.bx HB.out hw158_13), (Gv.bx HB.out hw158_14), (Gv.bx HB.out hw158_15), (Gv.bx HB.out hw158_16), (Gv.bx HB.out hw159_0), (Gv.bx HB.out hw159_1), (Gv.bx HB.out hw159_2), (Gv.bx HB.out hw159_3), (Gv.bx HB.out hw159_4), (Gv.bx HB.out hw159_5), (Gv.bx HB.out hw159_6), (Gv.bx HB.out hw159_7), (Gv.bx HB.out hw159_8), (Gv.bx HB.out hw159_9), (Gv.bx HB.out hw159_10), (Gv.bx HB.out hw159_11), (Gv.bx HB.out hw159_12), (Gv.bx HB.out hw159_13), (Gv.bx HB.out hw159_14), (Gv.bx HB.out hw159_15), (Gv.bx HB.out hw159_16)⟩ (fun hHeld => ?_); refine with_tabW laws_eqModuleS.tab6 laws_eqModuleS.bits6 (fun HT_ HW_ => ?_)
        generalize wr.drew = w9 at HB hx158_0 hx158_1 hx158_10 hx158_11 hx158_12 hx158_13 hx158_14 hx158_15 hx158_16 hx158_2 hx158_3 hx158_4 hx158_5 hx158_6 hx158_7 hx158_8 hx158_9 hx159_0 hx159_1 hx159_10 hx159_11 hx159_12 hx159_13 hx159_14 hx159_15 hx159_16 hx159_2 hx159_3 hx159_4 hx159_5 hx159_6 hx159_7 hx159_8 hx159_9 hHeld ⊢
        refine Gv.pu 0 (some 17) HT_ ?_
        refine Gv.pu 1 (some 18) HT_ ?_
        refine Gv.pu 2 (some 19) HT_ ?_
        refine Gv.pu 4 (some 21) HT_ ?_
        refine Gv.pu 5 (some 22) HT_ ?_
        refine Gv.pu 6 (some 23) HT_ ?_
        refine take_ (i := 3) (N := some 20) (v := ?_) (a' := ?_) #[true, true, true, true, true, true, true, false, false, false] rfl rfl (take_ofW HT_.out HW_.out (by kernel_rfl)) (fun _ _ _ h => h) (Or.inl ⟨by rfl, ?_⟩) hHeld ?_ ?_
        rotate_left
        ·rintro w' ⟨s0, s1, s2, s3, s4, s5, s6, s7, s8, s9, s10, s11, s12, s13, s14, s15, s16, s17, s18, s19, s20, s21, s22, s23, s24, s25, s26, s27, s28, s29, s30, s31, s32, s33⟩
         first | ((refine Gv.load_run (t := 38) (A := ad158.add ((x5_1).toNat * 17)) (cs := [_, _, _, _, _, _, _, _, _, _, _, _, _, _, _, _, _]) (x := ?xx1_) ?ho1_ ?hx1_ ⟨s0, s1, s2, s3, s4, s5, s6, s7, s8, s9, s10, s11, s12, s13, s14, s15, s16, trivial⟩ Try.underlying38 rfl (by kernel_rfl)); (case ho1_ => rfl); (case hx1_ => rfl)) | ((refine Gv.load_run (t := 38) (A := ad159.add ((x5_1).toNat * 17)) (cs := [_, _, _, _, _, _, _, _, _, _, _, _, _, _, _, _, _]) (x := ?xx2_) ?ho2_ ?hx2_ ⟨s17, s18, s19, s20, s21, s22, s23, s24, s25, s26, s27, s28, s29, s30, s31, s32, s33, trivial⟩ Try.underlying38 rfl (by kernel_rfl)); (case ho2_ => rfl); (case hx2_ => rfl)) | (go_simp; with_reducible rfl)
        rotate_left
        ·simp only [Act.put, List.setIfInBounds_toArray, List.set_cons_zero, List.set_cons_succ, i64_w, i32_w]
         rfl
        refine take_ (i := 7) (N := some 24) (v := ?_) (a' := ?_) #[true, true, true, true, true, true, true, true, false, false] rfl rfl (take_ofW HT_.out HW_.out (by kernel_rfl)) (fun _ _ _ h => h) (Or.inl ⟨by rfl, ?_⟩) hHeld ?_ ?_
        rotate_left
        ·rintro w' ⟨s0, s1, s2, s3, s4, s5, s6, s7, s8, s9, s10, s11, s12, s13, s14, s15, s16, s17, s18, s19, s20, s21, s22, s23, s24, s25, s26, s27, s28, s29, s30, s31, s32, s33⟩
         first | ((refine Gv.load_run (t := 38) (A := ad158.add ((x5_1).toNat * 17)) (cs := [_, _, _, _, _, _, _, _, _, _, _, _, _, _, _, _, _]) (x := ?xx4_) ?ho4_ ?hx4_ ⟨s0, s1, s2, s3, s4, s5, s6, s7, s8, s9, s10, s11, s12, s13, s14, s15, s16, trivial⟩ Try.underlying38 rfl (by kernel_rfl)); (case ho4_ => rfl); (case hx4_ => rfl)) | ((refine Gv.load_run (t := 38) (A := ad159.add ((x5_1).toNat * 17)) (cs := [_, _, _, _, _, _, _, _, _, _, _, _, _, _, _, _, _]) (x := ?xx5_) ?ho5_ ?hx5_ ⟨s17, s18, s19, s20, s21, s22, s23, s24, s25, s26, s27, s28, s29, s30, s31, s32, s33, trivial⟩ Try.underlying38 rfl (by kernel_rfl)); (case ho5_ => rfl); (case hx5_ => rfl)) | (go_simp; with_reducible rfl)
        rotate_left
        ·simp only [Act.put, List.setIfInBounds_toArray, List.set_cons_zero, List.set_cons_succ, i64_w, i32_w]
         rfl
        refine one_ (i := 8) (N := some 25) #[true, true, true, true, true, true, true, true, true, false] rfl rfl (one_of HT_.out (by kernel_rfl)) (by decide) (fun K hK => ?_)
        refine goes_ Try.func48 (by kernel_rfl) rfl #[.agg #[.int .i64 ((rd_T38 l0 x5_1).f0), .int .i64 ((rd_T38 l0 x5_1).f1.f0.f0), .int .i64 ((rd_T38 l0 x5_1).f1.f0.f1), .int .i64 ((rd_T38 l0 x5_1).f1.f0.f2), .int .i64 ((rd_T38 l0 x5_1).f1.f0.f3), .int .i64 ((rd_T38 l0 x5_1).f1.f0.f4), .int .i64 ((rd_T38 l0 x5_1).f1.f1), .int .i64 ((rd_T38 l0 x5_1).f2.f0.f0), .int .i64 ((rd_T38 l0 x5_1).f2.f0.f1), .int .i64 ((rd_T38 l0 x5_1).f2.f0.f2), .int .i64 ((rd_T38 l0 x5_1).f2.f0.f3), .int .i64 ((rd_T38 l0 x5_1).f2.f0.f4), .int .i64 ((rd_T38 l0 x5_1).f2.f1), .int .i64 ((rd_T38 l0 x5_1).f3), .int .i64 ((rd_T38 l0 x5_1).f4), .int .i64 ((rd_T38 l0 x5_1).f5), .int .i64 ((rd_T38 l0 x5_1).f6)], .agg #[.int .i64 ((rd_T38 l1 x5_1).f0), .int .i64 ((rd_T38 l1 x5_1).f1.f0.f0), .int .i64 ((rd_T38 l1 x5_1).f1.f0.f1), .int .i64 ((rd_T38 l1 x5_1).f1.f0.f2), .int .i64 ((rd_T38 l1 x5_1).f1.f0.f3), .int .i64 ((rd_T38 l1 x5_1).f1.f0.f4), .int .i64 ((rd_T38 l1 x5_1).f1.f1), .int .i64 ((rd_T38 l1 x5_1).f2.f0.f0), .int .i64 ((rd_T38 l1 x5_1).f2.f0.f1), .int .i64 ((rd_T38 l1 x5_1).f2.f0.f2), .int .i64 ((rd_T38 l1 x5_1).f2.f0.f3), .int .i64 ((rd_T38 l1 x5_1).f2.f0.f4), .int .i64 ((rd_T38 l1 x5_1).f2.f1), .int .i64 ((rd_T38 l1 x5_1).f3), .int .i64 ((rd_T38 l1 x5_1).f4), .int .i64 ((rd_T38 l1 x5_1).f5), .int .i64 ((rd_T38 l1 x5_1).f6)]] (by rfl) rfl rfl Gv.lm ?_
        with_reducible refine (laws_eqModule.calls ((rd_T38 l0 x5_1).f0) ((rd_T38 l0 x5_1).f1.f0.f0) ((rd_T38 l0 x5_1).f1.f0.f1) ((rd_T38 l0 x5_1).f1.f0.f2) ((rd_T38 l0 x5_1).f1.f0.f3) ((rd_T38 l0 x5_1).f1.f0.f4) ((rd_T38 l0 x5_1).f1.f1) ((rd_T38 l0 x5_1).f2.f0.f0) ((rd_T38 l0 x5_1).f2.f0.f1) ((rd_T38 l0 x5_1).f2.f0.f2) ((rd_T38 l0 x5_1).f2.f0.f3) ((rd_T38 l0 x5_1).f2.f0.f4) ((rd_T38 l0 x5_1).f2.f1) ((rd_T38 l0 x5_1).f3) ((rd_T38 l0 x5_1).f4) ((rd_T38 l0 x5_1).f5) ((rd_T38 l0 x5_1).f6) ((rd_T38 l1 x5_1).f0) ((rd_T38 l1 x5_1).f1.f0.f0) ((rd_T38 l1 x5_1).f1.f0.f1) ((rd_T38 l1 x5_1).f1.f0.f2) ((rd_T38 l1 x5_1).f1.f0.f3) ((rd_T38 l1 x5_1).f1.f0.f4) ((rd_T38 l1 x5_1).f1.f1) ((rd_T38 l1 x5_1).f2.f0.f0) ((rd_T38 l1 x5_1).f2.f0.f1) ((rd_T38 l1 x5_1).f2.f0.f2) ((rd_T38 l1 x5_1).f2.f0.f3) ((rd_T38 l1 x5_1).f2.f0.f4) ((rd_T38 l1 x5_1).f2.f1) ((rd_T38 l1 x5_1).f3) ((rd_T38 l1 x5_1).f4) ((rd_T38 l1 x5_1).f5) ((rd_T38 l1 x5_1).f6) true _ A7.out).mono ?_
        rintro e w10 ⟨rfl, hb⟩
        refine ⟨_, rfl, ?_⟩
        have n0_ := Gv.a0 (below_step Gv.bw hb)
        clear HB
        have HB := n0_
        clear n0_
        (try clear hb)
        (try clear hb2)
        (try clear hk)
        (try clear hi)
        refine hK.out _ _ ⟨(Gv.bx HB.out hw158_0), (Gv.bx HB.out hw158_1), (Gv.bx HB.out hw158_2), (Gv.bx HB.out hw158_3), (Gv.bx HB.out hw158_4), (Gv.bx HB.out hw158_5), (Gv.bx HB.out hw158_6), (Gv.bx HB.out hw158_7), (Gv.bx HB.out hw158_8), (Gv.bx HB.out hw158_9), (Gv.bx HB.out hw158_10), (Gv.bx HB.out hw158_11), (Gv.bx HB.out hw158_12), (Gv.bx HB.out hw158_13), (Gv.bx HB.out hw158_14), (Gv.bx HB.out hw158_15), (Gv.bx HB.out hw158_16), (Gv.bx HB.out hw159_0), (Gv.bx HB.out hw159_1), (Gv.bx HB.out hw159_2), (Gv.bx HB.out hw159_3), (Gv.bx HB.out hw159_4), (Gv.bx HB.out hw159_5), (Gv.bx HB.out hw159_6), (Gv.bx HB.out hw159_7), (Gv.bx HB.out hw159_8), (Gv.bx HB.out hw159_9), (Gv.bx HB.out hw159_10), (Gv.bx HB.out hw159_11), (Gv.bx HB.out hw159_12), (Gv.bx HB.out hw159_13), (Gv.bx HB.out hw159_14), (Gv.bx HB.out hw159_15), (Gv.bx HB.out hw159_16)⟩ (fun hHeld => ?_)
        clear hK K
        refine norm_ (a' := ?_) ?_ ?_
        rotate_left
        ·show Act.put _ (some 25) _ = _
         simp only [Act.put, List.setIfInBounds_toArray, List.set_cons_zero, List.set_cons_succ, i64_w, i32_w]
         rfl
        refine Gv.pu 9 (some 26) HT_ ?_
        refine done_ (done_of HT_.out (by kernel_rfl)) ?_
        try go_wp2
        go_roundg k1
        case measure => have := HK1.out; omega
        case rel => exact ⟨(wrap64 (x5_1 + 1)), Gv.rq, H', ⟨by have := HK1.out; omega⟩, ⟨Gv.bw⟩⟩
       ·replace c8 := Bool.eq_false_iff.mpr c8
        subst c8
        have H1 : (none) = some r := by rw [if_neg (show ¬ (false = true) by decide)] at H; exact H
        clear H
        have H := H1
        clear H1
        exact absurd H (by simp)
      ·rw [if_neg c6] at H
       exact absurd H (by simp)
     ·rw [if_neg c5] at H
      exact absurd H (by simp)
    ·rw [if_neg c4] at H
     have c4b0 : decide (x5_1 < (l0.length : Int)) = false := decide_eq_false c4
     clear c4
     obtain rfl := Option.some.inj H
     go_wp2
     go_ret
     exact ⟨Gv.rt, Gv.bw⟩
 ·rw [if_neg c3] at H
  exact absurd H (by simp)

/-! ### spec_l03Any: function 39 -/
def spec_l03Any.f (a0_0 : Int) (a0_1 : Int) (a0_2 : Int) (a0_3 : Int) (a0_4 : Int) (a0_5 : Int) : Option (Bool) := some ((a0_0 == 0 && (a0_1 == 0 && (a0_2 == 0 && (a0_3 == 0 && (a0_4 == 0))))) && (a0_5 == 0))
set_option maxHeartbeats 8000000 in
set_option maxRecDepth 100000 in
theorem spec_l03Any.calls (a0_0 : Int) (a0_1 : Int) (a0_2 : Int) (a0_3 : Int) (a0_4 : Int) (a0_5 : Int) (r : Bool) (w : World) (h : spec_l03Any.f a0_0 a0_1 a0_2 a0_3 a0_4 a0_5 = some r) :
  Calls Try.prog 39 #[.agg #[.int .i64 a0_0, .int .i64 a0_1, .int .i64 a0_2, .int .i64 a0_3, .int .i64 a0_4, .int .i64 a0_5]] w fun e w' => e = .returned (.bool r) ∧ Below w.heap.size w w' := by
 have hu29 := Try.underlying29
 have HB := Gv.a0 (Below.refl w.heap.size w)
 have H : (some ((a0_0 == 0 && (a0_1 == 0 && (a0_2 == 0 && (a0_3 == 0 && (a0_4 == 0))))) && (a0_5 == 0))) = some r := h
 clear h
 obtain rfl := Option.some.inj H
 go_enter Try.func39, Try.ntmps39
 go_wp2_with (first | ((with_reducible refine gate_dst (N := 1) rfl ?_); refine box_event ?hg (N := 1) ?hd (cs := #[.int .i64 a0_0, .int .i64 a0_1, .int .i64 a0_2, .int .i64 a0_3, .int .i64 a0_4, .int .i64 a0_5]) (t := 29) ?hr ?_; (case hd => rfl); (case hg => rfl); (case hr => first | (go_simp; done) | (go_simp; rfl)); intro gb161 hg w2 hbox hb; have n0_ := Gv.a0 (below_step Gv.bw hb); have n1_ := Gv.a0 (hbox); have n2_ := Gv.a0 ((Gv.ble hg Gv.bw : w.heap.size ≤ gb161)); have n3_ := Gv.a0 ((Gv.ble hg Gv.bw : w.heap.size ≤ gb161)); clear HB; have HB := n0_; have BK161 := n1_; have GW161 := n2_; have GE161 := n3_; clear n0_ n1_ n2_ n3_; clear hb hbox hg; obtain ⟨hcz3_0, hcz3_1, hcz3_2, hcz3_3, hcz3_4, hcz3_5⟩ := Gv.c6 BK161.out; obtain ⟨hfz3_0, hfz3_1, hfz3_2, hfz3_3, hfz3_4, hfz3_5⟩ := Gv.f6 BK161.out))
 go_ret
 exact ⟨Gv.rt, Gv.bw⟩

/-! ### spec_l03Half: function 82 -/
def spec_l03Half.f (a0 : Int) : Option (Bool) := if a0 ≥ 0 then (some (decide (a0 ≤ 4294967295))) else (some false)
set_option maxHeartbeats 8000000 in
set_option maxRecDepth 100000 in
theorem spec_l03Half.calls (a0 : Int) (r : Bool) (w : World) (h : spec_l03Half.f a0 = some r) :
  Calls Try.prog 82 #[.int .i64 a0] w fun e w' => e = .returned (.bool r) ∧ Drawn0 w w' := by
 have H : (if a0 ≥ 0 then (some (decide (a0 ≤ 4294967295))) else (some false)) = some r := h
 clear h
 by_cases c2 : a0 ≥ 0
 ·rw [if_pos c2] at H
  have c2b0 : decide (0 ≤ a0) = true := decide_eq_true c2
  clear c2
  obtain rfl := Option.some.inj H
  go_enter Try.func82, Try.ntmps82
  go_wp2
  go_ret
  exact ⟨by first | rfl | (simp; done) | (simp [Int.tdiv_eq_ediv_of_nonneg]; done) | (simp [*]; done), by repeat (first | exact Drawn0.refl _ | apply Drawn0.step)⟩
 ·rw [if_neg c2] at H
  have c2b0 : decide (0 ≤ a0) = false := decide_eq_false c2
  clear c2
  obtain rfl := Option.some.inj H
  go_enter Try.func82, Try.ntmps82
  go_wp2
  go_ret
  exact ⟨by first | rfl | (simp; done) | (simp [Int.tdiv_eq_ediv_of_nonneg]; done) | (simp [*]; done), by repeat (first | exact Drawn0.refl _ | apply Drawn0.step)⟩

/-! ### spec_AddrOk: function 62 -/
def spec_AddrOk.f (a0_0 : Int) (a0_1 : Int) (a0_2 : Int) (a0_3 : Int) (a0_4 : Int) : Option (Bool) := if a0_0 = 4 then (if a0_1 = 0 then (if a0_2 = 0 then (if a0_3 = 0 then ((spec_l03Half.f a0_4).bind fun t163 => (some t163)) else (some false)) else (some false)) else (some false)) else (if a0_0 = 6 then ((spec_l03Half.f a0_1).bind fun t164 => (if t164 = true then ((spec_l03Half.f a0_2).bind fun t165 => (if t165 = true then ((spec_l03Half.f a0_3).bind fun t166 => (if t166 = true then ((spec_l03Half.f a0_4).bind fun t167 => (some t167)) else (some false))) else (some false))) else (some false))) else (some false))
set_option maxHeartbeats 8000000 in
set_option maxRecDepth 100000 in
theorem spec_AddrOk.calls (a0_0 : Int) (a0_1 : Int) (a0_2 : Int) (a0_3 : Int) (a0_4 : Int) (r : Bool) (w : World) (h : spec_AddrOk.f a0_0 a0_1 a0_2 a0_3 a0_4 = some r) :
  Calls Try.prog 62 #[.agg #[.int .i64 a0_0, .int .i64 a0_1, .int .i64 a0_2, .int .i64 a0_3, .int .i64 a0_4]] w fun e w' => e = .returned (.bool r) ∧ Below w.heap.size w w' := by
 have hu26 := Try.underlying26
 have HB := Gv.a0 (Below.refl w.heap.size w)
 have H : (if a0_0 = 4 then (if a0_1 = 0 then (if a0_2 = 0 then (if a0_3 = 0 then ((spec_l03Half.f a0_4).bind fun t163 => (some t163)) else (some false)) else (some false)) else (some false)) else (if a0_0 = 6 then ((spec_l03Half.f a0_1).bind fun t164 => (if t164 = true then ((spec_l03Half.f a0_2).bind fun t165 => (if t165 = true then ((spec_l03Half.f a0_3).bind fun t166 => (if t166 = true then ((spec_l03Half.f a0_4).bind fun t167 => (some t167)) else (some false))) else (some false))) else (some false))) else (some false))) = some r := h
 clear h
 by_cases c2 : a0_0 = 4
 ·rw [if_pos c2] at H
  have c2b0 : (a0_0 == 4) = true := beq_iff_eq.mpr c2
  have c2b1 : (a0_0 != 4) = false := bne_eq_false_iff_eq.mpr c2
  clear c2
  by_cases c3 : a0_1 = 0
  ·rw [if_pos c3] at H
   have c3b0 : (a0_1 == 0) = true := beq_iff_eq.mpr c3
   have c3b1 : (a0_1 != 0) = false := bne_eq_false_iff_eq.mpr c3
   clear c3
   by_cases c4 : a0_2 = 0
   ·rw [if_pos c4] at H
    have c4b0 : (a0_2 == 0) = true := beq_iff_eq.mpr c4
    have c4b1 : (a0_2 != 0) = false := bne_eq_false_iff_eq.mpr c4
    clear c4
    by_cases c5 : a0_3 = 0
    ·rw [if_pos c5] at H
     have c5b0 : (a0_3 == 0) = true := beq_iff_eq.mpr c5
     have c5b1 : (a0_3 != 0) = false := bne_eq_false_iff_eq.mpr c5
     clear c5
     replace H := Option.bind_eq_some_iff.mp H
     obtain ⟨t163, A60, H⟩ := H
     replace H : (some t163) = some r := H
     have A6 := Gv.a0 A60
     clear A60
     obtain rfl := Option.some.inj H
     go_enter Try.func62, Try.ntmps62
     go_wp2_with (first | ((with_reducible refine gate_dst (N := 1) rfl ?_); refine box_event ?hg (N := 1) ?hd (cs := #[.int .i64 a0_0, .int .i64 a0_1, .int .i64 a0_2, .int .i64 a0_3, .int .i64 a0_4]) (t := 26) ?hr ?_; (case hd => rfl); (case hg => rfl); (case hr => first | (go_simp; done) | (go_simp; rfl)); intro gb162 hg w7 hbox hb; have n0_ := Gv.a0 (below_step Gv.bw hb); have n1_ := Gv.a0 (hbox); have n2_ := Gv.a0 ((Gv.ble hg Gv.bw : w.heap.size ≤ gb162)); have n3_ := Gv.a0 ((Gv.ble hg Gv.bw : w.heap.size ≤ gb162)); clear HB; have HB := n0_; have BK162 := n1_; have GW162 := n2_; have GE162 := n3_; clear n0_ n1_ n2_ n3_; clear hb hbox hg; obtain ⟨hcz8_0, hcz8_1, hcz8_2, hcz8_3, hcz8_4⟩ := Gv.c5 BK162.out; obtain ⟨hfz8_0, hfz8_1, hfz8_2, hfz8_3, hfz8_4⟩ := Gv.f5 BK162.out) | (go_at_call 82; (with_reducible refine (spec_l03Half.calls a0_4 t163 _ A6.out).mono ?_); rintro e w' ⟨rfl, ⟨nd, rfl⟩⟩))
     go_ret
     exact ⟨Gv.rt, Gv.bw⟩
    ·rw [if_neg c5] at H
     have c5b0 : (a0_3 == 0) = false := beq_eq_false_iff_ne.mpr c5
     have c5b1 : (a0_3 != 0) = true := bne_iff_ne.mpr c5
     obtain rfl := Option.some.inj H
     go_enter Try.func62, Try.ntmps62
     go_wp2_with (first | ((with_reducible refine gate_dst (N := 1) rfl ?_); refine box_event ?hg (N := 1) ?hd (cs := #[.int .i64 a0_0, .int .i64 a0_1, .int .i64 a0_2, .int .i64 a0_3, .int .i64 a0_4]) (t := 26) ?hr ?_; (case hd => rfl); (case hg => rfl); (case hr => first | (go_simp; done) | (go_simp; rfl)); intro gb162 hg w9 hbox hb; have n0_ := Gv.a0 (below_step Gv.bw hb); have n1_ := Gv.a0 (hbox); have n2_ := Gv.a0 ((Gv.ble hg Gv.bw : w.heap.size ≤ gb162)); have n3_ := Gv.a0 ((Gv.ble hg Gv.bw : w.heap.size ≤ gb162)); clear HB; have HB := n0_; have BK162 := n1_; have GW162 := n2_; have GE162 := n3_; clear n0_ n1_ n2_ n3_; clear hb hbox hg; obtain ⟨hcz10_0, hcz10_1, hcz10_2, hcz10_3, hcz10_4⟩ := Gv.c5 BK162.out; obtain ⟨hfz10_0, hfz10_1, hfz10_2, hfz10_3, hfz10_4⟩ := Gv.f5 BK162.out))
     go_ret
     exact ⟨Gv.rt, Gv.bw⟩
   ·rw [if_neg c4] at H
    have c4b0 : (a0_2 == 0) = false := beq_eq_false_iff_ne.mpr c4
    have c4b1 : (a0_2 != 0) = true := bne_iff_ne.mpr c4
    obtain rfl := Option.some.inj H
    go_enter Try.func62, Try.ntmps62
    go_wp2_with (first | ((with_reducible refine gate_dst (N := 1) rfl ?_); refine box_event ?hg (N := 1) ?hd (cs := #[.int .i64 a0_0, .int .i64 a0_1, .int .i64 a0_2, .int .i64 a0_3, .int .i64 a0_4]) (t := 26) ?hr ?_; (case hd => rfl); (case hg => rfl); (case hr => first | (go_simp; done) | (go_simp; rfl)); intro gb162 hg w11 hbox hb; have n0_ := Gv.a0 (below_step Gv.bw hb); have n1_ := Gv.a0 (hbox); have n2_ := Gv.a0 ((Gv.ble hg Gv.bw : w.heap.size ≤ gb162)); have n3_ := Gv.a0 ((Gv.ble hg Gv.bw : w.heap.size ≤ gb162)); clear HB; have HB := n0_; have BK162 := n1_; have GW162 := n2_; have GE162 := n3_; clear n0_ n1_ n2_ n3_; clear hb hbox hg; obtain ⟨hcz12_0, hcz12_1, hcz12_2, hcz12_3, hcz12_4⟩ := Gv.c5 BK162.out; obtain ⟨hfz12_0, hfz12_1, hfz12_2, hfz12_3, hfz12_4⟩ := Gv.f5 BK162.out))
    go_ret
    exact ⟨Gv.rt, Gv.bw⟩
  ·rw [if_neg c3] at H
   have c3b0 : (a0_1 == 0) = false := beq_eq_false_iff_ne.mpr c3
   have c3b1 : (a0_1 != 0) = true := bne_iff_ne.mpr c3
   obtain rfl := Option.some.inj H
   go_enter Try.func62, Try.ntmps62
   go_wp2_with (first | ((with_reducible refine gate_dst (N := 1) rfl ?_); refine box_event ?hg (N := 1) ?hd (cs := #[.int .i64 a0_0, .int .i64 a0_1, .int .i64 a0_2, .int .i64 a0_3, .int .i64 a0_4]) (t := 26) ?hr ?_; (case hd => rfl); (case hg => rfl); (case hr => first | (go_simp; done) | (go_simp; rfl)); intro gb162 hg w13 hbox hb; have n0_ := Gv.a0 (below_step Gv.bw hb); have n1_ := Gv.a0 (hbox); have n2_ := Gv.a0 ((Gv.ble hg Gv.bw : w.heap.size ≤ gb162)); have n3_ := Gv.a0 ((Gv.ble hg Gv.bw : w.heap.size ≤ gb162)); clear HB; have HB := n0_; have BK162 := n1_; have GW162 := n2_; have GE162 := n3_; clear n0_ n1_ n2_ n3_; clear hb hbox hg; obtain ⟨hcz14_0, hcz14_1, hcz14_2, hcz14_3, hcz14_4⟩ := Gv.c5 BK162.out; obtain ⟨hfz14_0, hfz14_1, hfz14_2, hfz14_3, hfz14_4⟩ := Gv.f5 BK162.out))
   go_ret
   exact ⟨Gv.rt, Gv.bw⟩
 ·rw [if_neg c2] at H
  have c2b0 : (a0_0 == 4) = false := beq_eq_false_iff_ne.mpr c2
  have c2b1 : (a0_0 != 4) = true := bne_iff_ne.mpr c2
  by_cases c15 : a0_0 = 6
  ·rw [if_pos c15] at H
   have c15b0 : (a0_0 == 6) = true := beq_iff_eq.mpr c15
   have c15b1 : (a0_0 != 6) = false := bne_eq_false_iff_eq.mpr c15
   clear c15
   replace H := Option.bind_eq_some_iff.mp H
   obtain ⟨t164, A160, H⟩ := H
   replace H : (if t164 = true then ((spec_l03Half.f a0_2).bind fun t165 => (if t165 = true then ((spec_l03Half.f a0_3).bind fun t166 => (if t166 = true then ((spec_l03Half.f a0_4).bind fun t167 => (some t167)) else (some false))) else (some false))) else (some false)) = some r := H
   have A16 := Gv.a0 A160
   clear A160
   by_cases c17 : t164 = true
   ·subst c17
    have H1 : ((spec_l03Half.f a0_2).bind fun t165 => (if t165 = true then ((spec_l03Half.f a0_3).bind fun t166 => (if t166 = true then ((spec_l03Half.f a0_4).bind fun t167 => (some t167)) else (some false))) else (some false))) = some r := by rw [if_pos rfl] at H; exact H
    clear H
    have H := H1
    clear H1
    replace H := Option.bind_eq_some_iff.mp H
    obtain ⟨t165, A180, H⟩ := H
    replace H : (if t165 = true then ((spec_l03Half.f a0_3).bind fun t166 => (if t166 = true then ((spec_l03Half.f a0_4).bind fun t167 => (some t167)) else (some false))) else (some false)) = some r := H
    have A18 := Gv.a0 A180
    clear A180
    by_cases c19 : t165 = true
    ·subst c19
     have H1 : ((spec_l03Half.f a0_3).bind fun t166 => (if t166 = true then ((spec_l03Half.f a0_4).bind fun t167 => (some t167)) else (some false))) = some r := by rw [if_pos rfl] at H; exact H
     clear H
     have H := H1
     clear H1
     replace H := Option.bind_eq_some_iff.mp H
     obtain ⟨t166, A200, H⟩ := H
     replace H : (if t166 = true then ((spec_l03Half.f a0_4).bind fun t167 => (some t167)) else (some false)) = some r := H
     have A20 := Gv.a0 A200
     clear A200
     by_cases c21 : t166 = true
     ·subst c21
      have H1 : ((spec_l03Half.f a0_4).bind fun t167 => (some t167)) = some r := by rw [if_pos rfl] at H; exact H
      clear H
      have H := H1
      clear H1
      replace H := Option.bind_eq_some_iff.mp H
      obtain ⟨t167, A220, H⟩ := H
      replace H : (some t167) = some r := H
      have A22 := Gv.a0 A220
      clear A220
      obtain rfl := Option.some.inj H
      go_enter Try.func62, Try.ntmps62
      go_wp2_with (first | ((with_reducible refine gate_dst (N := 1) rfl ?_); refine box_event ?hg (N := 1) ?hd (cs := #[.int .i64 a0_0, .int .i64 a0_1, .int .i64 a0_2, .int .i64 a0_3, .int .i64 a0_4]) (t := 26) ?hr ?_; (case hd => rfl); (case hg => rfl); (case hr => first | (go_simp; done) | (go_simp; rfl)); intro gb162 hg w23 hbox hb; have n0_ := Gv.a0 (below_step Gv.bw hb); have n1_ := Gv.a0 (hbox); have n2_ := Gv.a0 ((Gv.ble hg Gv.bw : w.heap.size ≤ gb162)); have n3_ := Gv.a0 ((Gv.ble hg Gv.bw : w.heap.size ≤ gb162)); clear HB; have HB := n0_; have BK162 := n1_; have GW162 := n2_; have GE162 := n3_; clear n0_ n1_ n2_ n3_; clear hb hbox hg; obtain ⟨hcz24_0, hcz24_1, hcz24_2, hcz24_3, hcz24_4⟩ := Gv.c5 BK162.out; obtain ⟨hfz24_0, hfz24_1, hfz24_2, hfz24_3, hfz24_4⟩ := Gv.f5 BK162.out) | (go_at_call 82; (with_reducible refine (spec_l03Half.calls a0_1 true _ A16.out).mono ?_); rintro e w' ⟨rfl, ⟨nd, rfl⟩⟩) | (go_at_call 82; (with_reducible refine (spec_l03Half.calls a0_2 true _ A18.out).mono ?_); rintro e w' ⟨rfl, ⟨nd, rfl⟩⟩) | (go_at_call 82; (with_reducible refine (spec_l03Half.calls a0_3 true _ A20.out).mono ?_); rintro e w' ⟨rfl, ⟨nd, rfl⟩⟩) | (go_at_call 82; (with_reducible refine (spec_l03Half.calls a0_4 t167 _ A22.out).mono ?_); rintro e w' ⟨rfl, ⟨nd, rfl⟩⟩))
      go_ret
      exact ⟨Gv.rt, Gv.bw⟩
     ·replace c21 := Bool.eq_false_iff.mpr c21
      subst c21
      have H1 : (some false) = some r := by rw [if_neg (show ¬ (false = true) by decide)] at H; exact H
      clear H
      have H := H1
      clear H1
      obtain rfl := Option.some.inj H
      go_enter Try.func62, Try.ntmps62
      go_wp2_with (first | ((with_reducible refine gate_dst (N := 1) rfl ?_); refine box_event ?hg (N := 1) ?hd (cs := #[.int .i64 a0_0, .int .i64 a0_1, .int .i64 a0_2, .int .i64 a0_3, .int .i64 a0_4]) (t := 26) ?hr ?_; (case hd => rfl); (case hg => rfl); (case hr => first | (go_simp; done) | (go_simp; rfl)); intro gb162 hg w25 hbox hb; have n0_ := Gv.a0 (below_step Gv.bw hb); have n1_ := Gv.a0 (hbox); have n2_ := Gv.a0 ((Gv.ble hg Gv.bw : w.heap.size ≤ gb162)); have n3_ := Gv.a0 ((Gv.ble hg Gv.bw : w.heap.size ≤ gb162)); clear HB; have HB := n0_; have BK162 := n1_; have GW162 := n2_; have GE162 := n3_; clear n0_ n1_ n2_ n3_; clear hb hbox hg; obtain ⟨hcz26_0, hcz26_1, hcz26_2, hcz26_3, hcz26_4⟩ := Gv.c5 BK162.out; obtain ⟨hfz26_0, hfz26_1, hfz26_2, hfz26_3, hfz26_4⟩ := Gv.f5 BK162.out) | (go_at_call 82; (with_reducible refine (spec_l03Half.calls a0_1 true _ A16.out).mono ?_); rintro e w' ⟨rfl, ⟨nd, rfl⟩⟩) | (go_at_call 82; (with_reducible refine (spec_l03Half.calls a0_2 true _ A18.out).mono ?_); rintro e w' ⟨rfl, ⟨nd, rfl⟩⟩) | (go_at_call 82; (with_reducible refine (spec_l03Half.calls a0_3 false _ A20.out).mono ?_); rintro e w' ⟨rfl, ⟨nd, rfl⟩⟩))
      go_ret
      exact ⟨Gv.rt, Gv.bw⟩
    ·replace c19 := Bool.eq_false_iff.mpr c19
     subst c19
     have H1 : (some false) = some r := by rw [if_neg (show ¬ (false = true) by decide)] at H; exact H
     clear H
     have H := H1
     clear H1
     obtain rfl := Option.some.inj H
     go_enter Try.func62, Try.ntmps62
     go_wp2_with (first | ((with_reducible refine gate_dst (N := 1) rfl ?_); refine box_event ?hg (N := 1) ?hd (cs := #[.int .i64 a0_0, .int .i64 a0_1, .int .i64 a0_2, .int .i64 a0_3, .int .i64 a0_4]) (t := 26) ?hr ?_; (case hd => rfl); (case hg => rfl); (case hr => first | (go_simp; done) | (go_simp; rfl)); intro gb162 hg w27 hbox hb; have n0_ := Gv.a0 (below_step Gv.bw hb); have n1_ := Gv.a0 (hbox); have n2_ := Gv.a0 ((Gv.ble hg Gv.bw : w.heap.size ≤ gb162)); have n3_ := Gv.a0 ((Gv.ble hg Gv.bw : w.heap.size ≤ gb162)); clear HB; have HB := n0_; have BK162 := n1_; have GW162 := n2_; have GE162 := n3_; clear n0_ n1_ n2_ n3_; clear hb hbox hg; obtain ⟨hcz28_0, hcz28_1, hcz28_2, hcz28_3, hcz28_4⟩ := Gv.c5 BK162.out; obtain ⟨hfz28_0, hfz28_1, hfz28_2, hfz28_3, hfz28_4⟩ := Gv.f5 BK162.out) | (go_at_call 82; (with_reducible refine (spec_l03Half.calls a0_1 true _ A16.out).mono ?_); rintro e w' ⟨rfl, ⟨nd, rfl⟩⟩) | (go_at_call 82; (with_reducible refine (spec_l03Half.calls a0_2 false _ A18.out).mono ?_); rintro e w' ⟨rfl, ⟨nd, rfl⟩⟩))
     go_ret
     exact ⟨Gv.rt, Gv.bw⟩
   ·replace c17 := Bool.eq_false_iff.mpr c17
    subst c17
    have H1 : (some false) = some r := by rw [if_neg (show ¬ (false = true) by decide)] at H; exact H
    clear H
    have H := H1
    clear H1
    obtain rfl := Option.some.inj H
    go_enter Try.func62, Try.ntmps62
    go_wp2_with (first | ((with_reducible refine gate_dst (N := 1) rfl ?_); refine box_event ?hg (N := 1) ?hd (cs := #[.int .i64 a0_0, .int .i64 a0_1, .int .i64 a0_2, .int .i64 a0_3, .int .i64 a0_4]) (t := 26) ?hr ?_; (case hd => rfl); (case hg => rfl); (case hr => first | (go_simp; done) | (go_simp; rfl)); intro gb162 hg w29 hbox hb; have n0_ := Gv.a0 (below_step Gv.bw hb); have n1_ := Gv.a0 (hbox); have n2_ := Gv.a0 ((Gv.ble hg Gv.bw : w.heap.size ≤ gb162)); have n3_ := Gv.a0 ((Gv.ble hg Gv.bw : w.heap.size ≤ gb162)); clear HB; have HB := n0_; have BK162 := n1_; have GW162 := n2_; have GE162 := n3_; clear n0_ n1_ n2_ n3_; clear hb hbox hg; obtain ⟨hcz30_0, hcz30_1, hcz30_2, hcz30_3, hcz30_4⟩ := Gv.c5 BK162.out; obtain ⟨hfz30_0, hfz30_1, hfz30_2, hfz30_3, hfz30_4⟩ := Gv.f5 BK162.out) | (go_at_call 82; (with_reducible refine (spec_l03Half.calls a0_1 false _ A16.out).mono ?_); rintro e w' ⟨rfl, ⟨nd, rfl⟩⟩))
    go_ret
    exact ⟨Gv.rt, Gv.bw⟩
  ·rw [if_neg c15] at H
   have c15b0 : (a0_0 == 6) = false := beq_eq_false_iff_ne.mpr c15
   have c15b1 : (a0_0 != 6) = true := bne_iff_ne.mpr c15
   obtain rfl := Option.some.inj H
   go_enter Try.func62, Try.ntmps62
   go_wp2_with (first | ((with_reducible refine gate_dst (N := 1) rfl ?_); refine box_event ?hg (N := 1) ?hd (cs := #[.int .i64 a0_0, .int .i64 a0_1, .int .i64 a0_2, .int .i64 a0_3, .int .i64 a0_4]) (t := 26) ?hr ?_; (case hd => rfl); (case hg => rfl); (case hr => first | (go_simp; done) | (go_simp; rfl)); intro gb162 hg w31 hbox hb; have n0_ := Gv.a0 (below_step Gv.bw hb); have n1_ := Gv.a0 (hbox); have n2_ := Gv.a0 ((Gv.ble hg Gv.bw : w.heap.size ≤ gb162)); have n3_ := Gv.a0 ((Gv.ble hg Gv.bw : w.heap.size ≤ gb162)); clear HB; have HB := n0_; have BK162 := n1_; have GW162 := n2_; have GE162 := n3_; clear n0_ n1_ n2_ n3_; clear hb hbox hg; obtain ⟨hcz32_0, hcz32_1, hcz32_2, hcz32_3, hcz32_4⟩ := Gv.c5 BK162.out; obtain ⟨hfz32_0, hfz32_1, hfz32_2, hfz32_3, hfz32_4⟩ := Gv.f5 BK162.out))
   go_ret
   exact ⟨Gv.rt, Gv.bw⟩

/-! ### spec_l01Low: function 83 -/
def spec_l01Low.f (a0 : Int) (a1 : Int) : Option (Int) := if a1 = 0 then (none) else (if (Int.tmod a0 a1) < 0 then (some (wrap64 ((Int.tmod a0 a1) + a1))) else (some (Int.tmod a0 a1)))
set_option maxHeartbeats 8000000 in
set_option maxRecDepth 100000 in
theorem spec_l01Low.calls (a0 : Int) (a1 : Int) (r : Int) (w : World) (h : spec_l01Low.f a0 a1 = some r) :
  Calls Try.prog 83 #[.int .i64 a0, .int .i64 a1] w fun e w' => e = .returned (.int .i64 r) ∧ Drawn0 w w' := by
 have H : (if a1 = 0 then (none) else (if (Int.tmod a0 a1) < 0 then (some (wrap64 ((Int.tmod a0 a1) + a1))) else (some (Int.tmod a0 a1)))) = some r := h
 clear h
 by_cases c3 : a1 = 0
 ·rw [if_pos c3] at H
  exact absurd H (by simp)
 ·rw [if_neg c3] at H
  have c3b0 : (a1 == 0) = false := beq_eq_false_iff_ne.mpr c3
  have c3b1 : (a1 != 0) = true := bne_iff_ne.mpr c3
  by_cases c4 : (Int.tmod a0 a1) < 0
  ·rw [if_pos c4] at H
   have c4b0 : decide ((Int.tmod a0 a1) < 0) = true := decide_eq_true c4
   clear c4
   obtain rfl := Option.some.inj H
   go_enter Try.func83, Try.ntmps83
   go_wp2
   go_ret
   exact ⟨by first | rfl | (simp; done) | (simp [Int.tdiv_eq_ediv_of_nonneg]; done) | (simp [*]; done), by repeat (first | exact Drawn0.refl _ | apply Drawn0.step)⟩
  ·rw [if_neg c4] at H
   have c4b0 : decide ((Int.tmod a0 a1) < 0) = false := decide_eq_false c4
   clear c4
   obtain rfl := Option.some.inj H
   go_enter Try.func83, Try.ntmps83
   go_wp2
   go_ret
   exact ⟨by first | rfl | (simp; done) | (simp [Int.tdiv_eq_ediv_of_nonneg]; done) | (simp [*]; done), by repeat (first | exact Drawn0.refl _ | apply Drawn0.step)⟩

/-! ### spec_Put16: function 84 -/
def spec_Put16.f (a0 : Int) : Option (List Int) := (spec_l01Low.f a0 65536).bind fun t168 => (some (([(wrap64 (Int.tdiv t168 256)) % 256, (Int.tmod t168 256) % 256] : List Int)))
set_option maxHeartbeats 8000000 in
set_option maxRecDepth 100000 in
theorem spec_Put16.calls (a0 : Int) (r : List Int) (w : World) (h : spec_Put16.f a0 = some r) :
  Calls Try.prog 84 #[.int .i64 a0] w fun e w' => ∃ v0_ : Value, e = .returned (v0_) ∧ Kd.R (Kd.int .u8) 5 w' w.heap.size (fun _ => True) v0_ r ∧ Below w.heap.size w w' := by
 have HB := Gv.a0 (Below.refl w.heap.size w)
 have H : ((spec_l01Low.f a0 65536).bind fun t168 => (some (([(wrap64 (Int.tdiv t168 256)) % 256, (Int.tmod t168 256) % 256] : List Int)))) = some r := h
 clear h
 replace H := Option.bind_eq_some_iff.mp H
 obtain ⟨t168, A20, H⟩ := H
 replace H : (some (([(wrap64 (Int.tdiv t168 256)) % 256, (Int.tmod t168 256) % 256] : List Int))) = some r := H
 have A2 := Gv.a0 A20
 clear A20
 obtain ⟨y169, hy169⟩ : ∃ y_ : List Int, y_ = (([(wrap64 (Int.tdiv t168 256)) % 256, (Int.tmod t168 256) % 256] : List Int)) := ⟨_, rfl⟩
 replace H : (some y169) = some r := by first | (rw [hy169]; with_reducible exact H) | (have H2_ := (Option.bind_some _ _).symm.trans H; rw [hy169]; with_reducible exact H2_) | (have H2_ := (Option.bind_some _ _).symm.trans H; with_reducible exact H2_) | with_reducible exact H | (rw [hy169]; exact H) | exact H
 have Ny169 := Gv.a0 hy169
 clear hy169
 obtain rfl := Option.some.inj H
 go_enter Try.func84, Try.ntmps84
 go_wp2_with (first | ((with_reducible refine gate_callee (f := 83) rfl ?_); refine goesL_ (some 5) rfl rfl Try.func83 (by kernel_rfl) rfl #[.int .i64 a0, .int .i64 65536] rfl Gv.lm ?_; (with_reducible refine (spec_l01Low.calls a0 65536 t168 _ A2.out).mono ?_); rintro e w' ⟨rfl, ⟨nd, rfl⟩⟩; refine ⟨_, rfl, ?_⟩) | ((with_reducible refine gate_dst (N := 12) rfl ?_); refine Kd.R_lit (Kd.int .u8) _ 5 ?hg (N := 12) ?hd (xs := ([(wrap64 (Int.tdiv t168 256)) % 256, (Int.tmod t168 256) % 256] : List Int)) (inner := [.int .u8 ((wrap64 (Int.tdiv t168 256)) % 256), .int .u8 ((Int.tmod t168 256) % 256)]) (ok := fun _ => True) (okp := fun _ => True) ?hr ?hp (fun _ hk => hk) trivial (Below.refl _ _) (Nat.le_refl _) (by simp) ?_; (case hd => rfl); (case hg => rfl); (case hr => first | (go_simp; done) | (go_simp; rfl)); (case hp => exact (Reps.one (show Kd.M (Kd.int .u8) _ _ _ ((wrap64 (Int.tdiv t168 256)) % 256) [.int .u8 ((wrap64 (Int.tdiv t168 256)) % 256)] from rfl) (Reps.one (show Kd.M (Kd.int .u8) _ _ _ ((Int.tmod t168 256) % 256) [.int .u8 ((Int.tmod t168 256) % 256)] from rfl) (Reps.none _ _)))); intro v170 w3 ho4 hb hg_ hnew_; clear hg_ hnew_; (first | rw [← Ny169.out] at ho4 | (simp only [Int.reduceToNat] at ho4; rw [← Ny169.out] at ho4)); have n0_ := Gv.a0 (Kd.R_lower ho4 (below_size Gv.bw)); have n1_ := Gv.a0 (below_step Gv.bw hb); clear HB; have HO171 := n0_; have HB := n1_; clear n0_ n1_; clear hb ho4))
 go_ret
 exact ⟨_, Gv.rt, Gv.kr HO171.out, Gv.bw⟩

/-! ### spec_Put32: function 63 -/
def spec_Put32.f (a0 : Int) : Option (List Int) := (spec_l01Low.f a0 4294967296).bind fun t172 => ((spec_Put16.f (wrap64 (Int.tdiv t172 65536))).bind fun t173 => ((spec_Put16.f (Int.tmod t172 65536)).bind fun t176 => (if t173.length + t176.length < 140737488355328 then (some (t173 ++ t176)) else (none))))
set_option maxHeartbeats 8000000 in
set_option maxRecDepth 100000 in
theorem spec_Put32.calls (a0 : Int) (r : List Int) (w : World) (h : spec_Put32.f a0 = some r) :
  Calls Try.prog 63 #[.int .i64 a0] w fun e w' => ∃ v0_ : Value, e = .returned (v0_) ∧ Kd.R (Kd.int .u8) 5 w' w.heap.size (fun _ => True) v0_ r ∧ Below w.heap.size w w' := by
 have HB := Gv.a0 (Below.refl w.heap.size w)
 have H : ((spec_l01Low.f a0 4294967296).bind fun t172 => ((spec_Put16.f (wrap64 (Int.tdiv t172 65536))).bind fun t173 => ((spec_Put16.f (Int.tmod t172 65536)).bind fun t176 => (if t173.length + t176.length < 140737488355328 then (some (t173 ++ t176)) else (none))))) = some r := h
 clear h
 replace H := Option.bind_eq_some_iff.mp H
 obtain ⟨t172, A20, H⟩ := H
 replace H : ((spec_Put16.f (wrap64 (Int.tdiv t172 65536))).bind fun t173 => ((spec_Put16.f (Int.tmod t172 65536)).bind fun t176 => (if t173.length + t176.length < 140737488355328 then (some (t173 ++ t176)) else (none)))) = some r := H
 have A2 := Gv.a0 A20
 clear A20
 replace H := Option.bind_eq_some_iff.mp H
 obtain ⟨t173, A30, H⟩ := H
 replace H : ((spec_Put16.f (Int.tmod t172 65536)).bind fun t176 => (if t173.length + t176.length < 140737488355328 then (some (t173 ++ t176)) else (none))) = some r := H
 have A3 := Gv.a0 A30
 clear A30
 replace H := Option.bind_eq_some_iff.mp H
 obtain ⟨t176, A40, H⟩ := H
 replace H : (if t173.length + t176.length < 140737488355328 then (some (t173 ++ t176)) else (none)) = some r := H
 have A4 := Gv.a0 A40
 clear A40
 by_cases c5 : t173.length + t176.length < 140737488355328
 ·rw [if_pos c5] at H
  have LMc5 := Gv.a0 c5
  clear c5
  obtain ⟨y179, hy179⟩ : ∃ y_ : List Int, y_ = (t173 ++ t176) := ⟨_, rfl⟩
  replace H : (some y179) = some r := by first | (rw [hy179]; with_reducible exact H) | (have H2_ := (Option.bind_some _ _).symm.trans H; rw [hy179]; with_reducible exact H2_) | (have H2_ := (Option.bind_some _ _).symm.trans H; with_reducible exact H2_) | with_reducible exact H | (rw [hy179]; exact H) | exact H
  have Ny179 := Gv.a0 hy179
  clear hy179
  obtain rfl := Option.some.inj H
  go_enter Try.func63, Try.ntmps63
  go_wp2_with (first | ((with_reducible refine gate_callee (f := 83) rfl ?_); refine goesL_ (some 5) rfl rfl Try.func83 (by kernel_rfl) rfl #[.int .i64 a0, .int .i64 4294967296] rfl Gv.lm ?_; (with_reducible refine (spec_l01Low.calls a0 4294967296 t172 _ A2.out).mono ?_); rintro e w' ⟨rfl, ⟨nd, rfl⟩⟩; refine ⟨_, rfl, ?_⟩) | ((with_reducible refine gate_callee (f := 84) rfl ?_); refine goesL_ (some 8) rfl rfl Try.func84 (by kernel_rfl) rfl #[.int .i64 (wrap64 (Int.tdiv t172 65536))] rfl Gv.lm ?_; (with_reducible refine (spec_Put16.calls (wrap64 (Int.tdiv t172 65536)) t173 _ A3.out).mono ?_); rintro e w6 ⟨v174, rfl, ho0, hb⟩; refine ⟨_, rfl, ?_⟩; have n0_ := Gv.a0 (Kd.R_lower ho0 (below_size Gv.bw)); have n1_ := Gv.a0 (below_step Gv.bw hb); clear HB; have HO175 := n0_; have HB := n1_; clear n0_ n1_; (try clear hb); (try clear hb2); (try clear hk); (try clear hi); (try clear ho0)) | ((with_reducible refine gate_callee (f := 84) rfl ?_); refine goesL_ (some 11) rfl rfl Try.func84 (by kernel_rfl) rfl #[.int .i64 (Int.tmod t172 65536)] rfl Gv.lm ?_; (with_reducible refine (spec_Put16.calls (Int.tmod t172 65536) t176 _ A4.out).mono ?_); rintro e w7 ⟨v177, rfl, ho0, hb⟩; refine ⟨_, rfl, ?_⟩; have n0_ := Gv.a0 (Kd.R_elder' (Gv.kr HO175.out) (Kd.R_base ho0) hb); have n1_ := Gv.a0 (Kd.R_lower (Kd.R_new' ho0 (Kd.R_lt (Gv.kr HO175.out))) (below_size Gv.bw)); have n2_ := Gv.a0 (below_step Gv.bw hb); clear HO175; clear HB; have HO175 := n0_; have HO178 := n1_; have HB := n2_; clear n0_ n1_ n2_; (try clear hb); (try clear hb2); (try clear hk); (try clear hi); (try clear ho0); obtain ⟨Ao9, co9, eo9⟩ := Kd.R_slice HO178.out; subst eo9) | ((with_reducible refine gate_builtin (b := .append) (xs := #[.tmp 8, .tmp 11]) rfl ?_); at_builtin; refine Kd.R_append_rows (Kd.int .u8) (w0 := w) w.heap.size rfl (.tmp 8) (.tmp 11) 62 5 (.int .u8 0) 1 rfl Try.underlying62 info5 rfl (by decide) (by omega) v174 t173 t176 _ _ _ (fun k_ => some k_ ≠ (.slice Ao9 t176.length co9 : Value).ownBlock) (fun _ => False) rfl rfl ?aO ?aR (fun _ _ h => h) (fun _ h => h.elim) ?aF ?aB ?aS ?aL ?_; (case aR => repeat (first | exact (Kd.R_reads' HO178.out).2.2 | (with_reducible refine Kd.C_alloc ?_ _) | (with_reducible refine Kd.C_drewN ?_ _) | (with_reducible refine Kd.C_drew ?_))); (case aB => exact Gv.bw); (case aF => exact (fun k_ hk => Kd.fresh' (Kd.R_lt (Gv.kr HO178.out)) k_ hk)); (case aO => exact (by (with_reducible repeat (first | apply Kd.R_alloc | apply Kd.R_drewN | apply Kd.R_drew)); exact Kd.R_mono HO175.out (fun _ hk => hk.2))); (case aS => exact (below_size Gv.bw)); (case aL => have := LMc5.out; omega); intro v180 w8 ho hb hg hat; rw [← Ny179.out] at ho; have n0_ := Gv.a0 (Kd.R_after (ok := (fun _ => True)) (Gv.kr HO178.out) hg hat); have n1_ := Gv.a0 (hb); have n2_ := Gv.a0 (ho); clear HO178; clear HB; clear HO175; have HO178 := n0_; have HB := n1_; have HO181 := n2_; clear n0_ n1_ n2_; clear ho hb hg hat))
  go_ret
  exact ⟨_, Gv.rt, by (with_reducible repeat (first | apply Kd.R_alloc | apply Kd.R_drewN | apply Kd.R_drew)); exact Kd.R_mono HO181.out (fun _ hk => trivial), Gv.bw⟩
 ·rw [if_neg c5] at H
  exact absurd H (by simp)

/-! ### spec_AddrBytes: function 33 -/
def spec_AddrBytes.f (a0_0 : Int) (a0_1 : Int) (a0_2 : Int) (a0_3 : Int) (a0_4 : Int) : Option (List Int) := (spec_AddrOk.f a0_0 a0_1 a0_2 a0_3 a0_4).bind fun t183 => (if t183 = true then (if a0_0 = 4 then ((spec_Put32.f a0_4).bind fun t184 => (some t184)) else ((spec_Put32.f a0_1).bind fun t187 => ((spec_Put32.f a0_2).bind fun t190 => (if t187.length + t190.length < 140737488355328 then ((some (t187 ++ t190 : List Int)).bind fun y193 => ((spec_Put32.f a0_3).bind fun t196 => (if y193.length + t196.length < 140737488355328 then ((some (y193 ++ t196 : List Int)).bind fun y199 => ((spec_Put32.f a0_4).bind fun t202 => (if y199.length + t202.length < 140737488355328 then (some (y199 ++ t202)) else (none)))) else (none)))) else (none))))) else (some ([] : List Int)))
def spec_AddrBytes.T5 : Bool × List (List Nat × List Nat) := (true, [([], []), ([0], [0]), ([1], [1]), ([], []), ([3], [3]), ([4, 2], [4]), ([2, 5, 5], [2, 5]), ([6, 6, 0, 1, 2, 3, 4, 5, 6], [6])])
def spec_AddrBytes.B5 : List Nat := [0, 1, 3, 0, 8, 31, 63, 127]
theorem spec_AddrBytes.tab5 : rtab .any (opsOf Try.f33 5) = spec_AddrBytes.T5 := by kernel_rfl
theorem spec_AddrBytes.bits5 : waitsOk spec_AddrBytes.T5.2 spec_AddrBytes.B5 = true := by kernel_rfl
def spec_AddrBytes.T6 : Bool × List (List Nat × List Nat) := (true, [([], []), ([], []), ([1], [1]), ([2], [2]), ([0, 3, 3], [0, 3]), ([], []), ([5], [5]), ([6, 4], [6]), ([4, 7, 7], [4, 7]), ([8, 8, 0, 1, 2, 3, 4, 5, 6, 7, 8], [8])])
def spec_AddrBytes.B6 : List Nat := [0, 0, 2, 6, 15, 0, 32, 127, 255, 511]
theorem spec_AddrBytes.tab6 : rtab .any (opsOf Try.f33 6) = spec_AddrBytes.T6 := by kernel_rfl
theorem spec_AddrBytes.bits6 : waitsOk spec_AddrBytes.T6.2 spec_AddrBytes.B6 = true := by kernel_rfl
set_option maxHeartbeats 8000000 in
set_option maxRecDepth 100000 in
theorem spec_AddrBytes.calls (a0_0 : Int) (a0_1 : Int) (a0_2 : Int) (a0_3 : Int) (a0_4 : Int) (r : List Int) (w : World) (h : spec_AddrBytes.f a0_0 a0_1 a0_2 a0_3 a0_4 = some r) :
  Calls Try.prog 33 #[.agg #[.int .i64 a0_0, .int .i64 a0_1, .int .i64 a0_2, .int .i64 a0_3, .int .i64 a0_4]] w fun e w' => ∃ v0_ : Value, e = .returned (v0_) ∧ Kd.R (Kd.int .u8) 5 w' w.heap.size (fun _ => True) v0_ r ∧ Below w.heap.size w w' := by
 have hu26 := Try.underlying26
 have HB := Gv.a0 (Below.refl w.heap.size w)
 have H : ((spec_AddrOk.f a0_0 a0_1 a0_2 a0_3 a0_4).bind fun t183 => (if t183 = true then (if a0_0 = 4 then ((spec_Put32.f a0_4).bind fun t184 => (some t184)) else ((spec_Put32.f a0_1).bind fun t187 => ((spec_Put32.f a0_2).bind fun t190 => (if t187.length + t190.length < 140737488355328 then ((some (t187 ++ t190 : List Int)).bind fun y193 => ((spec_Put32.f a0_3).bind fun t196 => (if y193.length + t196.length < 140737488355328 then ((some (y193 ++ t196 : List Int)).bind fun y199 => ((spec_Put32.f a0_4).bind fun t202 => (if y199.length + t202.length < 140737488355328 then (some (y199 ++ t202)) else (none)))) else (none)))) else (none))))) else (some ([] : List Int)))) = some r := h
 clear h
 replace H := Option.bind_eq_some_iff.mp H
 obtain ⟨t183, A20, H⟩ := H
 replace H : (if t183 = true then (if a0_0 = 4 then ((spec_Put32.f a0_4).bind fun t184 => (some t184)) else ((spec_Put32.f a0_1).bind fun t187 => ((spec_Put32.f a0_2).bind fun t190 => (if t187.length + t190.length < 140737488355328 then ((some (t187 ++ t190 : List Int)).bind fun y193 => ((spec_Put32.f a0_3).bind fun t196 => (if y193.length + t196.length < 140737488355328 then ((some (y193 ++ t196 : List Int)).bind fun y199 => ((spec_Put32.f a0_4).bind fun t202 => (if y199.length + t202.length < 140737488355328 then (some (y199 ++ t202)) else (none)))) else (none)))) else (none))))) else (some ([] : List Int))) = some r := H
 have A2 := Gv.a0 A20
 clear A20
 by_cases c3 : t183 = true
 ·subst c3
  have H1 : (if a0_0 = 4 then ((spec_Put32.f a0_4).bind fun t184 => (some t184)) else ((spec_Put32.f a0_1).bind fun t187 => ((spec_Put32.f a0_2).bind fun t190 => (if t187.length + t190.length < 140737488355328 then ((some (t187 ++ t190 : List Int)).bind fun y193 => ((spec_Put32.f a0_3).bind fun t196 => (if y193.length + t196.length < 140737488355328 then ((some (y193 ++ t196 : List Int)).bind fun y199 => ((spec_Put32.f a0_4).bind fun t202 => (if y199.length + t202.length < 140737488355328 then (some (y199 ++ t202)) else (none)))) else (none)))) else (none))))) = some r := by rw [if_pos rfl] at H; exact H
  clear H
  have H := H1
  clear H1
  by_cases c4 : a0_0 = 4
  ·rw [if_pos c4] at H
   have c4b0 : (a0_0 == 4) = true := beq_iff_eq.mpr c4
   have c4b1 : (a0_0 != 4) = false := bne_eq_false_iff_eq.mpr c4
   clear c4
   replace H := Option.bind_eq_some_iff.mp H
   obtain ⟨t184, A50, H⟩ := H
   replace H : (some t184) = some r := H
   have A5 := Gv.a0 A50
   clear A50
   obtain rfl := Option.some.inj H
   go_enter Try.func33, Try.ntmps33
   go_wp2_with (first | ((with_reducible refine gate_dst (N := 1) rfl ?_); refine box_event ?hg (N := 1) ?hd (cs := #[.int .i64 a0_0, .int .i64 a0_1, .int .i64 a0_2, .int .i64 a0_3, .int .i64 a0_4]) (t := 26) ?hr ?_; (case hd => rfl); (case hg => rfl); (case hr => first | (go_simp; done) | (go_simp; rfl)); intro gb182 hg w6 hbox hb; have n0_ := Gv.a0 (below_step Gv.bw hb); have n1_ := Gv.a0 (hbox); have n2_ := Gv.a0 ((Gv.ble hg Gv.bw : w.heap.size ≤ gb182)); have n3_ := Gv.a0 ((Gv.ble hg Gv.bw : w.heap.size ≤ gb182)); clear HB; have HB := n0_; have BK182 := n1_; have GW182 := n2_; have GE182 := n3_; clear n0_ n1_ n2_ n3_; clear hb hbox hg; obtain ⟨hcz7_0, hcz7_1, hcz7_2, hcz7_3, hcz7_4⟩ := Gv.c5 BK182.out; obtain ⟨hfz7_0, hfz7_1, hfz7_2, hfz7_3, hfz7_4⟩ := Gv.f5 BK182.out) | ((with_reducible refine gate_callee (f := 62) rfl ?_); refine goesL_ (some 5) rfl rfl Try.func62 (by kernel_rfl) rfl #[.agg #[.int .i64 a0_0, .int .i64 a0_1, .int .i64 a0_2, .int .i64 a0_3, .int .i64 a0_4]] rfl Gv.lm ?_; (with_reducible refine (spec_AddrOk.calls a0_0 a0_1 a0_2 a0_3 a0_4 true _ A2.out).mono ?_); rintro e w8 ⟨rfl, hb⟩; refine ⟨_, rfl, ?_⟩; have n0_ := Gv.a0 (Gv.bb BK182.out hb); have n1_ := Gv.a0 (below_step Gv.bw hb); clear BK182; clear HB; have BK182 := n0_; have HB := n1_; clear n0_ n1_; (try clear hb); (try clear hb2); (try clear hk); (try clear hi); obtain ⟨hcz9_0, hcz9_1, hcz9_2, hcz9_3, hcz9_4⟩ := Gv.c5 BK182.out; obtain ⟨hfz9_0, hfz9_1, hfz9_2, hfz9_3, hfz9_4⟩ := Gv.f5 BK182.out) | ((with_reducible refine gate_callee (f := 63) rfl ?_); refine goesL_ (some 12) rfl rfl Try.func63 (by kernel_rfl) rfl #[.int .i64 a0_4] rfl Gv.lm ?_; (with_reducible refine (spec_Put32.calls a0_4 t184 _ A5.out).mono ?_); rintro e w10 ⟨v185, rfl, ho0, hb⟩; refine ⟨_, rfl, ?_⟩; have n0_ := Gv.a0 (Kd.R_lower ho0 (below_size Gv.bw)); have n1_ := Gv.a0 (Gv.bb BK182.out hb); have n2_ := Gv.a0 (below_step Gv.bw hb); clear BK182; clear HB; have HO186 := n0_; have BK182 := n1_; have HB := n2_; clear n0_ n1_ n2_; (try clear hb); (try clear hb2); (try clear hk); (try clear hi); (try clear ho0)))
   go_ret
   exact ⟨_, Gv.rt, Gv.kr HO186.out, Gv.bw⟩
  ·rw [if_neg c4] at H
   have c4b0 : (a0_0 == 4) = false := beq_eq_false_iff_ne.mpr c4
   have c4b1 : (a0_0 != 4) = true := bne_iff_ne.mpr c4
   replace H := Option.bind_eq_some_iff.mp H
   obtain ⟨t187, A110, H⟩ := H
   replace H : ((spec_Put32.f a0_2).bind fun t190 => (if t187.length + t190.length < 140737488355328 then ((some (t187 ++ t190 : List Int)).bind fun y193 => ((spec_Put32.f a0_3).bind fun t196 => (if y193.length + t196.length < 140737488355328 then ((some (y193 ++ t196 : List Int)).bind fun y199 => ((spec_Put32.f a0_4).bind fun t202 => (if y199.length + t202.length < 140737488355328 then (some (y199 ++ t202)) else (none)))) else (none)))) else (none))) = some r := H
   have A11 := Gv.a0 A110
   clear A110
   replace H := Option.bind_eq_some_iff.mp H
   obtain ⟨t190, A120, H⟩ := H
   replace H : (if t187.length + t190.length < 140737488355328 then ((some (t187 ++ t190 : List Int)).bind fun y193 => ((spec_Put32.f a0_3).bind fun t196 => (if y193.length + t196.length < 140737488355328 then ((some (y193 ++ t196 : List Int)).bind fun y199 => ((spec_Put32.f a0_4).bind fun t202 => (if y199.length + t202.length < 140737488355328 then (some (y199 ++ t202)) else (none)))) else (none)))) else (none)) = some r := H
   have A12 := Gv.a0 A120
   clear A120
   by_cases c13 : t187.length + t190.length < 140737488355328
   ·rw [if_pos c13] at H
    have LMc13 := Gv.a0 c13
    clear c13
    obtain ⟨y193, hy193⟩ : ∃ y_ : List Int, y_ = (t187 ++ t190) := ⟨_, rfl⟩
    replace H : ((spec_Put32.f a0_3).bind fun t196 => (if y193.length + t196.length < 140737488355328 then ((some (y193 ++ t196 : List Int)).bind fun y199 => ((spec_Put32.f a0_4).bind fun t202 => (if y199.length + t202.length < 140737488355328 then (some (y199 ++ t202)) else (none)))) else (none))) = some r := by first | (rw [hy193]; with_reducible exact H) | (have H2_ := (Option.bind_some _ _).symm.trans H; rw [hy193]; with_reducible exact H2_) | (have H2_ := (Option.bind_some _ _).symm.trans H; with_reducible exact H2_) | with_reducible exact H | (rw [hy193]; exact H) | exact H
    have Ny193 := Gv.a0 hy193
    clear hy193
    replace H := Option.bind_eq_some_iff.mp H
    obtain ⟨t196, A140, H⟩ := H
    replace H : (if y193.length + t196.length < 140737488355328 then ((some (y193 ++ t196 : List Int)).bind fun y199 => ((spec_Put32.f a0_4).bind fun t202 => (if y199.length + t202.length < 140737488355328 then (some (y199 ++ t202)) else (none)))) else (none)) = some r := H
    have A14 := Gv.a0 A140
    clear A140
    by_cases c15 : y193.length + t196.length < 140737488355328
    ·rw [if_pos c15] at H
     have LMc15 := Gv.a0 c15
     clear c15
     obtain ⟨y199, hy199⟩ : ∃ y_ : List Int, y_ = (y193 ++ t196) := ⟨_, rfl⟩
     replace H : ((spec_Put32.f a0_4).bind fun t202 => (if y199.length + t202.length < 140737488355328 then (some (y199 ++ t202)) else (none))) = some r := by first | (rw [hy199]; with_reducible exact H) | (have H2_ := (Option.bind_some _ _).symm.trans H; rw [hy199]; with_reducible exact H2_) | (have H2_ := (Option.bind_some _ _).symm.trans H; with_reducible exact H2_) | with_reducible exact H | (rw [hy199]; exact H) | exact H
     have Ny199 := Gv.a0 hy199
     clear hy199
     replace H := Option.bind_eq_some_iff.mp H
     obtain ⟨t202, A160, H⟩ := H
     replace H : (if y199.length + t202.length < 140737488355328 then (some (y199 ++ t202)) else (none)) = some r := H
     have A16 := Gv.a0 A160
     clear A160
     by_cases c17 : y199.length + t202.length < 140737488355328
     ·rw [if_pos c17] at H
      have LMc17 := Gv.a0 c17
      clear c17
      obtain ⟨y205, hy205⟩ : ∃ y_ : List Int, y_ = (y199 ++ t202) := ⟨_, rfl⟩
      replace H : (some y205) = some r := by first | (rw [hy205]; with_reducible exact H) | (have H2_ := (Option.bind_some _ _).symm.trans H; rw [hy205]; with_reducible exact H2_) | (have H2_ := (Option.bind_some _ _).symm.trans H; with_reducible exact H2_) | with_reducible exact H | (rw [hy205]; exact H) | exact H
      have Ny205 := Gv.a0 hy205
      clear hy205
      obtain rfl := Option.some.inj H
      go_enter Try.func33, Try.ntmps33
      try go_wp2_with (first | ((with_reducible refine gate_dst (N := 1) rfl ?_); refine box_event ?hg (N := 1) ?hd (cs := #[.int .i64 a0_0, .int .i64 a0_1, .int .i64 a0_2, .int .i64 a0_3, .int .i64 a0_4]) (t := 26) ?hr ?_; (case hd => rfl); (case hg => rfl); (case hr => first | (go_simp; done) | (go_simp; rfl)); intro gb182 hg w18 hbox hb; have n0_ := Gv.a0 (below_step Gv.bw hb); have n1_ := Gv.a0 (hbox); have n2_ := Gv.a0 ((Gv.ble hg Gv.bw : w.heap.size ≤ gb182)); have n3_ := Gv.a0 ((Gv.ble hg Gv.bw : w.heap.size ≤ gb182)); clear HB; have HB := n0_; have BK182 := n1_; have GW182 := n2_; have GE182 := n3_; clear n0_ n1_ n2_ n3_; clear hb hbox hg; obtain ⟨hcz19_0, hcz19_1, hcz19_2, hcz19_3, hcz19_4⟩ := Gv.c5 BK182.out; obtain ⟨hfz19_0, hfz19_1, hfz19_2, hfz19_3, hfz19_4⟩ := Gv.f5 BK182.out) | ((with_reducible refine gate_callee (f := 62) rfl ?_); refine goesL_ (some 5) rfl rfl Try.func62 (by kernel_rfl) rfl #[.agg #[.int .i64 a0_0, .int .i64 a0_1, .int .i64 a0_2, .int .i64 a0_3, .int .i64 a0_4]] rfl Gv.lm ?_; (with_reducible refine (spec_AddrOk.calls a0_0 a0_1 a0_2 a0_3 a0_4 true _ A2.out).mono ?_); rintro e w20 ⟨rfl, hb⟩; refine ⟨_, rfl, ?_⟩; have n0_ := Gv.a0 (Gv.bb BK182.out hb); have n1_ := Gv.a0 (below_step Gv.bw hb); clear BK182; clear HB; have BK182 := n0_; have HB := n1_; clear n0_ n1_; (try clear hb); (try clear hb2); (try clear hk); (try clear hi); obtain ⟨hcz21_0, hcz21_1, hcz21_2, hcz21_3, hcz21_4⟩ := Gv.c5 BK182.out; obtain ⟨hfz21_0, hfz21_1, hfz21_2, hfz21_3, hfz21_4⟩ := Gv.f5 BK182.out))
      have n0_ := Gv.a0 (blk_drew BK182.out)
      have n1_ := Gv.a0 (below_drew1 HB.out)
      clear BK182
      clear HB
      have BK182 := n0_
      have HB := n1_
      clear n0_ n1_
      refine start_ (n := 8) (S := fun w' => w'.cell? ⟨gb182, 0, none⟩ = some (.int .i64 a0_0) ∧ w'.cell? ⟨gb182, 1, none⟩ = some (.int .i64 a0_1) ∧ w'.cell? ⟨gb182, 2, none⟩ = some (.int .i64 a0_2) ∧ w'.cell? ⟨gb182, 3, none⟩ = some (.int .i64 a0_3) ∧ w'.cell? ⟨gb182, 4, none⟩ = some (.int .i64 a0_4)) (ds := []) #[false, false, false, false, false, false, false, false] (by kernel_rfl) rfl rfl ⟨(blk_cell BK182.out 0).trans rfl, (blk_cell BK182.out 1).trans rfl, (blk_cell BK182.out 2).trans rfl, (blk_cell BK182.out 3).trans rfl, (blk_cell BK182.out 4).trans rfl⟩ (fun hHeld => ?_); refine with_tabW spec_AddrBytes.tab5 spec_AddrBytes.bits5 (fun HT_ HW_ => ?_)
      generalize w20.drew = w22 at BK182 HB hHeld ⊢
      refine Gv.pu 0 (some 13) HT_ ?_
      refine Gv.pu 3 (some 16) HT_ ?_
      refine take_ (i := 1) (N := some 14) (v := ?_) (a' := ?_) #[true, true, false, true, false, false, false, false] rfl rfl (take_ofW HT_.out HW_.out (by kernel_rfl)) (fun _ _ _ h => h) (Or.inl ⟨by rfl, ?_⟩) hHeld ?_ ?_
      rotate_left
      ·rintro w' ⟨s0, s1, s2, s3, s4⟩
       go_simp
       with_reducible rfl
      rotate_left
      ·simp only [Act.put, List.setIfInBounds_toArray, List.set_cons_zero, List.set_cons_succ, i64_w, i32_w]
       rfl
      refine take_ (i := 4) (N := some 17) (v := ?_) (a' := ?_) #[true, true, false, true, true, false, false, false] rfl rfl (take_ofW HT_.out HW_.out (by kernel_rfl)) (fun _ _ _ h => h) (Or.inl ⟨by rfl, ?_⟩) hHeld ?_ ?_
      rotate_left
      ·rintro w' ⟨s0, s1, s2, s3, s4⟩
       go_simp
       with_reducible rfl
      rotate_left
      ·simp only [Act.put, List.setIfInBounds_toArray, List.set_cons_zero, List.set_cons_succ, i64_w, i32_w]
       rfl
      refine one_ (i := 2) (N := some 15) #[true, true, true, true, true, false, false, false] rfl rfl (one_of HT_.out (by kernel_rfl)) (by decide) (fun K hK => ?_)
      refine goes_ Try.func63 (by kernel_rfl) rfl #[.int .i64 a0_1] (by rfl) rfl rfl Gv.lm ?_
      with_reducible refine (spec_Put32.calls a0_1 t187 _ A11.out).mono ?_
      rintro e w23 ⟨v188, rfl, ho0, hb⟩
      refine ⟨_, rfl, ?_⟩
      have n0_ := Gv.a0 (Kd.R_lower ho0 (below_size Gv.bw))
      have n1_ := Gv.a0 (Gv.bb BK182.out hb)
      have n2_ := Gv.a0 (below_step Gv.bw hb)
      clear BK182
      clear HB
      have HO189 := n0_
      have BK182 := n1_
      have HB := n2_
      clear n0_ n1_ n2_
      (try clear hb)
      (try clear hb2)
      (try clear hk)
      (try clear hi)
      (try clear ho0)
      refine hK.out _ _ ⟨(blk_cell BK182.out 0).trans rfl, (blk_cell BK182.out 1).trans rfl, (blk_cell BK182.out 2).trans rfl, (blk_cell BK182.out 3).trans rfl, (blk_cell BK182.out 4).trans rfl⟩ (fun hHeld => ?_)
      clear hK K
      refine norm_ (a' := ?_) ?_ ?_
      rotate_left
      ·show Act.put _ (some 15) _ = _
       simp only [Act.put, List.setIfInBounds_toArray, List.set_cons_zero, List.set_cons_succ, i64_w, i32_w]
       rfl
      refine one_ (i := 5) (N := some 18) #[true, true, true, true, true, true, false, false] rfl rfl (one_of HT_.out (by kernel_rfl)) (by decide) (fun K hK => ?_)
      refine goes_ Try.func63 (by kernel_rfl) rfl #[.int .i64 a0_2] (by rfl) rfl rfl Gv.lm ?_
      with_reducible refine (spec_Put32.calls a0_2 t190 _ A12.out).mono ?_
      rintro e w24 ⟨v191, rfl, ho0, hb⟩
      refine ⟨_, rfl, ?_⟩
      have n0_ := Gv.a0 (Kd.R_elder' (Gv.kr HO189.out) (Kd.R_base ho0) hb)
      have n1_ := Gv.a0 (Kd.R_lower (Kd.R_new' ho0 (Kd.R_lt (Gv.kr HO189.out))) (below_size Gv.bw))
      have n2_ := Gv.a0 (Gv.bb BK182.out hb)
      have n3_ := Gv.a0 (below_step Gv.bw hb)
      clear HO189
      clear BK182
      clear HB
      have HO189 := n0_
      have HO192 := n1_
      have BK182 := n2_
      have HB := n3_
      clear n0_ n1_ n2_ n3_
      (try clear hb)
      (try clear hb2)
      (try clear hk)
      (try clear hi)
      (try clear ho0)
      obtain ⟨Ao26, co26, eo26⟩ := Kd.R_slice HO192.out
      (first | subst eo26 | (injection eo26 with f1_ f2_ f3_; have f4_ := f1_.symm; have f5_ := f3_.symm; clear f1_ f2_ f3_; subst f4_; subst f5_))
      refine hK.out _ _ ⟨(blk_cell BK182.out 0).trans rfl, (blk_cell BK182.out 1).trans rfl, (blk_cell BK182.out 2).trans rfl, (blk_cell BK182.out 3).trans rfl, (blk_cell BK182.out 4).trans rfl⟩ (fun hHeld => ?_)
      clear hK K
      refine norm_ (a' := ?_) ?_ ?_
      rotate_left
      ·show Act.put _ (some 18) _ = _
       simp only [Act.put, List.setIfInBounds_toArray, List.set_cons_zero, List.set_cons_succ, i64_w, i32_w]
       rfl
      refine one_ (i := 6) (N := some 19) #[true, true, true, true, true, true, true, false] rfl rfl (one_of HT_.out (by kernel_rfl)) (by decide) (fun K hK => ?_)
      refine Kd.R_append_rows_step (Kd.int .u8) (w0 := w) w.heap.size (by rfl) (.tmp 15) (.tmp 18) 62 5 (.int .u8 0) 1 rfl Try.underlying62 info5 rfl (by decide) (by omega) v188 t187 t190 _ _ _ (fun k_ => some k_ ≠ (.slice Ao26 t190.length co26 : Value).ownBlock) (fun _ => False) rfl rfl ?aO ?aR (fun _ _ h => h) (fun _ h => h.elim) ?aF ?aB ?aS ?aL ?_
      (case aR => repeat (first | exact (Kd.R_reads' HO192.out).2.2 | (with_reducible refine Kd.C_alloc ?_ _) | (with_reducible refine Kd.C_drewN ?_ _) | (with_reducible refine Kd.C_drew ?_)))
      (case aB => exact Gv.bw)
      (case aF => exact (fun k_ hk => Kd.fresh' (Kd.R_lt (Gv.kr HO192.out)) k_ hk))
      (case aO => exact (by (with_reducible repeat (first | apply Kd.R_alloc | apply Kd.R_drewN | apply Kd.R_drew)); exact Kd.R_mono HO189.out (fun _ hk => hk.2)))
      (case aS => exact (below_size Gv.bw))
      (case aL => have := LMc13.out; omega)
      intro v194 w25 ho hb hg hat
      rw [← Ny193.out] at ho
      have n0_ := Gv.a0 (blk_grown (g := gb182) (o := .cells #[.int .i64 a0_0, .int .i64 a0_1, .int .i64 a0_2, .int .i64 a0_3, .int .i64 a0_4] 26 (0, 0)) Gv.bk hg (Kd.R_ne HO189.out BK182.out (by decide)))
      have n1_ := Gv.a0 (Kd.R_after (ok := (fun _ => True)) (Gv.kr HO192.out) hg hat)
      have n2_ := Gv.a0 (hb)
      have n3_ := Gv.a0 (ho)
      clear BK182
      clear HO192
      clear HB
      clear HO189
      have BK182 := n0_
      have HO192 := n1_
      have HB := n2_
      have HO195 := n3_
      clear n0_ n1_ n2_ n3_
      clear ho hb hg hat
      refine hK.out _ _ ⟨(blk_cell BK182.out 0).trans rfl, (blk_cell BK182.out 1).trans rfl, (blk_cell BK182.out 2).trans rfl, (blk_cell BK182.out 3).trans rfl, (blk_cell BK182.out 4).trans rfl⟩ (fun hHeld => ?_)
      clear hK K
      refine norm_ (a' := ?_) ?_ ?_
      rotate_left
      ·show Act.put _ (some 19) _ = _
       simp only [Act.put, List.setIfInBounds_toArray, List.set_cons_zero, List.set_cons_succ, i64_w, i32_w]
       rfl
      refine Gv.pu 7 (some 3) HT_ ?_
      refine done_ (done_of HT_.out (by kernel_rfl)) ?_
      try go_wp2
      have n0_ := Gv.a0 (Kd.R_drew HO192.out)
      have n1_ := Gv.a0 (Kd.R_drew HO195.out)
      have n2_ := Gv.a0 (blk_drew BK182.out)
      have n3_ := Gv.a0 (below_drew1 HB.out)
      clear HO192
      clear HO195
      clear BK182
      clear HB
      have HO192 := n0_
      have HO195 := n1_
      have BK182 := n2_
      have HB := n3_
      clear n0_ n1_ n2_ n3_
      refine start_ (n := 10) (S := fun w' => w'.cell? ⟨gb182, 0, none⟩ = some (.int .i64 a0_0) ∧ w'.cell? ⟨gb182, 1, none⟩ = some (.int .i64 a0_1) ∧ w'.cell? ⟨gb182, 2, none⟩ = some (.int .i64 a0_2) ∧ w'.cell? ⟨gb182, 3, none⟩ = some (.int .i64 a0_3) ∧ w'.cell? ⟨gb182, 4, none⟩ = some (.int .i64 a0_4)) (ds := []) #[false, false, false, false, false, false, false, false, false, false] (by kernel_rfl) rfl rfl ⟨(blk_cell BK182.out 0).trans rfl, (blk_cell BK182.out 1).trans rfl, (blk_cell BK182.out 2).trans rfl, (blk_cell BK182.out 3).trans rfl, (blk_cell BK182.out 4).trans rfl⟩ (fun hHeld => ?_); refine with_tabW spec_AddrBytes.tab6 spec_AddrBytes.bits6 (fun HT_ HW_ => ?_)
      generalize w25.drew = w27 at HO192 HO195 BK182 HB hHeld ⊢
      refine Gv.pu 0 (some 20) HT_ ?_
      refine Gv.pu 1 (some 21) HT_ ?_
      refine Gv.pu 5 (some 25) HT_ ?_
      refine take_ (i := 2) (N := some 22) (v := ?_) (a' := ?_) #[true, true, true, false, false, true, false, false, false, false] rfl rfl (take_ofW HT_.out HW_.out (by kernel_rfl)) (fun _ _ _ h => h) (Or.inl ⟨by rfl, ?_⟩) hHeld ?_ ?_
      rotate_left
      ·rintro w' ⟨s0, s1, s2, s3, s4⟩
       go_simp
       with_reducible rfl
      rotate_left
      ·simp only [Act.put, List.setIfInBounds_toArray, List.set_cons_zero, List.set_cons_succ, i64_w, i32_w]
       rfl
      refine take_ (i := 6) (N := some 26) (v := ?_) (a' := ?_) #[true, true, true, false, false, true, true, false, false, false] rfl rfl (take_ofW HT_.out HW_.out (by kernel_rfl)) (fun _ _ _ h => h) (Or.inl ⟨by rfl, ?_⟩) hHeld ?_ ?_
      rotate_left
      ·rintro w' ⟨s0, s1, s2, s3, s4⟩
       go_simp
       with_reducible rfl
      rotate_left
      ·simp only [Act.put, List.setIfInBounds_toArray, List.set_cons_zero, List.set_cons_succ, i64_w, i32_w]
       rfl
      refine one_ (i := 3) (N := some 23) #[true, true, true, true, false, true, true, false, false, false] rfl rfl (one_of HT_.out (by kernel_rfl)) (by decide) (fun K hK => ?_)
      refine goes_ Try.func63 (by kernel_rfl) rfl #[.int .i64 a0_3] (by rfl) rfl rfl Gv.lm ?_
      with_reducible refine (spec_Put32.calls a0_3 t196 _ A14.out).mono ?_
      rintro e w28 ⟨v197, rfl, ho0, hb⟩
      refine ⟨_, rfl, ?_⟩
      have n0_ := Gv.a0 (Kd.R_elder' (Gv.kr HO192.out) (Kd.R_base ho0) hb)
      have n1_ := Gv.a0 (Kd.R_elder' (Gv.kr HO195.out) (Kd.R_base ho0) hb)
      have n2_ := Gv.a0 (Kd.R_lower (Kd.R_new' (Kd.R_new' ho0 (Kd.R_lt (Gv.kr HO192.out))) (Kd.R_lt (Gv.kr HO195.out))) (below_size Gv.bw))
      have n3_ := Gv.a0 (Gv.bb BK182.out hb)
      have n4_ := Gv.a0 (below_step Gv.bw hb)
      clear HO192
      clear HO195
      clear BK182
      clear HB
      have HO192 := n0_
      have HO195 := n1_
      have HO198 := n2_
      have BK182 := n3_
      have HB := n4_
      clear n0_ n1_ n2_ n3_ n4_
      (try clear hb)
      (try clear hb2)
      (try clear hk)
      (try clear hi)
      (try clear ho0)
      obtain ⟨Ao30, co30, eo30⟩ := Kd.R_slice HO198.out
      (first | subst eo30 | (injection eo30 with f1_ f2_ f3_; have f4_ := f1_.symm; have f5_ := f3_.symm; clear f1_ f2_ f3_; subst f4_; subst f5_))
      refine hK.out _ _ ⟨(blk_cell BK182.out 0).trans rfl, (blk_cell BK182.out 1).trans rfl, (blk_cell BK182.out 2).trans rfl, (blk_cell BK182.out 3).trans rfl, (blk_cell BK182.out 4).trans rfl⟩ (fun hHeld => ?_)
      clear hK K
      refine norm_ (a' := ?_) ?_ ?_
      rotate_left
      ·show Act.put _ (some 23) _ = _
       simp only [Act.put, List.setIfInBounds_toArray, List.set_cons_zero, List.set_cons_succ, i64_w, i32_w]
       rfl
      refine one_ (i := 4) (N := some 24) #[true, true, true, true, true, true, true, false, false, false] rfl rfl (one_of HT_.out (by kernel_rfl)) (by decide) (fun K hK => ?_)
      refine Kd.R_append_rows_step (Kd.int .u8) (w0 := w) w.heap.size (by rfl) (.tmp 20) (.tmp 23) 62 5 (.int .u8 0) 1 rfl Try.underlying62 info5 rfl (by decide) (by omega) v194 y193 t196 _ _ _ (fun k_ => some k_ ≠ (.slice Ao26 t190.length co26 : Value).ownBlock ∧ some k_ ≠ (.slice Ao30 t196.length co30 : Value).ownBlock) (fun _ => False) rfl rfl ?aO ?aR (fun _ _ h => h) (fun _ h => h.elim) ?aF ?aB ?aS ?aL ?_
      (case aR => repeat (first | exact (Kd.R_reads' HO198.out).2.2 | (with_reducible refine Kd.C_alloc ?_ _) | (with_reducible refine Kd.C_drewN ?_ _) | (with_reducible refine Kd.C_drew ?_)))
      (case aB => exact Gv.bw)
      (case aF => exact (fun k_ hk => ⟨Kd.fresh' (Kd.R_lt (Gv.kr HO192.out)) k_ hk, Kd.fresh' (Kd.R_lt (Gv.kr HO198.out)) k_ hk⟩))
      (case aO => exact (Gv.kr HO195.out))
      (case aS => exact (below_size Gv.bw))
      (case aL => have := LMc15.out; omega)
      intro v200 w29 ho hb hg hat
      rw [← Ny199.out] at ho
      have n0_ := Gv.a0 (blk_grown (g := gb182) (o := .cells #[.int .i64 a0_0, .int .i64 a0_1, .int .i64 a0_2, .int .i64 a0_3, .int .i64 a0_4] 26 (0, 0)) Gv.bk hg (Kd.R_ne HO195.out BK182.out (by decide)))
      have n1_ := Gv.a0 (Kd.R_after (ok := (fun k_ => some k_ ≠ (.slice Ao30 t196.length co30 : Value).ownBlock)) (by (with_reducible repeat (first | apply Kd.R_alloc | apply Kd.R_drewN | apply Kd.R_drew)); exact Kd.R_mono HO192.out (fun _ hk => ⟨hk.2, hk.1.2⟩)) hg hat)
      have n2_ := Gv.a0 (Kd.R_after (ok := (fun k_ => some k_ ≠ (.slice Ao26 t190.length co26 : Value).ownBlock)) (by (with_reducible repeat (first | apply Kd.R_alloc | apply Kd.R_drewN | apply Kd.R_drew)); exact Kd.R_mono HO198.out (fun _ hk => ⟨hk.1.2, hk.2⟩)) hg hat)
      have n3_ := Gv.a0 (hb)
      have n4_ := Gv.a0 (ho)
      clear BK182
      clear HO192
      clear HO198
      clear HB
      clear HO195
      have BK182 := n0_
      have HO192 := n1_
      have HO198 := n2_
      have HB := n3_
      have HO201 := n4_
      clear n0_ n1_ n2_ n3_ n4_
      clear ho hb hg hat
      refine hK.out _ _ ⟨(blk_cell BK182.out 0).trans rfl, (blk_cell BK182.out 1).trans rfl, (blk_cell BK182.out 2).trans rfl, (blk_cell BK182.out 3).trans rfl, (blk_cell BK182.out 4).trans rfl⟩ (fun hHeld => ?_)
      clear hK K
      refine norm_ (a' := ?_) ?_ ?_
      rotate_left
      ·show Act.put _ (some 24) _ = _
       simp only [Act.put, List.setIfInBounds_toArray, List.set_cons_zero, List.set_cons_succ, i64_w, i32_w]
       rfl
      refine one_ (i := 7) (N := some 27) #[true, true, true, true, true, true, true, true, false, false] rfl rfl (one_of HT_.out (by kernel_rfl)) (by decide) (fun K hK => ?_)
      refine goes_ Try.func63 (by kernel_rfl) rfl #[.int .i64 a0_4] (by rfl) rfl rfl Gv.lm ?_
      with_reducible refine (spec_Put32.calls a0_4 t202 _ A16.out).mono ?_
      rintro e w31 ⟨v203, rfl, ho0, hb⟩
      refine ⟨_, rfl, ?_⟩
      have n0_ := Gv.a0 (Kd.R_elder' (Gv.kr HO192.out) (Kd.R_base ho0) hb)
      have n1_ := Gv.a0 (Kd.R_elder' (Gv.kr HO198.out) (Kd.R_base ho0) hb)
      have n2_ := Gv.a0 (Kd.R_elder' (Gv.kr HO201.out) (Kd.R_base ho0) hb)
      have n3_ := Gv.a0 (Kd.R_lower (Kd.R_new' (Kd.R_new' (Kd.R_new' ho0 (Kd.R_lt (Gv.kr HO192.out))) (Kd.R_lt (Gv.kr HO198.out))) (Kd.R_lt (Gv.kr HO201.out))) (below_size Gv.bw))
      have n4_ := Gv.a0 (Gv.bb BK182.out hb)
      have n5_ := Gv.a0 (below_step Gv.bw hb)
      clear HO192
      clear HO198
      clear HO201
      clear BK182
      clear HB
      have HO192 := n0_
      have HO198 := n1_
      have HO201 := n2_
      have HO204 := n3_
      have BK182 := n4_
      have HB := n5_
      clear n0_ n1_ n2_ n3_ n4_ n5_
      (try clear hb)
      (try clear hb2)
      (try clear hk)
      (try clear hi)
      (try clear ho0)
      obtain ⟨Ao33, co33, eo33⟩ := Kd.R_slice HO204.out
      (first | subst eo33 | (injection eo33 with f1_ f2_ f3_; have f4_ := f1_.symm; have f5_ := f3_.symm; clear f1_ f2_ f3_; subst f4_; subst f5_))
      refine hK.out _ _ ⟨(blk_cell BK182.out 0).trans rfl, (blk_cell BK182.out 1).trans rfl, (blk_cell BK182.out 2).trans rfl, (blk_cell BK182.out 3).trans rfl, (blk_cell BK182.out 4).trans rfl⟩ (fun hHeld => ?_)
      clear hK K
      refine norm_ (a' := ?_) ?_ ?_
      rotate_left
      ·show Act.put _ (some 27) _ = _
       simp only [Act.put, List.setIfInBounds_toArray, List.set_cons_zero, List.set_cons_succ, i64_w, i32_w]
       rfl
      refine one_ (i := 8) (N := some 28) #[true, true, true, true, true, true, true, true, true, false] rfl rfl (one_of HT_.out (by kernel_rfl)) (by decide) (fun K hK => ?_)
      refine Kd.R_append_rows_step (Kd.int .u8) (w0 := w) w.heap.size (by rfl) (.tmp 24) (.tmp 27) 62 5 (.int .u8 0) 1 rfl Try.underlying62 info5 rfl (by decide) (by omega) v200 y199 t202 _ _ _ (fun k_ => some k_ ≠ (.slice Ao26 t190.length co26 : Value).ownBlock ∧ some k_ ≠ (.slice Ao30 t196.length co30 : Value).ownBlock ∧ some k_ ≠ (.slice Ao33 t202.length co33 : Value).ownBlock) (fun _ => False) rfl rfl ?aO ?aR (fun _ _ h => h) (fun _ h => h.elim) ?aF ?aB ?aS ?aL ?_
      (case aR => repeat (first | exact (Kd.R_reads' HO204.out).2.2 | (with_reducible refine Kd.C_alloc ?_ _) | (with_reducible refine Kd.C_drewN ?_ _) | (with_reducible refine Kd.C_drew ?_)))
      (case aB => exact Gv.bw)
      (case aF => exact (fun k_ hk => ⟨Kd.fresh' (Kd.R_lt (Gv.kr HO192.out)) k_ hk, Kd.fresh' (Kd.R_lt (Gv.kr HO198.out)) k_ hk, Kd.fresh' (Kd.R_lt (Gv.kr HO204.out)) k_ hk⟩))
      (case aO => exact (by (with_reducible repeat (first | apply Kd.R_alloc | apply Kd.R_drewN | apply Kd.R_drew)); exact Kd.R_mono HO201.out (fun _ hk => ⟨hk.1.1, ⟨hk.1.2, hk.2⟩⟩)))
      (case aS => exact (below_size Gv.bw))
      (case aL => have := LMc17.out; omega)
      intro v206 w32 ho hb hg hat
      rw [← Ny205.out] at ho
      have n0_ := Gv.a0 (blk_grown (g := gb182) (o := .cells #[.int .i64 a0_0, .int .i64 a0_1, .int .i64 a0_2, .int .i64 a0_3, .int .i64 a0_4] 26 (0, 0)) Gv.bk hg (Kd.R_ne HO201.out BK182.out (by decide)))
      have n1_ := Gv.a0 (Kd.R_after (ok := (fun k_ => some k_ ≠ (.slice Ao30 t196.length co30 : Value).ownBlock ∧ some k_ ≠ (.slice Ao33 t202.length co33 : Value).ownBlock)) (by (with_reducible repeat (first | apply Kd.R_alloc | apply Kd.R_drewN | apply Kd.R_drew)); exact Kd.R_mono HO192.out (fun _ hk => ⟨⟨hk.1.1, hk.2⟩, hk.1.2⟩)) hg hat)
      have n2_ := Gv.a0 (Kd.R_after (ok := (fun k_ => some k_ ≠ (.slice Ao26 t190.length co26 : Value).ownBlock ∧ some k_ ≠ (.slice Ao33 t202.length co33 : Value).ownBlock)) (by (with_reducible repeat (first | apply Kd.R_alloc | apply Kd.R_drewN | apply Kd.R_drew)); exact Kd.R_mono HO198.out (fun _ hk => ⟨⟨hk.1.1, hk.2⟩, hk.1.2⟩)) hg hat)
      have n3_ := Gv.a0 (Kd.R_after (ok := (fun k_ => some k_ ≠ (.slice Ao26 t190.length co26 : Value).ownBlock ∧ some k_ ≠ (.slice Ao30 t196.length co30 : Value).ownBlock)) (by (with_reducible repeat (first | apply Kd.R_alloc | apply Kd.R_drewN | apply Kd.R_drew)); exact Kd.R_mono HO204.out (fun _ hk => ⟨⟨hk.1.1.2, hk.1.2⟩, hk.2⟩)) hg hat)
      have n4_ := Gv.a0 (hb)
      have n5_ := Gv.a0 (ho)
      clear BK182
      clear HO192
      clear HO198
      clear HO204
      clear HB
      clear HO201
      have BK182 := n0_
      have HO192 := n1_
      have HO198 := n2_
      have HO204 := n3_
      have HB := n4_
      have HO207 := n5_
      clear n0_ n1_ n2_ n3_ n4_ n5_
      clear ho hb hg hat
      refine hK.out _ _ ⟨(blk_cell BK182.out 0).trans rfl, (blk_cell BK182.out 1).trans rfl, (blk_cell BK182.out 2).trans rfl, (blk_cell BK182.out 3).trans rfl, (blk_cell BK182.out 4).trans rfl⟩ (fun hHeld => ?_)
      clear hK K
      refine norm_ (a' := ?_) ?_ ?_
      rotate_left
      ·show Act.put _ (some 28) _ = _
       simp only [Act.put, List.setIfInBounds_toArray, List.set_cons_zero, List.set_cons_succ, i64_w, i32_w]
       rfl
      refine Gv.pu 9 (some 2) HT_ ?_
      refine done_ (done_of HT_.out (by kernel_rfl)) ?_
      try go_wp2
      go_ret
      exact ⟨_, Gv.rt, by (with_reducible repeat (first | apply Kd.R_alloc | apply Kd.R_drewN | apply Kd.R_drew)); exact Kd.R_mono HO207.out (fun _ hk => trivial), Gv.bw⟩
     ·rw [if_neg c17] at H
      exact absurd H (by simp)
    ·rw [if_neg c15] at H
     exact absurd H (by simp)
   ·rw [if_neg c13] at H
    exact absurd H (by simp)
 ·replace c3 := Bool.eq_false_iff.mpr c3
  subst c3
  have H1 : (some ([] : List Int)) = some r := by rw [if_neg (show ¬ (false = true) by decide)] at H; exact H
  clear H
  have H := H1
  clear H1
  obtain rfl := Option.some.inj H
  go_enter Try.func33, Try.ntmps33
  go_wp2_with (first | ((with_reducible refine gate_dst (N := 1) rfl ?_); refine box_event ?hg (N := 1) ?hd (cs := #[.int .i64 a0_0, .int .i64 a0_1, .int .i64 a0_2, .int .i64 a0_3, .int .i64 a0_4]) (t := 26) ?hr ?_; (case hd => rfl); (case hg => rfl); (case hr => first | (go_simp; done) | (go_simp; rfl)); intro gb182 hg w34 hbox hb; have n0_ := Gv.a0 (below_step Gv.bw hb); have n1_ := Gv.a0 (hbox); have n2_ := Gv.a0 ((Gv.ble hg Gv.bw : w.heap.size ≤ gb182)); have n3_ := Gv.a0 ((Gv.ble hg Gv.bw : w.heap.size ≤ gb182)); clear HB; have HB := n0_; have BK182 := n1_; have GW182 := n2_; have GE182 := n3_; clear n0_ n1_ n2_ n3_; clear hb hbox hg; obtain ⟨hcz35_0, hcz35_1, hcz35_2, hcz35_3, hcz35_4⟩ := Gv.c5 BK182.out; obtain ⟨hfz35_0, hfz35_1, hfz35_2, hfz35_3, hfz35_4⟩ := Gv.f5 BK182.out) | ((with_reducible refine gate_callee (f := 62) rfl ?_); refine goesL_ (some 5) rfl rfl Try.func62 (by kernel_rfl) rfl #[.agg #[.int .i64 a0_0, .int .i64 a0_1, .int .i64 a0_2, .int .i64 a0_3, .int .i64 a0_4]] rfl Gv.lm ?_; (with_reducible refine (spec_AddrOk.calls a0_0 a0_1 a0_2 a0_3 a0_4 false _ A2.out).mono ?_); rintro e w36 ⟨rfl, hb⟩; refine ⟨_, rfl, ?_⟩; have n0_ := Gv.a0 (Gv.bb BK182.out hb); have n1_ := Gv.a0 (below_step Gv.bw hb); clear BK182; clear HB; have BK182 := n0_; have HB := n1_; clear n0_ n1_; (try clear hb); (try clear hb2); (try clear hk); (try clear hi)))
  go_ret
  exact ⟨_, Gv.rt, by first | exact Kd.R_nil _ _ _ _ _ | exact Kd.N_nil _ _ _ _ _ | exact Kd.V_nil _ _ _ _ _ | exact Kd.Q_nil _ _ _ _ _ | exact Kd.S_nil _ _ _ _ _, Gv.bw⟩

/-! ### spec_Be32: function 65 -/
mutual
def spec_Be32.j0 : Nat → List Int → Int → Bool → Option (Int × Bool)
 | 0, _, _, _ => none
 | k + 1, x0, x1, x16 => if x16 = true then (some (0, false)) else (spec_Be32.l0 k x0 x1 0 0)
def spec_Be32.l0 : Nat → List Int → Int → Int → Int → Option (Int × Bool)
 | 0, _, _, _, _ => none
 | k + 1, x0, x1, x6, x7 => if x7 < 4 then (if 0 ≤ (wrap64 (x1 + x7)) then (if (wrap64 (x1 + x7)) < (x0.length : Int) then (spec_Be32.l0 k x0 x1 (wrap64 ((wrap64 (256 * x6)) + (wrap64 (rd x0 (wrap64 (x1 + x7)))))) (wrap64 (x7 + 1))) else (none)) else (none)) else (some (x6, true))
end
def spec_Be32.f (k : Nat) (l0 : List Int) (a1 : Int) : Option (Int × Bool) := if a1 < 0 then (spec_Be32.j0 k l0 a1 true) else (spec_Be32.j0 k l0 a1 (decide (a1 > (wrap64 ((l0.length : Int) - 4)))))
theorem spec_Be32.mono_l : ∀ k, (∀ y0 y1 y2, LeO (spec_Be32.j0 k y0 y1 y2) (spec_Be32.j0 (k + 1) y0 y1 y2)) ∧ (∀ y0 y1 y2 y3, LeO (spec_Be32.l0 k y0 y1 y2 y3) (spec_Be32.l0 (k + 1) y0 y1 y2 y3))
 | 0 => ⟨fun _ _ _ r h => by simp [spec_Be32.j0] at h, fun _ _ _ _ r h => by simp [spec_Be32.l0] at h⟩
 | k + 1 => by
  obtain ⟨ih0, ih1⟩ := spec_Be32.mono_l k
  refine ⟨?_, ?_⟩
  ·intro y0 y1 y2
   unfold spec_Be32.j0
   repeat' first
   | (with_reducible exact ih0 _ _ _)
   | (with_reducible exact ih1 _ _ _ _)
   | (with_reducible exact LeO.refl _)
   | (with_reducible exact LeO.none _)
   | (with_reducible refine LeO.ite ?_ ?_)
   | (with_reducible refine LeO.bind ?_ (fun _ => ?_))
   | exact ih0 _ _ _
   | exact ih1 _ _ _ _
   | exact LeO.none _
   | refine LeO.ite ?_ ?_
   | refine LeO.bind ?_ (fun _ => ?_)
  ·intro y0 y1 y2 y3
   unfold spec_Be32.l0
   repeat' first
   | (with_reducible exact ih0 _ _ _)
   | (with_reducible exact ih1 _ _ _ _)
   | (with_reducible exact LeO.refl _)
   | (with_reducible exact LeO.none _)
   | (with_reducible refine LeO.ite ?_ ?_)
   | (with_reducible refine LeO.bind ?_ (fun _ => ?_))
   | exact ih0 _ _ _
   | exact ih1 _ _ _ _
   | exact LeO.none _
   | refine LeO.ite ?_ ?_
   | refine LeO.bind ?_ (fun _ => ?_)
theorem spec_Be32.mono : ∀ a0 a1 k, LeO (spec_Be32.f k a0 a1) (spec_Be32.f (k + 1) a0 a1) := by
 intro a0 a1 k
 obtain ⟨ih0, ih1⟩ := spec_Be32.mono_l k
 unfold spec_Be32.f
 repeat' first
   | (with_reducible exact ih0 _ _ _)
   | (with_reducible exact ih1 _ _ _ _)
   | (with_reducible exact LeO.refl _)
   | (with_reducible exact LeO.none _)
   | (with_reducible refine LeO.ite ?_ ?_)
   | (with_reducible refine LeO.bind ?_ (fun _ => ?_))
   | exact ih0 _ _ _
   | exact ih1 _ _ _ _
   | exact LeO.none _
   | refine LeO.ite ?_ ?_
   | refine LeO.bind ?_ (fun _ => ?_)
set_option maxHeartbeats 8000000 in
set_option maxRecDepth 100000 in
theorem spec_Be32.calls (k : Nat) (A0 : Option Addr) (c0 : Nat) (l0 : List Int) (a1 : Int) (r1 : Int) (r2 : Bool) (w : World) (hr0 : Kd.C (Kd.int .u8) w A0 l0.length l0) (hc0 : l0.length ≤ c0) (h : spec_Be32.f k l0 a1 = some (r1, r2)) :
  Calls Try.prog 65 #[.slice A0 l0.length c0, .int .i64 a1] w fun e w' => e = .returned (.tuple #[.int .i64 r1, .bool r2]) ∧ Drawn0 w w' := by
 have HR0 := Gv.a0 hr0
 have HC0 := Gv.a0 hc0
 clear hr0 hc0
 have H : (if a1 < 0 then (spec_Be32.j0 k l0 a1 true) else (spec_Be32.j0 k l0 a1 (decide (a1 > (wrap64 ((l0.length : Int) - 4)))))) = some (r1, r2) := h
 clear h
 have HC3 := Gv.a0 H
 clear H
 go_enter Try.func65, Try.ntmps65
 go_upto_region 1 with (fail)
 go_cut [16] (fun v16 wc => ∃ (kq : Nat) (x16_2 : Bool), v16 = .bool x16_2 ∧ Aside0 (spec_Be32.j0 kq l0 a1 x16_2 = some (r1, r2)) ∧ Aside0 (kq ≤ k) ∧ Drawn0 w wc)
 case first =>
  have H := HC3.out
  clear HC3
  by_cases c4 : a1 < 0
  ·rw [if_pos c4] at H
   have c4b0 : decide (a1 < 0) = true := decide_eq_true c4
   clear c4
   (first | rw [c4b0] | (simp only [i64_w, i32_w]; rw [c4b0]) | skip)
   have H' := Gv.a0 H
   clear H
   go_wp2
   go_meet
   case rel => exact ⟨_, (true), Gv.rq, H', ⟨by first | omega | exact Nat.le_refl _⟩, by repeat (first | exact Drawn0.refl _ | apply Drawn0.step)⟩
  ·rw [if_neg c4] at H
   have c4b0 : decide (a1 < 0) = false := decide_eq_false c4
   clear c4
   (first | rw [c4b0] | (simp only [i64_w, i32_w]; rw [c4b0]) | skip)
   have H' := Gv.a0 H
   clear H
   go_wp2
   go_meet
   case rel => exact ⟨_, (decide (a1 > (wrap64 ((l0.length : Int) - 4)))), Gv.rq, H', ⟨by first | omega | exact Nat.le_refl _⟩, by repeat (first | exact Drawn0.refl _ | apply Drawn0.step)⟩
 case rest =>
  clear HC3
  try clear p2
  try clear c4
  try clear c4b0
  obtain ⟨kq, x16_2, rfl, HA, HJ2, ⟨mc2, rfl⟩⟩ := hcut
  cases kq with
  | zero => exact absurd HA.out (by simp [spec_Be32.j0])
  | succ kj2 =>
   have H := HA.out
   clear HA
   simp only [spec_Be32.j0] at H
   by_cases c5 : x16_2 = true
   ·subst c5
    have H1 : (some (0, false)) = some (r1, r2) := by rw [if_pos rfl] at H; exact H
    clear H
    have H := H1
    clear H1
    simp only [Option.some.injEq, Prod.mk.injEq] at H
    obtain ⟨rfl, rfl⟩ := H
    go_wp2
    go_ret2
    exact ⟨by first | rfl | (simp; done) | (simp [Int.tdiv_eq_ediv_of_nonneg]; done) | (simp [*]; done), by repeat (first | exact Drawn0.refl _ | apply Drawn0.step)⟩
   ·replace c5 := Bool.eq_false_iff.mpr c5
    subst c5
    have H1 : (spec_Be32.l0 kj2 l0 a1 0 0) = some (r1, r2) := by rw [if_neg (show ¬ (false = true) by decide)] at H; exact H
    clear H
    have H := H1
    clear H1
    have H' := Gv.a0 H
    clear H
    go_wp2
    go_loopg [6, 7] kj2 (fun kq v6 v7 w' => ∃ (x6_2 : Int) (x7_2 : Int), v6 = .int .i64 x6_2 ∧ v7 = .int .i64 x7_2 ∧ Aside0 (spec_Be32.l0 kq l0 a1 x6_2 x7_2 = some (r1, r2)) ∧ Aside0 (kq ≤ kj2) ∧ Drawn0 w w')
    case atStart => exact ⟨(0), (0), Gv.rq, Gv.rq, H', ⟨Nat.le_refl _⟩, by repeat (first | exact Drawn0.refl _ | apply Drawn0.step)⟩
    case round =>
     clear H'
     try clear c2
     try clear p2
     try clear c4
     try clear c4b0
     try clear c5
     try clear p2
     obtain ⟨x6_2, x7_2, rfl, rfl, HA, HK2, ⟨m2, rfl⟩⟩ := hrel
     cases gk with
     | zero => exact absurd HA.out (by simp [spec_Be32.l0])
     | succ k2 =>
      have H := HA.out
      clear HA
      simp only [spec_Be32.l0] at H
      by_cases c6 : x7_2 < 4
      ·rw [if_pos c6] at H
       have c6b0 : decide (x7_2 < 4) = true := decide_eq_true c6
       clear c6
       obtain ⟨ji7, hji7⟩ : ∃ j_ : Int, (wrap64 (a1 + x7_2)) = j_ := ⟨_, rfl⟩
       replace H : (if 0 ≤ (ji7) then (if (ji7) < (l0.length : Int) then (spec_Be32.l0 k2 l0 a1 (wrap64 ((wrap64 (256 * x6_2)) + (wrap64 (rd l0 (ji7))))) (wrap64 (x7_2 + 1))) else (none)) else (none)) = some (r1, r2) := by first | (rw [hji7] at H; exact H) | (simp only [hji7] at H ⊢; exact H)
       have hji7w : (IntKind.i64.wrap (a1 + x7_2)) = ji7 := (i64_w _).trans hji7
       by_cases c8 : 0 ≤ (ji7)
       ·rw [if_pos c8] at H
        have c8b0 : decide (0 ≤ (ji7)) = true := decide_eq_true c8
        clear c8
        by_cases c9 : (ji7) < (l0.length : Int)
        ·rw [if_pos c9] at H
         have c9b0 : decide ((ji7) < (l0.length : Int)) = true := decide_eq_true c9
         clear c9
         have H' := Gv.a0 H
         clear H
         have p208 : 0 ≤ ((ji7) : Int) := of_decide_eq_true (by first | (with_reducible assumption) | assumption)
         have q208 : (ji7) < (l0.length : Int) := of_decide_eq_true (by first | (with_reducible assumption) | assumption)
         obtain ⟨ad208, e208, hx208_0⟩ := Kd.at_int HR0.out (ji7) p208 q208
         cases e208
         replace p208 := eq_true p208
         replace q208 := eq_true q208
         go_wp2
         go_roundg k2
         case measure => have := HJ2.out; have := HK2.out; omega
         case rel => exact ⟨(wrap64 ((wrap64 (256 * x6_2)) + (wrap64 (rd l0 (ji7))))), (wrap64 (x7_2 + 1)), (by first | rfl | (simp; done) | (simp only [← hji7] <;> (first | rfl | simp)) | (simp [*]; done)), Gv.rq, H', ⟨by have := HJ2.out; have := HK2.out; omega⟩, by repeat (first | exact Drawn0.refl _ | apply Drawn0.step)⟩
        ·rw [if_neg c9] at H
         exact absurd H (by simp)
       ·rw [if_neg c8] at H
        exact absurd H (by simp)
      ·rw [if_neg c6] at H
       have c6b0 : decide (x7_2 < 4) = false := decide_eq_false c6
       clear c6
       simp only [Option.some.injEq, Prod.mk.injEq] at H
       obtain ⟨rfl, rfl⟩ := H
       go_wp2
       go_ret2
       exact ⟨by first | rfl | (simp; done) | (simp [Int.tdiv_eq_ediv_of_nonneg]; done) | (simp [*]; done), by repeat (first | exact Drawn0.refl _ | apply Drawn0.step)⟩

/-! ### spec_AddrOf: function 35 -/
def spec_AddrOf.f (k : Nat) (l0 : List Int) : Option (Int × Int × Int × Int × Int × Bool) := if (l0.length : Int) = 4 then ((spec_Be32.f k l0 0).bind fun bt210 => (some (4, 0, 0, 0, bt210.1, true))) else (if (l0.length : Int) = 16 then ((spec_Be32.f k l0 0).bind fun bt212 => ((spec_Be32.f k l0 4).bind fun bt214 => ((spec_Be32.f k l0 8).bind fun bt216 => ((spec_Be32.f k l0 12).bind fun bt218 => (some (6, bt212.1, bt214.1, bt216.1, bt218.1, true)))))) else (some (0, 0, 0, 0, 0, false)))
theorem spec_AddrOf.mono : ∀ a0 k, LeO (spec_AddrOf.f k a0) (spec_AddrOf.f (k + 1) a0) := by
 intro a0 k
 unfold spec_AddrOf.f
 repeat' first
   | (with_reducible exact spec_Be32.mono _ _ _)
   | (with_reducible exact LeO.refl _)
   | (with_reducible exact LeO.none _)
   | (with_reducible refine LeO.ite ?_ ?_)
   | (with_reducible refine LeO.bind ?_ (fun _ => ?_))
   | exact spec_Be32.mono _ _ _
   | exact LeO.none _
   | refine LeO.ite ?_ ?_
   | refine LeO.bind ?_ (fun _ => ?_)
set_option maxHeartbeats 8000000 in
set_option maxRecDepth 100000 in
theorem spec_AddrOf.calls (k : Nat) (A0 : Option Addr) (c0 : Nat) (l0 : List Int) (r1 : Int) (r2 : Int) (r3 : Int) (r4 : Int) (r5 : Int) (r6 : Bool) (w : World) (hr0 : Kd.C (Kd.int .u8) w A0 l0.length l0) (hc0 : l0.length ≤ c0) (h : spec_AddrOf.f k l0 = some (r1, r2, r3, r4, r5, r6)) :
  Calls Try.prog 35 #[.slice A0 l0.length c0] w fun e w' => e = .returned (.tuple #[.agg #[.int .i64 r1, .int .i64 r2, .int .i64 r3, .int .i64 r4, .int .i64 r5], .bool r6]) ∧ Below w.heap.size w w' := by
 have hu26 := Try.underlying26
 have HR0 := Gv.a0 hr0
 have HC0 := Gv.a0 hc0
 clear hr0 hc0
 have HB := Gv.a0 (Below.refl w.heap.size w)
 have H : (if (l0.length : Int) = 4 then ((spec_Be32.f k l0 0).bind fun bt210 => (some (4, 0, 0, 0, bt210.1, true))) else (if (l0.length : Int) = 16 then ((spec_Be32.f k l0 0).bind fun bt212 => ((spec_Be32.f k l0 4).bind fun bt214 => ((spec_Be32.f k l0 8).bind fun bt216 => ((spec_Be32.f k l0 12).bind fun bt218 => (some (6, bt212.1, bt214.1, bt216.1, bt218.1, true)))))) else (some (0, 0, 0, 0, 0, false)))) = some (r1, r2, r3, r4, r5, r6) := h
 clear h
 by_cases c2 : (l0.length : Int) = 4
 ·rw [if_pos c2] at H
  have c2b0 : ((l0.length : Int) == 4) = true := beq_iff_eq.mpr c2
  have c2b1 : ((l0.length : Int) != 4) = false := bne_eq_false_iff_eq.mpr c2
  clear c2
  replace H := Option.bind_eq_some_iff.mp H
  obtain ⟨⟨t210, t211⟩, A30, H⟩ := H
  replace H : (some (4, 0, 0, 0, t210, true)) = some (r1, r2, r3, r4, r5, r6) := H
  have A3 := Gv.a0 A30
  clear A30
  simp only [Option.some.injEq, Prod.mk.injEq] at H
  obtain ⟨rfl, rfl, rfl, rfl, rfl, rfl⟩ := H
  go_enter Try.func35, Try.ntmps35
  go_wp2_with (first | ((with_reducible refine gate_dst (N := 2) rfl ?_); refine box_event ?hg (N := 2) ?hd (cs := #[.int .i64 0, .int .i64 0, .int .i64 0, .int .i64 0, .int .i64 0]) (t := 26) ?hr ?_; (case hd => rfl); (case hg => rfl); (case hr => first | (go_simp; done) | (go_simp; rfl)); intro gb209 hg w4 hbox hb; have n0_ := Gv.a0 (below_step Gv.bw hb); have n1_ := Gv.a0 (hbox); have n2_ := Gv.a0 ((Gv.ble hg Gv.bw : w.heap.size ≤ gb209)); have n3_ := Gv.a0 ((Gv.ble hg Gv.bw : w.heap.size ≤ gb209)); clear HB; have HB := n0_; have BK209 := n1_; have GW209 := n2_; have GE209 := n3_; clear n0_ n1_ n2_ n3_; clear hb hbox hg) | ((with_reducible refine gate_callee (f := 65) rfl ?_); refine goesL_ (some 19) rfl rfl Try.func65 (by kernel_rfl) rfl #[.slice A0 l0.length c0, .int .i64 0] rfl Gv.lm ?_; (with_reducible refine (spec_Be32.calls k _ _ l0 0 t210 t211 _ ?side1 ?side2 A3.out).mono ?_); (case side1 => repeat (first | exact (Kd.C_below HR0.out HB.out) | (with_reducible refine Kd.C_alloc ?_ _) | (with_reducible refine Kd.C_drewN ?_ _) | (with_reducible refine Kd.C_drew ?_))); (case side2 => exact HC0.out); rintro e w' ⟨rfl, ⟨nd, rfl⟩⟩; refine ⟨_, rfl, ?_⟩; (try (rw [drewN_self w4]; generalize hq_ : World.drewN w4 _ = w4; have n0_ : Aside0 (w4.heap[gb209]? = some (.cells #[.int .i64 0, .int .i64 0, .int .i64 0, .int .i64 0, .int .i64 0] 26 (0, 0))) := ⟨by rw [← hq_]; exact Gv.bk⟩; have n1_ : Aside0 (Below w.heap.size w w4) := ⟨by rw [← hq_]; exact Gv.bw⟩; clear BK209 HB hq_; have BK209 := n0_; have HB := n1_; clear n0_ n1_)); obtain ⟨hcz5_0, hcz5_1, hcz5_2, hcz5_3, hcz5_4⟩ := Gv.c5 BK209.out; obtain ⟨hfz5_0, hfz5_1, hfz5_2, hfz5_3, hfz5_4⟩ := Gv.f5 BK209.out))
  refine bodyPost_ret (results_ct rfl _ _ gb209 26 #[.int .i64 4, .int .i64 0, .int .i64 0, .int .i64 0, .int .i64 t210] (0, 0) _ rfl (by (with_reducible repeat (first | refine blk_drewN ?_ _ | refine blk_drew ?_ | refine blk_alloc ?_ _)); refine blk_put (cs := #[.int .i64 4, .int .i64 0, .int .i64 0, .int .i64 0, .int .i64 0]) ?_ 4 _ rfl; (with_reducible repeat (first | refine blk_drewN ?_ _ | refine blk_drew ?_ | refine blk_alloc ?_ _)); refine blk_put (cs := #[.int .i64 4, .int .i64 0, .int .i64 0, .int .i64 0, .int .i64 0]) ?_ 3 _ rfl; (with_reducible repeat (first | refine blk_drewN ?_ _ | refine blk_drew ?_ | refine blk_alloc ?_ _)); refine blk_put (cs := #[.int .i64 4, .int .i64 0, .int .i64 0, .int .i64 0, .int .i64 0]) ?_ 2 _ rfl; (with_reducible repeat (first | refine blk_drewN ?_ _ | refine blk_drew ?_ | refine blk_alloc ?_ _)); refine blk_put (cs := #[.int .i64 4, .int .i64 0, .int .i64 0, .int .i64 0, .int .i64 0]) ?_ 1 _ rfl; (with_reducible repeat (first | refine blk_drewN ?_ _ | refine blk_drew ?_ | refine blk_alloc ?_ _)); refine blk_put (cs := #[.int .i64 0, .int .i64 0, .int .i64 0, .int .i64 0, .int .i64 0]) ?_ 0 _ rfl; (with_reducible repeat (first | refine blk_drewN ?_ _ | refine blk_drew ?_ | refine blk_alloc ?_ _)); exact BK209.out) Try.underlying26 rfl (by kernel_rfl)) rfl ?_
  exact ⟨Gv.rt, Gv.bw⟩
 ·rw [if_neg c2] at H
  have c2b0 : ((l0.length : Int) == 4) = false := beq_eq_false_iff_ne.mpr c2
  have c2b1 : ((l0.length : Int) != 4) = true := bne_iff_ne.mpr c2
  by_cases c6 : (l0.length : Int) = 16
  ·rw [if_pos c6] at H
   have c6b0 : ((l0.length : Int) == 16) = true := beq_iff_eq.mpr c6
   have c6b1 : ((l0.length : Int) != 16) = false := bne_eq_false_iff_eq.mpr c6
   clear c6
   replace H := Option.bind_eq_some_iff.mp H
   obtain ⟨⟨t212, t213⟩, A70, H⟩ := H
   replace H : ((spec_Be32.f k l0 4).bind fun bt214 => ((spec_Be32.f k l0 8).bind fun bt216 => ((spec_Be32.f k l0 12).bind fun bt218 => (some (6, t212, bt214.1, bt216.1, bt218.1, true))))) = some (r1, r2, r3, r4, r5, r6) := H
   have A7 := Gv.a0 A70
   clear A70
   replace H := Option.bind_eq_some_iff.mp H
   obtain ⟨⟨t214, t215⟩, A80, H⟩ := H
   replace H : ((spec_Be32.f k l0 8).bind fun bt216 => ((spec_Be32.f k l0 12).bind fun bt218 => (some (6, t212, t214, bt216.1, bt218.1, true)))) = some (r1, r2, r3, r4, r5, r6) := H
   have A8 := Gv.a0 A80
   clear A80
   replace H := Option.bind_eq_some_iff.mp H
   obtain ⟨⟨t216, t217⟩, A90, H⟩ := H
   replace H : ((spec_Be32.f k l0 12).bind fun bt218 => (some (6, t212, t214, t216, bt218.1, true))) = some (r1, r2, r3, r4, r5, r6) := H
   have A9 := Gv.a0 A90
   clear A90
   replace H := Option.bind_eq_some_iff.mp H
   obtain ⟨⟨t218, t219⟩, A100, H⟩ := H
   replace H : (some (6, t212, t214, t216, t218, true)) = some (r1, r2, r3, r4, r5, r6) := H
   have A10 := Gv.a0 A100
   clear A100
   simp only [Option.some.injEq, Prod.mk.injEq] at H
   obtain ⟨rfl, rfl, rfl, rfl, rfl, rfl⟩ := H
   go_enter Try.func35, Try.ntmps35
   go_wp2_with (first | ((with_reducible refine gate_dst (N := 2) rfl ?_); refine box_event ?hg (N := 2) ?hd (cs := #[.int .i64 0, .int .i64 0, .int .i64 0, .int .i64 0, .int .i64 0]) (t := 26) ?hr ?_; (case hd => rfl); (case hg => rfl); (case hr => first | (go_simp; done) | (go_simp; rfl)); intro gb209 hg w11 hbox hb; have n0_ := Gv.a0 (below_step Gv.bw hb); have n1_ := Gv.a0 (hbox); have n2_ := Gv.a0 ((Gv.ble hg Gv.bw : w.heap.size ≤ gb209)); have n3_ := Gv.a0 ((Gv.ble hg Gv.bw : w.heap.size ≤ gb209)); clear HB; have HB := n0_; have BK209 := n1_; have GW209 := n2_; have GE209 := n3_; clear n0_ n1_ n2_ n3_; clear hb hbox hg) | ((with_reducible refine gate_callee (f := 65) rfl ?_); refine goesL_ (some 29) rfl rfl Try.func65 (by kernel_rfl) rfl #[.slice A0 l0.length c0, .int .i64 0] rfl Gv.lm ?_; (with_reducible refine (spec_Be32.calls k _ _ l0 0 t212 t213 _ ?side1 ?side2 A7.out).mono ?_); (case side1 => repeat (first | exact (Kd.C_below HR0.out HB.out) | (with_reducible refine Kd.C_alloc ?_ _) | (with_reducible refine Kd.C_drewN ?_ _) | (with_reducible refine Kd.C_drew ?_))); (case side2 => exact HC0.out); rintro e w' ⟨rfl, ⟨nd, rfl⟩⟩; refine ⟨_, rfl, ?_⟩; (try (rw [drewN_self w11]; generalize hq_ : World.drewN w11 _ = w11; have n0_ : Aside0 (w11.heap[gb209]? = some (.cells #[.int .i64 0, .int .i64 0, .int .i64 0, .int .i64 0, .int .i64 0] 26 (0, 0))) := ⟨by rw [← hq_]; exact Gv.bk⟩; have n1_ : Aside0 (Below w.heap.size w w11) := ⟨by rw [← hq_]; exact Gv.bw⟩; clear BK209 HB hq_; have BK209 := n0_; have HB := n1_; clear n0_ n1_))) | ((with_reducible refine gate_callee (f := 65) rfl ?_); refine goesL_ (some 34) rfl rfl Try.func65 (by kernel_rfl) rfl #[.slice A0 l0.length c0, .int .i64 4] rfl Gv.lm ?_; (with_reducible refine (spec_Be32.calls k _ _ l0 4 t214 t215 _ ?side1 ?side2 A8.out).mono ?_); (case side1 => repeat (first | exact (Kd.C_below HR0.out HB.out) | (with_reducible refine Kd.C_alloc ?_ _) | (with_reducible refine Kd.C_drewN ?_ _) | (with_reducible refine Kd.C_drew ?_))); (case side2 => exact HC0.out); rintro e w' ⟨rfl, ⟨nd, rfl⟩⟩; refine ⟨_, rfl, ?_⟩; (try (rw [drewN_self w11]; generalize hq_ : World.drewN w11 _ = w11; have n0_ : Aside0 (w11.heap[gb209]? = some (.cells #[.int .i64 0, .int .i64 0, .int .i64 0, .int .i64 0, .int .i64 0] 26 (0, 0))) := ⟨by rw [← hq_]; exact Gv.bk⟩; have n1_ : Aside0 (Below w.heap.size w w11) := ⟨by rw [← hq_]; exact Gv.bw⟩; clear BK209 HB hq_; have BK209 := n0_; have HB := n1_; clear n0_ n1_))) | ((with_reducible refine gate_callee (f := 65) rfl ?_); refine goesL_ (some 39) rfl rfl Try.func65 (by kernel_rfl) rfl #[.slice A0 l0.length c0, .int .i64 8] rfl Gv.lm ?_; (with_reducible refine (spec_Be32.calls k _ _ l0 8 t216 t217 _ ?side1 ?side2 A9.out).mono ?_); (case side1 => repeat (first | exact (Kd.C_below HR0.out HB.out) | (with_reducible refine Kd.C_alloc ?_ _) | (with_reducible refine Kd.C_drewN ?_ _) | (with_reducible refine Kd.C_drew ?_))); (case side2 => exact HC0.out); rintro e w' ⟨rfl, ⟨nd, rfl⟩⟩; refine ⟨_, rfl, ?_⟩; (try (rw [drewN_self w11]; generalize hq_ : World.drewN w11 _ = w11; have n0_ : Aside0 (w11.heap[gb209]? = some (.cells #[.int .i64 0, .int .i64 0, .int .i64 0, .int .i64 0, .int .i64 0] 26 (0, 0))) := ⟨by rw [← hq_]; exact Gv.bk⟩; have n1_ : Aside0 (Below w.heap.size w w11) := ⟨by rw [← hq_]; exact Gv.bw⟩; clear BK209 HB hq_; have BK209 := n0_; have HB := n1_; clear n0_ n1_))) | ((with_reducible refine gate_callee (f := 65) rfl ?_); refine goesL_ (some 44) rfl rfl Try.func65 (by kernel_rfl) rfl #[.slice A0 l0.length c0, .int .i64 12] rfl Gv.lm ?_; (with_reducible refine (spec_Be32.calls k _ _ l0 12 t218 t219 _ ?side1 ?side2 A10.out).mono ?_); (case side1 => repeat (first | exact (Kd.C_below HR0.out HB.out) | (with_reducible refine Kd.C_alloc ?_ _) | (with_reducible refine Kd.C_drewN ?_ _) | (with_reducible refine Kd.C_drew ?_))); (case side2 => exact HC0.out); rintro e w' ⟨rfl, ⟨nd, rfl⟩⟩; refine ⟨_, rfl, ?_⟩; (try (rw [drewN_self w11]; generalize hq_ : World.drewN w11 _ = w11; have n0_ : Aside0 (w11.heap[gb209]? = some (.cells #[.int .i64 0, .int .i64 0, .int .i64 0, .int .i64 0, .int .i64 0] 26 (0, 0))) := ⟨by rw [← hq_]; exact Gv.bk⟩; have n1_ : Aside0 (Below w.heap.size w w11) := ⟨by rw [← hq_]; exact Gv.bw⟩; clear BK209 HB hq_; have BK209 := n0_; have HB := n1_; clear n0_ n1_)); obtain ⟨hcz12_0, hcz12_1, hcz12_2, hcz12_3, hcz12_4⟩ := Gv.c5 BK209.out; obtain ⟨hfz12_0, hfz12_1, hfz12_2, hfz12_3, hfz12_4⟩ := Gv.f5 BK209.out))
   refine bodyPost_ret (results_ct rfl _ _ gb209 26 #[.int .i64 6, .int .i64 t212, .int .i64 t214, .int .i64 t216, .int .i64 t218] (0, 0) _ rfl (by (with_reducible repeat (first | refine blk_drewN ?_ _ | refine blk_drew ?_ | refine blk_alloc ?_ _)); refine blk_put (cs := #[.int .i64 6, .int .i64 t212, .int .i64 t214, .int .i64 t216, .int .i64 0]) ?_ 4 _ rfl; (with_reducible repeat (first | refine blk_drewN ?_ _ | refine blk_drew ?_ | refine blk_alloc ?_ _)); refine blk_put (cs := #[.int .i64 6, .int .i64 t212, .int .i64 t214, .int .i64 0, .int .i64 0]) ?_ 3 _ rfl; (with_reducible repeat (first | refine blk_drewN ?_ _ | refine blk_drew ?_ | refine blk_alloc ?_ _)); refine blk_put (cs := #[.int .i64 6, .int .i64 t212, .int .i64 0, .int .i64 0, .int .i64 0]) ?_ 2 _ rfl; (with_reducible repeat (first | refine blk_drewN ?_ _ | refine blk_drew ?_ | refine blk_alloc ?_ _)); refine blk_put (cs := #[.int .i64 6, .int .i64 0, .int .i64 0, .int .i64 0, .int .i64 0]) ?_ 1 _ rfl; (with_reducible repeat (first | refine blk_drewN ?_ _ | refine blk_drew ?_ | refine blk_alloc ?_ _)); refine blk_put (cs := #[.int .i64 0, .int .i64 0, .int .i64 0, .int .i64 0, .int .i64 0]) ?_ 0 _ rfl; (with_reducible repeat (first | refine blk_drewN ?_ _ | refine blk_drew ?_ | refine blk_alloc ?_ _)); exact BK209.out) Try.underlying26 rfl (by kernel_rfl)) rfl ?_
   exact ⟨Gv.rt, Gv.bw⟩
  ·rw [if_neg c6] at H
   have c6b0 : ((l0.length : Int) == 16) = false := beq_eq_false_iff_ne.mpr c6
   have c6b1 : ((l0.length : Int) != 16) = true := bne_iff_ne.mpr c6
   simp only [Option.some.injEq, Prod.mk.injEq] at H
   obtain ⟨rfl, rfl, rfl, rfl, rfl, rfl⟩ := H
   go_enter Try.func35, Try.ntmps35
   go_wp2_with (first | ((with_reducible refine gate_dst (N := 2) rfl ?_); refine box_event ?hg (N := 2) ?hd (cs := #[.int .i64 0, .int .i64 0, .int .i64 0, .int .i64 0, .int .i64 0]) (t := 26) ?hr ?_; (case hd => rfl); (case hg => rfl); (case hr => first | (go_simp; done) | (go_simp; rfl)); intro gb209 hg w13 hbox hb; have n0_ := Gv.a0 (below_step Gv.bw hb); have n1_ := Gv.a0 (hbox); have n2_ := Gv.a0 ((Gv.ble hg Gv.bw : w.heap.size ≤ gb209)); have n3_ := Gv.a0 ((Gv.ble hg Gv.bw : w.heap.size ≤ gb209)); clear HB; have HB := n0_; have BK209 := n1_; have GW209 := n2_; have GE209 := n3_; clear n0_ n1_ n2_ n3_; clear hb hbox hg; obtain ⟨hcz14_0, hcz14_1, hcz14_2, hcz14_3, hcz14_4⟩ := Gv.c5 BK209.out; obtain ⟨hfz14_0, hfz14_1, hfz14_2, hfz14_3, hfz14_4⟩ := Gv.f5 BK209.out))
   refine bodyPost_ret (results_ct rfl _ _ gb209 26 #[.int .i64 0, .int .i64 0, .int .i64 0, .int .i64 0, .int .i64 0] (0, 0) _ rfl (by (with_reducible repeat (first | refine blk_drewN ?_ _ | refine blk_drew ?_ | refine blk_alloc ?_ _)); refine blk_put (cs := #[.int .i64 0, .int .i64 0, .int .i64 0, .int .i64 0, .int .i64 0]) ?_ 4 _ rfl; (with_reducible repeat (first | refine blk_drewN ?_ _ | refine blk_drew ?_ | refine blk_alloc ?_ _)); refine blk_put (cs := #[.int .i64 0, .int .i64 0, .int .i64 0, .int .i64 0, .int .i64 0]) ?_ 3 _ rfl; (with_reducible repeat (first | refine blk_drewN ?_ _ | refine blk_drew ?_ | refine blk_alloc ?_ _)); refine blk_put (cs := #[.int .i64 0, .int .i64 0, .int .i64 0, .int .i64 0, .int .i64 0]) ?_ 2 _ rfl; (with_reducible repeat (first | refine blk_drewN ?_ _ | refine blk_drew ?_ | refine blk_alloc ?_ _)); refine blk_put (cs := #[.int .i64 0, .int .i64 0, .int .i64 0, .int .i64 0, .int .i64 0]) ?_ 1 _ rfl; (with_reducible repeat (first | refine blk_drewN ?_ _ | refine blk_drew ?_ | refine blk_alloc ?_ _)); refine blk_put (cs := #[.int .i64 0, .int .i64 0, .int .i64 0, .int .i64 0, .int .i64 0]) ?_ 0 _ rfl; (with_reducible repeat (first | refine blk_drewN ?_ _ | refine blk_drew ?_ | refine blk_alloc ?_ _)); exact BK209.out) Try.underlying26 rfl (by kernel_rfl)) rfl ?_
   exact ⟨Gv.rt, Gv.bw⟩

/-! ### spec_l03Bits: function 64 -/
def spec_l03Bits.f (a0_0 : Int) (a0_1 : Int) (a0_2 : Int) (a0_3 : Int) (a0_4 : Int) : Option (Int) := if a0_0 = 4 then (some 32) else (some 128)
set_option maxHeartbeats 8000000 in
set_option maxRecDepth 100000 in
theorem spec_l03Bits.calls (a0_0 : Int) (a0_1 : Int) (a0_2 : Int) (a0_3 : Int) (a0_4 : Int) (r : Int) (w : World) (h : spec_l03Bits.f a0_0 a0_1 a0_2 a0_3 a0_4 = some r) :
  Calls Try.prog 64 #[.agg #[.int .i64 a0_0, .int .i64 a0_1, .int .i64 a0_2, .int .i64 a0_3, .int .i64 a0_4]] w fun e w' => e = .returned (.int .i64 r) ∧ Below w.heap.size w w' := by
 have hu26 := Try.underlying26
 have HB := Gv.a0 (Below.refl w.heap.size w)
 have H : (if a0_0 = 4 then (some 32) else (some 128)) = some r := h
 clear h
 by_cases c2 : a0_0 = 4
 ·rw [if_pos c2] at H
  have c2b0 : (a0_0 == 4) = true := beq_iff_eq.mpr c2
  have c2b1 : (a0_0 != 4) = false := bne_eq_false_iff_eq.mpr c2
  clear c2
  obtain rfl := Option.some.inj H
  go_enter Try.func64, Try.ntmps64
  go_wp2_with (first | ((with_reducible refine gate_dst (N := 1) rfl ?_); refine box_event ?hg (N := 1) ?hd (cs := #[.int .i64 a0_0, .int .i64 a0_1, .int .i64 a0_2, .int .i64 a0_3, .int .i64 a0_4]) (t := 26) ?hr ?_; (case hd => rfl); (case hg => rfl); (case hr => first | (go_simp; done) | (go_simp; rfl)); intro gb220 hg w3 hbox hb; have n0_ := Gv.a0 (below_step Gv.bw hb); have n1_ := Gv.a0 (hbox); have n2_ := Gv.a0 ((Gv.ble hg Gv.bw : w.heap.size ≤ gb220)); have n3_ := Gv.a0 ((Gv.ble hg Gv.bw : w.heap.size ≤ gb220)); clear HB; have HB := n0_; have BK220 := n1_; have GW220 := n2_; have GE220 := n3_; clear n0_ n1_ n2_ n3_; clear hb hbox hg; obtain ⟨hcz4_0, hcz4_1, hcz4_2, hcz4_3, hcz4_4⟩ := Gv.c5 BK220.out; obtain ⟨hfz4_0, hfz4_1, hfz4_2, hfz4_3, hfz4_4⟩ := Gv.f5 BK220.out))
  go_ret
  exact ⟨Gv.rt, Gv.bw⟩
 ·rw [if_neg c2] at H
  have c2b0 : (a0_0 == 4) = false := beq_eq_false_iff_ne.mpr c2
  have c2b1 : (a0_0 != 4) = true := bne_iff_ne.mpr c2
  obtain rfl := Option.some.inj H
  go_enter Try.func64, Try.ntmps64
  go_wp2_with (first | ((with_reducible refine gate_dst (N := 1) rfl ?_); refine box_event ?hg (N := 1) ?hd (cs := #[.int .i64 a0_0, .int .i64 a0_1, .int .i64 a0_2, .int .i64 a0_3, .int .i64 a0_4]) (t := 26) ?hr ?_; (case hd => rfl); (case hg => rfl); (case hr => first | (go_simp; done) | (go_simp; rfl)); intro gb220 hg w5 hbox hb; have n0_ := Gv.a0 (below_step Gv.bw hb); have n1_ := Gv.a0 (hbox); have n2_ := Gv.a0 ((Gv.ble hg Gv.bw : w.heap.size ≤ gb220)); have n3_ := Gv.a0 ((Gv.ble hg Gv.bw : w.heap.size ≤ gb220)); clear HB; have HB := n0_; have BK220 := n1_; have GW220 := n2_; have GE220 := n3_; clear n0_ n1_ n2_ n3_; clear hb hbox hg; obtain ⟨hcz6_0, hcz6_1, hcz6_2, hcz6_3, hcz6_4⟩ := Gv.c5 BK220.out; obtain ⟨hfz6_0, hfz6_1, hfz6_2, hfz6_3, hfz6_4⟩ := Gv.f5 BK220.out))
  go_ret
  exact ⟨Gv.rt, Gv.bw⟩

end Go.Proofs.Ytbpkmdghloapjaa.PBc
