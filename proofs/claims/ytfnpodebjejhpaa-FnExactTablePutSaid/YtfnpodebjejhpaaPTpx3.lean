/- Plain Lean functions of a law's Go functions, their contracts, by a program of this session (wip/pr.py over the kit's print). -/
import Derived.Test.YtfnpodebjejhpaaPTpx0
import Derived.Test.YtfnpodebjejhpaaPTpx1
namespace Go.Proofs.Ytfnpodebjejhpaa.PTp
open Go.RowKit Go.Proofs.YtfnpodebjejhpaaW.PrintWords Go.Proofs.YtfnpodebjejhpaaW.PrintLast Go.Proofs.YtfnpodebjejhpaaW.PrintMore
attribute [local go_sem] max2_int min2_int max_two min_two max_three min_three max_four min_four   -- for this text's walks alone
set_option linter.unusedVariables false
set_option linter.unusedSimpArgs false

attribute [local go_sem high] eqA33
/-! ### laws_toAddr: function 67 -/
def laws_toAddr.f (a0_0 : Int) (a0_1 : Int) (a0_2 : Int) (a0_3 : Int) (a0_4 : Int) : Option (Int × Int × Int × Int × Int) := some (a0_0, a0_1, a0_2, a0_3, a0_4)
set_option maxHeartbeats 8000000 in
set_option maxRecDepth 100000 in
theorem laws_toAddr.calls (a0_0 : Int) (a0_1 : Int) (a0_2 : Int) (a0_3 : Int) (a0_4 : Int) (r1 : Int) (r2 : Int) (r3 : Int) (r4 : Int) (r5 : Int) (w : World) (h : laws_toAddr.f a0_0 a0_1 a0_2 a0_3 a0_4 = some (r1, r2, r3, r4, r5)) :
  Calls Try.prog 67 #[.agg #[.int .i64 a0_0, .int .i64 a0_1, .int .i64 a0_2, .int .i64 a0_3, .int .i64 a0_4]] w fun e w' => e = .returned (.agg #[.int .i64 r1, .int .i64 r2, .int .i64 r3, .int .i64 r4, .int .i64 r5]) ∧ Below w.heap.size w w' := by
 have hu23 := Try.underlying23
 have hu29 := Try.underlying29
 have HB := Gv.a0 (Below.refl w.heap.size w)
 have H : (some (a0_0, a0_1, a0_2, a0_3, a0_4)) = some (r1, r2, r3, r4, r5) := h
 clear h
 simp only [Option.some.injEq, Prod.mk.injEq] at H
 obtain ⟨rfl, rfl, rfl, rfl, rfl⟩ := H
 go_enter Try.func67, Try.ntmps67
 go_wp2_with (first | ((with_reducible refine gate_dst (N := 1) rfl ?_); refine Gv.bev 1 23 #[.int .i64 a0_0, .int .i64 a0_1, .int .i64 a0_2, .int .i64 a0_3, .int .i64 a0_4] ?_; intro gb101 hg w2 hbox hb; have BK101 := Gv.a0 (hbox); have GW101 := Gv.a0 ((Gv.ble hg Gv.bw : w.heap.size ≤ gb101)); have GE101 := Gv.a0 ((Gv.ble hg Gv.bw : w.heap.size ≤ gb101)); replace HB := Gv.a0 (below_step Gv.bw hb); clear hb hbox hg) | ((with_reducible refine gate_dst (N := 2) rfl ?_); refine Gv.bev 2 29 #[.int .i64 0, .int .i64 0, .int .i64 0, .int .i64 0, .int .i64 0] ?_; intro gb102 hg w3 hbox hb; have BK102 := Gv.a0 (hbox); have GW102 := Gv.a0 ((Gv.ble hg Gv.bw : w.heap.size ≤ gb102)); have GE102 := Gv.a0 ((Gv.ble hg Gv.bw : w.heap.size ≤ gb102)); replace HB := Gv.a0 (below_step Gv.bw hb); have NB101_102 := Gv.a0 ((Gv.nlt hg (Gv.kb BK101.out) : gb101 ≠ gb102)); have NB102_101 := Gv.a0 ((Gv.ngt hg (Gv.kb BK101.out) : gb102 ≠ gb101)); replace BK101 := Gv.b1 BK101 hb; clear hb hbox hg) | ((with_reducible refine gate_dst (N := 3) rfl ?_); refine Gv.bev 3 29 #[.int .i64 0, .int .i64 0, .int .i64 0, .int .i64 0, .int .i64 0] ?_; intro gb103 hg w4 hbox hb; have BK103 := Gv.a0 (hbox); have GW103 := Gv.a0 ((Gv.ble hg Gv.bw : w.heap.size ≤ gb103)); have GE103 := Gv.a0 ((Gv.ble hg Gv.bw : w.heap.size ≤ gb103)); replace HB := Gv.a0 (below_step Gv.bw hb); have NB101_103 := Gv.a0 ((Gv.nlt hg (Gv.kb BK101.out) : gb101 ≠ gb103)); have NB103_101 := Gv.a0 ((Gv.ngt hg (Gv.kb BK101.out) : gb103 ≠ gb101)); replace BK101 := Gv.b1 BK101 hb; have NB102_103 := Gv.a0 ((Gv.nlt hg (Gv.kb BK102.out) : gb102 ≠ gb103)); have NB103_102 := Gv.a0 ((Gv.ngt hg (Gv.kb BK102.out) : gb103 ≠ gb102)); replace BK102 := Gv.b1 BK102 hb; clear hb hbox hg; have hnb5 := NB101_102.out; have hnc5 := NB102_101.out; have hnb6 := NB101_103.out; have hnc6 := NB103_101.out; obtain ⟨hcz7_0, hcz7_1, hcz7_2, hcz7_3, hcz7_4⟩ := Gv.c5 BK101.out; obtain ⟨hfz7_0, hfz7_1, hfz7_2, hfz7_3, hfz7_4⟩ := Gv.f5 BK101.out; have hnb8 := NB103_102.out; have hnc8 := NB102_103.out; obtain ⟨hcz9_0, hcz9_1, hcz9_2, hcz9_3, hcz9_4⟩ := Gv.c5 BK103.out; obtain ⟨hfz9_0, hfz9_1, hfz9_2, hfz9_3, hfz9_4⟩ := Gv.f5 BK103.out; obtain ⟨hcz10_0, hcz10_1, hcz10_2, hcz10_3, hcz10_4⟩ := Gv.c5 BK102.out; obtain ⟨hfz10_0, hfz10_1, hfz10_2, hfz10_3, hfz10_4⟩ := Gv.f5 BK102.out))
 refine bodyPost_ret (results_cell_row rfl _ _ gb102 29 #[.int .i64 a0_0, .int .i64 a0_1, .int .i64 a0_2, .int .i64 a0_3, .int .i64 a0_4] (0, 0) _ rfl (by (with_reducible repeat (first | refine blk_drewN ?_ _ | refine blk_drew ?_ | refine blk_alloc ?_ _)); refine blk_put (cs := #[.int .i64 a0_0, .int .i64 a0_1, .int .i64 a0_2, .int .i64 a0_3, .int .i64 0]) ?_ 4 _ rfl; (with_reducible repeat (first | refine blk_drewN ?_ _ | refine blk_drew ?_ | refine blk_alloc ?_ _)); refine blk_put (cs := #[.int .i64 a0_0, .int .i64 a0_1, .int .i64 a0_2, .int .i64 0, .int .i64 0]) ?_ 3 _ rfl; (with_reducible repeat (first | refine blk_drewN ?_ _ | refine blk_drew ?_ | refine blk_alloc ?_ _)); refine blk_put (cs := #[.int .i64 a0_0, .int .i64 a0_1, .int .i64 0, .int .i64 0, .int .i64 0]) ?_ 2 _ rfl; (with_reducible repeat (first | refine blk_drewN ?_ _ | refine blk_drew ?_ | refine blk_alloc ?_ _)); refine blk_put (cs := #[.int .i64 a0_0, .int .i64 0, .int .i64 0, .int .i64 0, .int .i64 0]) ?_ 1 _ rfl; (with_reducible repeat (first | refine blk_drewN ?_ _ | refine blk_drew ?_ | refine blk_alloc ?_ _)); refine blk_put (cs := #[.int .i64 0, .int .i64 0, .int .i64 0, .int .i64 0, .int .i64 0]) ?_ 0 _ rfl; (with_reducible repeat (first | refine blk_drewN ?_ _ | refine blk_drew ?_ | refine blk_alloc ?_ _)); refine blk_far ?_ NB102_103.out _; (with_reducible repeat (first | refine blk_drewN ?_ _ | refine blk_drew ?_ | refine blk_alloc ?_ _)); refine blk_far ?_ NB102_103.out _; (with_reducible repeat (first | refine blk_drewN ?_ _ | refine blk_drew ?_ | refine blk_alloc ?_ _)); refine blk_far ?_ NB102_103.out _; (with_reducible repeat (first | refine blk_drewN ?_ _ | refine blk_drew ?_ | refine blk_alloc ?_ _)); refine blk_far ?_ NB102_103.out _; (with_reducible repeat (first | refine blk_drewN ?_ _ | refine blk_drew ?_ | refine blk_alloc ?_ _)); refine blk_far ?_ NB102_103.out _; (with_reducible repeat (first | refine blk_drewN ?_ _ | refine blk_drew ?_ | refine blk_alloc ?_ _)); exact BK102.out) Try.underlying29 rfl (by kernel_rfl)) rfl ?_
 exact ⟨Gv.rt, Gv.bw⟩

/-! ### laws_toKey: function 43 -/
def laws_toKey.f (a0_0 : Int) (a0_1 : Int) (a0_2 : Int) (a0_3 : Int) (a0_4 : Int) (a0_5 : Int) (a0_6 : Int) (a0_7 : Int) (a0_8 : Int) (a0_9 : Int) (a0_10 : Int) (a0_11 : Int) (a0_12 : Int) : Option (Int × Int × Int × Int × Int × Int × Int × Int × Int × Int × Int × Int × Int) := (laws_toAddr.f a0_0 a0_1 a0_2 a0_3 a0_4).bind fun bt107 => ((laws_toAddr.f a0_5 a0_6 a0_7 a0_8 a0_9).bind fun bt112 => (some (bt107.1, bt107.2.1, bt107.2.2.1, bt107.2.2.2.1, bt107.2.2.2.2, bt112.1, bt112.2.1, bt112.2.2.1, bt112.2.2.2.1, bt112.2.2.2.2, a0_10, a0_11, a0_12)))
set_option maxHeartbeats 8000000 in
set_option maxRecDepth 100000 in
theorem laws_toKey.calls (a0_0 : Int) (a0_1 : Int) (a0_2 : Int) (a0_3 : Int) (a0_4 : Int) (a0_5 : Int) (a0_6 : Int) (a0_7 : Int) (a0_8 : Int) (a0_9 : Int) (a0_10 : Int) (a0_11 : Int) (a0_12 : Int) (r1 : Int) (r2 : Int) (r3 : Int) (r4 : Int) (r5 : Int) (r6 : Int) (r7 : Int) (r8 : Int) (r9 : Int) (r10 : Int) (r11 : Int) (r12 : Int) (r13 : Int) (w : World) (h : laws_toKey.f a0_0 a0_1 a0_2 a0_3 a0_4 a0_5 a0_6 a0_7 a0_8 a0_9 a0_10 a0_11 a0_12 = some (r1, r2, r3, r4, r5, r6, r7, r8, r9, r10, r11, r12, r13)) :
  Calls Try.prog 43 #[.agg #[.int .i64 a0_0, .int .i64 a0_1, .int .i64 a0_2, .int .i64 a0_3, .int .i64 a0_4, .int .i64 a0_5, .int .i64 a0_6, .int .i64 a0_7, .int .i64 a0_8, .int .i64 a0_9, .int .i64 a0_10, .int .i64 a0_11, .int .i64 a0_12]] w fun e w' => e = .returned (.agg #[.int .i64 r1, .int .i64 r2, .int .i64 r3, .int .i64 r4, .int .i64 r5, .int .i64 r6, .int .i64 r7, .int .i64 r8, .int .i64 r9, .int .i64 r10, .int .i64 r11, .int .i64 r12, .int .i64 r13]) ∧ Below w.heap.size w w' := by
 have hu25 := Try.underlying25
 have hu31 := Try.underlying31
 have hu23 := Try.underlying23
 have hu29 := Try.underlying29
 have HB := Gv.a0 (Below.refl w.heap.size w)
 have H : ((laws_toAddr.f a0_0 a0_1 a0_2 a0_3 a0_4).bind fun bt107 => ((laws_toAddr.f a0_5 a0_6 a0_7 a0_8 a0_9).bind fun bt112 => (some (bt107.1, bt107.2.1, bt107.2.2.1, bt107.2.2.2.1, bt107.2.2.2.2, bt112.1, bt112.2.1, bt112.2.2.1, bt112.2.2.2.1, bt112.2.2.2.2, a0_10, a0_11, a0_12)))) = some (r1, r2, r3, r4, r5, r6, r7, r8, r9, r10, r11, r12, r13) := h
 clear h
 replace H := Option.bind_eq_some_iff.mp H
 obtain ⟨⟨t107, t108, t109, t110, t111⟩, A20, H⟩ := H
 (try dsimp only at H)
 have A2 := Gv.a0 A20
 clear A20
 replace H := Option.bind_eq_some_iff.mp H
 obtain ⟨⟨t112, t113, t114, t115, t116⟩, A30, H⟩ := H
 (try dsimp only at H)
 have A3 := Gv.a0 A30
 clear A30
 simp only [Option.some.injEq, Prod.mk.injEq] at H
 obtain ⟨rfl, rfl, rfl, rfl, rfl, rfl, rfl, rfl, rfl, rfl, rfl, rfl, rfl⟩ := H
 go_enter Try.func43, Try.ntmps43
 go_wp2_with (first | ((with_reducible refine gate_dst (N := 1) rfl ?_); refine Gv.bev 1 25 #[.int .i64 a0_0, .int .i64 a0_1, .int .i64 a0_2, .int .i64 a0_3, .int .i64 a0_4, .int .i64 a0_5, .int .i64 a0_6, .int .i64 a0_7, .int .i64 a0_8, .int .i64 a0_9, .int .i64 a0_10, .int .i64 a0_11, .int .i64 a0_12] ?_; intro gb104 hg w4 hbox hb; have BK104 := Gv.a0 (hbox); have GW104 := Gv.a0 ((Gv.ble hg Gv.bw : w.heap.size ≤ gb104)); have GE104 := Gv.a0 ((Gv.ble hg Gv.bw : w.heap.size ≤ gb104)); replace HB := Gv.a0 (below_step Gv.bw hb); clear hb hbox hg) | ((with_reducible refine gate_dst (N := 2) rfl ?_); refine Gv.bev 2 31 #[.int .i64 0, .int .i64 0, .int .i64 0, .int .i64 0, .int .i64 0, .int .i64 0, .int .i64 0, .int .i64 0, .int .i64 0, .int .i64 0, .int .i64 0, .int .i64 0, .int .i64 0] ?_; intro gb105 hg w5 hbox hb; have BK105 := Gv.a0 (hbox); have GW105 := Gv.a0 ((Gv.ble hg Gv.bw : w.heap.size ≤ gb105)); have GE105 := Gv.a0 ((Gv.ble hg Gv.bw : w.heap.size ≤ gb105)); replace HB := Gv.a0 (below_step Gv.bw hb); have NB104_105 := Gv.a0 ((Gv.nlt hg (Gv.kb BK104.out) : gb104 ≠ gb105)); have NB105_104 := Gv.a0 ((Gv.ngt hg (Gv.kb BK104.out) : gb105 ≠ gb104)); replace BK104 := Gv.b1 BK104 hb; clear hb hbox hg) | ((with_reducible refine gate_dst (N := 3) rfl ?_); refine Gv.bev 3 31 #[.int .i64 0, .int .i64 0, .int .i64 0, .int .i64 0, .int .i64 0, .int .i64 0, .int .i64 0, .int .i64 0, .int .i64 0, .int .i64 0, .int .i64 0, .int .i64 0, .int .i64 0] ?_; intro gb106 hg w6 hbox hb; have BK106 := Gv.a0 (hbox); have GW106 := Gv.a0 ((Gv.ble hg Gv.bw : w.heap.size ≤ gb106)); have GE106 := Gv.a0 ((Gv.ble hg Gv.bw : w.heap.size ≤ gb106)); replace HB := Gv.a0 (below_step Gv.bw hb); have NB104_106 := Gv.a0 ((Gv.nlt hg (Gv.kb BK104.out) : gb104 ≠ gb106)); have NB106_104 := Gv.a0 ((Gv.ngt hg (Gv.kb BK104.out) : gb106 ≠ gb104)); replace BK104 := Gv.b1 BK104 hb; have NB105_106 := Gv.a0 ((Gv.nlt hg (Gv.kb BK105.out) : gb105 ≠ gb106)); have NB106_105 := Gv.a0 ((Gv.ngt hg (Gv.kb BK105.out) : gb106 ≠ gb105)); replace BK105 := Gv.b1 BK105 hb; clear hb hbox hg; have hnb7 := NB104_105.out; have hnc7 := NB105_104.out; have hnb8 := NB104_106.out; have hnc8 := NB106_104.out) | ((with_reducible refine gate_callee (f := 67) rfl ?_); refine goesL_ (some 6) rfl rfl Try.func67 (by kernel_rfl) rfl #[.agg #[.int .i64 a0_0, .int .i64 a0_1, .int .i64 a0_2, .int .i64 a0_3, .int .i64 a0_4]] rfl Gv.lm ?_; (with_reducible refine (laws_toAddr.calls a0_0 a0_1 a0_2 a0_3 a0_4 t107 t108 t109 t110 t111 _ A2.out).mono ?_); rintro e w10 ⟨rfl, hb⟩; refine ⟨_, rfl, ?_⟩; replace HB := Gv.a0 (below_step HB.out hb); replace BK104 := Gv.b1 BK104 hb; replace BK105 := Gv.b1 BK105 hb; replace BK106 := Gv.b1 BK106 hb; clear hb) | ((with_reducible refine gate_callee (f := 67) rfl ?_); refine goesL_ (some 10) rfl rfl Try.func67 (by kernel_rfl) rfl #[.agg #[.int .i64 a0_5, .int .i64 a0_6, .int .i64 a0_7, .int .i64 a0_8, .int .i64 a0_9]] rfl Gv.lm ?_; (with_reducible refine (laws_toAddr.calls a0_5 a0_6 a0_7 a0_8 a0_9 t112 t113 t114 t115 t116 _ A3.out).mono ?_); rintro e w14 ⟨rfl, hb⟩; refine ⟨_, rfl, ?_⟩; replace HB := Gv.a0 (below_step HB.out hb); replace BK104 := Gv.b1 BK104 hb; replace BK105 := Gv.b1 BK105 hb; replace BK106 := Gv.b1 BK106 hb; clear hb) | ((with_reducible refine Gv.gate_load (t := 3) rfl ?_); refine Gv.get_event (g := gb104) rfl rfl rfl BK104.out rfl Try.underlying3 rfl ?_) | ((with_reducible refine Gv.gate_load (t := 23) rfl ?_); refine Gv.mid_event (g := gb104) [.int .i64 a0_0, .int .i64 a0_1, .int .i64 a0_2, .int .i64 a0_3, .int .i64 a0_4] rfl rfl rfl BK104.out rfl Try.underlying23 rfl (by kernel_rfl) ?_) | ((with_reducible refine Gv.gate_load (t := 23) rfl ?_); refine Gv.mid_event (g := gb104) [.int .i64 a0_5, .int .i64 a0_6, .int .i64 a0_7, .int .i64 a0_8, .int .i64 a0_9] rfl rfl rfl BK104.out rfl Try.underlying23 rfl (by kernel_rfl) ?_) | ((with_reducible refine Gv.gate_load (t := 29) rfl ?_); refine Gv.mid_event (g := gb104) [.int .i64 a0_0, .int .i64 a0_1, .int .i64 a0_2, .int .i64 a0_3, .int .i64 a0_4] rfl rfl rfl BK104.out rfl Try.underlying29 rfl (by kernel_rfl) ?_) | ((with_reducible refine Gv.gate_load (t := 29) rfl ?_); refine Gv.mid_event (g := gb104) [.int .i64 a0_5, .int .i64 a0_6, .int .i64 a0_7, .int .i64 a0_8, .int .i64 a0_9] rfl rfl rfl BK104.out rfl Try.underlying29 rfl (by kernel_rfl) ?_) | ((with_reducible refine gate_store (t := 3) rfl ?_); refine Gv.put_event (g := gb106) rfl rfl rfl rfl rfl BK106.out (by kernel_rfl) (by simp) ?_; intro wp_ hbox hoth hbel; simp only [List.setIfInBounds_toArray, List.set_cons_succ, List.set_cons_zero] at hbox; replace BK106 := Gv.a0 (hbox); replace HB := Gv.a0 (hbel w HB.out GE106.out); replace BK104 := Gv.a0 ((hoth gb104 NB104_106.out).trans BK104.out); replace BK105 := Gv.a0 ((hoth gb105 NB105_106.out).trans BK105.out); clear hbox hoth hbel) | ((with_reducible refine gate_store (t := 23) rfl ?_); refine Gv.mput_event (g := gb106) (cs' := #[.int .i64 t107, .int .i64 t108, .int .i64 t109, .int .i64 t110, .int .i64 t111, .int .i64 0, .int .i64 0, .int .i64 0, .int .i64 0, .int .i64 0, .int .i64 0, .int .i64 0, .int .i64 0]) rfl rfl rfl rfl rfl BK106.out (by kernel_rfl) rfl (by simp) rfl ?_; intro wp_ hbox hoth hbel; replace BK106 := Gv.a0 (hbox); replace HB := Gv.a0 (hbel w HB.out GE106.out); replace BK104 := Gv.a0 ((hoth gb104 NB104_106.out).trans BK104.out); replace BK105 := Gv.a0 ((hoth gb105 NB105_106.out).trans BK105.out); clear hbox hoth hbel) | ((with_reducible refine gate_store (t := 23) rfl ?_); refine Gv.mput_event (g := gb106) (cs' := #[.int .i64 t107, .int .i64 t108, .int .i64 t109, .int .i64 t110, .int .i64 t111, .int .i64 t112, .int .i64 t113, .int .i64 t114, .int .i64 t115, .int .i64 t116, .int .i64 0, .int .i64 0, .int .i64 0]) rfl rfl rfl rfl rfl BK106.out (by kernel_rfl) rfl (by simp) rfl ?_; intro wp_ hbox hoth hbel; replace BK106 := Gv.a0 (hbox); replace HB := Gv.a0 (hbel w HB.out GE106.out); replace BK104 := Gv.a0 ((hoth gb104 NB104_106.out).trans BK104.out); replace BK105 := Gv.a0 ((hoth gb105 NB105_106.out).trans BK105.out); clear hbox hoth hbel) | ((with_reducible refine gate_store (t := 29) rfl ?_); refine Gv.mput_event (g := gb106) (cs' := #[.int .i64 t107, .int .i64 t108, .int .i64 t109, .int .i64 t110, .int .i64 t111, .int .i64 0, .int .i64 0, .int .i64 0, .int .i64 0, .int .i64 0, .int .i64 0, .int .i64 0, .int .i64 0]) rfl rfl rfl rfl rfl BK106.out (by kernel_rfl) rfl (by simp) rfl ?_; intro wp_ hbox hoth hbel; replace BK106 := Gv.a0 (hbox); replace HB := Gv.a0 (hbel w HB.out GE106.out); replace BK104 := Gv.a0 ((hoth gb104 NB104_106.out).trans BK104.out); replace BK105 := Gv.a0 ((hoth gb105 NB105_106.out).trans BK105.out); clear hbox hoth hbel) | ((with_reducible refine gate_store (t := 29) rfl ?_); refine Gv.mput_event (g := gb106) (cs' := #[.int .i64 t107, .int .i64 t108, .int .i64 t109, .int .i64 t110, .int .i64 t111, .int .i64 t112, .int .i64 t113, .int .i64 t114, .int .i64 t115, .int .i64 t116, .int .i64 0, .int .i64 0, .int .i64 0]) rfl rfl rfl rfl rfl BK106.out (by kernel_rfl) rfl (by simp) rfl ?_; intro wp_ hbox hoth hbel; replace BK106 := Gv.a0 (hbox); replace HB := Gv.a0 (hbel w HB.out GE106.out); replace BK104 := Gv.a0 ((hoth gb104 NB104_106.out).trans BK104.out); replace BK105 := Gv.a0 ((hoth gb105 NB105_106.out).trans BK105.out); clear hbox hoth hbel) | ((with_reducible refine Gv.gate_load (t := 31) rfl ?_); refine wpList_load_row rfl 31 _ rfl gb106 rfl 31 _ _ _ BK106.out Try.underlying31 rfl (by kernel_rfl) ?_) | ((with_reducible refine gate_store (t := 31) (p := 2) rfl ?_); refine Gv.store_event (g := gb105) (cells := #[.int .i64 t107, .int .i64 t108, .int .i64 t109, .int .i64 t110, .int .i64 t111, .int .i64 t112, .int .i64 t113, .int .i64 t114, .int .i64 t115, .int .i64 t116, .int .i64 a0_10, .int .i64 a0_11, .int .i64 a0_12]) rfl rfl rfl rfl rfl BK105.out (by kernel_rfl) rfl (by simp; and_intros <;> rfl) ?_; intro wp_ hbox hoth hbel; replace BK105 := Gv.a0 (hbox); replace HB := Gv.a0 (hbel w HB.out GE105.out); replace BK104 := Gv.a0 ((hoth gb104 NB104_105.out).trans BK104.out); replace BK106 := Gv.a0 ((hoth gb106 NB106_105.out).trans BK106.out); clear hbox hoth hbel))
 refine bodyPost_ret (results_cell_row rfl _ _ gb105 31 #[.int .i64 t107, .int .i64 t108, .int .i64 t109, .int .i64 t110, .int .i64 t111, .int .i64 t112, .int .i64 t113, .int .i64 t114, .int .i64 t115, .int .i64 t116, .int .i64 a0_10, .int .i64 a0_11, .int .i64 a0_12] (0, 0) _ rfl BK105.out Try.underlying31 rfl (by kernel_rfl)) rfl ?_
 exact ⟨Gv.rt, Gv.bw⟩

/-! ### laws_toFlowKey: function 14 -/
def laws_toFlowKey.f (a0_0 : Int) (a0_1 : Int) (a0_2 : Int) (a0_3 : Int) (a0_4 : Int) (a0_5 : Int) (a0_6 : Int) (a0_7 : Int) (a0_8 : Int) (a0_9 : Int) (a0_10 : Int) (a0_11 : Int) (a0_12 : Int) (a0_13 : Int) : Option (Int × Int × Int × Int × Int × Int × Int × Int × Int × Int × Int × Int × Int × Int) := (laws_toKey.f a0_1 a0_2 a0_3 a0_4 a0_5 a0_6 a0_7 a0_8 a0_9 a0_10 a0_11 a0_12 a0_13).bind fun bt120 => (some (a0_0, bt120.1, bt120.2.1, bt120.2.2.1, bt120.2.2.2.1, bt120.2.2.2.2.1, bt120.2.2.2.2.2.1, bt120.2.2.2.2.2.2.1, bt120.2.2.2.2.2.2.2.1, bt120.2.2.2.2.2.2.2.2.1, bt120.2.2.2.2.2.2.2.2.2.1, bt120.2.2.2.2.2.2.2.2.2.2.1, bt120.2.2.2.2.2.2.2.2.2.2.2.1, bt120.2.2.2.2.2.2.2.2.2.2.2.2))
set_option maxHeartbeats 8000000 in
set_option maxRecDepth 100000 in
theorem laws_toFlowKey.calls (a0_0 : Int) (a0_1 : Int) (a0_2 : Int) (a0_3 : Int) (a0_4 : Int) (a0_5 : Int) (a0_6 : Int) (a0_7 : Int) (a0_8 : Int) (a0_9 : Int) (a0_10 : Int) (a0_11 : Int) (a0_12 : Int) (a0_13 : Int) (r1 : Int) (r2 : Int) (r3 : Int) (r4 : Int) (r5 : Int) (r6 : Int) (r7 : Int) (r8 : Int) (r9 : Int) (r10 : Int) (r11 : Int) (r12 : Int) (r13 : Int) (r14 : Int) (w : World) (h : laws_toFlowKey.f a0_0 a0_1 a0_2 a0_3 a0_4 a0_5 a0_6 a0_7 a0_8 a0_9 a0_10 a0_11 a0_12 a0_13 = some (r1, r2, r3, r4, r5, r6, r7, r8, r9, r10, r11, r12, r13, r14)) :
  Calls Try.prog 14 #[.agg #[.int .i64 a0_0, .int .i64 a0_1, .int .i64 a0_2, .int .i64 a0_3, .int .i64 a0_4, .int .i64 a0_5, .int .i64 a0_6, .int .i64 a0_7, .int .i64 a0_8, .int .i64 a0_9, .int .i64 a0_10, .int .i64 a0_11, .int .i64 a0_12, .int .i64 a0_13]] w fun e w' => e = .returned (.agg #[.int .i64 r1, .int .i64 r2, .int .i64 r3, .int .i64 r4, .int .i64 r5, .int .i64 r6, .int .i64 r7, .int .i64 r8, .int .i64 r9, .int .i64 r10, .int .i64 r11, .int .i64 r12, .int .i64 r13, .int .i64 r14]) ∧ Below w.heap.size w w' := by
 have hu27 := Try.underlying27
 have hu33 := Try.underlying33
 have hu25 := Try.underlying25
 have hu31 := Try.underlying31
 have HB := Gv.a0 (Below.refl w.heap.size w)
 have H : ((laws_toKey.f a0_1 a0_2 a0_3 a0_4 a0_5 a0_6 a0_7 a0_8 a0_9 a0_10 a0_11 a0_12 a0_13).bind fun bt120 => (some (a0_0, bt120.1, bt120.2.1, bt120.2.2.1, bt120.2.2.2.1, bt120.2.2.2.2.1, bt120.2.2.2.2.2.1, bt120.2.2.2.2.2.2.1, bt120.2.2.2.2.2.2.2.1, bt120.2.2.2.2.2.2.2.2.1, bt120.2.2.2.2.2.2.2.2.2.1, bt120.2.2.2.2.2.2.2.2.2.2.1, bt120.2.2.2.2.2.2.2.2.2.2.2.1, bt120.2.2.2.2.2.2.2.2.2.2.2.2))) = some (r1, r2, r3, r4, r5, r6, r7, r8, r9, r10, r11, r12, r13, r14) := h
 clear h
 replace H := Option.bind_eq_some_iff.mp H
 obtain ⟨⟨t120, t121, t122, t123, t124, t125, t126, t127, t128, t129, t130, t131, t132⟩, A20, H⟩ := H
 (try dsimp only at H)
 have A2 := Gv.a0 A20
 clear A20
 simp only [Option.some.injEq, Prod.mk.injEq] at H
 obtain ⟨rfl, rfl, rfl, rfl, rfl, rfl, rfl, rfl, rfl, rfl, rfl, rfl, rfl, rfl⟩ := H
 go_enter Try.func14, Try.ntmps14
 go_wp2_with (first | ((with_reducible refine gate_dst (N := 1) rfl ?_); refine Gv.bev 1 27 #[.int .i64 a0_0, .int .i64 a0_1, .int .i64 a0_2, .int .i64 a0_3, .int .i64 a0_4, .int .i64 a0_5, .int .i64 a0_6, .int .i64 a0_7, .int .i64 a0_8, .int .i64 a0_9, .int .i64 a0_10, .int .i64 a0_11, .int .i64 a0_12, .int .i64 a0_13] ?_; intro gb117 hg w3 hbox hb; have BK117 := Gv.a0 (hbox); have GW117 := Gv.a0 ((Gv.ble hg Gv.bw : w.heap.size ≤ gb117)); have GE117 := Gv.a0 ((Gv.ble hg Gv.bw : w.heap.size ≤ gb117)); replace HB := Gv.a0 (below_step Gv.bw hb); clear hb hbox hg) | ((with_reducible refine gate_dst (N := 2) rfl ?_); refine Gv.bev 2 33 #[.int .i64 0, .int .i64 0, .int .i64 0, .int .i64 0, .int .i64 0, .int .i64 0, .int .i64 0, .int .i64 0, .int .i64 0, .int .i64 0, .int .i64 0, .int .i64 0, .int .i64 0, .int .i64 0] ?_; intro gb118 hg w4 hbox hb; have BK118 := Gv.a0 (hbox); have GW118 := Gv.a0 ((Gv.ble hg Gv.bw : w.heap.size ≤ gb118)); have GE118 := Gv.a0 ((Gv.ble hg Gv.bw : w.heap.size ≤ gb118)); replace HB := Gv.a0 (below_step Gv.bw hb); have NB117_118 := Gv.a0 ((Gv.nlt hg (Gv.kb BK117.out) : gb117 ≠ gb118)); have NB118_117 := Gv.a0 ((Gv.ngt hg (Gv.kb BK117.out) : gb118 ≠ gb117)); replace BK117 := Gv.b1 BK117 hb; clear hb hbox hg) | ((with_reducible refine gate_dst (N := 3) rfl ?_); refine Gv.bev 3 33 #[.int .i64 0, .int .i64 0, .int .i64 0, .int .i64 0, .int .i64 0, .int .i64 0, .int .i64 0, .int .i64 0, .int .i64 0, .int .i64 0, .int .i64 0, .int .i64 0, .int .i64 0, .int .i64 0] ?_; intro gb119 hg w5 hbox hb; have BK119 := Gv.a0 (hbox); have GW119 := Gv.a0 ((Gv.ble hg Gv.bw : w.heap.size ≤ gb119)); have GE119 := Gv.a0 ((Gv.ble hg Gv.bw : w.heap.size ≤ gb119)); replace HB := Gv.a0 (below_step Gv.bw hb); have NB117_119 := Gv.a0 ((Gv.nlt hg (Gv.kb BK117.out) : gb117 ≠ gb119)); have NB119_117 := Gv.a0 ((Gv.ngt hg (Gv.kb BK117.out) : gb119 ≠ gb117)); replace BK117 := Gv.b1 BK117 hb; have NB118_119 := Gv.a0 ((Gv.nlt hg (Gv.kb BK118.out) : gb118 ≠ gb119)); have NB119_118 := Gv.a0 ((Gv.ngt hg (Gv.kb BK118.out) : gb119 ≠ gb118)); replace BK118 := Gv.b1 BK118 hb; clear hb hbox hg; have hnb6 := NB117_118.out; have hnc6 := NB118_117.out; have hnb7 := NB117_119.out; have hnc7 := NB119_117.out; have hnb9 := NB119_118.out; have hnc9 := NB118_119.out) | ((with_reducible refine gate_callee (f := 43) rfl ?_); refine goesL_ (some 9) rfl rfl Try.func43 (by kernel_rfl) rfl #[.agg #[.int .i64 a0_1, .int .i64 a0_2, .int .i64 a0_3, .int .i64 a0_4, .int .i64 a0_5, .int .i64 a0_6, .int .i64 a0_7, .int .i64 a0_8, .int .i64 a0_9, .int .i64 a0_10, .int .i64 a0_11, .int .i64 a0_12, .int .i64 a0_13]] rfl Gv.lm ?_; (with_reducible refine (laws_toKey.calls a0_1 a0_2 a0_3 a0_4 a0_5 a0_6 a0_7 a0_8 a0_9 a0_10 a0_11 a0_12 a0_13 t120 t121 t122 t123 t124 t125 t126 t127 t128 t129 t130 t131 t132 _ A2.out).mono ?_); rintro e w11 ⟨rfl, hb⟩; refine ⟨_, rfl, ?_⟩; replace HB := Gv.a0 (below_step HB.out hb); replace BK117 := Gv.b1 BK117 hb; replace BK118 := Gv.b1 BK118 hb; replace BK119 := Gv.b1 BK119 hb; clear hb) | ((with_reducible refine Gv.gate_load (t := 3) rfl ?_); refine Gv.get_event (g := gb117) rfl rfl rfl BK117.out rfl Try.underlying3 rfl ?_) | ((with_reducible refine Gv.gate_load (t := 25) rfl ?_); refine Gv.mid_event (g := gb117) [.int .i64 a0_1, .int .i64 a0_2, .int .i64 a0_3, .int .i64 a0_4, .int .i64 a0_5, .int .i64 a0_6, .int .i64 a0_7, .int .i64 a0_8, .int .i64 a0_9, .int .i64 a0_10, .int .i64 a0_11, .int .i64 a0_12, .int .i64 a0_13] rfl rfl rfl BK117.out rfl Try.underlying25 rfl (by kernel_rfl) ?_) | ((with_reducible refine Gv.gate_load (t := 31) rfl ?_); refine Gv.mid_event (g := gb117) [.int .i64 a0_1, .int .i64 a0_2, .int .i64 a0_3, .int .i64 a0_4, .int .i64 a0_5, .int .i64 a0_6, .int .i64 a0_7, .int .i64 a0_8, .int .i64 a0_9, .int .i64 a0_10, .int .i64 a0_11, .int .i64 a0_12, .int .i64 a0_13] rfl rfl rfl BK117.out rfl Try.underlying31 rfl (by kernel_rfl) ?_) | ((with_reducible refine gate_store (t := 3) rfl ?_); refine Gv.put_event (g := gb119) rfl rfl rfl rfl rfl BK119.out (by kernel_rfl) (by simp) ?_; intro wp_ hbox hoth hbel; simp only [List.setIfInBounds_toArray, List.set_cons_succ, List.set_cons_zero] at hbox; replace BK119 := Gv.a0 (hbox); replace HB := Gv.a0 (hbel w HB.out GE119.out); replace BK117 := Gv.a0 ((hoth gb117 NB117_119.out).trans BK117.out); replace BK118 := Gv.a0 ((hoth gb118 NB118_119.out).trans BK118.out); clear hbox hoth hbel) | ((with_reducible refine gate_store (t := 25) rfl ?_); refine Gv.mput_event (g := gb119) (cs' := #[.int .i64 a0_0, .int .i64 t120, .int .i64 t121, .int .i64 t122, .int .i64 t123, .int .i64 t124, .int .i64 t125, .int .i64 t126, .int .i64 t127, .int .i64 t128, .int .i64 t129, .int .i64 t130, .int .i64 t131, .int .i64 t132]) rfl rfl rfl rfl rfl BK119.out (by kernel_rfl) rfl (by simp) rfl ?_; intro wp_ hbox hoth hbel; replace BK119 := Gv.a0 (hbox); replace HB := Gv.a0 (hbel w HB.out GE119.out); replace BK117 := Gv.a0 ((hoth gb117 NB117_119.out).trans BK117.out); replace BK118 := Gv.a0 ((hoth gb118 NB118_119.out).trans BK118.out); clear hbox hoth hbel) | ((with_reducible refine gate_store (t := 31) rfl ?_); refine Gv.mput_event (g := gb119) (cs' := #[.int .i64 a0_0, .int .i64 t120, .int .i64 t121, .int .i64 t122, .int .i64 t123, .int .i64 t124, .int .i64 t125, .int .i64 t126, .int .i64 t127, .int .i64 t128, .int .i64 t129, .int .i64 t130, .int .i64 t131, .int .i64 t132]) rfl rfl rfl rfl rfl BK119.out (by kernel_rfl) rfl (by simp) rfl ?_; intro wp_ hbox hoth hbel; replace BK119 := Gv.a0 (hbox); replace HB := Gv.a0 (hbel w HB.out GE119.out); replace BK117 := Gv.a0 ((hoth gb117 NB117_119.out).trans BK117.out); replace BK118 := Gv.a0 ((hoth gb118 NB118_119.out).trans BK118.out); clear hbox hoth hbel) | ((with_reducible refine Gv.gate_load (t := 33) rfl ?_); refine wpList_load_row rfl 33 _ rfl gb119 rfl 33 _ _ _ BK119.out Try.underlying33 rfl (by kernel_rfl) ?_) | ((with_reducible refine gate_store (t := 33) (p := 2) rfl ?_); refine Gv.store_event (g := gb118) (cells := #[.int .i64 a0_0, .int .i64 t120, .int .i64 t121, .int .i64 t122, .int .i64 t123, .int .i64 t124, .int .i64 t125, .int .i64 t126, .int .i64 t127, .int .i64 t128, .int .i64 t129, .int .i64 t130, .int .i64 t131, .int .i64 t132]) rfl rfl rfl rfl rfl BK118.out (by kernel_rfl) rfl (by simp; and_intros <;> rfl) ?_; intro wp_ hbox hoth hbel; replace BK118 := Gv.a0 (hbox); replace HB := Gv.a0 (hbel w HB.out GE118.out); replace BK117 := Gv.a0 ((hoth gb117 NB117_118.out).trans BK117.out); replace BK119 := Gv.a0 ((hoth gb119 NB119_118.out).trans BK119.out); clear hbox hoth hbel))
 refine bodyPost_ret (results_cell_row rfl _ _ gb118 33 #[.int .i64 a0_0, .int .i64 t120, .int .i64 t121, .int .i64 t122, .int .i64 t123, .int .i64 t124, .int .i64 t125, .int .i64 t126, .int .i64 t127, .int .i64 t128, .int .i64 t129, .int .i64 t130, .int .i64 t131, .int .i64 t132] (0, 0) _ rfl BK118.out Try.underlying33 rfl (by kernel_rfl)) rfl ?_
 exact ⟨Gv.rt, Gv.bw⟩

/-! ### laws_eqAddr: function 88 -/
def laws_eqAddr.f (a0_0 : Int) (a0_1 : Int) (a0_2 : Int) (a0_3 : Int) (a0_4 : Int) (a1_0 : Int) (a1_1 : Int) (a1_2 : Int) (a1_3 : Int) (a1_4 : Int) : Option (Bool) := if a0_0 = a1_0 then (if a0_1 = a1_1 then (if a0_2 = a1_2 then (if a0_3 = a1_3 then (if a0_4 = a1_4 then (some true) else (none)) else (none)) else (none)) else (none)) else (none)
set_option maxHeartbeats 8000000 in
set_option maxRecDepth 100000 in
theorem laws_eqAddr.calls (a0_0 : Int) (a0_1 : Int) (a0_2 : Int) (a0_3 : Int) (a0_4 : Int) (a1_0 : Int) (a1_1 : Int) (a1_2 : Int) (a1_3 : Int) (a1_4 : Int) (r : Bool) (w : World) (h : laws_eqAddr.f a0_0 a0_1 a0_2 a0_3 a0_4 a1_0 a1_1 a1_2 a1_3 a1_4 = some r) :
  Calls Try.prog 88 #[.agg #[.int .i64 a0_0, .int .i64 a0_1, .int .i64 a0_2, .int .i64 a0_3, .int .i64 a0_4], .agg #[.int .i64 a1_0, .int .i64 a1_1, .int .i64 a1_2, .int .i64 a1_3, .int .i64 a1_4]] w fun e w' => e = .returned (.bool r) ∧ Below w.heap.size w w' := by
 have hu29 := Try.underlying29
 have HB := Gv.a0 (Below.refl w.heap.size w)
 have H : (if a0_0 = a1_0 then (if a0_1 = a1_1 then (if a0_2 = a1_2 then (if a0_3 = a1_3 then (if a0_4 = a1_4 then (some true) else (none)) else (none)) else (none)) else (none)) else (none)) = some r := h
 clear h
 by_cases c3 : a0_0 = a1_0
 rotate_left
 ·rw [if_neg c3] at H
  exact absurd H (by simp)

 rw [if_pos c3] at H
 have c3b0 : (a0_0 == a1_0) = true := beq_iff_eq.mpr c3
 have c3b1 : (a0_0 != a1_0) = false := bne_eq_false_iff_eq.mpr c3
 clear c3
 by_cases c4 : a0_1 = a1_1
 rotate_left
 ·rw [if_neg c4] at H
  exact absurd H (by simp)
 rw [if_pos c4] at H
 have c4b0 : (a0_1 == a1_1) = true := beq_iff_eq.mpr c4
 have c4b1 : (a0_1 != a1_1) = false := bne_eq_false_iff_eq.mpr c4
 clear c4
 by_cases c5 : a0_2 = a1_2
 rotate_left
 ·rw [if_neg c5] at H
  exact absurd H (by simp)
 rw [if_pos c5] at H
 have c5b0 : (a0_2 == a1_2) = true := beq_iff_eq.mpr c5
 have c5b1 : (a0_2 != a1_2) = false := bne_eq_false_iff_eq.mpr c5
 clear c5
 by_cases c6 : a0_3 = a1_3
 ·rw [if_pos c6] at H
  have c6b0 : (a0_3 == a1_3) = true := beq_iff_eq.mpr c6
  have c6b1 : (a0_3 != a1_3) = false := bne_eq_false_iff_eq.mpr c6
  clear c6
  by_cases c7 : a0_4 = a1_4
  ·rw [if_pos c7] at H
   have c7b0 : (a0_4 == a1_4) = true := beq_iff_eq.mpr c7
   have c7b1 : (a0_4 != a1_4) = false := bne_eq_false_iff_eq.mpr c7
   clear c7
   obtain rfl := Option.some.inj H
   go_enter Try.func88, Try.ntmps88
   go_wp2_with (first | ((with_reducible refine gate_dst (N := 2) rfl ?_); refine Gv.bev 2 29 #[.int .i64 a0_0, .int .i64 a0_1, .int .i64 a0_2, .int .i64 a0_3, .int .i64 a0_4] ?_; intro gb133 hg w8 hbox hb; have BK133 := Gv.a0 (hbox); have GW133 := Gv.a0 ((Gv.ble hg Gv.bw : w.heap.size ≤ gb133)); have GE133 := Gv.a0 ((Gv.ble hg Gv.bw : w.heap.size ≤ gb133)); replace HB := Gv.a0 (below_step Gv.bw hb); clear hb hbox hg) | ((with_reducible refine gate_dst (N := 3) rfl ?_); refine Gv.bev 3 29 #[.int .i64 a1_0, .int .i64 a1_1, .int .i64 a1_2, .int .i64 a1_3, .int .i64 a1_4] ?_; intro gb134 hg w9 hbox hb; have BK134 := Gv.a0 (hbox); have GW134 := Gv.a0 ((Gv.ble hg Gv.bw : w.heap.size ≤ gb134)); have GE134 := Gv.a0 ((Gv.ble hg Gv.bw : w.heap.size ≤ gb134)); replace HB := Gv.a0 (below_step Gv.bw hb); have NB133_134 := Gv.a0 ((Gv.nlt hg (Gv.kb BK133.out) : gb133 ≠ gb134)); have NB134_133 := Gv.a0 ((Gv.ngt hg (Gv.kb BK133.out) : gb134 ≠ gb133)); replace BK133 := Gv.b1 BK133 hb; clear hb hbox hg; have hnb10 := NB133_134.out; have hnc10 := NB134_133.out; obtain ⟨hcz11_0, hcz11_1, hcz11_2, hcz11_3, hcz11_4⟩ := Gv.c5 BK133.out; obtain ⟨hfz11_0, hfz11_1, hfz11_2, hfz11_3, hfz11_4⟩ := Gv.f5 BK133.out; obtain ⟨hcz12_0, hcz12_1, hcz12_2, hcz12_3, hcz12_4⟩ := Gv.c5 BK134.out; obtain ⟨hfz12_0, hfz12_1, hfz12_2, hfz12_3, hfz12_4⟩ := Gv.f5 BK134.out))
   go_ret
   exact ⟨Gv.rt, Gv.bw⟩
  ·rw [if_neg c7] at H
   exact absurd H (by simp)
 ·rw [if_neg c6] at H
  exact absurd H (by simp)
/-! ### laws_eqKey: function 78 -/
def laws_eqKey.f (a0_0 : Int) (a0_1 : Int) (a0_2 : Int) (a0_3 : Int) (a0_4 : Int) (a0_5 : Int) (a0_6 : Int) (a0_7 : Int) (a0_8 : Int) (a0_9 : Int) (a0_10 : Int) (a0_11 : Int) (a0_12 : Int) (a1_0 : Int) (a1_1 : Int) (a1_2 : Int) (a1_3 : Int) (a1_4 : Int) (a1_5 : Int) (a1_6 : Int) (a1_7 : Int) (a1_8 : Int) (a1_9 : Int) (a1_10 : Int) (a1_11 : Int) (a1_12 : Int) : Option (Bool) := (laws_eqAddr.f a0_0 a0_1 a0_2 a0_3 a0_4 a1_0 a1_1 a1_2 a1_3 a1_4).bind fun t137 => (if t137 = true then ((laws_eqAddr.f a0_5 a0_6 a0_7 a0_8 a0_9 a1_5 a1_6 a1_7 a1_8 a1_9).bind fun t138 => (if t138 = true then (if a0_10 = a1_10 then (if a0_11 = a1_11 then (if a0_12 = a1_12 then (some true) else (none)) else (none)) else (none)) else (none))) else (none))
set_option maxHeartbeats 8000000 in
set_option maxRecDepth 100000 in
theorem laws_eqKey.calls (a0_0 : Int) (a0_1 : Int) (a0_2 : Int) (a0_3 : Int) (a0_4 : Int) (a0_5 : Int) (a0_6 : Int) (a0_7 : Int) (a0_8 : Int) (a0_9 : Int) (a0_10 : Int) (a0_11 : Int) (a0_12 : Int) (a1_0 : Int) (a1_1 : Int) (a1_2 : Int) (a1_3 : Int) (a1_4 : Int) (a1_5 : Int) (a1_6 : Int) (a1_7 : Int) (a1_8 : Int) (a1_9 : Int) (a1_10 : Int) (a1_11 : Int) (a1_12 : Int) (r : Bool) (w : World) (h : laws_eqKey.f a0_0 a0_1 a0_2 a0_3 a0_4 a0_5 a0_6 a0_7 a0_8 a0_9 a0_10 a0_11 a0_12 a1_0 a1_1 a1_2 a1_3 a1_4 a1_5 a1_6 a1_7 a1_8 a1_9 a1_10 a1_11 a1_12 = some r) :
  Calls Try.prog 78 #[.agg #[.int .i64 a0_0, .int .i64 a0_1, .int .i64 a0_2, .int .i64 a0_3, .int .i64 a0_4, .int .i64 a0_5, .int .i64 a0_6, .int .i64 a0_7, .int .i64 a0_8, .int .i64 a0_9, .int .i64 a0_10, .int .i64 a0_11, .int .i64 a0_12], .agg #[.int .i64 a1_0, .int .i64 a1_1, .int .i64 a1_2, .int .i64 a1_3, .int .i64 a1_4, .int .i64 a1_5, .int .i64 a1_6, .int .i64 a1_7, .int .i64 a1_8, .int .i64 a1_9, .int .i64 a1_10, .int .i64 a1_11, .int .i64 a1_12]] w fun e w' => e = .returned (.bool r) ∧ Below w.heap.size w w' := by
 have hu31 := Try.underlying31
 have hu29 := Try.underlying29
 have HB := Gv.a0 (Below.refl w.heap.size w)
 have H : ((laws_eqAddr.f a0_0 a0_1 a0_2 a0_3 a0_4 a1_0 a1_1 a1_2 a1_3 a1_4).bind fun t137 => (if t137 = true then ((laws_eqAddr.f a0_5 a0_6 a0_7 a0_8 a0_9 a1_5 a1_6 a1_7 a1_8 a1_9).bind fun t138 => (if t138 = true then (if a0_10 = a1_10 then (if a0_11 = a1_11 then (if a0_12 = a1_12 then (some true) else (none)) else (none)) else (none)) else (none))) else (none))) = some r := h
 clear h
 replace H := Option.bind_eq_some_iff.mp H
 obtain ⟨t137, A30, H⟩ := H
 (try dsimp only at H)
 have A3 := Gv.a0 A30
 clear A30
 by_cases c4 : t137 = true
 rotate_left
 ·replace c4 := Bool.eq_false_iff.mpr c4
  subst c4
  rw [if_neg (show ¬ (false = true) by decide)] at H
  (try dsimp only at H)
  exact absurd H (by simp)

 subst c4
 rw [if_pos rfl] at H
 (try dsimp only at H)
 replace H := Option.bind_eq_some_iff.mp H
 obtain ⟨t138, A50, H⟩ := H
 (try dsimp only at H)
 have A5 := Gv.a0 A50
 clear A50
 by_cases c6 : t138 = true
 rotate_left
 ·replace c6 := Bool.eq_false_iff.mpr c6
  subst c6
  rw [if_neg (show ¬ (false = true) by decide)] at H
  (try dsimp only at H)
  exact absurd H (by simp)
 subst c6
 rw [if_pos rfl] at H
 (try dsimp only at H)
 by_cases c7 : a0_10 = a1_10
 rotate_left
 ·rw [if_neg c7] at H
  exact absurd H (by simp)
 rw [if_pos c7] at H
 have c7b0 : (a0_10 == a1_10) = true := beq_iff_eq.mpr c7
 have c7b1 : (a0_10 != a1_10) = false := bne_eq_false_iff_eq.mpr c7
 clear c7
 by_cases c8 : a0_11 = a1_11
 ·rw [if_pos c8] at H
  have c8b0 : (a0_11 == a1_11) = true := beq_iff_eq.mpr c8
  have c8b1 : (a0_11 != a1_11) = false := bne_eq_false_iff_eq.mpr c8
  clear c8
  by_cases c9 : a0_12 = a1_12
  ·rw [if_pos c9] at H
   have c9b0 : (a0_12 == a1_12) = true := beq_iff_eq.mpr c9
   have c9b1 : (a0_12 != a1_12) = false := bne_eq_false_iff_eq.mpr c9
   clear c9
   obtain rfl := Option.some.inj H
   go_enter Try.func78, Try.ntmps78
   go_wp2_with (first | ((with_reducible refine gate_dst (N := 2) rfl ?_); refine Gv.bev 2 31 #[.int .i64 a0_0, .int .i64 a0_1, .int .i64 a0_2, .int .i64 a0_3, .int .i64 a0_4, .int .i64 a0_5, .int .i64 a0_6, .int .i64 a0_7, .int .i64 a0_8, .int .i64 a0_9, .int .i64 a0_10, .int .i64 a0_11, .int .i64 a0_12] ?_; intro gb135 hg w10 hbox hb; have BK135 := Gv.a0 (hbox); have GW135 := Gv.a0 ((Gv.ble hg Gv.bw : w.heap.size ≤ gb135)); have GE135 := Gv.a0 ((Gv.ble hg Gv.bw : w.heap.size ≤ gb135)); replace HB := Gv.a0 (below_step Gv.bw hb); clear hb hbox hg) | ((with_reducible refine gate_dst (N := 3) rfl ?_); refine Gv.bev 3 31 #[.int .i64 a1_0, .int .i64 a1_1, .int .i64 a1_2, .int .i64 a1_3, .int .i64 a1_4, .int .i64 a1_5, .int .i64 a1_6, .int .i64 a1_7, .int .i64 a1_8, .int .i64 a1_9, .int .i64 a1_10, .int .i64 a1_11, .int .i64 a1_12] ?_; intro gb136 hg w11 hbox hb; have BK136 := Gv.a0 (hbox); have GW136 := Gv.a0 ((Gv.ble hg Gv.bw : w.heap.size ≤ gb136)); have GE136 := Gv.a0 ((Gv.ble hg Gv.bw : w.heap.size ≤ gb136)); replace HB := Gv.a0 (below_step Gv.bw hb); have NB135_136 := Gv.a0 ((Gv.nlt hg (Gv.kb BK135.out) : gb135 ≠ gb136)); have NB136_135 := Gv.a0 ((Gv.ngt hg (Gv.kb BK135.out) : gb136 ≠ gb135)); replace BK135 := Gv.b1 BK135 hb; clear hb hbox hg; have hnb12 := NB135_136.out; have hnc12 := NB136_135.out; obtain ⟨hcz13_0, hcz13_1, hcz13_2, hcz13_3, hcz13_4, hcz13_5, hcz13_6, hcz13_7, hcz13_8, hcz13_9, hcz13_10, hcz13_11, hcz13_12⟩ := Gv.c13 BK135.out; obtain ⟨hfz13_0, hfz13_1, hfz13_2, hfz13_3, hfz13_4, hfz13_5, hfz13_6, hfz13_7, hfz13_8, hfz13_9, hfz13_10, hfz13_11, hfz13_12⟩ := Gv.f13 BK135.out; obtain ⟨hcz14_0, hcz14_1, hcz14_2, hcz14_3, hcz14_4, hcz14_5, hcz14_6, hcz14_7, hcz14_8, hcz14_9, hcz14_10, hcz14_11, hcz14_12⟩ := Gv.c13 BK136.out; obtain ⟨hfz14_0, hfz14_1, hfz14_2, hfz14_3, hfz14_4, hfz14_5, hfz14_6, hfz14_7, hfz14_8, hfz14_9, hfz14_10, hfz14_11, hfz14_12⟩ := Gv.f13 BK136.out) | ((with_reducible refine gate_callee (f := 88) rfl ?_); refine goesL_ (some 9) rfl rfl Try.func88 (by kernel_rfl) rfl #[.agg #[.int .i64 a0_0, .int .i64 a0_1, .int .i64 a0_2, .int .i64 a0_3, .int .i64 a0_4], .agg #[.int .i64 a1_0, .int .i64 a1_1, .int .i64 a1_2, .int .i64 a1_3, .int .i64 a1_4]] rfl Gv.lm ?_; (with_reducible refine (laws_eqAddr.calls a0_0 a0_1 a0_2 a0_3 a0_4 a1_0 a1_1 a1_2 a1_3 a1_4 true _ A3.out).mono ?_); rintro e w15 ⟨rfl, hb⟩; refine ⟨_, rfl, ?_⟩; replace BK135 := Gv.b1 BK135 hb; replace BK136 := Gv.b1 BK136 hb; replace HB := Gv.a0 (below_step Gv.bw hb); clear hb; obtain ⟨hcz16_0, hcz16_1, hcz16_2, hcz16_3, hcz16_4, hcz16_5, hcz16_6, hcz16_7, hcz16_8, hcz16_9, hcz16_10, hcz16_11, hcz16_12⟩ := Gv.c13 BK135.out; obtain ⟨hfz16_0, hfz16_1, hfz16_2, hfz16_3, hfz16_4, hfz16_5, hfz16_6, hfz16_7, hfz16_8, hfz16_9, hfz16_10, hfz16_11, hfz16_12⟩ := Gv.f13 BK135.out; obtain ⟨hcz17_0, hcz17_1, hcz17_2, hcz17_3, hcz17_4, hcz17_5, hcz17_6, hcz17_7, hcz17_8, hcz17_9, hcz17_10, hcz17_11, hcz17_12⟩ := Gv.c13 BK136.out; obtain ⟨hfz17_0, hfz17_1, hfz17_2, hfz17_3, hfz17_4, hfz17_5, hfz17_6, hfz17_7, hfz17_8, hfz17_9, hfz17_10, hfz17_11, hfz17_12⟩ := Gv.f13 BK136.out) | ((with_reducible refine gate_callee (f := 88) rfl ?_); refine goesL_ (some 15) rfl rfl Try.func88 (by kernel_rfl) rfl #[.agg #[.int .i64 a0_5, .int .i64 a0_6, .int .i64 a0_7, .int .i64 a0_8, .int .i64 a0_9], .agg #[.int .i64 a1_5, .int .i64 a1_6, .int .i64 a1_7, .int .i64 a1_8, .int .i64 a1_9]] rfl Gv.lm ?_; (with_reducible refine (laws_eqAddr.calls a0_5 a0_6 a0_7 a0_8 a0_9 a1_5 a1_6 a1_7 a1_8 a1_9 true _ A5.out).mono ?_); rintro e w18 ⟨rfl, hb⟩; refine ⟨_, rfl, ?_⟩; replace BK135 := Gv.b1 BK135 hb; replace BK136 := Gv.b1 BK136 hb; replace HB := Gv.a0 (below_step Gv.bw hb); clear hb; obtain ⟨hcz19_0, hcz19_1, hcz19_2, hcz19_3, hcz19_4, hcz19_5, hcz19_6, hcz19_7, hcz19_8, hcz19_9, hcz19_10, hcz19_11, hcz19_12⟩ := Gv.c13 BK135.out; obtain ⟨hfz19_0, hfz19_1, hfz19_2, hfz19_3, hfz19_4, hfz19_5, hfz19_6, hfz19_7, hfz19_8, hfz19_9, hfz19_10, hfz19_11, hfz19_12⟩ := Gv.f13 BK135.out; obtain ⟨hcz20_0, hcz20_1, hcz20_2, hcz20_3, hcz20_4, hcz20_5, hcz20_6, hcz20_7, hcz20_8, hcz20_9, hcz20_10, hcz20_11, hcz20_12⟩ := Gv.c13 BK136.out; obtain ⟨hfz20_0, hfz20_1, hfz20_2, hfz20_3, hfz20_4, hfz20_5, hfz20_6, hfz20_7, hfz20_8, hfz20_9, hfz20_10, hfz20_11, hfz20_12⟩ := Gv.f13 BK136.out))
   go_ret
   exact ⟨Gv.rt, Gv.bw⟩
  ·rw [if_neg c9] at H
   exact absurd H (by simp)
 ·rw [if_neg c8] at H
  exact absurd H (by simp)
/-! ### laws_eqFlowKey: function 61 -/
def laws_eqFlowKey.f (a0_0 : Int) (a0_1 : Int) (a0_2 : Int) (a0_3 : Int) (a0_4 : Int) (a0_5 : Int) (a0_6 : Int) (a0_7 : Int) (a0_8 : Int) (a0_9 : Int) (a0_10 : Int) (a0_11 : Int) (a0_12 : Int) (a0_13 : Int) (a1_0 : Int) (a1_1 : Int) (a1_2 : Int) (a1_3 : Int) (a1_4 : Int) (a1_5 : Int) (a1_6 : Int) (a1_7 : Int) (a1_8 : Int) (a1_9 : Int) (a1_10 : Int) (a1_11 : Int) (a1_12 : Int) (a1_13 : Int) : Option (Bool) := if a0_0 = a1_0 then ((laws_eqKey.f a0_1 a0_2 a0_3 a0_4 a0_5 a0_6 a0_7 a0_8 a0_9 a0_10 a0_11 a0_12 a0_13 a1_1 a1_2 a1_3 a1_4 a1_5 a1_6 a1_7 a1_8 a1_9 a1_10 a1_11 a1_12 a1_13).bind fun t141 => (if t141 = true then (some true) else (none))) else (none)
set_option maxHeartbeats 8000000 in
set_option maxRecDepth 100000 in
theorem laws_eqFlowKey.calls (a0_0 : Int) (a0_1 : Int) (a0_2 : Int) (a0_3 : Int) (a0_4 : Int) (a0_5 : Int) (a0_6 : Int) (a0_7 : Int) (a0_8 : Int) (a0_9 : Int) (a0_10 : Int) (a0_11 : Int) (a0_12 : Int) (a0_13 : Int) (a1_0 : Int) (a1_1 : Int) (a1_2 : Int) (a1_3 : Int) (a1_4 : Int) (a1_5 : Int) (a1_6 : Int) (a1_7 : Int) (a1_8 : Int) (a1_9 : Int) (a1_10 : Int) (a1_11 : Int) (a1_12 : Int) (a1_13 : Int) (r : Bool) (w : World) (h : laws_eqFlowKey.f a0_0 a0_1 a0_2 a0_3 a0_4 a0_5 a0_6 a0_7 a0_8 a0_9 a0_10 a0_11 a0_12 a0_13 a1_0 a1_1 a1_2 a1_3 a1_4 a1_5 a1_6 a1_7 a1_8 a1_9 a1_10 a1_11 a1_12 a1_13 = some r) :
  Calls Try.prog 61 #[.agg #[.int .i64 a0_0, .int .i64 a0_1, .int .i64 a0_2, .int .i64 a0_3, .int .i64 a0_4, .int .i64 a0_5, .int .i64 a0_6, .int .i64 a0_7, .int .i64 a0_8, .int .i64 a0_9, .int .i64 a0_10, .int .i64 a0_11, .int .i64 a0_12, .int .i64 a0_13], .agg #[.int .i64 a1_0, .int .i64 a1_1, .int .i64 a1_2, .int .i64 a1_3, .int .i64 a1_4, .int .i64 a1_5, .int .i64 a1_6, .int .i64 a1_7, .int .i64 a1_8, .int .i64 a1_9, .int .i64 a1_10, .int .i64 a1_11, .int .i64 a1_12, .int .i64 a1_13]] w fun e w' => e = .returned (.bool r) ∧ Below w.heap.size w w' := by
 have hu33 := Try.underlying33
 have hu31 := Try.underlying31
 have HB := Gv.a0 (Below.refl w.heap.size w)
 have H : (if a0_0 = a1_0 then ((laws_eqKey.f a0_1 a0_2 a0_3 a0_4 a0_5 a0_6 a0_7 a0_8 a0_9 a0_10 a0_11 a0_12 a0_13 a1_1 a1_2 a1_3 a1_4 a1_5 a1_6 a1_7 a1_8 a1_9 a1_10 a1_11 a1_12 a1_13).bind fun t141 => (if t141 = true then (some true) else (none))) else (none)) = some r := h
 clear h
 by_cases c3 : a0_0 = a1_0
 rotate_left
 ·rw [if_neg c3] at H
  exact absurd H (by simp)

 rw [if_pos c3] at H
 have c3b0 : (a0_0 == a1_0) = true := beq_iff_eq.mpr c3
 have c3b1 : (a0_0 != a1_0) = false := bne_eq_false_iff_eq.mpr c3
 clear c3
 replace H := Option.bind_eq_some_iff.mp H
 obtain ⟨t141, A40, H⟩ := H
 (try dsimp only at H)
 have A4 := Gv.a0 A40
 clear A40
 by_cases c5 : t141 = true
 ·subst c5
  rw [if_pos rfl] at H
  (try dsimp only at H)
  obtain rfl := Option.some.inj H
  go_enter Try.func61, Try.ntmps61
  go_wp2_with (first | ((with_reducible refine gate_dst (N := 2) rfl ?_); refine Gv.bev 2 33 #[.int .i64 a0_0, .int .i64 a0_1, .int .i64 a0_2, .int .i64 a0_3, .int .i64 a0_4, .int .i64 a0_5, .int .i64 a0_6, .int .i64 a0_7, .int .i64 a0_8, .int .i64 a0_9, .int .i64 a0_10, .int .i64 a0_11, .int .i64 a0_12, .int .i64 a0_13] ?_; intro gb139 hg w6 hbox hb; have BK139 := Gv.a0 (hbox); have GW139 := Gv.a0 ((Gv.ble hg Gv.bw : w.heap.size ≤ gb139)); have GE139 := Gv.a0 ((Gv.ble hg Gv.bw : w.heap.size ≤ gb139)); replace HB := Gv.a0 (below_step Gv.bw hb); clear hb hbox hg) | ((with_reducible refine gate_dst (N := 3) rfl ?_); refine Gv.bev 3 33 #[.int .i64 a1_0, .int .i64 a1_1, .int .i64 a1_2, .int .i64 a1_3, .int .i64 a1_4, .int .i64 a1_5, .int .i64 a1_6, .int .i64 a1_7, .int .i64 a1_8, .int .i64 a1_9, .int .i64 a1_10, .int .i64 a1_11, .int .i64 a1_12, .int .i64 a1_13] ?_; intro gb140 hg w7 hbox hb; have BK140 := Gv.a0 (hbox); have GW140 := Gv.a0 ((Gv.ble hg Gv.bw : w.heap.size ≤ gb140)); have GE140 := Gv.a0 ((Gv.ble hg Gv.bw : w.heap.size ≤ gb140)); replace HB := Gv.a0 (below_step Gv.bw hb); have NB139_140 := Gv.a0 ((Gv.nlt hg (Gv.kb BK139.out) : gb139 ≠ gb140)); have NB140_139 := Gv.a0 ((Gv.ngt hg (Gv.kb BK139.out) : gb140 ≠ gb139)); replace BK139 := Gv.b1 BK139 hb; clear hb hbox hg; have hnb8 := NB139_140.out; have hnc8 := NB140_139.out; obtain ⟨hcz9_0, hcz9_1, hcz9_2, hcz9_3, hcz9_4, hcz9_5, hcz9_6, hcz9_7, hcz9_8, hcz9_9, hcz9_10, hcz9_11, hcz9_12, hcz9_13⟩ := Gv.c14 BK139.out; obtain ⟨hfz9_0, hfz9_1, hfz9_2, hfz9_3, hfz9_4, hfz9_5, hfz9_6, hfz9_7, hfz9_8, hfz9_9, hfz9_10, hfz9_11, hfz9_12, hfz9_13⟩ := Gv.f14 BK139.out; obtain ⟨hcz10_0, hcz10_1, hcz10_2, hcz10_3, hcz10_4, hcz10_5, hcz10_6, hcz10_7, hcz10_8, hcz10_9, hcz10_10, hcz10_11, hcz10_12, hcz10_13⟩ := Gv.c14 BK140.out; obtain ⟨hfz10_0, hfz10_1, hfz10_2, hfz10_3, hfz10_4, hfz10_5, hfz10_6, hfz10_7, hfz10_8, hfz10_9, hfz10_10, hfz10_11, hfz10_12, hfz10_13⟩ := Gv.f14 BK140.out) | ((with_reducible refine gate_callee (f := 78) rfl ?_); refine goesL_ (some 14) rfl rfl Try.func78 (by kernel_rfl) rfl #[.agg #[.int .i64 a0_1, .int .i64 a0_2, .int .i64 a0_3, .int .i64 a0_4, .int .i64 a0_5, .int .i64 a0_6, .int .i64 a0_7, .int .i64 a0_8, .int .i64 a0_9, .int .i64 a0_10, .int .i64 a0_11, .int .i64 a0_12, .int .i64 a0_13], .agg #[.int .i64 a1_1, .int .i64 a1_2, .int .i64 a1_3, .int .i64 a1_4, .int .i64 a1_5, .int .i64 a1_6, .int .i64 a1_7, .int .i64 a1_8, .int .i64 a1_9, .int .i64 a1_10, .int .i64 a1_11, .int .i64 a1_12, .int .i64 a1_13]] rfl Gv.lm ?_; (with_reducible refine (laws_eqKey.calls a0_1 a0_2 a0_3 a0_4 a0_5 a0_6 a0_7 a0_8 a0_9 a0_10 a0_11 a0_12 a0_13 a1_1 a1_2 a1_3 a1_4 a1_5 a1_6 a1_7 a1_8 a1_9 a1_10 a1_11 a1_12 a1_13 true _ A4.out).mono ?_); rintro e w11 ⟨rfl, hb⟩; refine ⟨_, rfl, ?_⟩; replace BK139 := Gv.b1 BK139 hb; replace BK140 := Gv.b1 BK140 hb; replace HB := Gv.a0 (below_step Gv.bw hb); clear hb))
  go_ret
  exact ⟨Gv.rt, Gv.bw⟩
 ·replace c5 := Bool.eq_false_iff.mpr c5
  subst c5
  rw [if_neg (show ¬ (false = true) by decide)] at H
  (try dsimp only at H)
  exact absurd H (by simp)
/-! ### laws_eqCell: function 76 -/
def laws_eqCell.f (a0_0 : Bool) (a0_1 : Int) (a0_2 : Int) (a0_3 : Int) (a0_4 : Int) (a0_5 : Int) (a0_6 : Int) (a0_7 : Int) (a0_8 : Int) (a0_9 : Int) (a0_10 : Int) (a0_11 : Int) (a0_12 : Int) (a0_13 : Int) (a0_14 : Int) (a0_15 : Int) (a1_0 : Bool) (a1_1 : Int) (a1_2 : Int) (a1_3 : Int) (a1_4 : Int) (a1_5 : Int) (a1_6 : Int) (a1_7 : Int) (a1_8 : Int) (a1_9 : Int) (a1_10 : Int) (a1_11 : Int) (a1_12 : Int) (a1_13 : Int) (a1_14 : Int) (a1_15 : Int) : Option (Bool) := if (a0_0 != a1_0) = true then (none) else ((laws_eqFlowKey.f a0_1 a0_2 a0_3 a0_4 a0_5 a0_6 a0_7 a0_8 a0_9 a0_10 a0_11 a0_12 a0_13 a0_14 a1_1 a1_2 a1_3 a1_4 a1_5 a1_6 a1_7 a1_8 a1_9 a1_10 a1_11 a1_12 a1_13 a1_14).bind fun t144 => (if t144 = true then (if a0_15 = a1_15 then (some true) else (none)) else (none)))
set_option maxHeartbeats 8000000 in
set_option maxRecDepth 100000 in
theorem laws_eqCell.calls (a0_0 : Bool) (a0_1 : Int) (a0_2 : Int) (a0_3 : Int) (a0_4 : Int) (a0_5 : Int) (a0_6 : Int) (a0_7 : Int) (a0_8 : Int) (a0_9 : Int) (a0_10 : Int) (a0_11 : Int) (a0_12 : Int) (a0_13 : Int) (a0_14 : Int) (a0_15 : Int) (a1_0 : Bool) (a1_1 : Int) (a1_2 : Int) (a1_3 : Int) (a1_4 : Int) (a1_5 : Int) (a1_6 : Int) (a1_7 : Int) (a1_8 : Int) (a1_9 : Int) (a1_10 : Int) (a1_11 : Int) (a1_12 : Int) (a1_13 : Int) (a1_14 : Int) (a1_15 : Int) (r : Bool) (w : World) (h : laws_eqCell.f a0_0 a0_1 a0_2 a0_3 a0_4 a0_5 a0_6 a0_7 a0_8 a0_9 a0_10 a0_11 a0_12 a0_13 a0_14 a0_15 a1_0 a1_1 a1_2 a1_3 a1_4 a1_5 a1_6 a1_7 a1_8 a1_9 a1_10 a1_11 a1_12 a1_13 a1_14 a1_15 = some r) :
  Calls Try.prog 76 #[.agg #[.bool a0_0, .int .i64 a0_1, .int .i64 a0_2, .int .i64 a0_3, .int .i64 a0_4, .int .i64 a0_5, .int .i64 a0_6, .int .i64 a0_7, .int .i64 a0_8, .int .i64 a0_9, .int .i64 a0_10, .int .i64 a0_11, .int .i64 a0_12, .int .i64 a0_13, .int .i64 a0_14, .int .i64 a0_15], .agg #[.bool a1_0, .int .i64 a1_1, .int .i64 a1_2, .int .i64 a1_3, .int .i64 a1_4, .int .i64 a1_5, .int .i64 a1_6, .int .i64 a1_7, .int .i64 a1_8, .int .i64 a1_9, .int .i64 a1_10, .int .i64 a1_11, .int .i64 a1_12, .int .i64 a1_13, .int .i64 a1_14, .int .i64 a1_15]] w fun e w' => e = .returned (.bool r) ∧ Below w.heap.size w w' := by
 have hu75 := Try.underlying75
 have hu33 := Try.underlying33
 have HB := Gv.a0 (Below.refl w.heap.size w)
 have H : (if (a0_0 != a1_0) = true then (none) else ((laws_eqFlowKey.f a0_1 a0_2 a0_3 a0_4 a0_5 a0_6 a0_7 a0_8 a0_9 a0_10 a0_11 a0_12 a0_13 a0_14 a1_1 a1_2 a1_3 a1_4 a1_5 a1_6 a1_7 a1_8 a1_9 a1_10 a1_11 a1_12 a1_13 a1_14).bind fun t144 => (if t144 = true then (if a0_15 = a1_15 then (some true) else (none)) else (none)))) = some r := h
 clear h
 by_cases c3 : (a0_0 != a1_0) = true
 ·rw [if_pos c3] at H
  exact absurd H (by simp)
 ·rw [if_neg c3] at H
  have c3b0 : (a0_0 != a1_0) = false := by simpa using c3
  (try (have c3b1 : decide (a0_0 = a1_0) = true := by simpa using c3))
  (try (have c3b2 : (a0_0 == a1_0) = true := by simpa using c3))
  clear c3
  replace H := Option.bind_eq_some_iff.mp H
  obtain ⟨t144, A40, H⟩ := H
  (try dsimp only at H)
  have A4 := Gv.a0 A40
  clear A40
  by_cases c5 : t144 = true
  ·subst c5
   rw [if_pos rfl] at H
   (try dsimp only at H)
   by_cases c6 : a0_15 = a1_15
   ·rw [if_pos c6] at H
    have c6b0 : (a0_15 == a1_15) = true := beq_iff_eq.mpr c6
    have c6b1 : (a0_15 != a1_15) = false := bne_eq_false_iff_eq.mpr c6
    clear c6
    obtain rfl := Option.some.inj H
    go_enter Try.func76, Try.ntmps76
    go_wp2_with (first | ((with_reducible refine gate_dst (N := 2) rfl ?_); refine Gv.bev 2 75 #[.bool a0_0, .int .i64 a0_1, .int .i64 a0_2, .int .i64 a0_3, .int .i64 a0_4, .int .i64 a0_5, .int .i64 a0_6, .int .i64 a0_7, .int .i64 a0_8, .int .i64 a0_9, .int .i64 a0_10, .int .i64 a0_11, .int .i64 a0_12, .int .i64 a0_13, .int .i64 a0_14, .int .i64 a0_15] ?_; intro gb142 hg w7 hbox hb; have BK142 := Gv.a0 (hbox); have GW142 := Gv.a0 ((Gv.ble hg Gv.bw : w.heap.size ≤ gb142)); have GE142 := Gv.a0 ((Gv.ble hg Gv.bw : w.heap.size ≤ gb142)); replace HB := Gv.a0 (below_step Gv.bw hb); clear hb hbox hg) | ((with_reducible refine gate_dst (N := 3) rfl ?_); refine Gv.bev 3 75 #[.bool a1_0, .int .i64 a1_1, .int .i64 a1_2, .int .i64 a1_3, .int .i64 a1_4, .int .i64 a1_5, .int .i64 a1_6, .int .i64 a1_7, .int .i64 a1_8, .int .i64 a1_9, .int .i64 a1_10, .int .i64 a1_11, .int .i64 a1_12, .int .i64 a1_13, .int .i64 a1_14, .int .i64 a1_15] ?_; intro gb143 hg w8 hbox hb; have BK143 := Gv.a0 (hbox); have GW143 := Gv.a0 ((Gv.ble hg Gv.bw : w.heap.size ≤ gb143)); have GE143 := Gv.a0 ((Gv.ble hg Gv.bw : w.heap.size ≤ gb143)); replace HB := Gv.a0 (below_step Gv.bw hb); have NB142_143 := Gv.a0 ((Gv.nlt hg (Gv.kb BK142.out) : gb142 ≠ gb143)); have NB143_142 := Gv.a0 ((Gv.ngt hg (Gv.kb BK142.out) : gb143 ≠ gb142)); replace BK142 := Gv.b1 BK142 hb; clear hb hbox hg; have hnb9 := NB142_143.out; have hnc9 := NB143_142.out; obtain ⟨hcz10_0, hcz10_1, hcz10_2, hcz10_3, hcz10_4, hcz10_5, hcz10_6, hcz10_7, hcz10_8, hcz10_9, hcz10_10, hcz10_11, hcz10_12, hcz10_13, hcz10_14, hcz10_15⟩ := Gv.c16 BK142.out; obtain ⟨hfz10_0, hfz10_1, hfz10_2, hfz10_3, hfz10_4, hfz10_5, hfz10_6, hfz10_7, hfz10_8, hfz10_9, hfz10_10, hfz10_11, hfz10_12, hfz10_13, hfz10_14, hfz10_15⟩ := Gv.f16 BK142.out; obtain ⟨hcz11_0, hcz11_1, hcz11_2, hcz11_3, hcz11_4, hcz11_5, hcz11_6, hcz11_7, hcz11_8, hcz11_9, hcz11_10, hcz11_11, hcz11_12, hcz11_13, hcz11_14, hcz11_15⟩ := Gv.c16 BK143.out; obtain ⟨hfz11_0, hfz11_1, hfz11_2, hfz11_3, hfz11_4, hfz11_5, hfz11_6, hfz11_7, hfz11_8, hfz11_9, hfz11_10, hfz11_11, hfz11_12, hfz11_13, hfz11_14, hfz11_15⟩ := Gv.f16 BK143.out) | ((with_reducible refine gate_callee (f := 61) rfl ?_); refine goesL_ (some 14) rfl rfl Try.func61 (by kernel_rfl) rfl #[.agg #[.int .i64 a0_1, .int .i64 a0_2, .int .i64 a0_3, .int .i64 a0_4, .int .i64 a0_5, .int .i64 a0_6, .int .i64 a0_7, .int .i64 a0_8, .int .i64 a0_9, .int .i64 a0_10, .int .i64 a0_11, .int .i64 a0_12, .int .i64 a0_13, .int .i64 a0_14], .agg #[.int .i64 a1_1, .int .i64 a1_2, .int .i64 a1_3, .int .i64 a1_4, .int .i64 a1_5, .int .i64 a1_6, .int .i64 a1_7, .int .i64 a1_8, .int .i64 a1_9, .int .i64 a1_10, .int .i64 a1_11, .int .i64 a1_12, .int .i64 a1_13, .int .i64 a1_14]] rfl Gv.lm ?_; (with_reducible refine (laws_eqFlowKey.calls a0_1 a0_2 a0_3 a0_4 a0_5 a0_6 a0_7 a0_8 a0_9 a0_10 a0_11 a0_12 a0_13 a0_14 a1_1 a1_2 a1_3 a1_4 a1_5 a1_6 a1_7 a1_8 a1_9 a1_10 a1_11 a1_12 a1_13 a1_14 true _ A4.out).mono ?_); rintro e w12 ⟨rfl, hb⟩; refine ⟨_, rfl, ?_⟩; replace BK142 := Gv.b1 BK142 hb; replace BK143 := Gv.b1 BK143 hb; replace HB := Gv.a0 (below_step Gv.bw hb); clear hb; obtain ⟨hcz13_0, hcz13_1, hcz13_2, hcz13_3, hcz13_4, hcz13_5, hcz13_6, hcz13_7, hcz13_8, hcz13_9, hcz13_10, hcz13_11, hcz13_12, hcz13_13, hcz13_14, hcz13_15⟩ := Gv.c16 BK142.out; obtain ⟨hfz13_0, hfz13_1, hfz13_2, hfz13_3, hfz13_4, hfz13_5, hfz13_6, hfz13_7, hfz13_8, hfz13_9, hfz13_10, hfz13_11, hfz13_12, hfz13_13, hfz13_14, hfz13_15⟩ := Gv.f16 BK142.out; obtain ⟨hcz14_0, hcz14_1, hcz14_2, hcz14_3, hcz14_4, hcz14_5, hcz14_6, hcz14_7, hcz14_8, hcz14_9, hcz14_10, hcz14_11, hcz14_12, hcz14_13, hcz14_14, hcz14_15⟩ := Gv.c16 BK143.out; obtain ⟨hfz14_0, hfz14_1, hfz14_2, hfz14_3, hfz14_4, hfz14_5, hfz14_6, hfz14_7, hfz14_8, hfz14_9, hfz14_10, hfz14_11, hfz14_12, hfz14_13, hfz14_14, hfz14_15⟩ := Gv.f16 BK143.out))
    go_ret
    exact ⟨Gv.rt, Gv.bw⟩
   ·rw [if_neg c6] at H
    exact absurd H (by simp)
  ·replace c5 := Bool.eq_false_iff.mpr c5
   subst c5
   rw [if_neg (show ¬ (false = true) by decide)] at H
   (try dsimp only at H)
   exact absurd H (by simp)

/-! ### laws_eqCellS: function 49 -/
def laws_eqCellS.l0 : Nat → List (S75) → List (S75) → Int → Option (Bool)
 | 0, _, _, _ => none
 | k + 1, x0, x1, x5 => if x5 < (x0.length : Int) then (if 0 ≤ x5 then (if x5 < (x1.length : Int) then ((laws_eqCell.f ((rd_T75 x0 x5).f0) ((rd_T75 x0 x5).f1.f0) ((rd_T75 x0 x5).f1.f1.f0.f0) ((rd_T75 x0 x5).f1.f1.f0.f1) ((rd_T75 x0 x5).f1.f1.f0.f2) ((rd_T75 x0 x5).f1.f1.f0.f3) ((rd_T75 x0 x5).f1.f1.f0.f4) ((rd_T75 x0 x5).f1.f1.f1.f0) ((rd_T75 x0 x5).f1.f1.f1.f1) ((rd_T75 x0 x5).f1.f1.f1.f2) ((rd_T75 x0 x5).f1.f1.f1.f3) ((rd_T75 x0 x5).f1.f1.f1.f4) ((rd_T75 x0 x5).f1.f1.f2) ((rd_T75 x0 x5).f1.f1.f3) ((rd_T75 x0 x5).f1.f1.f4) ((rd_T75 x0 x5).f2) ((rd_T75 x1 x5).f0) ((rd_T75 x1 x5).f1.f0) ((rd_T75 x1 x5).f1.f1.f0.f0) ((rd_T75 x1 x5).f1.f1.f0.f1) ((rd_T75 x1 x5).f1.f1.f0.f2) ((rd_T75 x1 x5).f1.f1.f0.f3) ((rd_T75 x1 x5).f1.f1.f0.f4) ((rd_T75 x1 x5).f1.f1.f1.f0) ((rd_T75 x1 x5).f1.f1.f1.f1) ((rd_T75 x1 x5).f1.f1.f1.f2) ((rd_T75 x1 x5).f1.f1.f1.f3) ((rd_T75 x1 x5).f1.f1.f1.f4) ((rd_T75 x1 x5).f1.f1.f2) ((rd_T75 x1 x5).f1.f1.f3) ((rd_T75 x1 x5).f1.f1.f4) ((rd_T75 x1 x5).f2)).bind fun t147 => (if t147 = true then (laws_eqCellS.l0 k x0 x1 (wrap64 (x5 + 1))) else (none))) else (none)) else (none)) else (some true)
def laws_eqCellS.f (k : Nat) (l0 : List (S75)) (l1 : List (S75)) : Option (Bool) := if (l0.length : Int) = (l1.length : Int) then (laws_eqCellS.l0 k l0 l1 0) else (none)
def laws_eqCellS.T6 : Bool × List (List Nat × List Nat) := (true, [([], []), ([], []), ([0, 1], [0, 1]), ([2], [2]), ([], []), ([], []), ([4, 5], [4, 5]), ([6], [6]), ([3, 7], [3, 7]), ([8], [8])])
def laws_eqCellS.B6 : List Nat := [0, 0, 3, 7, 0, 0, 48, 112, 255, 511]
theorem laws_eqCellS.tab6 : rtab .any (opsOf Try.f49 6) = laws_eqCellS.T6 := by kernel_rfl
theorem laws_eqCellS.bits6 : waitsOk laws_eqCellS.T6.2 laws_eqCellS.B6 = true := by kernel_rfl
set_option maxHeartbeats 8000000 in
set_option maxRecDepth 100000 in
theorem laws_eqCellS.calls (k : Nat) (A0 : Option Addr) (c0 : Nat) (l0 : List (S75)) (A1 : Option Addr) (c1 : Nat) (l1 : List (S75)) (r : Bool) (w : World) (hr0 : Kd.C k75 w A0 l0.length l0) (hc0 : l0.length ≤ c0) (hr1 : Kd.C k75 w A1 l1.length l1) (hc1 : l1.length ≤ c1) (h : laws_eqCellS.f k l0 l1 = some r) :
  Calls Try.prog 49 #[.slice A0 l0.length c0, .slice A1 l1.length c1] w fun e w' => e = .returned (.bool r) ∧ Below w.heap.size w w' := by
 have hu75 := Try.underlying75
 have HR0 := Gv.a0 hr0
 have HC0 := Gv.a0 hc0
 clear hr0 hc0
 have HR1 := Gv.a0 hr1
 have HC1 := Gv.a0 hc1
 clear hr1 hc1
 have HB := Gv.a0 (Below.refl w.heap.size w)
 have H : (if (l0.length : Int) = (l1.length : Int) then (laws_eqCellS.l0 k l0 l1 0) else (none)) = some r := h
 clear h
 by_cases c3 : (l0.length : Int) = (l1.length : Int)
 rotate_left
 ·rw [if_neg c3] at H
  exact absurd H (by simp)

 rw [if_pos c3] at H
 have c3b0 : ((l0.length : Int) == (l1.length : Int)) = true := beq_iff_eq.mpr c3
 have c3b1 : ((l0.length : Int) != (l1.length : Int)) = false := bne_eq_false_iff_eq.mpr c3
 have c3b2 : (l0.length == l1.length) = true := by first | simpa using c3 | (simp at c3 ⊢; omega)
 clear c3
 have H' := Gv.a0 H
 clear H
 go_enter Try.func49, Try.ntmps49
 go_wp2
 go_loopg [5] k (fun kq v5 w' => ∃ (x5_1 : Int), v5 = .int .i64 x5_1 ∧ Aside0 (laws_eqCellS.l0 kq l0 l1 x5_1 = some r) ∧ Aside0 (kq ≤ k) ∧ Aside0 (Below w.heap.size w w'))
 case atStart => exact ⟨(0), Gv.rq, H', ⟨Nat.le_refl _⟩, ⟨Gv.bw⟩⟩
 case round =>
  clear H'
  try clear c1
  try clear p2
  try clear c3
  try clear c3b0
  try clear c3b1
  try clear c3b2
  obtain ⟨x5_1, rfl, HA, HK1, HB⟩ := hrel
  cases gk with
  | zero => exact absurd HA.out (by simp [laws_eqCellS.l0])
  | succ k1 =>
   have H := HA.out
   clear HA
   simp only [laws_eqCellS.l0] at H
   by_cases c4 : x5_1 < (l0.length : Int)
   rotate_left
   ·rw [if_neg c4] at H
    have c4b0 : decide (x5_1 < (l0.length : Int)) = false := decide_eq_false c4
    clear c4
    obtain rfl := Option.some.inj H
    go_wp2
    go_ret
    exact ⟨Gv.rt, Gv.bw⟩
   rw [if_pos c4] at H
   have c4b0 : decide (x5_1 < (l0.length : Int)) = true := decide_eq_true c4
   clear c4
   by_cases c5 : 0 ≤ x5_1
   rotate_left
   ·rw [if_neg c5] at H
    exact absurd H (by simp)
   rw [if_pos c5] at H
   have c5b0 : decide (0 ≤ x5_1) = true := decide_eq_true c5
   clear c5
   by_cases c6 : x5_1 < (l1.length : Int)
   rotate_left
   ·rw [if_neg c6] at H
    exact absurd H (by simp)
   rw [if_pos c6] at H
   have c6b0 : decide (x5_1 < (l1.length : Int)) = true := decide_eq_true c6
   clear c6
   replace H := Option.bind_eq_some_iff.mp H
   obtain ⟨t147, A70, H⟩ := H
   (try dsimp only at H)
   have A7 := Gv.a0 A70
   clear A70
   by_cases c8 : t147 = true
   rotate_left
   ·replace c8 := Bool.eq_false_iff.mpr c8
    subst c8
    rw [if_neg (show ¬ (false = true) by decide)] at H
    (try dsimp only at H)
    exact absurd H (by simp)
   subst c8
   rw [if_pos rfl] at H
   (try dsimp only at H)
   have H' := Gv.a0 H
   clear H
   try go_wp2
   replace HB := Gv.a0 (below_drew1 HB.out)
   have p145 : 0 ≤ (x5_1 : Int) := of_decide_eq_true (by first | (with_reducible assumption) | assumption)
   have q145 : x5_1 < (l0.length : Int) := of_decide_eq_true (by first | (with_reducible assumption) | assumption)
   obtain ⟨ad145, e145, hx145_0, hx145_1, hx145_2, hx145_3, hx145_4, hx145_5, hx145_6, hx145_7, hx145_8, hx145_9, hx145_10, hx145_11, hx145_12, hx145_13, hx145_14, hx145_15⟩ := at_T75 HR0.out x5_1 p145 q145
   have hw145_15 := hx145_15
   have hw145_14 := hx145_14
   have hw145_13 := hx145_13
   have hw145_12 := hx145_12
   have hw145_11 := hx145_11
   have hw145_10 := hx145_10
   have hw145_9 := hx145_9
   have hw145_8 := hx145_8
   have hw145_7 := hx145_7
   have hw145_6 := hx145_6
   have hw145_5 := hx145_5
   have hw145_4 := hx145_4
   have hw145_3 := hx145_3
   have hw145_2 := hx145_2
   have hw145_1 := hx145_1
   have hw145_0 := hx145_0
   cases e145
   replace hx145_0 := Gv.bx HB.out hx145_0
   replace hx145_1 := Gv.bx HB.out hx145_1
   replace hx145_2 := Gv.bx HB.out hx145_2
   replace hx145_3 := Gv.bx HB.out hx145_3
   replace hx145_4 := Gv.bx HB.out hx145_4
   replace hx145_5 := Gv.bx HB.out hx145_5
   replace hx145_6 := Gv.bx HB.out hx145_6
   replace hx145_7 := Gv.bx HB.out hx145_7
   replace hx145_8 := Gv.bx HB.out hx145_8
   replace hx145_9 := Gv.bx HB.out hx145_9
   replace hx145_10 := Gv.bx HB.out hx145_10
   replace hx145_11 := Gv.bx HB.out hx145_11
   replace hx145_12 := Gv.bx HB.out hx145_12
   replace hx145_13 := Gv.bx HB.out hx145_13
   replace hx145_14 := Gv.bx HB.out hx145_14
   replace hx145_15 := Gv.bx HB.out hx145_15
   replace p145 := eq_true p145
   replace q145 := eq_true q145
   have p146 : 0 ≤ (x5_1 : Int) := of_decide_eq_true (by first | (with_reducible assumption) | assumption)
   have q146 : x5_1 < (l1.length : Int) := of_decide_eq_true (by first | (with_reducible assumption) | assumption)
   obtain ⟨ad146, e146, hx146_0, hx146_1, hx146_2, hx146_3, hx146_4, hx146_5, hx146_6, hx146_7, hx146_8, hx146_9, hx146_10, hx146_11, hx146_12, hx146_13, hx146_14, hx146_15⟩ := at_T75 HR1.out x5_1 p146 q146
   have hw146_15 := hx146_15
   have hw146_14 := hx146_14
   have hw146_13 := hx146_13
   have hw146_12 := hx146_12
   have hw146_11 := hx146_11
   have hw146_10 := hx146_10
   have hw146_9 := hx146_9
   have hw146_8 := hx146_8
   have hw146_7 := hx146_7
   have hw146_6 := hx146_6
   have hw146_5 := hx146_5
   have hw146_4 := hx146_4
   have hw146_3 := hx146_3
   have hw146_2 := hx146_2
   have hw146_1 := hx146_1
   have hw146_0 := hx146_0
   cases e146
   replace hx146_0 := Gv.bx HB.out hx146_0
   replace hx146_1 := Gv.bx HB.out hx146_1
   replace hx146_2 := Gv.bx HB.out hx146_2
   replace hx146_3 := Gv.bx HB.out hx146_3
   replace hx146_4 := Gv.bx HB.out hx146_4
   replace hx146_5 := Gv.bx HB.out hx146_5
   replace hx146_6 := Gv.bx HB.out hx146_6
   replace hx146_7 := Gv.bx HB.out hx146_7
   replace hx146_8 := Gv.bx HB.out hx146_8
   replace hx146_9 := Gv.bx HB.out hx146_9
   replace hx146_10 := Gv.bx HB.out hx146_10
   replace hx146_11 := Gv.bx HB.out hx146_11
   replace hx146_12 := Gv.bx HB.out hx146_12
   replace hx146_13 := Gv.bx HB.out hx146_13
   replace hx146_14 := Gv.bx HB.out hx146_14
   replace hx146_15 := Gv.bx HB.out hx146_15
   replace p146 := eq_true p146
   replace q146 := eq_true q146
   refine start_ (n := 10) (S := fun w' => w'.cell? (ad145.add ((x5_1).toNat * 16)) = some (.bool ((rd_T75 l0 x5_1).f0)) ∧ w'.cell? ⟨(ad145.add ((x5_1).toNat * 16)).block, (ad145.add ((x5_1).toNat * 16)).off + 1, none⟩ = some (.int .i64 ((rd_T75 l0 x5_1).f1.f0)) ∧ w'.cell? ⟨(ad145.add ((x5_1).toNat * 16)).block, (ad145.add ((x5_1).toNat * 16)).off + 2, none⟩ = some (.int .i64 ((rd_T75 l0 x5_1).f1.f1.f0.f0)) ∧ w'.cell? ⟨(ad145.add ((x5_1).toNat * 16)).block, (ad145.add ((x5_1).toNat * 16)).off + 3, none⟩ = some (.int .i64 ((rd_T75 l0 x5_1).f1.f1.f0.f1)) ∧ w'.cell? ⟨(ad145.add ((x5_1).toNat * 16)).block, (ad145.add ((x5_1).toNat * 16)).off + 4, none⟩ = some (.int .i64 ((rd_T75 l0 x5_1).f1.f1.f0.f2)) ∧ w'.cell? ⟨(ad145.add ((x5_1).toNat * 16)).block, (ad145.add ((x5_1).toNat * 16)).off + 5, none⟩ = some (.int .i64 ((rd_T75 l0 x5_1).f1.f1.f0.f3)) ∧ w'.cell? ⟨(ad145.add ((x5_1).toNat * 16)).block, (ad145.add ((x5_1).toNat * 16)).off + 6, none⟩ = some (.int .i64 ((rd_T75 l0 x5_1).f1.f1.f0.f4)) ∧ w'.cell? ⟨(ad145.add ((x5_1).toNat * 16)).block, (ad145.add ((x5_1).toNat * 16)).off + 7, none⟩ = some (.int .i64 ((rd_T75 l0 x5_1).f1.f1.f1.f0)) ∧ w'.cell? ⟨(ad145.add ((x5_1).toNat * 16)).block, (ad145.add ((x5_1).toNat * 16)).off + 8, none⟩ = some (.int .i64 ((rd_T75 l0 x5_1).f1.f1.f1.f1)) ∧ w'.cell? ⟨(ad145.add ((x5_1).toNat * 16)).block, (ad145.add ((x5_1).toNat * 16)).off + 9, none⟩ = some (.int .i64 ((rd_T75 l0 x5_1).f1.f1.f1.f2)) ∧ w'.cell? ⟨(ad145.add ((x5_1).toNat * 16)).block, (ad145.add ((x5_1).toNat * 16)).off + 10, none⟩ = some (.int .i64 ((rd_T75 l0 x5_1).f1.f1.f1.f3)) ∧ w'.cell? ⟨(ad145.add ((x5_1).toNat * 16)).block, (ad145.add ((x5_1).toNat * 16)).off + 11, none⟩ = some (.int .i64 ((rd_T75 l0 x5_1).f1.f1.f1.f4)) ∧ w'.cell? ⟨(ad145.add ((x5_1).toNat * 16)).block, (ad145.add ((x5_1).toNat * 16)).off + 12, none⟩ = some (.int .i64 ((rd_T75 l0 x5_1).f1.f1.f2)) ∧ w'.cell? ⟨(ad145.add ((x5_1).toNat * 16)).block, (ad145.add ((x5_1).toNat * 16)).off + 13, none⟩ = some (.int .i64 ((rd_T75 l0 x5_1).f1.f1.f3)) ∧ w'.cell? ⟨(ad145.add ((x5_1).toNat * 16)).block, (ad145.add ((x5_1).toNat * 16)).off + 14, none⟩ = some (.int .i64 ((rd_T75 l0 x5_1).f1.f1.f4)) ∧ w'.cell? ⟨(ad145.add ((x5_1).toNat * 16)).block, (ad145.add ((x5_1).toNat * 16)).off + 15, none⟩ = some (.int .i64 ((rd_T75 l0 x5_1).f2)) ∧ w'.cell? (ad146.add ((x5_1).toNat * 16)) = some (.bool ((rd_T75 l1 x5_1).f0)) ∧ w'.cell? ⟨(ad146.add ((x5_1).toNat * 16)).block, (ad146.add ((x5_1).toNat * 16)).off + 1, none⟩ = some (.int .i64 ((rd_T75 l1 x5_1).f1.f0)) ∧ w'.cell? ⟨(ad146.add ((x5_1).toNat * 16)).block, (ad146.add ((x5_1).toNat * 16)).off + 2, none⟩ = some (.int .i64 ((rd_T75 l1 x5_1).f1.f1.f0.f0)) ∧ w'.cell? ⟨(ad146.add ((x5_1).toNat * 16)).block, (ad146.add ((x5_1).toNat * 16)).off + 3, none⟩ = some (.int .i64 ((rd_T75 l1 x5_1).f1.f1.f0.f1)) ∧ w'.cell? ⟨(ad146.add ((x5_1).toNat * 16)).block, (ad146.add ((x5_1).toNat * 16)).off + 4, none⟩ = some (.int .i64 ((rd_T75 l1 x5_1).f1.f1.f0.f2)) ∧ w'.cell? ⟨(ad146.add ((x5_1).toNat * 16)).block, (ad146.add ((x5_1).toNat * 16)).off + 5, none⟩ = some (.int .i64 ((rd_T75 l1 x5_1).f1.f1.f0.f3)) ∧ w'.cell? ⟨(ad146.add ((x5_1).toNat * 16)).block, (ad146.add ((x5_1).toNat * 16)).off + 6, none⟩ = some (.int .i64 ((rd_T75 l1 x5_1).f1.f1.f0.f4)) ∧ w'.cell? ⟨(ad146.add ((x5_1).toNat * 16)).block, (ad146.add ((x5_1).toNat * 16)).off + 7, none⟩ = some (.int .i64 ((rd_T75 l1 x5_1).f1.f1.f1.f0)) ∧ w'.cell? ⟨(ad146.add ((x5_1).toNat * 16)).block, (ad146.add ((x5_1).toNat * 16)).off + 8, none⟩ = some (.int .i64 ((rd_T75 l1 x5_1).f1.f1.f1.f1)) ∧ w'.cell? ⟨(ad146.add ((x5_1).toNat * 16)).block, (ad146.add ((x5_1).toNat * 16)).off + 9, none⟩ = some (.int .i64 ((rd_T75 l1 x5_1).f1.f1.f1.f2)) ∧ w'.cell? ⟨(ad146.add ((x5_1).toNat * 16)).block, (ad146.add ((x5_1).toNat * 16)).off + 10, none⟩ = some (.int .i64 ((rd_T75 l1 x5_1).f1.f1.f1.f3)) ∧ w'.cell? ⟨(ad146.add ((x5_1).toNat * 16)).block, (ad146.add ((x5_1).toNat * 16)).off + 11, none⟩ = some (.int .i64 ((rd_T75 l1 x5_1).f1.f1.f1.f4)) ∧ w'.cell? ⟨(ad146.add ((x5_1).toNat * 16)).block, (ad146.add ((x5_1).toNat * 16)).off + 12, none⟩ = some (.int .i64 ((rd_T75 l1 x5_1).f1.f1.f2)) ∧ w'.cell? ⟨(ad146.add ((x5_1).toNat * 16)).block, (ad146.add ((x5_1).toNat * 16)).off + 13, none⟩ = some (.int .i64 ((rd_T75 l1 x5_1).f1.f1.f3)) ∧ w'.cell? ⟨(ad146.add ((x5_1).toNat * 16)).block, (ad146.add ((x5_1).toNat * 16)).off + 14, none⟩ = some (.int .i64 ((rd_T75 l1 x5_1).f1.f1.f4)) ∧ w'.cell? ⟨(ad146.add ((x5_1).toNat * 16)).block, (ad146.add ((x5_1).toNat * 16)).off + 15, none⟩ = some (.int .i64 ((rd_T75 l1 x5_1).f2))) (ds := []) #[false, false, false, false, false, false, false, false, false, false] (by kernel_rfl) rfl rfl ⟨(Gv.bx HB.out hw145_0), (Gv.bx HB.out hw145_1), (Gv.bx HB.out hw145_2), (Gv.bx HB.out hw145_3), (Gv.bx HB.out hw145_4), (Gv.bx HB.out hw145_5), (Gv.bx HB.out hw145_6), (Gv.bx HB.out hw145_7), (Gv.bx HB.out hw145_8), (Gv.bx HB.out hw145_9), (Gv.bx HB.out hw145_10), (Gv.bx HB.out hw145_11), (Gv.bx HB.out hw145_12), (Gv.bx HB.out hw145_13), (Gv.bx HB.out hw145_14), (Gv.bx HB.out hw145_15), (Gv.bx HB.out hw146_0), (Gv.bx HB.out hw146_1), (Gv.bx HB.out hw146_2), (Gv.bx HB.out hw146_3), (Gv.bx HB.out hw146_4), (Gv.bx HB.out hw146_5), (Gv.bx HB.out hw146_6), (Gv.bx HB.out hw146_7), (Gv.bx HB.out hw146_8), (Gv.bx HB.out hw146_9), (Gv.bx HB.out hw146_10), (Gv.bx HB.out hw146_11), (Gv.bx HB.out hw146_12), (Gv.bx HB.out hw146_13), (Gv.bx HB.out hw146_14), (Gv.bx HB.out hw146_15)⟩ (fun hHeld => ?_); refine with_tabW laws_eqCellS.tab6 laws_eqCellS.bits6 (fun HT_ HW_ => ?_)
   generalize wr.drew = w9 at HB hx145_0 hx145_1 hx145_10 hx145_11 hx145_12 hx145_13 hx145_14 hx145_15 hx145_2 hx145_3 hx145_4 hx145_5 hx145_6 hx145_7 hx145_8 hx145_9 hx146_0 hx146_1 hx146_10 hx146_11 hx146_12 hx146_13 hx146_14 hx146_15 hx146_2 hx146_3 hx146_4 hx146_5 hx146_6 hx146_7 hx146_8 hx146_9 hHeld ⊢
   refine Gv.pu 0 (some 17) HT_ ?_
   refine Gv.pu 1 (some 18) HT_ ?_
   refine Gv.pu 2 (some 19) HT_ ?_
   refine Gv.pu 4 (some 21) HT_ ?_
   refine Gv.pu 5 (some 22) HT_ ?_
   refine Gv.pu 6 (some 23) HT_ ?_
   refine take_ (i := 3) (N := some 20) (v := ?_) (a' := ?_) #[true, true, true, true, true, true, true, false, false, false] rfl rfl (take_ofW HT_.out HW_.out (by kernel_rfl)) (fun _ _ _ h => h) (Or.inl ⟨by rfl, ?_⟩) hHeld ?_ ?_
   rotate_left
   ·rintro w' ⟨s0, s1, s2, s3, s4, s5, s6, s7, s8, s9, s10, s11, s12, s13, s14, s15, s16, s17, s18, s19, s20, s21, s22, s23, s24, s25, s26, s27, s28, s29, s30, s31⟩
    first | ((refine Gv.load_run (t := 75) (A := ad145.add ((x5_1).toNat * 16)) (cs := [_, _, _, _, _, _, _, _, _, _, _, _, _, _, _, _]) (x := ?xx1_) ?ho1_ ?hx1_ ⟨s0, s1, s2, s3, s4, s5, s6, s7, s8, s9, s10, s11, s12, s13, s14, s15, trivial⟩ Try.underlying75 rfl (by kernel_rfl)); (case ho1_ => rfl); (case hx1_ => rfl)) | ((refine Gv.load_run (t := 75) (A := ad146.add ((x5_1).toNat * 16)) (cs := [_, _, _, _, _, _, _, _, _, _, _, _, _, _, _, _]) (x := ?xx2_) ?ho2_ ?hx2_ ⟨s16, s17, s18, s19, s20, s21, s22, s23, s24, s25, s26, s27, s28, s29, s30, s31, trivial⟩ Try.underlying75 rfl (by kernel_rfl)); (case ho2_ => rfl); (case hx2_ => rfl)) | (go_simp; with_reducible rfl)
   rotate_left
   ·simp only [Act.put, List.setIfInBounds_toArray, List.set_cons_zero, List.set_cons_succ, i64_w, i32_w]
    rfl
   refine take_ (i := 7) (N := some 24) (v := ?_) (a' := ?_) #[true, true, true, true, true, true, true, true, false, false] rfl rfl (take_ofW HT_.out HW_.out (by kernel_rfl)) (fun _ _ _ h => h) (Or.inl ⟨by rfl, ?_⟩) hHeld ?_ ?_
   rotate_left
   ·rintro w' ⟨s0, s1, s2, s3, s4, s5, s6, s7, s8, s9, s10, s11, s12, s13, s14, s15, s16, s17, s18, s19, s20, s21, s22, s23, s24, s25, s26, s27, s28, s29, s30, s31⟩
    first | ((refine Gv.load_run (t := 75) (A := ad145.add ((x5_1).toNat * 16)) (cs := [_, _, _, _, _, _, _, _, _, _, _, _, _, _, _, _]) (x := ?xx4_) ?ho4_ ?hx4_ ⟨s0, s1, s2, s3, s4, s5, s6, s7, s8, s9, s10, s11, s12, s13, s14, s15, trivial⟩ Try.underlying75 rfl (by kernel_rfl)); (case ho4_ => rfl); (case hx4_ => rfl)) | ((refine Gv.load_run (t := 75) (A := ad146.add ((x5_1).toNat * 16)) (cs := [_, _, _, _, _, _, _, _, _, _, _, _, _, _, _, _]) (x := ?xx5_) ?ho5_ ?hx5_ ⟨s16, s17, s18, s19, s20, s21, s22, s23, s24, s25, s26, s27, s28, s29, s30, s31, trivial⟩ Try.underlying75 rfl (by kernel_rfl)); (case ho5_ => rfl); (case hx5_ => rfl)) | (go_simp; with_reducible rfl)
   rotate_left
   ·simp only [Act.put, List.setIfInBounds_toArray, List.set_cons_zero, List.set_cons_succ, i64_w, i32_w]
    rfl
   refine one_ (i := 8) (N := some 25) #[true, true, true, true, true, true, true, true, true, false] rfl rfl (one_of HT_.out (by kernel_rfl)) (by decide) (fun K hK => ?_)
   refine goes_ Try.func76 (by kernel_rfl) rfl #[.agg #[.bool ((rd_T75 l0 x5_1).f0), .int .i64 ((rd_T75 l0 x5_1).f1.f0), .int .i64 ((rd_T75 l0 x5_1).f1.f1.f0.f0), .int .i64 ((rd_T75 l0 x5_1).f1.f1.f0.f1), .int .i64 ((rd_T75 l0 x5_1).f1.f1.f0.f2), .int .i64 ((rd_T75 l0 x5_1).f1.f1.f0.f3), .int .i64 ((rd_T75 l0 x5_1).f1.f1.f0.f4), .int .i64 ((rd_T75 l0 x5_1).f1.f1.f1.f0), .int .i64 ((rd_T75 l0 x5_1).f1.f1.f1.f1), .int .i64 ((rd_T75 l0 x5_1).f1.f1.f1.f2), .int .i64 ((rd_T75 l0 x5_1).f1.f1.f1.f3), .int .i64 ((rd_T75 l0 x5_1).f1.f1.f1.f4), .int .i64 ((rd_T75 l0 x5_1).f1.f1.f2), .int .i64 ((rd_T75 l0 x5_1).f1.f1.f3), .int .i64 ((rd_T75 l0 x5_1).f1.f1.f4), .int .i64 ((rd_T75 l0 x5_1).f2)], .agg #[.bool ((rd_T75 l1 x5_1).f0), .int .i64 ((rd_T75 l1 x5_1).f1.f0), .int .i64 ((rd_T75 l1 x5_1).f1.f1.f0.f0), .int .i64 ((rd_T75 l1 x5_1).f1.f1.f0.f1), .int .i64 ((rd_T75 l1 x5_1).f1.f1.f0.f2), .int .i64 ((rd_T75 l1 x5_1).f1.f1.f0.f3), .int .i64 ((rd_T75 l1 x5_1).f1.f1.f0.f4), .int .i64 ((rd_T75 l1 x5_1).f1.f1.f1.f0), .int .i64 ((rd_T75 l1 x5_1).f1.f1.f1.f1), .int .i64 ((rd_T75 l1 x5_1).f1.f1.f1.f2), .int .i64 ((rd_T75 l1 x5_1).f1.f1.f1.f3), .int .i64 ((rd_T75 l1 x5_1).f1.f1.f1.f4), .int .i64 ((rd_T75 l1 x5_1).f1.f1.f2), .int .i64 ((rd_T75 l1 x5_1).f1.f1.f3), .int .i64 ((rd_T75 l1 x5_1).f1.f1.f4), .int .i64 ((rd_T75 l1 x5_1).f2)]] (by rfl) rfl rfl Gv.lm ?_
   with_reducible refine (laws_eqCell.calls ((rd_T75 l0 x5_1).f0) ((rd_T75 l0 x5_1).f1.f0) ((rd_T75 l0 x5_1).f1.f1.f0.f0) ((rd_T75 l0 x5_1).f1.f1.f0.f1) ((rd_T75 l0 x5_1).f1.f1.f0.f2) ((rd_T75 l0 x5_1).f1.f1.f0.f3) ((rd_T75 l0 x5_1).f1.f1.f0.f4) ((rd_T75 l0 x5_1).f1.f1.f1.f0) ((rd_T75 l0 x5_1).f1.f1.f1.f1) ((rd_T75 l0 x5_1).f1.f1.f1.f2) ((rd_T75 l0 x5_1).f1.f1.f1.f3) ((rd_T75 l0 x5_1).f1.f1.f1.f4) ((rd_T75 l0 x5_1).f1.f1.f2) ((rd_T75 l0 x5_1).f1.f1.f3) ((rd_T75 l0 x5_1).f1.f1.f4) ((rd_T75 l0 x5_1).f2) ((rd_T75 l1 x5_1).f0) ((rd_T75 l1 x5_1).f1.f0) ((rd_T75 l1 x5_1).f1.f1.f0.f0) ((rd_T75 l1 x5_1).f1.f1.f0.f1) ((rd_T75 l1 x5_1).f1.f1.f0.f2) ((rd_T75 l1 x5_1).f1.f1.f0.f3) ((rd_T75 l1 x5_1).f1.f1.f0.f4) ((rd_T75 l1 x5_1).f1.f1.f1.f0) ((rd_T75 l1 x5_1).f1.f1.f1.f1) ((rd_T75 l1 x5_1).f1.f1.f1.f2) ((rd_T75 l1 x5_1).f1.f1.f1.f3) ((rd_T75 l1 x5_1).f1.f1.f1.f4) ((rd_T75 l1 x5_1).f1.f1.f2) ((rd_T75 l1 x5_1).f1.f1.f3) ((rd_T75 l1 x5_1).f1.f1.f4) ((rd_T75 l1 x5_1).f2) true _ A7.out).mono ?_
   rintro e w10 ⟨rfl, hb⟩
   refine ⟨_, rfl, ?_⟩
   replace HB := Gv.a0 (below_step Gv.bw hb)
   (try clear hb)
   (try clear hb2)
   (try clear hk)
   (try clear hi)
   refine hK.out _ _ ⟨(Gv.bx HB.out hw145_0), (Gv.bx HB.out hw145_1), (Gv.bx HB.out hw145_2), (Gv.bx HB.out hw145_3), (Gv.bx HB.out hw145_4), (Gv.bx HB.out hw145_5), (Gv.bx HB.out hw145_6), (Gv.bx HB.out hw145_7), (Gv.bx HB.out hw145_8), (Gv.bx HB.out hw145_9), (Gv.bx HB.out hw145_10), (Gv.bx HB.out hw145_11), (Gv.bx HB.out hw145_12), (Gv.bx HB.out hw145_13), (Gv.bx HB.out hw145_14), (Gv.bx HB.out hw145_15), (Gv.bx HB.out hw146_0), (Gv.bx HB.out hw146_1), (Gv.bx HB.out hw146_2), (Gv.bx HB.out hw146_3), (Gv.bx HB.out hw146_4), (Gv.bx HB.out hw146_5), (Gv.bx HB.out hw146_6), (Gv.bx HB.out hw146_7), (Gv.bx HB.out hw146_8), (Gv.bx HB.out hw146_9), (Gv.bx HB.out hw146_10), (Gv.bx HB.out hw146_11), (Gv.bx HB.out hw146_12), (Gv.bx HB.out hw146_13), (Gv.bx HB.out hw146_14), (Gv.bx HB.out hw146_15)⟩ (fun hHeld => ?_)
   clear hK K
   refine norm_ (a' := ?_) ?_ ?_
   rotate_left
   ·show Act.put _ (some 25) _ = _
    simp only [Act.put, List.setIfInBounds_toArray, List.set_cons_zero, List.set_cons_succ, i64_w, i32_w]
    rfl
   refine Gv.pu 9 (some 26) HT_ ?_
   refine done_ (done_of HT_.out (by kernel_rfl)) ?_
   try go_wp2
   go_roundg k1
   case measure => have := HK1.out; omega
   case rel => exact ⟨(wrap64 (x5_1 + 1)), Gv.rq, H', ⟨by have := HK1.out; omega⟩, ⟨Gv.bw⟩⟩
/-! ### laws_eqTable: function 20 -/
def laws_eqTable.f (k : Nat) (a0_0 : Int) (l0_1 : List (S75)) (a1_0 : Int) (l1_1 : List (S75)) : Option (Bool) := if a0_0 = a1_0 then ((laws_eqCellS.f k l0_1 l1_1).bind fun t150 => (if t150 = true then (some true) else (none))) else (none)
set_option maxHeartbeats 8000000 in
set_option maxRecDepth 100000 in
theorem laws_eqTable.calls (k : Nat) (a0_0 : Int) (A0_1 : Option Addr) (c0_1 : Nat) (l0_1 : List (S75)) (a1_0 : Int) (A1_1 : Option Addr) (c1_1 : Nat) (l1_1 : List (S75)) (r : Bool) (w : World) (hr0_1 : Kd.C k75 w A0_1 l0_1.length l0_1) (hc0_1 : l0_1.length ≤ c0_1) (hr1_1 : Kd.C k75 w A1_1 l1_1.length l1_1) (hc1_1 : l1_1.length ≤ c1_1) (h : laws_eqTable.f k a0_0 l0_1 a1_0 l1_1 = some r) :
  Calls Try.prog 20 #[.agg #[.int .i64 a0_0, .slice A0_1 l0_1.length c0_1], .agg #[.int .i64 a1_0, .slice A1_1 l1_1.length c1_1]] w fun e w' => e = .returned (.bool r) ∧ Below w.heap.size w w' := by
 have hu40 := Try.underlying40
 have HR0_1 := Gv.a0 hr0_1
 have HC0_1 := Gv.a0 hc0_1
 clear hr0_1 hc0_1
 have HR1_1 := Gv.a0 hr1_1
 have HC1_1 := Gv.a0 hc1_1
 clear hr1_1 hc1_1
 have HB := Gv.a0 (Below.refl w.heap.size w)
 have H : (if a0_0 = a1_0 then ((laws_eqCellS.f k l0_1 l1_1).bind fun t150 => (if t150 = true then (some true) else (none))) else (none)) = some r := h
 clear h
 by_cases c3 : a0_0 = a1_0
 rotate_left
 ·rw [if_neg c3] at H
  exact absurd H (by simp)

 rw [if_pos c3] at H
 have c3b0 : (a0_0 == a1_0) = true := beq_iff_eq.mpr c3
 have c3b1 : (a0_0 != a1_0) = false := bne_eq_false_iff_eq.mpr c3
 clear c3
 replace H := Option.bind_eq_some_iff.mp H
 obtain ⟨t150, A40, H⟩ := H
 (try dsimp only at H)
 have A4 := Gv.a0 A40
 clear A40
 by_cases c5 : t150 = true
 ·subst c5
  rw [if_pos rfl] at H
  (try dsimp only at H)
  obtain rfl := Option.some.inj H
  go_enter Try.func20, Try.ntmps20
  go_wp2_with (first | ((with_reducible refine gate_dst (N := 2) rfl ?_); refine Gv.bev 2 40 #[.int .i64 a0_0, .slice A0_1 l0_1.length c0_1] ?_; intro gb148 hg w6 hbox hb; have BK148 := Gv.a0 (hbox); have GW148 := Gv.a0 ((Gv.ble hg Gv.bw : w.heap.size ≤ gb148)); have GE148 := Gv.a0 ((Gv.ble hg Gv.bw : w.heap.size ≤ gb148)); replace HB := Gv.a0 (below_step Gv.bw hb); clear hb hbox hg) | ((with_reducible refine gate_dst (N := 3) rfl ?_); refine Gv.bev 3 40 #[.int .i64 a1_0, .slice A1_1 l1_1.length c1_1] ?_; intro gb149 hg w7 hbox hb; have BK149 := Gv.a0 (hbox); have GW149 := Gv.a0 ((Gv.ble hg Gv.bw : w.heap.size ≤ gb149)); have GE149 := Gv.a0 ((Gv.ble hg Gv.bw : w.heap.size ≤ gb149)); replace HB := Gv.a0 (below_step Gv.bw hb); have NB148_149 := Gv.a0 ((Gv.nlt hg (Gv.kb BK148.out) : gb148 ≠ gb149)); have NB149_148 := Gv.a0 ((Gv.ngt hg (Gv.kb BK148.out) : gb149 ≠ gb148)); replace BK148 := Gv.b1 BK148 hb; clear hb hbox hg; have hnb8 := NB148_149.out; have hnc8 := NB149_148.out; have hcz9_0 : w7.cell? ⟨gb148, 0, none⟩ = some (.int .i64 a0_0) := (blk_cell BK148.out 0).trans rfl; have hcz9_1 : w7.cell? ⟨gb148, 1, none⟩ = some (.slice A0_1 l0_1.length c0_1) := (blk_cell BK148.out 1).trans rfl; have hfz9_0 := blk_frozen BK148.out 0; have hfz9_1 := blk_frozen BK148.out 1; have hcz10_0 : w7.cell? ⟨gb149, 0, none⟩ = some (.int .i64 a1_0) := (blk_cell BK149.out 0).trans rfl; have hcz10_1 : w7.cell? ⟨gb149, 1, none⟩ = some (.slice A1_1 l1_1.length c1_1) := (blk_cell BK149.out 1).trans rfl; have hfz10_0 := blk_frozen BK149.out 0; have hfz10_1 := blk_frozen BK149.out 1) | ((with_reducible refine gate_callee (f := 49) rfl ?_); refine goesL_ (some 14) rfl rfl Try.func49 (by kernel_rfl) rfl #[.slice A0_1 l0_1.length c0_1, .slice A1_1 l1_1.length c1_1] rfl Gv.lm ?_; (with_reducible refine (laws_eqCellS.calls k _ _ l0_1 _ _ l1_1 true _ ?side1 ?side2 ?side3 ?side4 A4.out).mono ?_); (case side1 => exact Gv.sd (Kd.C_below HR0_1.out HB.out)); (case side2 => exact HC0_1.out); (case side3 => exact Gv.sd (Kd.C_below HR1_1.out HB.out)); (case side4 => exact HC1_1.out); rintro e w11 ⟨rfl, hb⟩; refine ⟨_, rfl, ?_⟩; replace BK148 := Gv.b1 BK148 hb; replace BK149 := Gv.b1 BK149 hb; replace HB := Gv.a0 (below_step Gv.bw hb); clear hb))
  go_ret
  exact ⟨Gv.rt, Gv.bw⟩
 ·replace c5 := Bool.eq_false_iff.mpr c5
  subst c5
  rw [if_neg (show ¬ (false = true) by decide)] at H
  (try dsimp only at H)
  exact absurd H (by simp)
/-! ### laws_markCellS: function 50 -/
def laws_markCellS.f (l0 : List (S75)) (a1 : Int) : Option (Int × (List (S75))) := some (Gv.stepN (Gv.stepN Gv.nx 16) l0.length a1, Gv.mkL (fun a : Int => (⟨(Int.tmod (Gv.stepN Gv.nx 0 a) 3 == 0), (⟨(Gv.stepN Gv.nx 1 a), (⟨(⟨(Gv.stepN Gv.nx 2 a), (Gv.stepN Gv.nx 3 a), (Gv.stepN Gv.nx 4 a), (Gv.stepN Gv.nx 5 a), (Gv.stepN Gv.nx 6 a)⟩ : S29), (⟨(Gv.stepN Gv.nx 7 a), (Gv.stepN Gv.nx 8 a), (Gv.stepN Gv.nx 9 a), (Gv.stepN Gv.nx 10 a), (Gv.stepN Gv.nx 11 a)⟩ : S29), (Gv.stepN Gv.nx 12 a), (Gv.stepN Gv.nx 13 a), (Gv.stepN Gv.nx 14 a)⟩ : S31)⟩ : S33), (Gv.stepN Gv.nx 15 a)⟩ : S75)) (Gv.stepN Gv.nx 16) l0.length a1)
set_option maxHeartbeats 8000000 in
set_option maxRecDepth 100000 in
theorem laws_markCellS.calls (P0_ : Nat → Prop) (u9000_ : Value) (l0 : List (S75)) (a1 : Int) (r1 : Int) (r2 : List (S75)) (w0 w : World) (hB : Below w0.heap.size w0 w) (ho0 : Kd.R k75 75 w w0.heap.size P0_ u9000_ l0) (h : laws_markCellS.f l0 a1 = some (r1, r2)) :
  Calls Try.prog 50 #[u9000_, .int .i64 a1] w fun e w' => e = .returned (.int .i64 r1) ∧ Kd.R k75 75 w' w0.heap.size (fun k_ => (P0_ k_ ∨ w.heap.size ≤ k_)) u9000_ r2 ∧ Below w0.heap.size w0 w' ∧ Kept w w' (fun k_ => P0_ k_) := by
 obtain ⟨rfl, rfl⟩ := Prod.mk.inj (Option.some.inj h)
 clear h
 obtain ⟨hok, inner, ⟨hlen, ho⟩, hrep⟩ := ho0
 rcases ho with ⟨rfl, hz⟩ | ⟨g, cap, cur, rfl, hbase, hg, hnc, hcm, hsz, htk⟩
 ·have hl : l0 = [] := List.length_eq_zero_iff.1 hz
  subst hl
  have HB := Gv.a0 hB
  clear hrep hok hlen hB
  go_enter Try.func50, Try.ntmps50
  go_wp2
  go_loopg [1, 5] 0 (fun gg s1 s5 wr => s1 = .int .i64 a1 ∧ s5 = .int .i64 0 ∧ wr = w)
  case atStart => exact ⟨rfl, rfl, rfl⟩
  case round =>
   obtain ⟨rfl, rfl, rfl⟩ := hrel
   go_wp2_with fail
   go_ret
   exact ⟨rfl, Kd.R_nil _ _ _ _ _, HB.out, Kept.refl _ _⟩
 ·have hS : l0.length * 16 ≤ cap * 16 := Nat.mul_le_mul_right _ hnc
  have hN : inner.length = l0.length * 16 := hlen
  have hP : P0_ g := hok g rfl
  have hle : w0.heap.size ≤ g := hbase
  have hcap : cap ≤ 9223372036854775807 := by
   unfold maxLen at hcm
   omega
  have HM0 := Gv.a0 (show Gv.MK w0 w g 75 (l0.length * 16) (cap * 16) inner w [] 0 from ⟨rfl, ⟨cur, hg, hsz, htk⟩, fun _ _ => rfl, hB, Nat.le_refl _⟩)
  have HF := Gv.a0 (And.intro hnc (And.intro hcm hP))
  clear hok hlen hrep hbase hg hcm hsz htk hB hP hnc
  go_enter Try.func50, Try.ntmps50
  go_wp2
  go_loopg [1, 5] l0.length (fun gg s1 s5 wr => ∃ kk : Nat, kk ≤ l0.length ∧ l0.length - kk ≤ gg ∧ s1 = .int .i64 (Gv.stepN (Gv.stepN Gv.nx 16) kk a1) ∧ s5 = .int .i64 kk ∧ Aside0 (Gv.MK w0 w g 75 (l0.length * 16) (cap * 16) inner wr ((Gv.mkL (fun a : Int => (⟨(Int.tmod (Gv.stepN Gv.nx 0 a) 3 == 0), (⟨(Gv.stepN Gv.nx 1 a), (⟨(⟨(Gv.stepN Gv.nx 2 a), (Gv.stepN Gv.nx 3 a), (Gv.stepN Gv.nx 4 a), (Gv.stepN Gv.nx 5 a), (Gv.stepN Gv.nx 6 a)⟩ : S29), (⟨(Gv.stepN Gv.nx 7 a), (Gv.stepN Gv.nx 8 a), (Gv.stepN Gv.nx 9 a), (Gv.stepN Gv.nx 10 a), (Gv.stepN Gv.nx 11 a)⟩ : S29), (Gv.stepN Gv.nx 12 a), (Gv.stepN Gv.nx 13 a), (Gv.stepN Gv.nx 14 a)⟩ : S31)⟩ : S33), (Gv.stepN Gv.nx 15 a)⟩ : S75)) (Gv.stepN Gv.nx 16) kk a1).flatMap (fun x : S75 => ([.bool x.f0, .int .i64 x.f1.f0, .int .i64 x.f1.f1.f0.f0, .int .i64 x.f1.f1.f0.f1, .int .i64 x.f1.f1.f0.f2, .int .i64 x.f1.f1.f0.f3, .int .i64 x.f1.f1.f0.f4, .int .i64 x.f1.f1.f1.f0, .int .i64 x.f1.f1.f1.f1, .int .i64 x.f1.f1.f1.f2, .int .i64 x.f1.f1.f1.f3, .int .i64 x.f1.f1.f1.f4, .int .i64 x.f1.f1.f2, .int .i64 x.f1.f1.f3, .int .i64 x.f1.f1.f4, .int .i64 x.f2] : List Value))) (kk * 16)))
  case atStart => exact ⟨0, Nat.zero_le _, by omega, rfl, rfl, ⟨HM0.out⟩⟩
  case round =>
   obtain ⟨kk, hkk, hgg, rfl, rfl, HM⟩ := hrel
   obtain ⟨x_, hx_⟩ : ∃ x_, x_ = Gv.stepN (Gv.stepN Gv.nx 16) kk a1 := ⟨_, rfl⟩
   rw [← hx_]
   obtain ⟨done, hd_⟩ : ∃ d_, d_ = (Gv.mkL (fun a : Int => (⟨(Int.tmod (Gv.stepN Gv.nx 0 a) 3 == 0), (⟨(Gv.stepN Gv.nx 1 a), (⟨(⟨(Gv.stepN Gv.nx 2 a), (Gv.stepN Gv.nx 3 a), (Gv.stepN Gv.nx 4 a), (Gv.stepN Gv.nx 5 a), (Gv.stepN Gv.nx 6 a)⟩ : S29), (⟨(Gv.stepN Gv.nx 7 a), (Gv.stepN Gv.nx 8 a), (Gv.stepN Gv.nx 9 a), (Gv.stepN Gv.nx 10 a), (Gv.stepN Gv.nx 11 a)⟩ : S29), (Gv.stepN Gv.nx 12 a), (Gv.stepN Gv.nx 13 a), (Gv.stepN Gv.nx 14 a)⟩ : S31)⟩ : S33), (Gv.stepN Gv.nx 15 a)⟩ : S75)) (Gv.stepN Gv.nx 16) kk a1).flatMap (fun x : S75 => ([.bool x.f0, .int .i64 x.f1.f0, .int .i64 x.f1.f1.f0.f0, .int .i64 x.f1.f1.f0.f1, .int .i64 x.f1.f1.f0.f2, .int .i64 x.f1.f1.f0.f3, .int .i64 x.f1.f1.f0.f4, .int .i64 x.f1.f1.f1.f0, .int .i64 x.f1.f1.f1.f1, .int .i64 x.f1.f1.f1.f2, .int .i64 x.f1.f1.f1.f3, .int .i64 x.f1.f1.f1.f4, .int .i64 x.f1.f1.f2, .int .i64 x.f1.f1.f3, .int .i64 x.f1.f1.f4, .int .i64 x.f2] : List Value)) := ⟨_, rfl⟩
   rw [← hd_] at HM
   have HX := Gv.a0 hx_
   have HD := Gv.a0 hd_
   clear hx_ hd_
   by_cases hlt : kk < l0.length
   ·have hltz : (kk : Int) < (l0.length : Int) := by omega
    have hk0 : 0 ≤ (kk : Int) := by omega
    go_wp2_with (first | ((with_reducible refine gate_store (t := 3) rfl ?_); refine Gv.mark_event rfl rfl rfl rfl rfl (.inl ⟨_, _, rfl⟩) (by kernel_rfl) HM.out hS hN (by omega) (by omega) hle ?_; intro wm hM; have HM' := Gv.a0 hM; clear hM HM; have HM := HM'; clear HM') | ((with_reducible refine gate_store (t := 4) rfl ?_); refine Gv.mark_event rfl rfl rfl rfl rfl (.inr ⟨_, rfl⟩) (by kernel_rfl) HM.out hS hN (by omega) (by omega) hle ?_; intro wm hM; have HM' := Gv.a0 hM; clear hM HM; have HM := HM'; clear HM'))
    go_roundg (l0.length - (kk + 1))
    case measure => omega
    case rel =>
     refine ⟨kk + 1, by omega, by omega, by rw [Gv.stepN, ← HX.out]; rfl, by go_num, ⟨?_⟩⟩
     have hm := HM.out
     rw [HD.out] at hm
     rw [Gv.mkL, List.flatMap_append, ← HX.out, Nat.succ_mul]
     simp only [List.append_assoc, List.cons_append, List.nil_append] at hm
     exact hm
   ·have hk : kk = l0.length := by omega
    have hltz : ¬ (kk : Int) < (l0.length : Int) := by omega
    have HK := Gv.a0 hk
    clear hk
    go_wp2_with fail
    go_ret
    obtain ⟨h1, ⟨cur, h2, h3, h4⟩, h5, h6, h7⟩ := HM.out
    have hk := HK.out
    subst hk
    rw [HX.out]
    rw [HD.out, List.drop_eq_nil_of_le (by omega), List.append_nil] at h4
    refine ⟨rfl, ⟨fun k hk => ?_, _, ⟨?_, .inr ⟨g, cap, cur, ?_, hle, h2, ?_, HF.out.2.1, h3, ?_⟩⟩, Gv.mkL_reps _ _ _ (fun x => k75_mkM _ _ _ x) (fun _ => rfl) _⟩, h6, h7, fun i hi hni => h5 i (fun e => hni (by rw [e]; exact HF.out.2.2))⟩
    ·have : g = k := by simpa [Value.ownBlock] using hk
     subst this
     exact .inl HF.out.2.2
    ·rw [← HD.out, h1, Gv.mkL_length]; rfl
    ·rw [Gv.mkL_length]
    ·rw [Gv.mkL_length]; exact HF.out.1
    ·rw [Gv.mkL_length]; exact h4

/-! ### laws_markTable: function 21 -/
def laws_markTable.f (a0_0 : Int) (l0_1 : List (S75)) (a1 : Int) : Option (Int × (List (S75))) := (laws_markCellS.f l0_1 a1).bind fun bt153 => (some (bt153.1, bt153.2))
set_option maxHeartbeats 8000000 in
set_option maxRecDepth 100000 in
theorem laws_markTable.calls (a0_0 : Int) (P0_1_ : Nat → Prop) (u9000_ : Value) (l0_1 : List (S75)) (a1 : Int) (r1 : Int) (r2 : List (S75)) (w0 w : World) (hB : Below w0.heap.size w0 w) (ho0_1 : Kd.R k75 75 w w0.heap.size P0_1_ u9000_ l0_1) (h : laws_markTable.f a0_0 l0_1 a1 = some (r1, r2)) :
  Calls Try.prog 21 #[.agg #[.int .i64 a0_0, u9000_], .int .i64 a1] w fun e w' => e = .returned (.int .i64 r1) ∧ Kd.R k75 75 w' w0.heap.size (fun k_ => (P0_1_ k_ ∨ w.heap.size ≤ k_)) u9000_ r2 ∧ Below w0.heap.size w0 w' ∧ Kept w w' (fun k_ => P0_1_ k_) := by
 have hu40 := Try.underlying40
 have HO0_1 := Gv.a0 (show Kd.R k75 75 w w0.heap.size (fun k_ => (P0_1_ k_ ∨ w.heap.size ≤ k_)) u9000_ l0_1 from Kd.R_mono ho0_1 (fun k_ hk => (.inl hk)))
 have HK := Gv.a0 (Kept.refl w (fun k_ => P0_1_ k_))
 have HW0 := Gv.a0 hB.size
 have HB := Gv.a0 hB
 clear hB
 have H : ((laws_markCellS.f l0_1 a1).bind fun bt153 => (some (bt153.1, bt153.2))) = some (r1, r2) := h
 clear h
 replace H := Option.bind_eq_some_iff.mp H
 obtain ⟨⟨t153, t154⟩, A30, H⟩ := H
 (try dsimp only at H)
 have A3 := Gv.a0 A30
 clear A30
 simp only [Option.some.injEq, Prod.mk.injEq] at H
 obtain ⟨rfl, rfl⟩ := H
 obtain ⟨Ao4, co4, eo4⟩ := Kd.R_slice HO0_1.out
 subst eo4
 go_enter Try.func21, Try.ntmps21
 go_wp2_with (first | ((with_reducible refine gate_dst (N := 2) rfl ?_); refine Gv.bev 2 40 #[.int .i64 a0_0, .slice Ao4 l0_1.length co4] ?_; intro gb152 hg w5 hbox hb; replace HO0_1 := Gv.a0 (Kd.R_below (Gv.kr HO0_1.out) hb); have BK152 := Gv.a0 (hbox); have GW152 := Gv.a0 ((by rw [hg]; exact (by first | exact HK.out.1 | exact (show Kept w _ (fun k_ => P0_1_ k_) from by repeat (first | (with_reducible first | exact HK.out | apply Kept.alloc | apply Kept.drewN | apply Kept.drew) | exact HK.out)).1) : w.heap.size ≤ gb152)); replace HK := Gv.a0 (Kept.below (S := (fun k_ => P0_1_ k_)) (by repeat (first | (with_reducible first | exact HK.out | apply Kept.alloc | apply Kept.drewN | apply Kept.drew) | exact HK.out)) hb); have GE152 := Gv.a0 ((Gv.ble hg Gv.bw : w0.heap.size ≤ gb152)); replace HB := Gv.a0 (below_step Gv.bw hb); clear hb hbox hg; have hcz6_0 : w5.cell? ⟨gb152, 0, none⟩ = some (.int .i64 a0_0) := (blk_cell BK152.out 0).trans rfl; have hcz6_1 : w5.cell? ⟨gb152, 1, none⟩ = some (.slice Ao4 l0_1.length co4) := (blk_cell BK152.out 1).trans rfl; have hfz6_0 := blk_frozen BK152.out 0; have hfz6_1 := blk_frozen BK152.out 1) | ((with_reducible refine gate_callee (f := 50) rfl ?_); refine goesL_ (some 8) rfl rfl Try.func50 (by kernel_rfl) rfl #[.slice Ao4 l0_1.length co4, .int .i64 a1] rfl Gv.lm ?_; (with_reducible refine (laws_markCellS.calls (fun k_ => some k_ = (.slice Ao4 l0_1.length co4 : Value).ownBlock) (.slice Ao4 l0_1.length co4) l0_1 a1 t153 t154 w0 _ ?side1 ?side2 A3.out).mono ?_); (case side1 => repeat (first | (with_reducible first | exact HB.out | apply below_alloc | apply pw_below_drewN | apply below_drew1 | refine below_set ?_ GE152.out) | exact HB.out)); (case side2 => exact Kd.R_tight rfl HO0_1.out); rintro e w7 ⟨rfl, hy0, hb, hkp⟩; refine ⟨_, rfl, ?_⟩; replace BK152 := Gv.a0 (blk_kept Gv.bk hkp (fun hs_ => (fun e_ => (Kd.R_ne HO0_1.out BK152.out (by decide)) e_) hs_)); replace HK := Gv.a0 (Kept.then_ (S := (fun k_ => P0_1_ k_)) (by repeat (first | (with_reducible first | exact HK.out | apply Kept.alloc | apply Kept.drewN | apply Kept.drew | refine Kept.setCell ?_ (.inr GW152.out) _) | exact HK.out)) hkp (fun k_ hs_ => (fun e_ => (HO0_1.out.1 k_ e_.symm)) hs_)); replace HO0_1 := Gv.a0 (Kd.R_reok rfl hy0 (fun k_ e_ => HO0_1.out.1 k_ e_)); replace HB := Gv.a0 (hb); clear hb; (try clear hkp); (try clear hy0)))
 go_ret
 exact ⟨Gv.rt, Gv.kr HO0_1.out, Gv.bw, by repeat (first | (with_reducible first | exact HK.out | apply Kept.alloc | apply Kept.drewN | apply Kept.drew | refine Kept.setCell ?_ (.inr GW152.out) _) | exact HK.out)⟩

/-! ### laws_heldCellS: function 51 -/
def laws_heldCellS.f (l0 : List (S75)) (a1 : Int) : Option (Int) := Gv.heldL (fun (x : S75) (a : Int) => (x.f0 == (Int.tmod (Gv.stepN Gv.nx 0 a) 3 == 0)) && (decide (x.f1.f0 = Gv.stepN Gv.nx 1 a) && (decide (x.f1.f1.f0.f0 = Gv.stepN Gv.nx 2 a) && (decide (x.f1.f1.f0.f1 = Gv.stepN Gv.nx 3 a) && (decide (x.f1.f1.f0.f2 = Gv.stepN Gv.nx 4 a) && (decide (x.f1.f1.f0.f3 = Gv.stepN Gv.nx 5 a) && (decide (x.f1.f1.f0.f4 = Gv.stepN Gv.nx 6 a) && (decide (x.f1.f1.f1.f0 = Gv.stepN Gv.nx 7 a) && (decide (x.f1.f1.f1.f1 = Gv.stepN Gv.nx 8 a) && (decide (x.f1.f1.f1.f2 = Gv.stepN Gv.nx 9 a) && (decide (x.f1.f1.f1.f3 = Gv.stepN Gv.nx 10 a) && (decide (x.f1.f1.f1.f4 = Gv.stepN Gv.nx 11 a) && (decide (x.f1.f1.f2 = Gv.stepN Gv.nx 12 a) && (decide (x.f1.f1.f3 = Gv.stepN Gv.nx 13 a) && (decide (x.f1.f1.f4 = Gv.stepN Gv.nx 14 a) && (decide (x.f2 = Gv.stepN Gv.nx 15 a))))))))))))))))) (Gv.stepN Gv.nx 16) l0 a1
set_option maxHeartbeats 8000000 in
set_option maxRecDepth 100000 in
theorem laws_heldCellS.calls (A0 : Option Addr) (c0 : Nat) (l0 : List (S75)) (a1 : Int) (r : Int) (w : World) (hr0 : Kd.C k75 w A0 l0.length l0) (hc0 : l0.length ≤ c0) (h : laws_heldCellS.f l0 a1 = some r) :
  Calls Try.prog 51 #[.slice A0 l0.length c0, .int .i64 a1] w fun e w' => e = .returned (.int .i64 r) ∧ Below w.heap.size w w' := by
 have hlm := hr0.2.1
 have HR0 := Gv.a0 hr0
 have H0 := Gv.a0 h
 clear hr0 h hc0
 go_enter Try.func51, Try.ntmps51
 go_wp2
 go_loopg [1, 5] l0.length (fun gg s1 s5 wr => ∃ (kk : Nat) (x_ : Int), kk ≤ l0.length ∧ l0.length - kk ≤ gg ∧ s1 = .int .i64 x_ ∧ s5 = .int .i64 kk ∧ Aside0 (Gv.heldL (fun (x : S75) (a : Int) => (x.f0 == (Int.tmod (Gv.stepN Gv.nx 0 a) 3 == 0)) && (decide (x.f1.f0 = Gv.stepN Gv.nx 1 a) && (decide (x.f1.f1.f0.f0 = Gv.stepN Gv.nx 2 a) && (decide (x.f1.f1.f0.f1 = Gv.stepN Gv.nx 3 a) && (decide (x.f1.f1.f0.f2 = Gv.stepN Gv.nx 4 a) && (decide (x.f1.f1.f0.f3 = Gv.stepN Gv.nx 5 a) && (decide (x.f1.f1.f0.f4 = Gv.stepN Gv.nx 6 a) && (decide (x.f1.f1.f1.f0 = Gv.stepN Gv.nx 7 a) && (decide (x.f1.f1.f1.f1 = Gv.stepN Gv.nx 8 a) && (decide (x.f1.f1.f1.f2 = Gv.stepN Gv.nx 9 a) && (decide (x.f1.f1.f1.f3 = Gv.stepN Gv.nx 10 a) && (decide (x.f1.f1.f1.f4 = Gv.stepN Gv.nx 11 a) && (decide (x.f1.f1.f2 = Gv.stepN Gv.nx 12 a) && (decide (x.f1.f1.f3 = Gv.stepN Gv.nx 13 a) && (decide (x.f1.f1.f4 = Gv.stepN Gv.nx 14 a) && (decide (x.f2 = Gv.stepN Gv.nx 15 a))))))))))))))))) (Gv.stepN Gv.nx 16) (l0.drop kk) x_ = some r) ∧ Aside0 (Drawn0 w wr))
 case atStart => exact ⟨0, a1, Nat.zero_le _, by omega, rfl, rfl, ⟨H0.out⟩, ⟨Drawn0.refl w⟩⟩
 case round =>
  obtain ⟨kk, z0, hkk, hg, rfl, rfl, HN, HD⟩ := hrel
  by_cases hlt : kk < l0.length
  rotate_left
  ·have hltz : ¬ (kk : Int) < (l0.length : Int) := by omega
   have hN := HN.out
   rw [List.drop_eq_nil_of_le (by omega), Gv.heldL] at hN
   have HN2 := Gv.a0 (Option.some.inj hN)
   clear hN
   go_wp2_with fail
   go_ret
   exact ⟨by rw [← HN2.out]; rfl, by first | exact HD.out | exact HD.out.below⟩

  have hltz : (kk : Int) < (l0.length : Int) := by omega
  have hk0 : 0 ≤ (kk : Int) := by omega
  obtain ⟨ad, e1, hx0, hx1, hx2, hx3, hx4, hx5, hx6, hx7, hx8, hx9, hx10, hx11, hx12, hx13, hx14, hx15⟩ := at_T75 (Kd.C_below HR0.out HD.out.below) (kk : Int) hk0 hltz
  cases e1
  obtain ⟨y_, hy_⟩ : ∃ y_, y_ = rd_T75 l0 kk := ⟨_, rfl⟩
  rw [← hy_, Int.toNat_natCast] at hx0 hx1 hx2 hx3 hx4 hx5 hx6 hx7 hx8 hx9 hx10 hx11 hx12 hx13 hx14 hx15
  have hN := HN.out
  have hget : l0.drop kk = y_ :: l0.drop (kk + 1) := by
   rw [hy_, List.drop_eq_getElem_cons hlt]
   congr 1
   unfold rd_T75
   rw [Int.toNat_natCast, List.getD_eq_getElem?_getD, List.getElem?_eq_getElem hlt]
   rfl
  rw [hget, Gv.heldL] at hN
  clear hget hy_ HN
  by_cases hq : (fun (x : S75) (a : Int) => (x.f0 == (Int.tmod (Gv.stepN Gv.nx 0 a) 3 == 0)) && (decide (x.f1.f0 = Gv.stepN Gv.nx 1 a) && (decide (x.f1.f1.f0.f0 = Gv.stepN Gv.nx 2 a) && (decide (x.f1.f1.f0.f1 = Gv.stepN Gv.nx 3 a) && (decide (x.f1.f1.f0.f2 = Gv.stepN Gv.nx 4 a) && (decide (x.f1.f1.f0.f3 = Gv.stepN Gv.nx 5 a) && (decide (x.f1.f1.f0.f4 = Gv.stepN Gv.nx 6 a) && (decide (x.f1.f1.f1.f0 = Gv.stepN Gv.nx 7 a) && (decide (x.f1.f1.f1.f1 = Gv.stepN Gv.nx 8 a) && (decide (x.f1.f1.f1.f2 = Gv.stepN Gv.nx 9 a) && (decide (x.f1.f1.f1.f3 = Gv.stepN Gv.nx 10 a) && (decide (x.f1.f1.f1.f4 = Gv.stepN Gv.nx 11 a) && (decide (x.f1.f1.f2 = Gv.stepN Gv.nx 12 a) && (decide (x.f1.f1.f3 = Gv.stepN Gv.nx 13 a) && (decide (x.f1.f1.f4 = Gv.stepN Gv.nx 14 a) && (decide (x.f2 = Gv.stepN Gv.nx 15 a))))))))))))))))) y_ z0 = true
  rotate_left
  ·rw [if_neg hq] at hN
   cases hN
  rw [if_pos hq] at hN
  simp only [Bool.and_eq_true, decide_eq_true_eq, beq_iff_eq] at hq
  obtain ⟨q0, q1, q2, q3, q4, q5, q6, q7, q8, q9, q10, q11, q12, q13, q14, q15⟩ := hq
  have e0 : Gv.stepN Gv.nx 0 z0 = z0 := rfl
  obtain ⟨z1, hw1⟩ : ∃ z_, IntKind.i64.wrap (z0 + 1) = z_ := ⟨_, rfl⟩
  have e1 : Gv.stepN Gv.nx 1 z0 = z1 := by rw [Gv.stepN, e0]; first | exact hw1 | exact (i64_w _).symm.trans hw1
  obtain ⟨z2, hw2⟩ : ∃ z_, IntKind.i64.wrap (z1 + 1) = z_ := ⟨_, rfl⟩
  have e2 : Gv.stepN Gv.nx 2 z0 = z2 := by rw [Gv.stepN, e1]; first | exact hw2 | exact (i64_w _).symm.trans hw2
  obtain ⟨z3, hw3⟩ : ∃ z_, IntKind.i64.wrap (z2 + 1) = z_ := ⟨_, rfl⟩
  have e3 : Gv.stepN Gv.nx 3 z0 = z3 := by rw [Gv.stepN, e2]; first | exact hw3 | exact (i64_w _).symm.trans hw3
  obtain ⟨z4, hw4⟩ : ∃ z_, IntKind.i64.wrap (z3 + 1) = z_ := ⟨_, rfl⟩
  have e4 : Gv.stepN Gv.nx 4 z0 = z4 := by rw [Gv.stepN, e3]; first | exact hw4 | exact (i64_w _).symm.trans hw4
  obtain ⟨z5, hw5⟩ : ∃ z_, IntKind.i64.wrap (z4 + 1) = z_ := ⟨_, rfl⟩
  have e5 : Gv.stepN Gv.nx 5 z0 = z5 := by rw [Gv.stepN, e4]; first | exact hw5 | exact (i64_w _).symm.trans hw5
  obtain ⟨z6, hw6⟩ : ∃ z_, IntKind.i64.wrap (z5 + 1) = z_ := ⟨_, rfl⟩
  have e6 : Gv.stepN Gv.nx 6 z0 = z6 := by rw [Gv.stepN, e5]; first | exact hw6 | exact (i64_w _).symm.trans hw6
  obtain ⟨z7, hw7⟩ : ∃ z_, IntKind.i64.wrap (z6 + 1) = z_ := ⟨_, rfl⟩
  have e7 : Gv.stepN Gv.nx 7 z0 = z7 := by rw [Gv.stepN, e6]; first | exact hw7 | exact (i64_w _).symm.trans hw7
  obtain ⟨z8, hw8⟩ : ∃ z_, IntKind.i64.wrap (z7 + 1) = z_ := ⟨_, rfl⟩
  have e8 : Gv.stepN Gv.nx 8 z0 = z8 := by rw [Gv.stepN, e7]; first | exact hw8 | exact (i64_w _).symm.trans hw8
  obtain ⟨z9, hw9⟩ : ∃ z_, IntKind.i64.wrap (z8 + 1) = z_ := ⟨_, rfl⟩
  have e9 : Gv.stepN Gv.nx 9 z0 = z9 := by rw [Gv.stepN, e8]; first | exact hw9 | exact (i64_w _).symm.trans hw9
  obtain ⟨z10, hw10⟩ : ∃ z_, IntKind.i64.wrap (z9 + 1) = z_ := ⟨_, rfl⟩
  have e10 : Gv.stepN Gv.nx 10 z0 = z10 := by rw [Gv.stepN, e9]; first | exact hw10 | exact (i64_w _).symm.trans hw10
  obtain ⟨z11, hw11⟩ : ∃ z_, IntKind.i64.wrap (z10 + 1) = z_ := ⟨_, rfl⟩
  have e11 : Gv.stepN Gv.nx 11 z0 = z11 := by rw [Gv.stepN, e10]; first | exact hw11 | exact (i64_w _).symm.trans hw11
  obtain ⟨z12, hw12⟩ : ∃ z_, IntKind.i64.wrap (z11 + 1) = z_ := ⟨_, rfl⟩
  have e12 : Gv.stepN Gv.nx 12 z0 = z12 := by rw [Gv.stepN, e11]; first | exact hw12 | exact (i64_w _).symm.trans hw12
  obtain ⟨z13, hw13⟩ : ∃ z_, IntKind.i64.wrap (z12 + 1) = z_ := ⟨_, rfl⟩
  have e13 : Gv.stepN Gv.nx 13 z0 = z13 := by rw [Gv.stepN, e12]; first | exact hw13 | exact (i64_w _).symm.trans hw13
  obtain ⟨z14, hw14⟩ : ∃ z_, IntKind.i64.wrap (z13 + 1) = z_ := ⟨_, rfl⟩
  have e14 : Gv.stepN Gv.nx 14 z0 = z14 := by rw [Gv.stepN, e13]; first | exact hw14 | exact (i64_w _).symm.trans hw14
  obtain ⟨z15, hw15⟩ : ∃ z_, IntKind.i64.wrap (z14 + 1) = z_ := ⟨_, rfl⟩
  have e15 : Gv.stepN Gv.nx 15 z0 = z15 := by rw [Gv.stepN, e14]; first | exact hw15 | exact (i64_w _).symm.trans hw15
  obtain ⟨z16, hw16⟩ : ∃ z_, IntKind.i64.wrap (z15 + 1) = z_ := ⟨_, rfl⟩
  have e16 : Gv.stepN Gv.nx 16 z0 = z16 := by rw [Gv.stepN, e15]; first | exact hw16 | exact (i64_w _).symm.trans hw16
  rw [q0, e0] at hx0
  rw [q1, e1] at hx1
  rw [q2, e2] at hx2
  rw [q3, e3] at hx3
  rw [q4, e4] at hx4
  rw [q5, e5] at hx5
  rw [q6, e6] at hx6
  rw [q7, e7] at hx7
  rw [q8, e8] at hx8
  rw [q9, e9] at hx9
  rw [q10, e10] at hx10
  rw [q11, e11] at hx11
  rw [q12, e12] at hx12
  rw [q13, e13] at hx13
  rw [q14, e14] at hx14
  rw [q15, e15] at hx15
  rw [e16] at hN
  have HN2 := Gv.a0 hN
  clear hN q0 q1 q2 q3 q4 q5 q6 q7 q8 q9 q10 q11 q12 q13 q14 q15
  go_wp2_with fail
  go_roundg (l0.length - (kk + 1))
  case measure => omega
  case rel => exact ⟨kk + 1, z16, by omega, by omega, by simp [*], by go_num, HN2, HD⟩
/-! ### laws_heldTable: function 22 -/
def laws_heldTable.f (a0_0 : Int) (l0_1 : List (S75)) (a1 : Int) : Option (Int) := (laws_heldCellS.f l0_1 a1).bind fun t156 => (if t156 < 0 then (some (-1)) else (some t156))
set_option maxHeartbeats 8000000 in
set_option maxRecDepth 100000 in
theorem laws_heldTable.calls (a0_0 : Int) (A0_1 : Option Addr) (c0_1 : Nat) (l0_1 : List (S75)) (a1 : Int) (r : Int) (w : World) (hr0_1 : Kd.C k75 w A0_1 l0_1.length l0_1) (hc0_1 : l0_1.length ≤ c0_1) (h : laws_heldTable.f a0_0 l0_1 a1 = some r) :
  Calls Try.prog 22 #[.agg #[.int .i64 a0_0, .slice A0_1 l0_1.length c0_1], .int .i64 a1] w fun e w' => e = .returned (.int .i64 r) ∧ Below w.heap.size w w' := by
 have hu40 := Try.underlying40
 have HR0_1 := Gv.a0 hr0_1
 have HC0_1 := Gv.a0 hc0_1
 clear hr0_1 hc0_1
 have HB := Gv.a0 (Below.refl w.heap.size w)
 have H : ((laws_heldCellS.f l0_1 a1).bind fun t156 => (if t156 < 0 then (some (-1)) else (some t156))) = some r := h
 clear h
 replace H := Option.bind_eq_some_iff.mp H
 obtain ⟨t156, A30, H⟩ := H
 (try dsimp only at H)
 have A3 := Gv.a0 A30
 clear A30
 by_cases c4 : t156 < 0
 ·rw [if_pos c4] at H
  have c4b0 : decide (t156 < 0) = true := decide_eq_true c4
  clear c4
  obtain rfl := Option.some.inj H
  go_enter Try.func22, Try.ntmps22
  go_wp2_with (first | ((with_reducible refine gate_dst (N := 2) rfl ?_); refine Gv.bev 2 40 #[.int .i64 a0_0, .slice A0_1 l0_1.length c0_1] ?_; intro gb155 hg w5 hbox hb; have BK155 := Gv.a0 (hbox); have GW155 := Gv.a0 ((Gv.ble hg Gv.bw : w.heap.size ≤ gb155)); have GE155 := Gv.a0 ((Gv.ble hg Gv.bw : w.heap.size ≤ gb155)); replace HB := Gv.a0 (below_step Gv.bw hb); clear hb hbox hg; have hcz6_0 : w5.cell? ⟨gb155, 0, none⟩ = some (.int .i64 a0_0) := (blk_cell BK155.out 0).trans rfl; have hcz6_1 : w5.cell? ⟨gb155, 1, none⟩ = some (.slice A0_1 l0_1.length c0_1) := (blk_cell BK155.out 1).trans rfl; have hfz6_0 := blk_frozen BK155.out 0; have hfz6_1 := blk_frozen BK155.out 1) | ((with_reducible refine gate_callee (f := 51) rfl ?_); refine goesL_ (some 8) rfl rfl Try.func51 (by kernel_rfl) rfl #[.slice A0_1 l0_1.length c0_1, .int .i64 a1] rfl Gv.lm ?_; (with_reducible refine (laws_heldCellS.calls _ _ l0_1 a1 t156 _ ?side1 ?side2 A3.out).mono ?_); (case side1 => exact Gv.sd (Kd.C_below HR0_1.out HB.out)); (case side2 => exact HC0_1.out); rintro e w7 ⟨rfl, hb⟩; refine ⟨_, rfl, ?_⟩; replace BK155 := Gv.b1 BK155 hb; replace HB := Gv.a0 (below_step Gv.bw hb); clear hb))
  go_ret
  exact ⟨Gv.rt, Gv.bw⟩
 ·rw [if_neg c4] at H
  have c4b0 : decide (t156 < 0) = false := decide_eq_false c4
  clear c4
  obtain rfl := Option.some.inj H
  go_enter Try.func22, Try.ntmps22
  go_wp2_with (first | ((with_reducible refine gate_dst (N := 2) rfl ?_); refine Gv.bev 2 40 #[.int .i64 a0_0, .slice A0_1 l0_1.length c0_1] ?_; intro gb155 hg w8 hbox hb; have BK155 := Gv.a0 (hbox); have GW155 := Gv.a0 ((Gv.ble hg Gv.bw : w.heap.size ≤ gb155)); have GE155 := Gv.a0 ((Gv.ble hg Gv.bw : w.heap.size ≤ gb155)); replace HB := Gv.a0 (below_step Gv.bw hb); clear hb hbox hg; have hcz9_0 : w8.cell? ⟨gb155, 0, none⟩ = some (.int .i64 a0_0) := (blk_cell BK155.out 0).trans rfl; have hcz9_1 : w8.cell? ⟨gb155, 1, none⟩ = some (.slice A0_1 l0_1.length c0_1) := (blk_cell BK155.out 1).trans rfl; have hfz9_0 := blk_frozen BK155.out 0; have hfz9_1 := blk_frozen BK155.out 1) | ((with_reducible refine gate_callee (f := 51) rfl ?_); refine goesL_ (some 8) rfl rfl Try.func51 (by kernel_rfl) rfl #[.slice A0_1 l0_1.length c0_1, .int .i64 a1] rfl Gv.lm ?_; (with_reducible refine (laws_heldCellS.calls _ _ l0_1 a1 t156 _ ?side1 ?side2 A3.out).mono ?_); (case side1 => exact Gv.sd (Kd.C_below HR0_1.out HB.out)); (case side2 => exact HC0_1.out); rintro e w10 ⟨rfl, hb⟩; refine ⟨_, rfl, ?_⟩; replace BK155 := Gv.b1 BK155 hb; replace HB := Gv.a0 (below_step Gv.bw hb); clear hb))
  go_ret
  exact ⟨Gv.rt, Gv.bw⟩

/-! ### laws_szCellS: function 52 -/
def laws_szCellS.f (l0 : List (S94)) (a1 : Int) : Option (Int) := if (wrap64 (a1 - (l0.length : Int))) < 0 then (some (-1)) else (some (wrap64 (a1 - (l0.length : Int))))
set_option maxHeartbeats 8000000 in
set_option maxRecDepth 100000 in
theorem laws_szCellS.calls (A0 : Option Addr) (c0 : Nat) (l0 : List (S94)) (a1 : Int) (r : Int) (w : World) (hr0 : Kd.C k94 w A0 l0.length l0) (hc0 : l0.length ≤ c0) (h : laws_szCellS.f l0 a1 = some r) :
  Calls Try.prog 52 #[.slice A0 l0.length c0, .int .i64 a1] w fun e w' => e = .returned (.int .i64 r) ∧ Drawn0 w w' := by
 have HR0 := Gv.a0 hr0
 have HC0 := Gv.a0 hc0
 clear hr0 hc0
 have H : (if (wrap64 (a1 - (l0.length : Int))) < 0 then (some (-1)) else (some (wrap64 (a1 - (l0.length : Int))))) = some r := h
 clear h
 by_cases c3 : (wrap64 (a1 - (l0.length : Int))) < 0
 ·rw [if_pos c3] at H
  have c3b0 : decide ((wrap64 (a1 - (l0.length : Int))) < 0) = true := decide_eq_true c3
  clear c3
  obtain rfl := Option.some.inj H
  go_enter Try.func52, Try.ntmps52
  go_wp2
  go_ret
  exact ⟨by first | rfl | (simp; done) | (simp [Int.tdiv_eq_ediv_of_nonneg]; done) | (simp [*]; done), by repeat (first | exact Drawn0.refl _ | apply Drawn0.step)⟩
 ·rw [if_neg c3] at H
  have c3b0 : decide ((wrap64 (a1 - (l0.length : Int))) < 0) = false := decide_eq_false c3
  clear c3
  obtain rfl := Option.some.inj H
  go_enter Try.func52, Try.ntmps52
  go_wp2
  go_ret
  exact ⟨by first | rfl | (simp; done) | (simp [Int.tdiv_eq_ediv_of_nonneg]; done) | (simp [*]; done), by repeat (first | exact Drawn0.refl _ | apply Drawn0.step)⟩

/-! ### laws_szTable: function 23 -/
def laws_szTable.f (a0_0 : Int) (l0_1 : List (S94)) (a1 : Int) : Option (Int) := (laws_szCellS.f l0_1 a1).bind fun t158 => (if t158 < 0 then (some (-1)) else (some t158))
set_option maxHeartbeats 8000000 in
set_option maxRecDepth 100000 in
theorem laws_szTable.calls (a0_0 : Int) (A0_1 : Option Addr) (c0_1 : Nat) (l0_1 : List (S94)) (a1 : Int) (r : Int) (w : World) (hr0_1 : Kd.C k94 w A0_1 l0_1.length l0_1) (hc0_1 : l0_1.length ≤ c0_1) (h : laws_szTable.f a0_0 l0_1 a1 = some r) :
  Calls Try.prog 23 #[.agg #[.int .i64 a0_0, .slice A0_1 l0_1.length c0_1], .int .i64 a1] w fun e w' => e = .returned (.int .i64 r) ∧ Below w.heap.size w w' := by
 have hu47 := Try.underlying47
 have HR0_1 := Gv.a0 hr0_1
 have HC0_1 := Gv.a0 hc0_1
 clear hr0_1 hc0_1
 have HB := Gv.a0 (Below.refl w.heap.size w)
 have H : ((laws_szCellS.f l0_1 a1).bind fun t158 => (if t158 < 0 then (some (-1)) else (some t158))) = some r := h
 clear h
 replace H := Option.bind_eq_some_iff.mp H
 obtain ⟨t158, A30, H⟩ := H
 (try dsimp only at H)
 have A3 := Gv.a0 A30
 clear A30
 by_cases c4 : t158 < 0
 ·rw [if_pos c4] at H
  have c4b0 : decide (t158 < 0) = true := decide_eq_true c4
  clear c4
  obtain rfl := Option.some.inj H
  go_enter Try.func23, Try.ntmps23
  go_wp2_with (first | ((with_reducible refine gate_dst (N := 2) rfl ?_); refine Gv.bev 2 47 #[.int .i64 a0_0, .slice A0_1 l0_1.length c0_1] ?_; intro gb157 hg w5 hbox hb; have BK157 := Gv.a0 (hbox); have GW157 := Gv.a0 ((Gv.ble hg Gv.bw : w.heap.size ≤ gb157)); have GE157 := Gv.a0 ((Gv.ble hg Gv.bw : w.heap.size ≤ gb157)); replace HB := Gv.a0 (below_step Gv.bw hb); clear hb hbox hg; have hcz6_0 : w5.cell? ⟨gb157, 0, none⟩ = some (.int .i64 a0_0) := (blk_cell BK157.out 0).trans rfl; have hcz6_1 : w5.cell? ⟨gb157, 1, none⟩ = some (.slice A0_1 l0_1.length c0_1) := (blk_cell BK157.out 1).trans rfl; have hfz6_0 := blk_frozen BK157.out 0; have hfz6_1 := blk_frozen BK157.out 1) | ((with_reducible refine gate_callee (f := 52) rfl ?_); refine goesL_ (some 8) rfl rfl Try.func52 (by kernel_rfl) rfl #[.slice A0_1 l0_1.length c0_1, .int .i64 a1] rfl Gv.lm ?_; (with_reducible refine (laws_szCellS.calls _ _ l0_1 a1 t158 _ ?side1 ?side2 A3.out).mono ?_); (case side1 => exact Gv.sd (Kd.C_below HR0_1.out HB.out)); (case side2 => exact HC0_1.out); rintro e w' ⟨rfl, ⟨nd, rfl⟩⟩; refine ⟨_, rfl, ?_⟩))
  go_ret
  exact ⟨Gv.rt, Gv.bw⟩
 ·rw [if_neg c4] at H
  have c4b0 : decide (t158 < 0) = false := decide_eq_false c4
  clear c4
  obtain rfl := Option.some.inj H
  go_enter Try.func23, Try.ntmps23
  go_wp2_with (first | ((with_reducible refine gate_dst (N := 2) rfl ?_); refine Gv.bev 2 47 #[.int .i64 a0_0, .slice A0_1 l0_1.length c0_1] ?_; intro gb157 hg w7 hbox hb; have BK157 := Gv.a0 (hbox); have GW157 := Gv.a0 ((Gv.ble hg Gv.bw : w.heap.size ≤ gb157)); have GE157 := Gv.a0 ((Gv.ble hg Gv.bw : w.heap.size ≤ gb157)); replace HB := Gv.a0 (below_step Gv.bw hb); clear hb hbox hg; have hcz8_0 : w7.cell? ⟨gb157, 0, none⟩ = some (.int .i64 a0_0) := (blk_cell BK157.out 0).trans rfl; have hcz8_1 : w7.cell? ⟨gb157, 1, none⟩ = some (.slice A0_1 l0_1.length c0_1) := (blk_cell BK157.out 1).trans rfl; have hfz8_0 := blk_frozen BK157.out 0; have hfz8_1 := blk_frozen BK157.out 1) | ((with_reducible refine gate_callee (f := 52) rfl ?_); refine goesL_ (some 8) rfl rfl Try.func52 (by kernel_rfl) rfl #[.slice A0_1 l0_1.length c0_1, .int .i64 a1] rfl Gv.lm ?_; (with_reducible refine (laws_szCellS.calls _ _ l0_1 a1 t158 _ ?side1 ?side2 A3.out).mono ?_); (case side1 => exact Gv.sd (Kd.C_below HR0_1.out HB.out)); (case side2 => exact HC0_1.out); rintro e w' ⟨rfl, ⟨nd, rfl⟩⟩; refine ⟨_, rfl, ?_⟩))
  go_ret
  exact ⟨Gv.rt, Gv.bw⟩

/-! ### laws_toCell: function 77 -/
def laws_toCell.f (a0_0 : Bool) (a0_1 : Int) (a0_2 : Int) (a0_3 : Int) (a0_4 : Int) (a0_5 : Int) (a0_6 : Int) (a0_7 : Int) (a0_8 : Int) (a0_9 : Int) (a0_10 : Int) (a0_11 : Int) (a0_12 : Int) (a0_13 : Int) (a0_14 : Int) (a0_15 : Int) : Option (Bool × Int × Int × Int × Int × Int × Int × Int × Int × Int × Int × Int × Int × Int × Int × Int) := (laws_toFlowKey.f a0_1 a0_2 a0_3 a0_4 a0_5 a0_6 a0_7 a0_8 a0_9 a0_10 a0_11 a0_12 a0_13 a0_14).bind fun bt162 => (some (a0_0, bt162.1, bt162.2.1, bt162.2.2.1, bt162.2.2.2.1, bt162.2.2.2.2.1, bt162.2.2.2.2.2.1, bt162.2.2.2.2.2.2.1, bt162.2.2.2.2.2.2.2.1, bt162.2.2.2.2.2.2.2.2.1, bt162.2.2.2.2.2.2.2.2.2.1, bt162.2.2.2.2.2.2.2.2.2.2.1, bt162.2.2.2.2.2.2.2.2.2.2.2.1, bt162.2.2.2.2.2.2.2.2.2.2.2.2.1, bt162.2.2.2.2.2.2.2.2.2.2.2.2.2, a0_15))
set_option maxHeartbeats 8000000 in
set_option maxRecDepth 100000 in
theorem laws_toCell.calls (a0_0 : Bool) (a0_1 : Int) (a0_2 : Int) (a0_3 : Int) (a0_4 : Int) (a0_5 : Int) (a0_6 : Int) (a0_7 : Int) (a0_8 : Int) (a0_9 : Int) (a0_10 : Int) (a0_11 : Int) (a0_12 : Int) (a0_13 : Int) (a0_14 : Int) (a0_15 : Int) (r1 : Bool) (r2 : Int) (r3 : Int) (r4 : Int) (r5 : Int) (r6 : Int) (r7 : Int) (r8 : Int) (r9 : Int) (r10 : Int) (r11 : Int) (r12 : Int) (r13 : Int) (r14 : Int) (r15 : Int) (r16 : Int) (w : World) (h : laws_toCell.f a0_0 a0_1 a0_2 a0_3 a0_4 a0_5 a0_6 a0_7 a0_8 a0_9 a0_10 a0_11 a0_12 a0_13 a0_14 a0_15 = some (r1, r2, r3, r4, r5, r6, r7, r8, r9, r10, r11, r12, r13, r14, r15, r16)) :
  Calls Try.prog 77 #[.agg #[.bool a0_0, .int .i64 a0_1, .int .i64 a0_2, .int .i64 a0_3, .int .i64 a0_4, .int .i64 a0_5, .int .i64 a0_6, .int .i64 a0_7, .int .i64 a0_8, .int .i64 a0_9, .int .i64 a0_10, .int .i64 a0_11, .int .i64 a0_12, .int .i64 a0_13, .int .i64 a0_14, .int .i64 a0_15]] w fun e w' => e = .returned (.agg #[.bool r1, .int .i64 r2, .int .i64 r3, .int .i64 r4, .int .i64 r5, .int .i64 r6, .int .i64 r7, .int .i64 r8, .int .i64 r9, .int .i64 r10, .int .i64 r11, .int .i64 r12, .int .i64 r13, .int .i64 r14, .int .i64 r15, .int .i64 r16]) ∧ Below w.heap.size w w' := by
 have hu94 := Try.underlying94
 have hu75 := Try.underlying75
 have hu27 := Try.underlying27
 have hu33 := Try.underlying33
 have HB := Gv.a0 (Below.refl w.heap.size w)
 have H : ((laws_toFlowKey.f a0_1 a0_2 a0_3 a0_4 a0_5 a0_6 a0_7 a0_8 a0_9 a0_10 a0_11 a0_12 a0_13 a0_14).bind fun bt162 => (some (a0_0, bt162.1, bt162.2.1, bt162.2.2.1, bt162.2.2.2.1, bt162.2.2.2.2.1, bt162.2.2.2.2.2.1, bt162.2.2.2.2.2.2.1, bt162.2.2.2.2.2.2.2.1, bt162.2.2.2.2.2.2.2.2.1, bt162.2.2.2.2.2.2.2.2.2.1, bt162.2.2.2.2.2.2.2.2.2.2.1, bt162.2.2.2.2.2.2.2.2.2.2.2.1, bt162.2.2.2.2.2.2.2.2.2.2.2.2.1, bt162.2.2.2.2.2.2.2.2.2.2.2.2.2, a0_15))) = some (r1, r2, r3, r4, r5, r6, r7, r8, r9, r10, r11, r12, r13, r14, r15, r16) := h
 clear h
 replace H := Option.bind_eq_some_iff.mp H
 obtain ⟨⟨t162, t163, t164, t165, t166, t167, t168, t169, t170, t171, t172, t173, t174, t175⟩, A20, H⟩ := H
 (try dsimp only at H)
 have A2 := Gv.a0 A20
 clear A20
 simp only [Option.some.injEq, Prod.mk.injEq] at H
 obtain ⟨rfl, rfl, rfl, rfl, rfl, rfl, rfl, rfl, rfl, rfl, rfl, rfl, rfl, rfl, rfl, rfl⟩ := H
 go_enter Try.func77, Try.ntmps77
 go_wp2_with (first | ((with_reducible refine gate_dst (N := 1) rfl ?_); refine Gv.bev 1 94 #[.bool a0_0, .int .i64 a0_1, .int .i64 a0_2, .int .i64 a0_3, .int .i64 a0_4, .int .i64 a0_5, .int .i64 a0_6, .int .i64 a0_7, .int .i64 a0_8, .int .i64 a0_9, .int .i64 a0_10, .int .i64 a0_11, .int .i64 a0_12, .int .i64 a0_13, .int .i64 a0_14, .int .i64 a0_15] ?_; intro gb159 hg w3 hbox hb; have BK159 := Gv.a0 (hbox); have GW159 := Gv.a0 ((Gv.ble hg Gv.bw : w.heap.size ≤ gb159)); have GE159 := Gv.a0 ((Gv.ble hg Gv.bw : w.heap.size ≤ gb159)); replace HB := Gv.a0 (below_step Gv.bw hb); clear hb hbox hg) | ((with_reducible refine gate_dst (N := 2) rfl ?_); refine Gv.bev 2 75 #[.bool false, .int .i64 0, .int .i64 0, .int .i64 0, .int .i64 0, .int .i64 0, .int .i64 0, .int .i64 0, .int .i64 0, .int .i64 0, .int .i64 0, .int .i64 0, .int .i64 0, .int .i64 0, .int .i64 0, .int .i64 0] ?_; intro gb160 hg w4 hbox hb; have BK160 := Gv.a0 (hbox); have GW160 := Gv.a0 ((Gv.ble hg Gv.bw : w.heap.size ≤ gb160)); have GE160 := Gv.a0 ((Gv.ble hg Gv.bw : w.heap.size ≤ gb160)); replace HB := Gv.a0 (below_step Gv.bw hb); have NB159_160 := Gv.a0 ((Gv.nlt hg (Gv.kb BK159.out) : gb159 ≠ gb160)); have NB160_159 := Gv.a0 ((Gv.ngt hg (Gv.kb BK159.out) : gb160 ≠ gb159)); replace BK159 := Gv.b1 BK159 hb; clear hb hbox hg) | ((with_reducible refine gate_dst (N := 3) rfl ?_); refine Gv.bev 3 75 #[.bool false, .int .i64 0, .int .i64 0, .int .i64 0, .int .i64 0, .int .i64 0, .int .i64 0, .int .i64 0, .int .i64 0, .int .i64 0, .int .i64 0, .int .i64 0, .int .i64 0, .int .i64 0, .int .i64 0, .int .i64 0] ?_; intro gb161 hg w5 hbox hb; have BK161 := Gv.a0 (hbox); have GW161 := Gv.a0 ((Gv.ble hg Gv.bw : w.heap.size ≤ gb161)); have GE161 := Gv.a0 ((Gv.ble hg Gv.bw : w.heap.size ≤ gb161)); replace HB := Gv.a0 (below_step Gv.bw hb); have NB159_161 := Gv.a0 ((Gv.nlt hg (Gv.kb BK159.out) : gb159 ≠ gb161)); have NB161_159 := Gv.a0 ((Gv.ngt hg (Gv.kb BK159.out) : gb161 ≠ gb159)); replace BK159 := Gv.b1 BK159 hb; have NB160_161 := Gv.a0 ((Gv.nlt hg (Gv.kb BK160.out) : gb160 ≠ gb161)); have NB161_160 := Gv.a0 ((Gv.ngt hg (Gv.kb BK160.out) : gb161 ≠ gb160)); replace BK160 := Gv.b1 BK160 hb; clear hb hbox hg; have hnb6 := NB159_160.out; have hnc6 := NB160_159.out; have hnb7 := NB159_161.out; have hnc7 := NB161_159.out; have hnb9 := NB161_160.out; have hnc9 := NB160_161.out) | ((with_reducible refine gate_callee (f := 14) rfl ?_); refine goesL_ (some 9) rfl rfl Try.func14 (by kernel_rfl) rfl #[.agg #[.int .i64 a0_1, .int .i64 a0_2, .int .i64 a0_3, .int .i64 a0_4, .int .i64 a0_5, .int .i64 a0_6, .int .i64 a0_7, .int .i64 a0_8, .int .i64 a0_9, .int .i64 a0_10, .int .i64 a0_11, .int .i64 a0_12, .int .i64 a0_13, .int .i64 a0_14]] rfl Gv.lm ?_; (with_reducible refine (laws_toFlowKey.calls a0_1 a0_2 a0_3 a0_4 a0_5 a0_6 a0_7 a0_8 a0_9 a0_10 a0_11 a0_12 a0_13 a0_14 t162 t163 t164 t165 t166 t167 t168 t169 t170 t171 t172 t173 t174 t175 _ A2.out).mono ?_); rintro e w11 ⟨rfl, hb⟩; refine ⟨_, rfl, ?_⟩; replace HB := Gv.a0 (below_step HB.out hb); replace BK159 := Gv.b1 BK159 hb; replace BK160 := Gv.b1 BK160 hb; replace BK161 := Gv.b1 BK161 hb; clear hb) | ((with_reducible refine Gv.gate_load (t := 3) rfl ?_); refine Gv.get_event (g := gb159) rfl rfl rfl BK159.out rfl Try.underlying3 rfl ?_) | ((with_reducible refine Gv.gate_load (t := 4) rfl ?_); refine Gv.get_event (g := gb159) rfl rfl rfl BK159.out rfl Try.underlying4 rfl ?_) | ((with_reducible refine Gv.gate_load (t := 27) rfl ?_); refine Gv.mid_event (g := gb159) [.int .i64 a0_1, .int .i64 a0_2, .int .i64 a0_3, .int .i64 a0_4, .int .i64 a0_5, .int .i64 a0_6, .int .i64 a0_7, .int .i64 a0_8, .int .i64 a0_9, .int .i64 a0_10, .int .i64 a0_11, .int .i64 a0_12, .int .i64 a0_13, .int .i64 a0_14] rfl rfl rfl BK159.out rfl Try.underlying27 rfl (by kernel_rfl) ?_) | ((with_reducible refine Gv.gate_load (t := 33) rfl ?_); refine Gv.mid_event (g := gb159) [.int .i64 a0_1, .int .i64 a0_2, .int .i64 a0_3, .int .i64 a0_4, .int .i64 a0_5, .int .i64 a0_6, .int .i64 a0_7, .int .i64 a0_8, .int .i64 a0_9, .int .i64 a0_10, .int .i64 a0_11, .int .i64 a0_12, .int .i64 a0_13, .int .i64 a0_14] rfl rfl rfl BK159.out rfl Try.underlying33 rfl (by kernel_rfl) ?_) | ((with_reducible refine gate_store (t := 3) rfl ?_); refine Gv.put_event (g := gb161) rfl rfl rfl rfl rfl BK161.out (by kernel_rfl) (by simp) ?_; intro wp_ hbox hoth hbel; simp only [List.setIfInBounds_toArray, List.set_cons_succ, List.set_cons_zero] at hbox; replace BK161 := Gv.a0 (hbox); replace HB := Gv.a0 (hbel w HB.out GE161.out); replace BK159 := Gv.a0 ((hoth gb159 NB159_161.out).trans BK159.out); replace BK160 := Gv.a0 ((hoth gb160 NB160_161.out).trans BK160.out); clear hbox hoth hbel) | ((with_reducible refine gate_store (t := 4) rfl ?_); refine Gv.putb_event (g := gb161) rfl rfl rfl rfl rfl BK161.out (by kernel_rfl) (by simp) ?_; intro wp_ hbox hoth hbel; simp only [List.setIfInBounds_toArray, List.set_cons_succ, List.set_cons_zero] at hbox; replace BK161 := Gv.a0 (hbox); replace HB := Gv.a0 (hbel w HB.out GE161.out); replace BK159 := Gv.a0 ((hoth gb159 NB159_161.out).trans BK159.out); replace BK160 := Gv.a0 ((hoth gb160 NB160_161.out).trans BK160.out); clear hbox hoth hbel) | ((with_reducible refine gate_store (t := 27) rfl ?_); refine Gv.mput_event (g := gb161) (cs' := #[.bool a0_0, .int .i64 t162, .int .i64 t163, .int .i64 t164, .int .i64 t165, .int .i64 t166, .int .i64 t167, .int .i64 t168, .int .i64 t169, .int .i64 t170, .int .i64 t171, .int .i64 t172, .int .i64 t173, .int .i64 t174, .int .i64 t175, .int .i64 0]) rfl rfl rfl rfl rfl BK161.out (by kernel_rfl) rfl (by simp) rfl ?_; intro wp_ hbox hoth hbel; replace BK161 := Gv.a0 (hbox); replace HB := Gv.a0 (hbel w HB.out GE161.out); replace BK159 := Gv.a0 ((hoth gb159 NB159_161.out).trans BK159.out); replace BK160 := Gv.a0 ((hoth gb160 NB160_161.out).trans BK160.out); clear hbox hoth hbel) | ((with_reducible refine gate_store (t := 33) rfl ?_); refine Gv.mput_event (g := gb161) (cs' := #[.bool a0_0, .int .i64 t162, .int .i64 t163, .int .i64 t164, .int .i64 t165, .int .i64 t166, .int .i64 t167, .int .i64 t168, .int .i64 t169, .int .i64 t170, .int .i64 t171, .int .i64 t172, .int .i64 t173, .int .i64 t174, .int .i64 t175, .int .i64 0]) rfl rfl rfl rfl rfl BK161.out (by kernel_rfl) rfl (by simp) rfl ?_; intro wp_ hbox hoth hbel; replace BK161 := Gv.a0 (hbox); replace HB := Gv.a0 (hbel w HB.out GE161.out); replace BK159 := Gv.a0 ((hoth gb159 NB159_161.out).trans BK159.out); replace BK160 := Gv.a0 ((hoth gb160 NB160_161.out).trans BK160.out); clear hbox hoth hbel) | ((with_reducible refine Gv.gate_load (t := 75) rfl ?_); refine wpList_load_row rfl 75 _ rfl gb161 rfl 75 _ _ _ BK161.out Try.underlying75 rfl (by kernel_rfl) ?_) | ((with_reducible refine gate_store (t := 75) (p := 2) rfl ?_); refine Gv.store_event (g := gb160) (cells := #[.bool a0_0, .int .i64 t162, .int .i64 t163, .int .i64 t164, .int .i64 t165, .int .i64 t166, .int .i64 t167, .int .i64 t168, .int .i64 t169, .int .i64 t170, .int .i64 t171, .int .i64 t172, .int .i64 t173, .int .i64 t174, .int .i64 t175, .int .i64 a0_15]) rfl rfl rfl rfl rfl BK160.out (by kernel_rfl) rfl (by simp; and_intros <;> rfl) ?_; intro wp_ hbox hoth hbel; replace BK160 := Gv.a0 (hbox); replace HB := Gv.a0 (hbel w HB.out GE160.out); replace BK159 := Gv.a0 ((hoth gb159 NB159_160.out).trans BK159.out); replace BK161 := Gv.a0 ((hoth gb161 NB161_160.out).trans BK161.out); clear hbox hoth hbel))
 refine bodyPost_ret (results_cell_row rfl _ _ gb160 75 #[.bool a0_0, .int .i64 t162, .int .i64 t163, .int .i64 t164, .int .i64 t165, .int .i64 t166, .int .i64 t167, .int .i64 t168, .int .i64 t169, .int .i64 t170, .int .i64 t171, .int .i64 t172, .int .i64 t173, .int .i64 t174, .int .i64 t175, .int .i64 a0_15] (0, 0) _ rfl BK160.out Try.underlying75 rfl (by kernel_rfl)) rfl ?_
 exact ⟨Gv.rt, Gv.bw⟩

/-! ### laws_toCellS: function 56 -/
def laws_toCellS.l0 : Nat → List (S94) → List (S75) → Int → Option ((List (S75)))
 | 0, _, _, _ => none
 | k + 1, x0, x3, x4 => if x4 < (x0.length : Int) then (if 0 ≤ x4 then ((laws_toCell.f ((rd_T94 x0 x4).f0) ((rd_T94 x0 x4).f1.f0) ((rd_T94 x0 x4).f1.f1.f0.f0) ((rd_T94 x0 x4).f1.f1.f0.f1) ((rd_T94 x0 x4).f1.f1.f0.f2) ((rd_T94 x0 x4).f1.f1.f0.f3) ((rd_T94 x0 x4).f1.f1.f0.f4) ((rd_T94 x0 x4).f1.f1.f1.f0) ((rd_T94 x0 x4).f1.f1.f1.f1) ((rd_T94 x0 x4).f1.f1.f1.f2) ((rd_T94 x0 x4).f1.f1.f1.f3) ((rd_T94 x0 x4).f1.f1.f1.f4) ((rd_T94 x0 x4).f1.f1.f2) ((rd_T94 x0 x4).f1.f1.f3) ((rd_T94 x0 x4).f1.f1.f4) ((rd_T94 x0 x4).f2)).bind fun bt180 => (if x4 < (x3.length : Int) then (laws_toCellS.l0 k x0 (x3.set (x4 : Int).toNat (⟨bt180.1, (⟨bt180.2.1, (⟨(⟨bt180.2.2.1, bt180.2.2.2.1, bt180.2.2.2.2.1, bt180.2.2.2.2.2.1, bt180.2.2.2.2.2.2.1⟩ : S29), (⟨bt180.2.2.2.2.2.2.2.1, bt180.2.2.2.2.2.2.2.2.1, bt180.2.2.2.2.2.2.2.2.2.1, bt180.2.2.2.2.2.2.2.2.2.2.1, bt180.2.2.2.2.2.2.2.2.2.2.2.1⟩ : S29), bt180.2.2.2.2.2.2.2.2.2.2.2.2.1, bt180.2.2.2.2.2.2.2.2.2.2.2.2.2.1, bt180.2.2.2.2.2.2.2.2.2.2.2.2.2.2.1⟩ : S31)⟩ : S33), bt180.2.2.2.2.2.2.2.2.2.2.2.2.2.2.2⟩ : S75)) (wrap64 (x4 + 1))) else (none))) else (none)) else (some x3)
def laws_toCellS.f (k : Nat) (l0 : List (S94)) : Option ((List (S75))) := if 0 ≤ (l0.length : Int) then (if ((l0.length : Int) : Int).toNat ≤ 2199023255552 then (laws_toCellS.l0 k l0 (List.replicate ((l0.length : Int) : Int).toNat z75) 0) else (none)) else (none)
set_option maxHeartbeats 8000000 in
set_option maxRecDepth 100000 in
theorem laws_toCellS.calls (k : Nat) (A0 : Option Addr) (c0 : Nat) (l0 : List (S94)) (r : List (S75)) (w : World) (hr0 : Kd.C k94 w A0 l0.length l0) (hc0 : l0.length ≤ c0) (h : laws_toCellS.f k l0 = some r) :
  Calls Try.prog 56 #[.slice A0 l0.length c0] w fun e w' => ∃ v0_ : Value, e = .returned (v0_) ∧ Kd.R k75 75 w' w.heap.size (fun _ => True) v0_ r ∧ Below w.heap.size w w' := by
 have hu94 := Try.underlying94
 have hu75 := Try.underlying75
 have HR0 := Gv.a0 hr0
 have HC0 := Gv.a0 hc0
 clear hr0 hc0
 have HB := Gv.a0 (Below.refl w.heap.size w)
 have H : (if 0 ≤ (l0.length : Int) then (if ((l0.length : Int) : Int).toNat ≤ 2199023255552 then (laws_toCellS.l0 k l0 (List.replicate ((l0.length : Int) : Int).toNat z75) 0) else (none)) else (none)) = some r := h
 clear h
 by_cases c2 : 0 ≤ (l0.length : Int)
 rotate_left
 ·rw [if_neg c2] at H
  exact absurd H (by simp)

 rw [if_pos c2] at H
 have c2b0 := eq_true c2
 have c2b1 : decide (0 ≤ (l0.length : Int)) = true := decide_eq_true c2
 clear c2
 by_cases c3 : ((l0.length : Int) : Int).toNat ≤ 2199023255552
 rotate_left
 ·rw [if_neg c3] at H
  exact absurd H (by simp)
 rw [if_pos c3] at H
 have c3b0 := eq_true c3
 have c3b1 : decide (((l0.length : Int) : Int).toNat ≤ 2199023255552) = true := decide_eq_true c3
 clear c3
 obtain ⟨y176, hy176⟩ : ∃ y_ : List (S75), y_ = (List.replicate ((l0.length : Int) : Int).toNat z75) := ⟨_, rfl⟩
 replace H : (laws_toCellS.l0 k l0 y176 0) = some r := by first | (rw [hy176]; with_reducible exact H) | (have H2_ := (Option.bind_some _ _).symm.trans H; rw [hy176]; with_reducible exact H2_) | (have H2_ := (Option.bind_some _ _).symm.trans H; with_reducible exact H2_) | with_reducible exact H | (rw [hy176]; exact H) | exact H
 have Ny176 := Gv.a0 hy176
 clear hy176
 have H' := Gv.a0 H
 clear H
 go_enter Try.func56, Try.ntmps56
 go_wp2_with (first | ((with_reducible refine gate_dst (N := 7) rfl ?_); refine Kd.R_make k75 _ 75 rfl (N := 7) rfl 38 _ _ rfl (l0.length : Int) rfl rfl Try.underlying38 (.agg #[(.bool false), (.int .i64 0), (.int .i64 0), (.int .i64 0), (.int .i64 0), (.int .i64 0), (.int .i64 0), (.int .i64 0), (.int .i64 0), (.int .i64 0), (.int .i64 0), (.int .i64 0), (.int .i64 0), (.int .i64 0), (.int .i64 0), (.int .i64 0)]) 128 info75 rfl (by decide) (by omega) z75 (ok := fun _ => True) (okp := fun _ => True) (k75_mkM _ _ _ z75 ) (fun _ hk => hk) trivial (of_decide_eq_true (by first | (with_reducible assumption) | assumption)) (Nat.le_trans (Nat.mul_le_mul_right _ (of_decide_eq_true (by first | (with_reducible assumption) | assumption) : (l0.length : Int).toNat ≤ 2199023255552)) (by omega)) (Below.refl _ _) (Nat.le_refl _) ?_; intro v177 w4 ho5 hb hg_ hnew_; clear hg_ hnew_; (first | rw [← Ny176.out] at ho5 | (simp only [Int.reduceToNat] at ho5; rw [← Ny176.out] at ho5)); have HO178 := Gv.a0 (Kd.R_lower ho5 (below_size Gv.bw)); replace HB := Gv.a0 (below_step Gv.bw hb); clear hb ho5))
 go_loopg [4] k (fun kq v4 w' => ∃ (x3_1 : List (S75)) (x4_1 : Int), v4 = .int .i64 x4_1 ∧ Aside0 (laws_toCellS.l0 kq l0 x3_1 x4_1 = some r) ∧ Aside0 (kq ≤ k) ∧ Aside0 (Kd.R k75 75 w' w.heap.size (fun _ => True) v177 x3_1) ∧ Aside0 (Below w.heap.size w w'))
 case atStart => exact ⟨(y176), (0), Gv.rq, H', ⟨Nat.le_refl _⟩, ⟨Gv.kr HO178.out⟩, ⟨Gv.bw⟩⟩
 case round =>
  clear H'
  try clear c2
  try clear c2b0
  try clear c2b1
  try clear p2
  try clear c3
  try clear c3b0
  try clear c3b1
  try clear c5
  obtain ⟨x3_1, x4_1, rfl, HA, HK1, HO_3, HB⟩ := hrel
  cases gk with
  | zero => exact absurd HA.out (by simp [laws_toCellS.l0])
  | succ k1 =>
   have H := HA.out
   clear HA
   simp only [laws_toCellS.l0] at H
   by_cases c6 : x4_1 < (l0.length : Int)
   rotate_left
   ·rw [if_neg c6] at H
    have c6b0 : decide (x4_1 < (l0.length : Int)) = false := decide_eq_false c6
    clear c6
    obtain rfl := Option.some.inj H
    go_wp2
    go_ret
    exact ⟨_, Gv.rt, Gv.kr HO_3.out, Gv.bw⟩
   rw [if_pos c6] at H
   have c6b0 : decide (x4_1 < (l0.length : Int)) = true := decide_eq_true c6
   clear c6
   by_cases c7 : 0 ≤ x4_1
   rotate_left
   ·rw [if_neg c7] at H
    exact absurd H (by simp)
   rw [if_pos c7] at H
   have c7b0 : decide (0 ≤ x4_1) = true := decide_eq_true c7
   clear c7
   replace H := Option.bind_eq_some_iff.mp H
   obtain ⟨⟨t180, t181, t182, t183, t184, t185, t186, t187, t188, t189, t190, t191, t192, t193, t194, t195⟩, A80, H⟩ := H
   (try dsimp only at H)
   have A8 := Gv.a0 A80
   clear A80
   by_cases c9 : x4_1 < (x3_1.length : Int)
   rotate_left
   ·rw [if_neg c9] at H
    exact absurd H (by simp)
   rw [if_pos c9] at H
   have c9b0 : decide (x4_1 < (x3_1.length : Int)) = true := decide_eq_true c9
   clear c9
   obtain ⟨y196, hy196⟩ : ∃ y_ : List (S75), y_ = (x3_1.set (x4_1 : Int).toNat (⟨t180, (⟨t181, (⟨(⟨t182, t183, t184, t185, t186⟩ : S29), (⟨t187, t188, t189, t190, t191⟩ : S29), t192, t193, t194⟩ : S31)⟩ : S33), t195⟩ : S75)) := ⟨_, rfl⟩
   replace H : (laws_toCellS.l0 k1 l0 y196 (wrap64 (x4_1 + 1))) = some r := by first | (rw [hy196]; with_reducible exact H) | (have H2_ := (Option.bind_some _ _).symm.trans H; rw [hy196]; with_reducible exact H2_) | (have H2_ := (Option.bind_some _ _).symm.trans H; with_reducible exact H2_) | with_reducible exact H | (rw [hy196]; exact H) | exact H
   have Ny196 := Gv.a0 hy196
   clear hy196
   have H' := Gv.a0 H
   clear H
   have p179 : 0 ≤ (x4_1 : Int) := of_decide_eq_true (by first | (with_reducible assumption) | assumption)
   have q179 : x4_1 < (l0.length : Int) := of_decide_eq_true (by first | (with_reducible assumption) | assumption)
   obtain ⟨ad179, e179, hx179_0, hx179_1, hx179_2, hx179_3, hx179_4, hx179_5, hx179_6, hx179_7, hx179_8, hx179_9, hx179_10, hx179_11, hx179_12, hx179_13, hx179_14, hx179_15⟩ := at_T94 HR0.out x4_1 p179 q179
   cases e179
   replace hx179_0 := Gv.bx HB.out hx179_0
   replace hx179_1 := Gv.bx HB.out hx179_1
   replace hx179_2 := Gv.bx HB.out hx179_2
   replace hx179_3 := Gv.bx HB.out hx179_3
   replace hx179_4 := Gv.bx HB.out hx179_4
   replace hx179_5 := Gv.bx HB.out hx179_5
   replace hx179_6 := Gv.bx HB.out hx179_6
   replace hx179_7 := Gv.bx HB.out hx179_7
   replace hx179_8 := Gv.bx HB.out hx179_8
   replace hx179_9 := Gv.bx HB.out hx179_9
   replace hx179_10 := Gv.bx HB.out hx179_10
   replace hx179_11 := Gv.bx HB.out hx179_11
   replace hx179_12 := Gv.bx HB.out hx179_12
   replace hx179_13 := Gv.bx HB.out hx179_13
   replace hx179_14 := Gv.bx HB.out hx179_14
   replace hx179_15 := Gv.bx HB.out hx179_15
   replace p179 := eq_true p179
   replace q179 := eq_true q179
   go_wp2_with (first | ((with_reducible refine gate_callee (f := 77) rfl ?_); refine goesL_ (some 20) rfl rfl Try.func77 (by kernel_rfl) rfl #[.agg #[.bool ((rd_T94 l0 x4_1).f0), .int .i64 ((rd_T94 l0 x4_1).f1.f0), .int .i64 ((rd_T94 l0 x4_1).f1.f1.f0.f0), .int .i64 ((rd_T94 l0 x4_1).f1.f1.f0.f1), .int .i64 ((rd_T94 l0 x4_1).f1.f1.f0.f2), .int .i64 ((rd_T94 l0 x4_1).f1.f1.f0.f3), .int .i64 ((rd_T94 l0 x4_1).f1.f1.f0.f4), .int .i64 ((rd_T94 l0 x4_1).f1.f1.f1.f0), .int .i64 ((rd_T94 l0 x4_1).f1.f1.f1.f1), .int .i64 ((rd_T94 l0 x4_1).f1.f1.f1.f2), .int .i64 ((rd_T94 l0 x4_1).f1.f1.f1.f3), .int .i64 ((rd_T94 l0 x4_1).f1.f1.f1.f4), .int .i64 ((rd_T94 l0 x4_1).f1.f1.f2), .int .i64 ((rd_T94 l0 x4_1).f1.f1.f3), .int .i64 ((rd_T94 l0 x4_1).f1.f1.f4), .int .i64 ((rd_T94 l0 x4_1).f2)]] rfl Gv.lm ?_; (with_reducible refine (laws_toCell.calls _ _ _ _ _ _ _ _ _ _ _ _ _ _ _ _ t180 t181 t182 t183 t184 t185 t186 t187 t188 t189 t190 t191 t192 t193 t194 t195 _ A8.out).mono ?_); rintro e w11 ⟨rfl, hb⟩; refine ⟨_, rfl, ?_⟩; replace HO_3 := Gv.a0 (Kd.R_below (Gv.kr HO_3.out) hb); replace HB := Gv.a0 (below_step Gv.bw hb); clear hb; have p10 : 0 ≤ (x4_1 : Int) := of_decide_eq_true (by first | (with_reducible assumption) | assumption); have q10 : (x4_1 : Int) < ((x3_1.length : Int) : Int) := of_decide_eq_true (by first | (with_reducible assumption) | assumption); obtain ⟨go10, co10, eo10, gb10, gl10, cl10, HG10⟩ := Kd.R_form HO_3.out (by omega); (first | cases eo10 | (injection eo10 with ea_ en_ ec_; (first | subst ea_ | (injection ea_ with ea_; subst ea_)); subst ec_; clear en_)); have GB10 := Gv.a0 gb10; have GG10 := Gv.a0 HG10; clear gb10 gl10 HG10; replace p10 := eq_true p10; replace q10 := eq_true q10; have HX12 := Gv.a0 (show Kd.R k75 75 w11 w.heap.size (fun _ => True) (.slice (some ⟨go10, 0, none⟩) x3_1.length co10) x3_1 from (Gv.kr HO_3.out))) | ((with_reducible refine gate_store (t := 75) (p := 21) rfl ?_); refine Gv.row_store (d := k75) (x4_1 : Int) (⟨t180, (⟨t181, (⟨(⟨t182, t183, t184, t185, t186⟩ : S29), (⟨t187, t188, t189, t190, t191⟩ : S29), t192, t193, t194⟩ : S31)⟩ : S33), t195⟩ : S75) rfl rfl rfl rfl rfl (by kernel_rfl) HX12.out (of_decide_eq_true (by first | (with_reducible assumption) | assumption)) (by have h_ : (x4_1 : Int) < ((x3_1.length : Int) : Int) := of_decide_eq_true (by first | (with_reducible assumption) | assumption); first | exact h_ | (have e_ := (Kd.R_reads' HO_3.out).1; omega) | simpa using h_) rfl rfl (k75_mkM _ _ _ (⟨t180, (⟨t181, (⟨(⟨t182, t183, t184, t185, t186⟩ : S29), (⟨t187, t188, t189, t190, t191⟩ : S29), t192, t193, t194⟩ : S31)⟩ : S33), t195⟩ : S75) ) ?_; intro w13 hR_ hoth_ hbel_; replace HO_3 := Gv.a0 (show Kd.R k75 75 w13 w.heap.size (fun _ => True) (.slice (some ⟨go10, 0, none⟩) x3_1.length co10) y196 from by rw [Ny196.out]; exact hR_); replace HB := Gv.a0 (hbel_ w HB.out GB10.out); clear HX12 hR_ hoth_ hbel_))
   go_roundg k1
   case measure => have := HK1.out; omega
   case rel => exact ⟨(y196), (wrap64 (x4_1 + 1)), Gv.rq, H', ⟨by have := HK1.out; omega⟩, ⟨Gv.kr HO_3.out⟩, ⟨Gv.bw⟩⟩
/-! ### laws_toTable: function 25 -/
def laws_toTable.f (k : Nat) (a0_0 : Int) (l0_1 : List (S94)) : Option (Int × (List (S75))) := (laws_toCellS.f k l0_1).bind fun t200 => (some (a0_0, t200))
set_option maxHeartbeats 8000000 in
set_option maxRecDepth 100000 in
theorem laws_toTable.calls (k : Nat) (a0_0 : Int) (A0_1 : Option Addr) (c0_1 : Nat) (l0_1 : List (S94)) (r1 : Int) (r2 : List (S75)) (w : World) (hr0_1 : Kd.C k94 w A0_1 l0_1.length l0_1) (hc0_1 : l0_1.length ≤ c0_1) (h : laws_toTable.f k a0_0 l0_1 = some (r1, r2)) :
  Calls Try.prog 25 #[.agg #[.int .i64 a0_0, .slice A0_1 l0_1.length c0_1]] w fun e w' => ∃ v1_ : Value, e = .returned (.agg #[.int .i64 r1, v1_]) ∧ Kd.R k75 75 w' w.heap.size (fun _ => True) v1_ r2 ∧ Below w.heap.size w w' := by
 have hu47 := Try.underlying47
 have hu40 := Try.underlying40
 have HR0_1 := Gv.a0 hr0_1
 have HC0_1 := Gv.a0 hc0_1
 clear hr0_1 hc0_1
 have HB := Gv.a0 (Below.refl w.heap.size w)
 have H : ((laws_toCellS.f k l0_1).bind fun t200 => (some (a0_0, t200))) = some (r1, r2) := h
 clear h
 replace H := Option.bind_eq_some_iff.mp H
 obtain ⟨t200, A20, H⟩ := H
 (try dsimp only at H)
 have A2 := Gv.a0 A20
 clear A20
 simp only [Option.some.injEq, Prod.mk.injEq] at H
 obtain ⟨rfl, rfl⟩ := H
 go_enter Try.func25, Try.ntmps25
 go_wp2_with (first | ((with_reducible refine gate_dst (N := 1) rfl ?_); refine Gv.bev 1 47 #[.int .i64 a0_0, .slice A0_1 l0_1.length c0_1] ?_; intro gb197 hg w3 hbox hb; have BK197 := Gv.a0 (hbox); have GW197 := Gv.a0 ((Gv.ble hg Gv.bw : w.heap.size ≤ gb197)); have GE197 := Gv.a0 ((Gv.ble hg Gv.bw : w.heap.size ≤ gb197)); replace HB := Gv.a0 (below_step Gv.bw hb); clear hb hbox hg) | ((with_reducible refine gate_dst (N := 2) rfl ?_); refine Gv.bev 2 40 #[.int .i64 0, .slice none 0 0] ?_; intro gb198 hg w4 hbox hb; have BK198 := Gv.a0 (hbox); have GW198 := Gv.a0 ((Gv.ble hg Gv.bw : w.heap.size ≤ gb198)); have GE198 := Gv.a0 ((Gv.ble hg Gv.bw : w.heap.size ≤ gb198)); replace HB := Gv.a0 (below_step Gv.bw hb); have NB197_198 := Gv.a0 ((Gv.nlt hg (Gv.kb BK197.out) : gb197 ≠ gb198)); have NB198_197 := Gv.a0 ((Gv.ngt hg (Gv.kb BK197.out) : gb198 ≠ gb197)); replace BK197 := Gv.b1 BK197 hb; clear hb hbox hg) | ((with_reducible refine gate_dst (N := 3) rfl ?_); refine Gv.bev 3 40 #[.int .i64 0, .slice none 0 0] ?_; intro gb199 hg w5 hbox hb; have BK199 := Gv.a0 (hbox); have GW199 := Gv.a0 ((Gv.ble hg Gv.bw : w.heap.size ≤ gb199)); have GE199 := Gv.a0 ((Gv.ble hg Gv.bw : w.heap.size ≤ gb199)); replace HB := Gv.a0 (below_step Gv.bw hb); have NB197_199 := Gv.a0 ((Gv.nlt hg (Gv.kb BK197.out) : gb197 ≠ gb199)); have NB199_197 := Gv.a0 ((Gv.ngt hg (Gv.kb BK197.out) : gb199 ≠ gb197)); replace BK197 := Gv.b1 BK197 hb; have NB198_199 := Gv.a0 ((Gv.nlt hg (Gv.kb BK198.out) : gb198 ≠ gb199)); have NB199_198 := Gv.a0 ((Gv.ngt hg (Gv.kb BK198.out) : gb199 ≠ gb198)); replace BK198 := Gv.b1 BK198 hb; clear hb hbox hg; have hnb6 := NB197_198.out; have hnc6 := NB198_197.out; have hnb7 := NB197_199.out; have hnc7 := NB199_197.out; have hcz8_0 : w5.cell? ⟨gb197, 0, none⟩ = some (.int .i64 a0_0) := (blk_cell BK197.out 0).trans rfl; have hcz8_1 : w5.cell? ⟨gb197, 1, none⟩ = some (.slice A0_1 l0_1.length c0_1) := (blk_cell BK197.out 1).trans rfl; have hfz8_0 := blk_frozen BK197.out 0; have hfz8_1 := blk_frozen BK197.out 1; have hnb9 := NB199_198.out; have hnc9 := NB198_199.out; have hcz10_0 : w5.cell? ⟨gb199, 0, none⟩ = some (.int .i64 0) := (blk_cell BK199.out 0).trans rfl; have hcz10_1 : w5.cell? ⟨gb199, 1, none⟩ = some (.slice none 0 0) := (blk_cell BK199.out 1).trans rfl; have hfz10_0 := blk_frozen BK199.out 0; have hfz10_1 := blk_frozen BK199.out 1) | ((with_reducible refine gate_callee (f := 56) rfl ?_); refine goesL_ (some 9) rfl rfl Try.func56 (by kernel_rfl) rfl #[.slice A0_1 l0_1.length c0_1] rfl Gv.lm ?_; (with_reducible refine (laws_toCellS.calls k _ _ l0_1 t200 _ ?side1 ?side2 A2.out).mono ?_); (case side1 => exact Kd.C_below HR0_1.out Gv.bw); (case side2 => exact HC0_1.out); rintro e w11 ⟨v201, rfl, ho0, hb⟩; refine ⟨_, rfl, ?_⟩; have HO202 := Gv.a0 (Kd.R_lower ho0 (below_size Gv.bw)); replace BK197 := Gv.a0 (blk_below (g := gb197) (o := .cells #[.int .i64 a0_0, .slice A0_1 l0_1.length c0_1] 47 (0, 0)) Gv.bkf hb); replace BK198 := Gv.a0 (blk_below (g := gb198) (o := .cells #[.int .i64 0, .slice none 0 0] 40 (0, 0)) Gv.bkf hb); replace BK199 := Gv.a0 (blk_below (g := gb199) (o := .cells #[.int .i64 a0_0, .slice none 0 0] 40 (0, 0)) (by (with_reducible repeat (first | refine blk_drewN ?_ _ | refine blk_drew ?_ | refine blk_alloc ?_ _)); refine blk_put (cs := #[.int .i64 0, .slice none 0 0]) ?_ 0 _ rfl; (with_reducible repeat (first | refine blk_drewN ?_ _ | refine blk_drew ?_ | refine blk_alloc ?_ _)); exact BK199.out) hb); replace HB := Gv.a0 (below_step Gv.bw hb); clear hb ho0; obtain ⟨Ao12, co12, eo12⟩ := Kd.R_slice HO202.out; subst eo12; have hcz13_0 : w11.cell? ⟨gb199, 0, none⟩ = some (.int .i64 a0_0) := (blk_cell BK199.out 0).trans rfl; have hcz13_1 : w11.cell? ⟨gb199, 1, none⟩ = some (.slice none 0 0) := (blk_cell BK199.out 1).trans rfl; have hfz13_0 := blk_frozen BK199.out 0; have hfz13_1 := blk_frozen BK199.out 1; have hcz14_0 : w11.cell? ⟨gb198, 0, none⟩ = some (.int .i64 0) := (blk_cell BK198.out 0).trans rfl; have hcz14_1 : w11.cell? ⟨gb198, 1, none⟩ = some (.slice none 0 0) := (blk_cell BK198.out 1).trans rfl; have hfz14_0 := blk_frozen BK198.out 0; have hfz14_1 := blk_frozen BK198.out 1))
 refine bodyPost_ret (results_cell_row rfl _ _ gb198 40 #[.int .i64 a0_0, .slice Ao12 t200.length co12] (0, 0) _ rfl (by (with_reducible repeat (first | refine blk_drewN ?_ _ | refine blk_drew ?_ | refine blk_alloc ?_ _)); refine blk_put (cs := #[.int .i64 a0_0, .slice none 0 0]) ?_ 1 _ rfl; (with_reducible repeat (first | refine blk_drewN ?_ _ | refine blk_drew ?_ | refine blk_alloc ?_ _)); refine blk_put (cs := #[.int .i64 0, .slice none 0 0]) ?_ 0 _ rfl; (with_reducible repeat (first | refine blk_drewN ?_ _ | refine blk_drew ?_ | refine blk_alloc ?_ _)); refine blk_far ?_ NB198_199.out _; (with_reducible repeat (first | refine blk_drewN ?_ _ | refine blk_drew ?_ | refine blk_alloc ?_ _)); exact BK198.out) Try.underlying40 rfl (by kernel_rfl)) rfl ?_
 exact ⟨_, Gv.rt, by (with_reducible repeat (first | apply Kd.R_alloc | apply Kd.R_drewN | apply Kd.R_drew)); exact Kd.R_mono (Kd.R_far (p := ⟨gb198, 1, none⟩) (Kd.R_far (p := ⟨gb198, 0, none⟩) (Kd.R_far (p := ⟨gb199, 1, none⟩) (Kd.R_types (Kd.R_types HO202.out BK199.out (by decide)) BK198.out (by decide)) (fun _ hk => hk.1.2) (.slice Ao12 t200.length co12)) (fun _ hk => hk.2) (.int .i64 a0_0)) (fun _ hk => hk.2) (.slice Ao12 t200.length co12)) (fun _ hk => trivial), Gv.bw⟩

/-! ### spec_l03Half: function 89 -/
def spec_l03Half.f (a0 : Int) : Option (Bool) := if a0 ≥ 0 then (some (decide (a0 ≤ 4294967295))) else (some false)
set_option maxHeartbeats 8000000 in
set_option maxRecDepth 100000 in
theorem spec_l03Half.calls (a0 : Int) (r : Bool) (w : World) (h : spec_l03Half.f a0 = some r) :
  Calls Try.prog 89 #[.int .i64 a0] w fun e w' => e = .returned (.bool r) ∧ Drawn0 w w' := by
 have H : (if a0 ≥ 0 then (some (decide (a0 ≤ 4294967295))) else (some false)) = some r := h
 clear h
 by_cases c2 : a0 ≥ 0
 ·rw [if_pos c2] at H
  have c2b0 : decide (0 ≤ a0) = true := decide_eq_true c2
  clear c2
  obtain rfl := Option.some.inj H
  go_enter Try.func89, Try.ntmps89
  go_wp2
  go_ret
  exact ⟨by first | rfl | (simp; done) | (simp [Int.tdiv_eq_ediv_of_nonneg]; done) | (simp [*]; done), by repeat (first | exact Drawn0.refl _ | apply Drawn0.step)⟩
 ·rw [if_neg c2] at H
  have c2b0 : decide (0 ≤ a0) = false := decide_eq_false c2
  clear c2
  obtain rfl := Option.some.inj H
  go_enter Try.func89, Try.ntmps89
  go_wp2
  go_ret
  exact ⟨by first | rfl | (simp; done) | (simp [Int.tdiv_eq_ediv_of_nonneg]; done) | (simp [*]; done), by repeat (first | exact Drawn0.refl _ | apply Drawn0.step)⟩

/-! ### spec_AddrOk: function 80 -/
def spec_AddrOk.f (a0_0 : Int) (a0_1 : Int) (a0_2 : Int) (a0_3 : Int) (a0_4 : Int) : Option (Bool) := if a0_0 = 4 then (if a0_1 = 0 then (if a0_2 = 0 then (if a0_3 = 0 then ((spec_l03Half.f a0_4).bind fun t204 => (some t204)) else (some false)) else (some false)) else (some false)) else (if a0_0 = 6 then ((spec_l03Half.f a0_1).bind fun t205 => (if t205 = true then ((spec_l03Half.f a0_2).bind fun t206 => (if t206 = true then ((spec_l03Half.f a0_3).bind fun t207 => (if t207 = true then ((spec_l03Half.f a0_4).bind fun t208 => (some t208)) else (some false))) else (some false))) else (some false))) else (some false))
set_option maxHeartbeats 8000000 in
set_option maxRecDepth 100000 in
theorem spec_AddrOk.calls (a0_0 : Int) (a0_1 : Int) (a0_2 : Int) (a0_3 : Int) (a0_4 : Int) (r : Bool) (w : World) (h : spec_AddrOk.f a0_0 a0_1 a0_2 a0_3 a0_4 = some r) :
  Calls Try.prog 80 #[.agg #[.int .i64 a0_0, .int .i64 a0_1, .int .i64 a0_2, .int .i64 a0_3, .int .i64 a0_4]] w fun e w' => e = .returned (.bool r) ∧ Below w.heap.size w w' := by
 have hu29 := Try.underlying29
 have HB := Gv.a0 (Below.refl w.heap.size w)
 have H : (if a0_0 = 4 then (if a0_1 = 0 then (if a0_2 = 0 then (if a0_3 = 0 then ((spec_l03Half.f a0_4).bind fun t204 => (some t204)) else (some false)) else (some false)) else (some false)) else (if a0_0 = 6 then ((spec_l03Half.f a0_1).bind fun t205 => (if t205 = true then ((spec_l03Half.f a0_2).bind fun t206 => (if t206 = true then ((spec_l03Half.f a0_3).bind fun t207 => (if t207 = true then ((spec_l03Half.f a0_4).bind fun t208 => (some t208)) else (some false))) else (some false))) else (some false))) else (some false))) = some r := h
 clear h
 by_cases c2 : a0_0 = 4
 ·rw [if_pos c2] at H
  have c2b0 : (a0_0 == 4) = true := beq_iff_eq.mpr c2
  have c2b1 : (a0_0 != 4) = false := bne_eq_false_iff_eq.mpr c2
  clear c2
  by_cases c3 : a0_1 = 0
  rotate_left
  ·rw [if_neg c3] at H
   have c3b0 : (a0_1 == 0) = false := beq_eq_false_iff_ne.mpr c3
   have c3b1 : (a0_1 != 0) = true := bne_iff_ne.mpr c3
   obtain rfl := Option.some.inj H
   go_enter Try.func80, Try.ntmps80
   go_wp2_with (first | ((with_reducible refine gate_dst (N := 1) rfl ?_); refine Gv.bev 1 29 #[.int .i64 a0_0, .int .i64 a0_1, .int .i64 a0_2, .int .i64 a0_3, .int .i64 a0_4] ?_; intro gb203 hg w13 hbox hb; have BK203 := Gv.a0 (hbox); have GW203 := Gv.a0 ((Gv.ble hg Gv.bw : w.heap.size ≤ gb203)); have GE203 := Gv.a0 ((Gv.ble hg Gv.bw : w.heap.size ≤ gb203)); replace HB := Gv.a0 (below_step Gv.bw hb); clear hb hbox hg; obtain ⟨hcz14_0, hcz14_1, hcz14_2, hcz14_3, hcz14_4⟩ := Gv.c5 BK203.out; obtain ⟨hfz14_0, hfz14_1, hfz14_2, hfz14_3, hfz14_4⟩ := Gv.f5 BK203.out))
   go_ret
   exact ⟨Gv.rt, Gv.bw⟩
  rw [if_pos c3] at H
  have c3b0 : (a0_1 == 0) = true := beq_iff_eq.mpr c3
  have c3b1 : (a0_1 != 0) = false := bne_eq_false_iff_eq.mpr c3
  clear c3
  by_cases c4 : a0_2 = 0
  rotate_left
  ·rw [if_neg c4] at H
   have c4b0 : (a0_2 == 0) = false := beq_eq_false_iff_ne.mpr c4
   have c4b1 : (a0_2 != 0) = true := bne_iff_ne.mpr c4
   obtain rfl := Option.some.inj H
   go_enter Try.func80, Try.ntmps80
   go_wp2_with (first | ((with_reducible refine gate_dst (N := 1) rfl ?_); refine Gv.bev 1 29 #[.int .i64 a0_0, .int .i64 a0_1, .int .i64 a0_2, .int .i64 a0_3, .int .i64 a0_4] ?_; intro gb203 hg w11 hbox hb; have BK203 := Gv.a0 (hbox); have GW203 := Gv.a0 ((Gv.ble hg Gv.bw : w.heap.size ≤ gb203)); have GE203 := Gv.a0 ((Gv.ble hg Gv.bw : w.heap.size ≤ gb203)); replace HB := Gv.a0 (below_step Gv.bw hb); clear hb hbox hg; obtain ⟨hcz12_0, hcz12_1, hcz12_2, hcz12_3, hcz12_4⟩ := Gv.c5 BK203.out; obtain ⟨hfz12_0, hfz12_1, hfz12_2, hfz12_3, hfz12_4⟩ := Gv.f5 BK203.out))
   go_ret
   exact ⟨Gv.rt, Gv.bw⟩
  rw [if_pos c4] at H
  have c4b0 : (a0_2 == 0) = true := beq_iff_eq.mpr c4
  have c4b1 : (a0_2 != 0) = false := bne_eq_false_iff_eq.mpr c4
  clear c4
  by_cases c5 : a0_3 = 0
  ·rw [if_pos c5] at H
   have c5b0 : (a0_3 == 0) = true := beq_iff_eq.mpr c5
   have c5b1 : (a0_3 != 0) = false := bne_eq_false_iff_eq.mpr c5
   clear c5
   replace H := Option.bind_eq_some_iff.mp H
   obtain ⟨t204, A60, H⟩ := H
   (try dsimp only at H)
   have A6 := Gv.a0 A60
   clear A60
   obtain rfl := Option.some.inj H
   go_enter Try.func80, Try.ntmps80
   go_wp2_with (first | ((with_reducible refine gate_dst (N := 1) rfl ?_); refine Gv.bev 1 29 #[.int .i64 a0_0, .int .i64 a0_1, .int .i64 a0_2, .int .i64 a0_3, .int .i64 a0_4] ?_; intro gb203 hg w7 hbox hb; have BK203 := Gv.a0 (hbox); have GW203 := Gv.a0 ((Gv.ble hg Gv.bw : w.heap.size ≤ gb203)); have GE203 := Gv.a0 ((Gv.ble hg Gv.bw : w.heap.size ≤ gb203)); replace HB := Gv.a0 (below_step Gv.bw hb); clear hb hbox hg; obtain ⟨hcz8_0, hcz8_1, hcz8_2, hcz8_3, hcz8_4⟩ := Gv.c5 BK203.out; obtain ⟨hfz8_0, hfz8_1, hfz8_2, hfz8_3, hfz8_4⟩ := Gv.f5 BK203.out) | (go_at_call 89; (with_reducible refine (spec_l03Half.calls a0_4 t204 _ A6.out).mono ?_); rintro e w' ⟨rfl, ⟨nd, rfl⟩⟩))
   go_ret
   exact ⟨Gv.rt, Gv.bw⟩
  ·rw [if_neg c5] at H
   have c5b0 : (a0_3 == 0) = false := beq_eq_false_iff_ne.mpr c5
   have c5b1 : (a0_3 != 0) = true := bne_iff_ne.mpr c5
   obtain rfl := Option.some.inj H
   go_enter Try.func80, Try.ntmps80
   go_wp2_with (first | ((with_reducible refine gate_dst (N := 1) rfl ?_); refine Gv.bev 1 29 #[.int .i64 a0_0, .int .i64 a0_1, .int .i64 a0_2, .int .i64 a0_3, .int .i64 a0_4] ?_; intro gb203 hg w9 hbox hb; have BK203 := Gv.a0 (hbox); have GW203 := Gv.a0 ((Gv.ble hg Gv.bw : w.heap.size ≤ gb203)); have GE203 := Gv.a0 ((Gv.ble hg Gv.bw : w.heap.size ≤ gb203)); replace HB := Gv.a0 (below_step Gv.bw hb); clear hb hbox hg; obtain ⟨hcz10_0, hcz10_1, hcz10_2, hcz10_3, hcz10_4⟩ := Gv.c5 BK203.out; obtain ⟨hfz10_0, hfz10_1, hfz10_2, hfz10_3, hfz10_4⟩ := Gv.f5 BK203.out))
   go_ret
   exact ⟨Gv.rt, Gv.bw⟩
 ·rw [if_neg c2] at H
  have c2b0 : (a0_0 == 4) = false := beq_eq_false_iff_ne.mpr c2
  have c2b1 : (a0_0 != 4) = true := bne_iff_ne.mpr c2
  by_cases c15 : a0_0 = 6
  rotate_left
  ·rw [if_neg c15] at H
   have c15b0 : (a0_0 == 6) = false := beq_eq_false_iff_ne.mpr c15
   have c15b1 : (a0_0 != 6) = true := bne_iff_ne.mpr c15
   obtain rfl := Option.some.inj H
   go_enter Try.func80, Try.ntmps80
   go_wp2_with (first | ((with_reducible refine gate_dst (N := 1) rfl ?_); refine Gv.bev 1 29 #[.int .i64 a0_0, .int .i64 a0_1, .int .i64 a0_2, .int .i64 a0_3, .int .i64 a0_4] ?_; intro gb203 hg w31 hbox hb; have BK203 := Gv.a0 (hbox); have GW203 := Gv.a0 ((Gv.ble hg Gv.bw : w.heap.size ≤ gb203)); have GE203 := Gv.a0 ((Gv.ble hg Gv.bw : w.heap.size ≤ gb203)); replace HB := Gv.a0 (below_step Gv.bw hb); clear hb hbox hg; obtain ⟨hcz32_0, hcz32_1, hcz32_2, hcz32_3, hcz32_4⟩ := Gv.c5 BK203.out; obtain ⟨hfz32_0, hfz32_1, hfz32_2, hfz32_3, hfz32_4⟩ := Gv.f5 BK203.out))
   go_ret
   exact ⟨Gv.rt, Gv.bw⟩

  rw [if_pos c15] at H
  have c15b0 : (a0_0 == 6) = true := beq_iff_eq.mpr c15
  have c15b1 : (a0_0 != 6) = false := bne_eq_false_iff_eq.mpr c15
  clear c15
  replace H := Option.bind_eq_some_iff.mp H
  obtain ⟨t205, A160, H⟩ := H
  (try dsimp only at H)
  have A16 := Gv.a0 A160
  clear A160
  by_cases c17 : t205 = true
  rotate_left
  ·replace c17 := Bool.eq_false_iff.mpr c17
   subst c17
   rw [if_neg (show ¬ (false = true) by decide)] at H
   (try dsimp only at H)
   obtain rfl := Option.some.inj H
   go_enter Try.func80, Try.ntmps80
   go_wp2_with (first | ((with_reducible refine gate_dst (N := 1) rfl ?_); refine Gv.bev 1 29 #[.int .i64 a0_0, .int .i64 a0_1, .int .i64 a0_2, .int .i64 a0_3, .int .i64 a0_4] ?_; intro gb203 hg w29 hbox hb; have BK203 := Gv.a0 (hbox); have GW203 := Gv.a0 ((Gv.ble hg Gv.bw : w.heap.size ≤ gb203)); have GE203 := Gv.a0 ((Gv.ble hg Gv.bw : w.heap.size ≤ gb203)); replace HB := Gv.a0 (below_step Gv.bw hb); clear hb hbox hg; obtain ⟨hcz30_0, hcz30_1, hcz30_2, hcz30_3, hcz30_4⟩ := Gv.c5 BK203.out; obtain ⟨hfz30_0, hfz30_1, hfz30_2, hfz30_3, hfz30_4⟩ := Gv.f5 BK203.out) | (go_at_call 89; (with_reducible refine (spec_l03Half.calls a0_1 false _ A16.out).mono ?_); rintro e w' ⟨rfl, ⟨nd, rfl⟩⟩))
   go_ret
   exact ⟨Gv.rt, Gv.bw⟩
  subst c17
  rw [if_pos rfl] at H
  (try dsimp only at H)
  replace H := Option.bind_eq_some_iff.mp H
  obtain ⟨t206, A180, H⟩ := H
  (try dsimp only at H)
  have A18 := Gv.a0 A180
  clear A180
  by_cases c19 : t206 = true
  rotate_left
  ·replace c19 := Bool.eq_false_iff.mpr c19
   subst c19
   rw [if_neg (show ¬ (false = true) by decide)] at H
   (try dsimp only at H)
   obtain rfl := Option.some.inj H
   go_enter Try.func80, Try.ntmps80
   go_wp2_with (first | ((with_reducible refine gate_dst (N := 1) rfl ?_); refine Gv.bev 1 29 #[.int .i64 a0_0, .int .i64 a0_1, .int .i64 a0_2, .int .i64 a0_3, .int .i64 a0_4] ?_; intro gb203 hg w27 hbox hb; have BK203 := Gv.a0 (hbox); have GW203 := Gv.a0 ((Gv.ble hg Gv.bw : w.heap.size ≤ gb203)); have GE203 := Gv.a0 ((Gv.ble hg Gv.bw : w.heap.size ≤ gb203)); replace HB := Gv.a0 (below_step Gv.bw hb); clear hb hbox hg; obtain ⟨hcz28_0, hcz28_1, hcz28_2, hcz28_3, hcz28_4⟩ := Gv.c5 BK203.out; obtain ⟨hfz28_0, hfz28_1, hfz28_2, hfz28_3, hfz28_4⟩ := Gv.f5 BK203.out) | (go_at_call 89; (with_reducible refine (spec_l03Half.calls a0_1 true _ A16.out).mono ?_); rintro e w' ⟨rfl, ⟨nd, rfl⟩⟩) | (go_at_call 89; (with_reducible refine (spec_l03Half.calls a0_2 false _ A18.out).mono ?_); rintro e w' ⟨rfl, ⟨nd, rfl⟩⟩))
   go_ret
   exact ⟨Gv.rt, Gv.bw⟩
  subst c19
  rw [if_pos rfl] at H
  (try dsimp only at H)
  replace H := Option.bind_eq_some_iff.mp H
  obtain ⟨t207, A200, H⟩ := H
  (try dsimp only at H)
  have A20 := Gv.a0 A200
  clear A200
  by_cases c21 : t207 = true
  ·subst c21
   rw [if_pos rfl] at H
   (try dsimp only at H)
   replace H := Option.bind_eq_some_iff.mp H
   obtain ⟨t208, A220, H⟩ := H
   (try dsimp only at H)
   have A22 := Gv.a0 A220
   clear A220
   obtain rfl := Option.some.inj H
   go_enter Try.func80, Try.ntmps80
   go_wp2_with (first | ((with_reducible refine gate_dst (N := 1) rfl ?_); refine Gv.bev 1 29 #[.int .i64 a0_0, .int .i64 a0_1, .int .i64 a0_2, .int .i64 a0_3, .int .i64 a0_4] ?_; intro gb203 hg w23 hbox hb; have BK203 := Gv.a0 (hbox); have GW203 := Gv.a0 ((Gv.ble hg Gv.bw : w.heap.size ≤ gb203)); have GE203 := Gv.a0 ((Gv.ble hg Gv.bw : w.heap.size ≤ gb203)); replace HB := Gv.a0 (below_step Gv.bw hb); clear hb hbox hg; obtain ⟨hcz24_0, hcz24_1, hcz24_2, hcz24_3, hcz24_4⟩ := Gv.c5 BK203.out; obtain ⟨hfz24_0, hfz24_1, hfz24_2, hfz24_3, hfz24_4⟩ := Gv.f5 BK203.out) | (go_at_call 89; (with_reducible refine (spec_l03Half.calls a0_1 true _ A16.out).mono ?_); rintro e w' ⟨rfl, ⟨nd, rfl⟩⟩) | (go_at_call 89; (with_reducible refine (spec_l03Half.calls a0_2 true _ A18.out).mono ?_); rintro e w' ⟨rfl, ⟨nd, rfl⟩⟩) | (go_at_call 89; (with_reducible refine (spec_l03Half.calls a0_3 true _ A20.out).mono ?_); rintro e w' ⟨rfl, ⟨nd, rfl⟩⟩) | (go_at_call 89; (with_reducible refine (spec_l03Half.calls a0_4 t208 _ A22.out).mono ?_); rintro e w' ⟨rfl, ⟨nd, rfl⟩⟩))
   go_ret
   exact ⟨Gv.rt, Gv.bw⟩
  ·replace c21 := Bool.eq_false_iff.mpr c21
   subst c21
   rw [if_neg (show ¬ (false = true) by decide)] at H
   (try dsimp only at H)
   obtain rfl := Option.some.inj H
   go_enter Try.func80, Try.ntmps80
   go_wp2_with (first | ((with_reducible refine gate_dst (N := 1) rfl ?_); refine Gv.bev 1 29 #[.int .i64 a0_0, .int .i64 a0_1, .int .i64 a0_2, .int .i64 a0_3, .int .i64 a0_4] ?_; intro gb203 hg w25 hbox hb; have BK203 := Gv.a0 (hbox); have GW203 := Gv.a0 ((Gv.ble hg Gv.bw : w.heap.size ≤ gb203)); have GE203 := Gv.a0 ((Gv.ble hg Gv.bw : w.heap.size ≤ gb203)); replace HB := Gv.a0 (below_step Gv.bw hb); clear hb hbox hg; obtain ⟨hcz26_0, hcz26_1, hcz26_2, hcz26_3, hcz26_4⟩ := Gv.c5 BK203.out; obtain ⟨hfz26_0, hfz26_1, hfz26_2, hfz26_3, hfz26_4⟩ := Gv.f5 BK203.out) | (go_at_call 89; (with_reducible refine (spec_l03Half.calls a0_1 true _ A16.out).mono ?_); rintro e w' ⟨rfl, ⟨nd, rfl⟩⟩) | (go_at_call 89; (with_reducible refine (spec_l03Half.calls a0_2 true _ A18.out).mono ?_); rintro e w' ⟨rfl, ⟨nd, rfl⟩⟩) | (go_at_call 89; (with_reducible refine (spec_l03Half.calls a0_3 false _ A20.out).mono ?_); rintro e w' ⟨rfl, ⟨nd, rfl⟩⟩))
   go_ret
   exact ⟨Gv.rt, Gv.bw⟩
/-! ### spec_l07Pair: function 65 -/
def spec_l07Pair.f (a0_0 : Int) (a0_1 : Int) (a0_2 : Int) (a0_3 : Int) (a0_4 : Int) (a1_0 : Int) (a1_1 : Int) (a1_2 : Int) (a1_3 : Int) (a1_4 : Int) : Option (Bool) := (spec_AddrOk.f a0_0 a0_1 a0_2 a0_3 a0_4).bind fun t211 => (if t211 = true then ((spec_AddrOk.f a1_0 a1_1 a1_2 a1_3 a1_4).bind fun t212 => (if t212 = true then (some (a0_0 == a1_0)) else (some false))) else (some false))
set_option maxHeartbeats 8000000 in
set_option maxRecDepth 100000 in
theorem spec_l07Pair.calls (a0_0 : Int) (a0_1 : Int) (a0_2 : Int) (a0_3 : Int) (a0_4 : Int) (a1_0 : Int) (a1_1 : Int) (a1_2 : Int) (a1_3 : Int) (a1_4 : Int) (r : Bool) (w : World) (h : spec_l07Pair.f a0_0 a0_1 a0_2 a0_3 a0_4 a1_0 a1_1 a1_2 a1_3 a1_4 = some r) :
  Calls Try.prog 65 #[.agg #[.int .i64 a0_0, .int .i64 a0_1, .int .i64 a0_2, .int .i64 a0_3, .int .i64 a0_4], .agg #[.int .i64 a1_0, .int .i64 a1_1, .int .i64 a1_2, .int .i64 a1_3, .int .i64 a1_4]] w fun e w' => e = .returned (.bool r) ∧ Below w.heap.size w w' := by
 have hu29 := Try.underlying29
 have HB := Gv.a0 (Below.refl w.heap.size w)
 have H : ((spec_AddrOk.f a0_0 a0_1 a0_2 a0_3 a0_4).bind fun t211 => (if t211 = true then ((spec_AddrOk.f a1_0 a1_1 a1_2 a1_3 a1_4).bind fun t212 => (if t212 = true then (some (a0_0 == a1_0)) else (some false))) else (some false))) = some r := h
 clear h
 replace H := Option.bind_eq_some_iff.mp H
 obtain ⟨t211, A30, H⟩ := H
 (try dsimp only at H)
 have A3 := Gv.a0 A30
 clear A30
 by_cases c4 : t211 = true
 rotate_left
 ·replace c4 := Bool.eq_false_iff.mpr c4
  subst c4
  rw [if_neg (show ¬ (false = true) by decide)] at H
  (try dsimp only at H)
  obtain rfl := Option.some.inj H
  go_enter Try.func65, Try.ntmps65
  go_wp2_with (first | ((with_reducible refine gate_dst (N := 2) rfl ?_); refine Gv.bev 2 29 #[.int .i64 a0_0, .int .i64 a0_1, .int .i64 a0_2, .int .i64 a0_3, .int .i64 a0_4] ?_; intro gb209 hg w23 hbox hb; have BK209 := Gv.a0 (hbox); have GW209 := Gv.a0 ((Gv.ble hg Gv.bw : w.heap.size ≤ gb209)); have GE209 := Gv.a0 ((Gv.ble hg Gv.bw : w.heap.size ≤ gb209)); replace HB := Gv.a0 (below_step Gv.bw hb); clear hb hbox hg) | ((with_reducible refine gate_dst (N := 3) rfl ?_); refine Gv.bev 3 29 #[.int .i64 a1_0, .int .i64 a1_1, .int .i64 a1_2, .int .i64 a1_3, .int .i64 a1_4] ?_; intro gb210 hg w24 hbox hb; have BK210 := Gv.a0 (hbox); have GW210 := Gv.a0 ((Gv.ble hg Gv.bw : w.heap.size ≤ gb210)); have GE210 := Gv.a0 ((Gv.ble hg Gv.bw : w.heap.size ≤ gb210)); replace HB := Gv.a0 (below_step Gv.bw hb); have NB209_210 := Gv.a0 ((Gv.nlt hg (Gv.kb BK209.out) : gb209 ≠ gb210)); have NB210_209 := Gv.a0 ((Gv.ngt hg (Gv.kb BK209.out) : gb210 ≠ gb209)); replace BK209 := Gv.b1 BK209 hb; clear hb hbox hg; have hnb25 := NB209_210.out; have hnc25 := NB210_209.out; obtain ⟨hcz26_0, hcz26_1, hcz26_2, hcz26_3, hcz26_4⟩ := Gv.c5 BK209.out; obtain ⟨hfz26_0, hfz26_1, hfz26_2, hfz26_3, hfz26_4⟩ := Gv.f5 BK209.out) | ((with_reducible refine gate_callee (f := 80) rfl ?_); refine goesL_ (some 6) rfl rfl Try.func80 (by kernel_rfl) rfl #[.agg #[.int .i64 a0_0, .int .i64 a0_1, .int .i64 a0_2, .int .i64 a0_3, .int .i64 a0_4]] rfl Gv.lm ?_; (with_reducible refine (spec_AddrOk.calls a0_0 a0_1 a0_2 a0_3 a0_4 false _ A3.out).mono ?_); rintro e w27 ⟨rfl, hb⟩; refine ⟨_, rfl, ?_⟩; replace BK209 := Gv.b1 BK209 hb; replace BK210 := Gv.b1 BK210 hb; replace HB := Gv.a0 (below_step Gv.bw hb); clear hb))
  go_ret
  exact ⟨Gv.rt, Gv.bw⟩

 subst c4
 rw [if_pos rfl] at H
 (try dsimp only at H)
 replace H := Option.bind_eq_some_iff.mp H
 obtain ⟨t212, A50, H⟩ := H
 (try dsimp only at H)
 have A5 := Gv.a0 A50
 clear A50
 by_cases c6 : t212 = true
 ·subst c6
  rw [if_pos rfl] at H
  (try dsimp only at H)
  obtain rfl := Option.some.inj H
  go_enter Try.func65, Try.ntmps65
  go_wp2_with (first | ((with_reducible refine gate_dst (N := 2) rfl ?_); refine Gv.bev 2 29 #[.int .i64 a0_0, .int .i64 a0_1, .int .i64 a0_2, .int .i64 a0_3, .int .i64 a0_4] ?_; intro gb209 hg w7 hbox hb; have BK209 := Gv.a0 (hbox); have GW209 := Gv.a0 ((Gv.ble hg Gv.bw : w.heap.size ≤ gb209)); have GE209 := Gv.a0 ((Gv.ble hg Gv.bw : w.heap.size ≤ gb209)); replace HB := Gv.a0 (below_step Gv.bw hb); clear hb hbox hg) | ((with_reducible refine gate_dst (N := 3) rfl ?_); refine Gv.bev 3 29 #[.int .i64 a1_0, .int .i64 a1_1, .int .i64 a1_2, .int .i64 a1_3, .int .i64 a1_4] ?_; intro gb210 hg w8 hbox hb; have BK210 := Gv.a0 (hbox); have GW210 := Gv.a0 ((Gv.ble hg Gv.bw : w.heap.size ≤ gb210)); have GE210 := Gv.a0 ((Gv.ble hg Gv.bw : w.heap.size ≤ gb210)); replace HB := Gv.a0 (below_step Gv.bw hb); have NB209_210 := Gv.a0 ((Gv.nlt hg (Gv.kb BK209.out) : gb209 ≠ gb210)); have NB210_209 := Gv.a0 ((Gv.ngt hg (Gv.kb BK209.out) : gb210 ≠ gb209)); replace BK209 := Gv.b1 BK209 hb; clear hb hbox hg; have hnb9 := NB209_210.out; have hnc9 := NB210_209.out; obtain ⟨hcz10_0, hcz10_1, hcz10_2, hcz10_3, hcz10_4⟩ := Gv.c5 BK209.out; obtain ⟨hfz10_0, hfz10_1, hfz10_2, hfz10_3, hfz10_4⟩ := Gv.f5 BK209.out) | ((with_reducible refine gate_callee (f := 80) rfl ?_); refine goesL_ (some 6) rfl rfl Try.func80 (by kernel_rfl) rfl #[.agg #[.int .i64 a0_0, .int .i64 a0_1, .int .i64 a0_2, .int .i64 a0_3, .int .i64 a0_4]] rfl Gv.lm ?_; (with_reducible refine (spec_AddrOk.calls a0_0 a0_1 a0_2 a0_3 a0_4 true _ A3.out).mono ?_); rintro e w11 ⟨rfl, hb⟩; refine ⟨_, rfl, ?_⟩; replace BK209 := Gv.b1 BK209 hb; replace BK210 := Gv.b1 BK210 hb; replace HB := Gv.a0 (below_step Gv.bw hb); clear hb; obtain ⟨hcz12_0, hcz12_1, hcz12_2, hcz12_3, hcz12_4⟩ := Gv.c5 BK210.out; obtain ⟨hfz12_0, hfz12_1, hfz12_2, hfz12_3, hfz12_4⟩ := Gv.f5 BK210.out) | (go_at_call 80; (with_reducible refine (spec_AddrOk.calls a1_0 a1_1 a1_2 a1_3 a1_4 true _ A5.out).mono ?_); rintro e w13 ⟨rfl, hb⟩; replace BK209 := Gv.b1 BK209 hb; replace BK210 := Gv.b1 BK210 hb; replace HB := Gv.a0 (below_step Gv.bw hb); clear hb; obtain ⟨hcz14_0, hcz14_1, hcz14_2, hcz14_3, hcz14_4⟩ := Gv.c5 BK209.out; obtain ⟨hfz14_0, hfz14_1, hfz14_2, hfz14_3, hfz14_4⟩ := Gv.f5 BK209.out; obtain ⟨hcz15_0, hcz15_1, hcz15_2, hcz15_3, hcz15_4⟩ := Gv.c5 BK210.out; obtain ⟨hfz15_0, hfz15_1, hfz15_2, hfz15_3, hfz15_4⟩ := Gv.f5 BK210.out))
  go_ret
  exact ⟨Gv.rt, Gv.bw⟩
 ·replace c6 := Bool.eq_false_iff.mpr c6
  subst c6
  rw [if_neg (show ¬ (false = true) by decide)] at H
  (try dsimp only at H)
  obtain rfl := Option.some.inj H
  go_enter Try.func65, Try.ntmps65
  go_wp2_with (first | ((with_reducible refine gate_dst (N := 2) rfl ?_); refine Gv.bev 2 29 #[.int .i64 a0_0, .int .i64 a0_1, .int .i64 a0_2, .int .i64 a0_3, .int .i64 a0_4] ?_; intro gb209 hg w16 hbox hb; have BK209 := Gv.a0 (hbox); have GW209 := Gv.a0 ((Gv.ble hg Gv.bw : w.heap.size ≤ gb209)); have GE209 := Gv.a0 ((Gv.ble hg Gv.bw : w.heap.size ≤ gb209)); replace HB := Gv.a0 (below_step Gv.bw hb); clear hb hbox hg) | ((with_reducible refine gate_dst (N := 3) rfl ?_); refine Gv.bev 3 29 #[.int .i64 a1_0, .int .i64 a1_1, .int .i64 a1_2, .int .i64 a1_3, .int .i64 a1_4] ?_; intro gb210 hg w17 hbox hb; have BK210 := Gv.a0 (hbox); have GW210 := Gv.a0 ((Gv.ble hg Gv.bw : w.heap.size ≤ gb210)); have GE210 := Gv.a0 ((Gv.ble hg Gv.bw : w.heap.size ≤ gb210)); replace HB := Gv.a0 (below_step Gv.bw hb); have NB209_210 := Gv.a0 ((Gv.nlt hg (Gv.kb BK209.out) : gb209 ≠ gb210)); have NB210_209 := Gv.a0 ((Gv.ngt hg (Gv.kb BK209.out) : gb210 ≠ gb209)); replace BK209 := Gv.b1 BK209 hb; clear hb hbox hg; have hnb18 := NB209_210.out; have hnc18 := NB210_209.out; obtain ⟨hcz19_0, hcz19_1, hcz19_2, hcz19_3, hcz19_4⟩ := Gv.c5 BK209.out; obtain ⟨hfz19_0, hfz19_1, hfz19_2, hfz19_3, hfz19_4⟩ := Gv.f5 BK209.out) | ((with_reducible refine gate_callee (f := 80) rfl ?_); refine goesL_ (some 6) rfl rfl Try.func80 (by kernel_rfl) rfl #[.agg #[.int .i64 a0_0, .int .i64 a0_1, .int .i64 a0_2, .int .i64 a0_3, .int .i64 a0_4]] rfl Gv.lm ?_; (with_reducible refine (spec_AddrOk.calls a0_0 a0_1 a0_2 a0_3 a0_4 true _ A3.out).mono ?_); rintro e w20 ⟨rfl, hb⟩; refine ⟨_, rfl, ?_⟩; replace BK209 := Gv.b1 BK209 hb; replace BK210 := Gv.b1 BK210 hb; replace HB := Gv.a0 (below_step Gv.bw hb); clear hb; obtain ⟨hcz21_0, hcz21_1, hcz21_2, hcz21_3, hcz21_4⟩ := Gv.c5 BK210.out; obtain ⟨hfz21_0, hfz21_1, hfz21_2, hfz21_3, hfz21_4⟩ := Gv.f5 BK210.out) | (go_at_call 80; (with_reducible refine (spec_AddrOk.calls a1_0 a1_1 a1_2 a1_3 a1_4 false _ A5.out).mono ?_); rintro e w22 ⟨rfl, hb⟩; replace BK209 := Gv.b1 BK209 hb; replace BK210 := Gv.b1 BK210 hb; replace HB := Gv.a0 (below_step Gv.bw hb); clear hb))
  go_ret
  exact ⟨Gv.rt, Gv.bw⟩
/-! ### spec_l05In: function 66 -/
def spec_l05In.f (a0 : Int) (a1 : Int) : Option (Bool) := if a0 ≥ 0 then (some (decide (a0 ≤ a1))) else (some false)
set_option maxHeartbeats 8000000 in
set_option maxRecDepth 100000 in
theorem spec_l05In.calls (a0 : Int) (a1 : Int) (r : Bool) (w : World) (h : spec_l05In.f a0 a1 = some r) :
  Calls Try.prog 66 #[.int .i64 a0, .int .i64 a1] w fun e w' => e = .returned (.bool r) ∧ Drawn0 w w' := by
 have H : (if a0 ≥ 0 then (some (decide (a0 ≤ a1))) else (some false)) = some r := h
 clear h
 by_cases c3 : a0 ≥ 0
 ·rw [if_pos c3] at H
  have c3b0 : decide (0 ≤ a0) = true := decide_eq_true c3
  clear c3
  obtain rfl := Option.some.inj H
  go_enter Try.func66, Try.ntmps66
  go_wp2
  go_ret
  exact ⟨by first | rfl | (simp; done) | (simp [Int.tdiv_eq_ediv_of_nonneg]; done) | (simp [*]; done), by repeat (first | exact Drawn0.refl _ | apply Drawn0.step)⟩
 ·rw [if_neg c3] at H
  have c3b0 : decide (0 ≤ a0) = false := decide_eq_false c3
  clear c3
  obtain rfl := Option.some.inj H
  go_enter Try.func66, Try.ntmps66
  go_wp2
  go_ret
  exact ⟨by first | rfl | (simp; done) | (simp [Int.tdiv_eq_ediv_of_nonneg]; done) | (simp [*]; done), by repeat (first | exact Drawn0.refl _ | apply Drawn0.step)⟩

/-! ### spec_KeyOk: function 42 -/
def spec_KeyOk.f (a0_0 : Int) (a0_1 : Int) (a0_2 : Int) (a0_3 : Int) (a0_4 : Int) (a0_5 : Int) (a0_6 : Int) (a0_7 : Int) (a0_8 : Int) (a0_9 : Int) (a0_10 : Int) (a0_11 : Int) (a0_12 : Int) : Option (Bool) := (spec_l07Pair.f a0_0 a0_1 a0_2 a0_3 a0_4 a0_5 a0_6 a0_7 a0_8 a0_9).bind fun t214 => (if t214 = true then ((spec_l05In.f a0_10 255).bind fun t215 => (if t215 = true then ((spec_l05In.f a0_11 65535).bind fun t216 => (if t216 = true then ((spec_l05In.f a0_12 65535).bind fun t217 => (some t217)) else (some false))) else (some false))) else (some false))
set_option maxHeartbeats 8000000 in
set_option maxRecDepth 100000 in
theorem spec_KeyOk.calls (a0_0 : Int) (a0_1 : Int) (a0_2 : Int) (a0_3 : Int) (a0_4 : Int) (a0_5 : Int) (a0_6 : Int) (a0_7 : Int) (a0_8 : Int) (a0_9 : Int) (a0_10 : Int) (a0_11 : Int) (a0_12 : Int) (r : Bool) (w : World) (h : spec_KeyOk.f a0_0 a0_1 a0_2 a0_3 a0_4 a0_5 a0_6 a0_7 a0_8 a0_9 a0_10 a0_11 a0_12 = some r) :
  Calls Try.prog 42 #[.agg #[.int .i64 a0_0, .int .i64 a0_1, .int .i64 a0_2, .int .i64 a0_3, .int .i64 a0_4, .int .i64 a0_5, .int .i64 a0_6, .int .i64 a0_7, .int .i64 a0_8, .int .i64 a0_9, .int .i64 a0_10, .int .i64 a0_11, .int .i64 a0_12]] w fun e w' => e = .returned (.bool r) ∧ Below w.heap.size w w' := by
 have hu31 := Try.underlying31
 have hu29 := Try.underlying29
 have HB := Gv.a0 (Below.refl w.heap.size w)
 have H : ((spec_l07Pair.f a0_0 a0_1 a0_2 a0_3 a0_4 a0_5 a0_6 a0_7 a0_8 a0_9).bind fun t214 => (if t214 = true then ((spec_l05In.f a0_10 255).bind fun t215 => (if t215 = true then ((spec_l05In.f a0_11 65535).bind fun t216 => (if t216 = true then ((spec_l05In.f a0_12 65535).bind fun t217 => (some t217)) else (some false))) else (some false))) else (some false))) = some r := h
 clear h
 replace H := Option.bind_eq_some_iff.mp H
 obtain ⟨t214, A20, H⟩ := H
 (try dsimp only at H)
 have A2 := Gv.a0 A20
 clear A20
 by_cases c3 : t214 = true
 rotate_left
 ·replace c3 := Bool.eq_false_iff.mpr c3
  subst c3
  rw [if_neg (show ¬ (false = true) by decide)] at H
  (try dsimp only at H)
  obtain rfl := Option.some.inj H
  go_enter Try.func42, Try.ntmps42
  go_wp2_with (first | ((with_reducible refine gate_dst (N := 1) rfl ?_); refine Gv.bev 1 31 #[.int .i64 a0_0, .int .i64 a0_1, .int .i64 a0_2, .int .i64 a0_3, .int .i64 a0_4, .int .i64 a0_5, .int .i64 a0_6, .int .i64 a0_7, .int .i64 a0_8, .int .i64 a0_9, .int .i64 a0_10, .int .i64 a0_11, .int .i64 a0_12] ?_; intro gb213 hg w21 hbox hb; have BK213 := Gv.a0 (hbox); have GW213 := Gv.a0 ((Gv.ble hg Gv.bw : w.heap.size ≤ gb213)); have GE213 := Gv.a0 ((Gv.ble hg Gv.bw : w.heap.size ≤ gb213)); replace HB := Gv.a0 (below_step Gv.bw hb); clear hb hbox hg; obtain ⟨hcz22_0, hcz22_1, hcz22_2, hcz22_3, hcz22_4, hcz22_5, hcz22_6, hcz22_7, hcz22_8, hcz22_9, hcz22_10, hcz22_11, hcz22_12⟩ := Gv.c13 BK213.out; obtain ⟨hfz22_0, hfz22_1, hfz22_2, hfz22_3, hfz22_4, hfz22_5, hfz22_6, hfz22_7, hfz22_8, hfz22_9, hfz22_10, hfz22_11, hfz22_12⟩ := Gv.f13 BK213.out) | ((with_reducible refine gate_callee (f := 65) rfl ?_); refine goesL_ (some 7) rfl rfl Try.func65 (by kernel_rfl) rfl #[.agg #[.int .i64 a0_0, .int .i64 a0_1, .int .i64 a0_2, .int .i64 a0_3, .int .i64 a0_4], .agg #[.int .i64 a0_5, .int .i64 a0_6, .int .i64 a0_7, .int .i64 a0_8, .int .i64 a0_9]] rfl Gv.lm ?_; (with_reducible refine (spec_l07Pair.calls a0_0 a0_1 a0_2 a0_3 a0_4 a0_5 a0_6 a0_7 a0_8 a0_9 false _ A2.out).mono ?_); rintro e w23 ⟨rfl, hb⟩; refine ⟨_, rfl, ?_⟩; replace BK213 := Gv.b1 BK213 hb; replace HB := Gv.a0 (below_step Gv.bw hb); clear hb))
  go_ret
  exact ⟨Gv.rt, Gv.bw⟩

 subst c3
 rw [if_pos rfl] at H
 (try dsimp only at H)
 replace H := Option.bind_eq_some_iff.mp H
 obtain ⟨t215, A40, H⟩ := H
 (try dsimp only at H)
 have A4 := Gv.a0 A40
 clear A40
 by_cases c5 : t215 = true
 rotate_left
 ·replace c5 := Bool.eq_false_iff.mpr c5
  subst c5
  rw [if_neg (show ¬ (false = true) by decide)] at H
  (try dsimp only at H)
  obtain rfl := Option.some.inj H
  go_enter Try.func42, Try.ntmps42
  go_wp2_with (first | ((with_reducible refine gate_dst (N := 1) rfl ?_); refine Gv.bev 1 31 #[.int .i64 a0_0, .int .i64 a0_1, .int .i64 a0_2, .int .i64 a0_3, .int .i64 a0_4, .int .i64 a0_5, .int .i64 a0_6, .int .i64 a0_7, .int .i64 a0_8, .int .i64 a0_9, .int .i64 a0_10, .int .i64 a0_11, .int .i64 a0_12] ?_; intro gb213 hg w17 hbox hb; have BK213 := Gv.a0 (hbox); have GW213 := Gv.a0 ((Gv.ble hg Gv.bw : w.heap.size ≤ gb213)); have GE213 := Gv.a0 ((Gv.ble hg Gv.bw : w.heap.size ≤ gb213)); replace HB := Gv.a0 (below_step Gv.bw hb); clear hb hbox hg; obtain ⟨hcz18_0, hcz18_1, hcz18_2, hcz18_3, hcz18_4, hcz18_5, hcz18_6, hcz18_7, hcz18_8, hcz18_9, hcz18_10, hcz18_11, hcz18_12⟩ := Gv.c13 BK213.out; obtain ⟨hfz18_0, hfz18_1, hfz18_2, hfz18_3, hfz18_4, hfz18_5, hfz18_6, hfz18_7, hfz18_8, hfz18_9, hfz18_10, hfz18_11, hfz18_12⟩ := Gv.f13 BK213.out) | ((with_reducible refine gate_callee (f := 65) rfl ?_); refine goesL_ (some 7) rfl rfl Try.func65 (by kernel_rfl) rfl #[.agg #[.int .i64 a0_0, .int .i64 a0_1, .int .i64 a0_2, .int .i64 a0_3, .int .i64 a0_4], .agg #[.int .i64 a0_5, .int .i64 a0_6, .int .i64 a0_7, .int .i64 a0_8, .int .i64 a0_9]] rfl Gv.lm ?_; (with_reducible refine (spec_l07Pair.calls a0_0 a0_1 a0_2 a0_3 a0_4 a0_5 a0_6 a0_7 a0_8 a0_9 true _ A2.out).mono ?_); rintro e w19 ⟨rfl, hb⟩; refine ⟨_, rfl, ?_⟩; replace BK213 := Gv.b1 BK213 hb; replace HB := Gv.a0 (below_step Gv.bw hb); clear hb; obtain ⟨hcz20_0, hcz20_1, hcz20_2, hcz20_3, hcz20_4, hcz20_5, hcz20_6, hcz20_7, hcz20_8, hcz20_9, hcz20_10, hcz20_11, hcz20_12⟩ := Gv.c13 BK213.out; obtain ⟨hfz20_0, hfz20_1, hfz20_2, hfz20_3, hfz20_4, hfz20_5, hfz20_6, hfz20_7, hfz20_8, hfz20_9, hfz20_10, hfz20_11, hfz20_12⟩ := Gv.f13 BK213.out) | (go_at_call 66; (with_reducible refine (spec_l05In.calls a0_10 255 false _ A4.out).mono ?_); rintro e w' ⟨rfl, ⟨nd, rfl⟩⟩))
  go_ret
  exact ⟨Gv.rt, Gv.bw⟩
 subst c5
 rw [if_pos rfl] at H
 (try dsimp only at H)
 replace H := Option.bind_eq_some_iff.mp H
 obtain ⟨t216, A60, H⟩ := H
 (try dsimp only at H)
 have A6 := Gv.a0 A60
 clear A60
 by_cases c7 : t216 = true
 ·subst c7
  rw [if_pos rfl] at H
  (try dsimp only at H)
  replace H := Option.bind_eq_some_iff.mp H
  obtain ⟨t217, A80, H⟩ := H
  (try dsimp only at H)
  have A8 := Gv.a0 A80
  clear A80
  obtain rfl := Option.some.inj H
  go_enter Try.func42, Try.ntmps42
  go_wp2_with (first | ((with_reducible refine gate_dst (N := 1) rfl ?_); refine Gv.bev 1 31 #[.int .i64 a0_0, .int .i64 a0_1, .int .i64 a0_2, .int .i64 a0_3, .int .i64 a0_4, .int .i64 a0_5, .int .i64 a0_6, .int .i64 a0_7, .int .i64 a0_8, .int .i64 a0_9, .int .i64 a0_10, .int .i64 a0_11, .int .i64 a0_12] ?_; intro gb213 hg w9 hbox hb; have BK213 := Gv.a0 (hbox); have GW213 := Gv.a0 ((Gv.ble hg Gv.bw : w.heap.size ≤ gb213)); have GE213 := Gv.a0 ((Gv.ble hg Gv.bw : w.heap.size ≤ gb213)); replace HB := Gv.a0 (below_step Gv.bw hb); clear hb hbox hg; obtain ⟨hcz10_0, hcz10_1, hcz10_2, hcz10_3, hcz10_4, hcz10_5, hcz10_6, hcz10_7, hcz10_8, hcz10_9, hcz10_10, hcz10_11, hcz10_12⟩ := Gv.c13 BK213.out; obtain ⟨hfz10_0, hfz10_1, hfz10_2, hfz10_3, hfz10_4, hfz10_5, hfz10_6, hfz10_7, hfz10_8, hfz10_9, hfz10_10, hfz10_11, hfz10_12⟩ := Gv.f13 BK213.out) | ((with_reducible refine gate_callee (f := 65) rfl ?_); refine goesL_ (some 7) rfl rfl Try.func65 (by kernel_rfl) rfl #[.agg #[.int .i64 a0_0, .int .i64 a0_1, .int .i64 a0_2, .int .i64 a0_3, .int .i64 a0_4], .agg #[.int .i64 a0_5, .int .i64 a0_6, .int .i64 a0_7, .int .i64 a0_8, .int .i64 a0_9]] rfl Gv.lm ?_; (with_reducible refine (spec_l07Pair.calls a0_0 a0_1 a0_2 a0_3 a0_4 a0_5 a0_6 a0_7 a0_8 a0_9 true _ A2.out).mono ?_); rintro e w11 ⟨rfl, hb⟩; refine ⟨_, rfl, ?_⟩; replace BK213 := Gv.b1 BK213 hb; replace HB := Gv.a0 (below_step Gv.bw hb); clear hb; obtain ⟨hcz12_0, hcz12_1, hcz12_2, hcz12_3, hcz12_4, hcz12_5, hcz12_6, hcz12_7, hcz12_8, hcz12_9, hcz12_10, hcz12_11, hcz12_12⟩ := Gv.c13 BK213.out; obtain ⟨hfz12_0, hfz12_1, hfz12_2, hfz12_3, hfz12_4, hfz12_5, hfz12_6, hfz12_7, hfz12_8, hfz12_9, hfz12_10, hfz12_11, hfz12_12⟩ := Gv.f13 BK213.out) | (go_at_call 66; (with_reducible refine (spec_l05In.calls a0_10 255 true _ A4.out).mono ?_); rintro e w' ⟨rfl, ⟨nd, rfl⟩⟩) | (go_at_call 66; (with_reducible refine (spec_l05In.calls a0_11 65535 true _ A6.out).mono ?_); rintro e w' ⟨rfl, ⟨nd, rfl⟩⟩) | (go_at_call 66; (with_reducible refine (spec_l05In.calls a0_12 65535 t217 _ A8.out).mono ?_); rintro e w' ⟨rfl, ⟨nd, rfl⟩⟩))
  go_ret
  exact ⟨Gv.rt, Gv.bw⟩
 ·replace c7 := Bool.eq_false_iff.mpr c7
  subst c7
  rw [if_neg (show ¬ (false = true) by decide)] at H
  (try dsimp only at H)
  obtain rfl := Option.some.inj H
  go_enter Try.func42, Try.ntmps42
  go_wp2_with (first | ((with_reducible refine gate_dst (N := 1) rfl ?_); refine Gv.bev 1 31 #[.int .i64 a0_0, .int .i64 a0_1, .int .i64 a0_2, .int .i64 a0_3, .int .i64 a0_4, .int .i64 a0_5, .int .i64 a0_6, .int .i64 a0_7, .int .i64 a0_8, .int .i64 a0_9, .int .i64 a0_10, .int .i64 a0_11, .int .i64 a0_12] ?_; intro gb213 hg w13 hbox hb; have BK213 := Gv.a0 (hbox); have GW213 := Gv.a0 ((Gv.ble hg Gv.bw : w.heap.size ≤ gb213)); have GE213 := Gv.a0 ((Gv.ble hg Gv.bw : w.heap.size ≤ gb213)); replace HB := Gv.a0 (below_step Gv.bw hb); clear hb hbox hg; obtain ⟨hcz14_0, hcz14_1, hcz14_2, hcz14_3, hcz14_4, hcz14_5, hcz14_6, hcz14_7, hcz14_8, hcz14_9, hcz14_10, hcz14_11, hcz14_12⟩ := Gv.c13 BK213.out; obtain ⟨hfz14_0, hfz14_1, hfz14_2, hfz14_3, hfz14_4, hfz14_5, hfz14_6, hfz14_7, hfz14_8, hfz14_9, hfz14_10, hfz14_11, hfz14_12⟩ := Gv.f13 BK213.out) | ((with_reducible refine gate_callee (f := 65) rfl ?_); refine goesL_ (some 7) rfl rfl Try.func65 (by kernel_rfl) rfl #[.agg #[.int .i64 a0_0, .int .i64 a0_1, .int .i64 a0_2, .int .i64 a0_3, .int .i64 a0_4], .agg #[.int .i64 a0_5, .int .i64 a0_6, .int .i64 a0_7, .int .i64 a0_8, .int .i64 a0_9]] rfl Gv.lm ?_; (with_reducible refine (spec_l07Pair.calls a0_0 a0_1 a0_2 a0_3 a0_4 a0_5 a0_6 a0_7 a0_8 a0_9 true _ A2.out).mono ?_); rintro e w15 ⟨rfl, hb⟩; refine ⟨_, rfl, ?_⟩; replace BK213 := Gv.b1 BK213 hb; replace HB := Gv.a0 (below_step Gv.bw hb); clear hb; obtain ⟨hcz16_0, hcz16_1, hcz16_2, hcz16_3, hcz16_4, hcz16_5, hcz16_6, hcz16_7, hcz16_8, hcz16_9, hcz16_10, hcz16_11, hcz16_12⟩ := Gv.c13 BK213.out; obtain ⟨hfz16_0, hfz16_1, hfz16_2, hfz16_3, hfz16_4, hfz16_5, hfz16_6, hfz16_7, hfz16_8, hfz16_9, hfz16_10, hfz16_11, hfz16_12⟩ := Gv.f13 BK213.out) | (go_at_call 66; (with_reducible refine (spec_l05In.calls a0_10 255 true _ A4.out).mono ?_); rintro e w' ⟨rfl, ⟨nd, rfl⟩⟩) | (go_at_call 66; (with_reducible refine (spec_l05In.calls a0_11 65535 false _ A6.out).mono ?_); rintro e w' ⟨rfl, ⟨nd, rfl⟩⟩))
  go_ret
  exact ⟨Gv.rt, Gv.bw⟩
/-! ### spec_FlowKeyOk: function 13 -/
def spec_FlowKeyOk.f (a0_0 : Int) (a0_1 : Int) (a0_2 : Int) (a0_3 : Int) (a0_4 : Int) (a0_5 : Int) (a0_6 : Int) (a0_7 : Int) (a0_8 : Int) (a0_9 : Int) (a0_10 : Int) (a0_11 : Int) (a0_12 : Int) (a0_13 : Int) : Option (Bool) := if a0_0 ≥ 1 then (if a0_0 ≤ 8 then ((spec_KeyOk.f a0_1 a0_2 a0_3 a0_4 a0_5 a0_6 a0_7 a0_8 a0_9 a0_10 a0_11 a0_12 a0_13).bind fun t219 => (some t219)) else (some false)) else (some false)
set_option maxHeartbeats 8000000 in
set_option maxRecDepth 100000 in
theorem spec_FlowKeyOk.calls (a0_0 : Int) (a0_1 : Int) (a0_2 : Int) (a0_3 : Int) (a0_4 : Int) (a0_5 : Int) (a0_6 : Int) (a0_7 : Int) (a0_8 : Int) (a0_9 : Int) (a0_10 : Int) (a0_11 : Int) (a0_12 : Int) (a0_13 : Int) (r : Bool) (w : World) (h : spec_FlowKeyOk.f a0_0 a0_1 a0_2 a0_3 a0_4 a0_5 a0_6 a0_7 a0_8 a0_9 a0_10 a0_11 a0_12 a0_13 = some r) :
  Calls Try.prog 13 #[.agg #[.int .i64 a0_0, .int .i64 a0_1, .int .i64 a0_2, .int .i64 a0_3, .int .i64 a0_4, .int .i64 a0_5, .int .i64 a0_6, .int .i64 a0_7, .int .i64 a0_8, .int .i64 a0_9, .int .i64 a0_10, .int .i64 a0_11, .int .i64 a0_12, .int .i64 a0_13]] w fun e w' => e = .returned (.bool r) ∧ Below w.heap.size w w' := by
 have hu33 := Try.underlying33
 have hu31 := Try.underlying31
 have HB := Gv.a0 (Below.refl w.heap.size w)
 have H : (if a0_0 ≥ 1 then (if a0_0 ≤ 8 then ((spec_KeyOk.f a0_1 a0_2 a0_3 a0_4 a0_5 a0_6 a0_7 a0_8 a0_9 a0_10 a0_11 a0_12 a0_13).bind fun t219 => (some t219)) else (some false)) else (some false)) = some r := h
 clear h
 by_cases c2 : a0_0 ≥ 1
 rotate_left
 ·rw [if_neg c2] at H
  have c2b0 : decide (1 ≤ a0_0) = false := decide_eq_false c2
  clear c2
  obtain rfl := Option.some.inj H
  go_enter Try.func13, Try.ntmps13
  go_wp2_with (first | ((with_reducible refine gate_dst (N := 1) rfl ?_); refine Gv.bev 1 33 #[.int .i64 a0_0, .int .i64 a0_1, .int .i64 a0_2, .int .i64 a0_3, .int .i64 a0_4, .int .i64 a0_5, .int .i64 a0_6, .int .i64 a0_7, .int .i64 a0_8, .int .i64 a0_9, .int .i64 a0_10, .int .i64 a0_11, .int .i64 a0_12, .int .i64 a0_13] ?_; intro gb218 hg w10 hbox hb; have BK218 := Gv.a0 (hbox); have GW218 := Gv.a0 ((Gv.ble hg Gv.bw : w.heap.size ≤ gb218)); have GE218 := Gv.a0 ((Gv.ble hg Gv.bw : w.heap.size ≤ gb218)); replace HB := Gv.a0 (below_step Gv.bw hb); clear hb hbox hg; obtain ⟨hcz11_0, hcz11_1, hcz11_2, hcz11_3, hcz11_4, hcz11_5, hcz11_6, hcz11_7, hcz11_8, hcz11_9, hcz11_10, hcz11_11, hcz11_12, hcz11_13⟩ := Gv.c14 BK218.out; obtain ⟨hfz11_0, hfz11_1, hfz11_2, hfz11_3, hfz11_4, hfz11_5, hfz11_6, hfz11_7, hfz11_8, hfz11_9, hfz11_10, hfz11_11, hfz11_12, hfz11_13⟩ := Gv.f14 BK218.out))
  go_ret
  exact ⟨Gv.rt, Gv.bw⟩

 rw [if_pos c2] at H
 have c2b0 : decide (1 ≤ a0_0) = true := decide_eq_true c2
 clear c2
 by_cases c3 : a0_0 ≤ 8
 ·rw [if_pos c3] at H
  have c3b0 : decide (a0_0 ≤ 8) = true := decide_eq_true c3
  clear c3
  replace H := Option.bind_eq_some_iff.mp H
  obtain ⟨t219, A40, H⟩ := H
  (try dsimp only at H)
  have A4 := Gv.a0 A40
  clear A40
  obtain rfl := Option.some.inj H
  go_enter Try.func13, Try.ntmps13
  go_wp2_with (first | ((with_reducible refine gate_dst (N := 1) rfl ?_); refine Gv.bev 1 33 #[.int .i64 a0_0, .int .i64 a0_1, .int .i64 a0_2, .int .i64 a0_3, .int .i64 a0_4, .int .i64 a0_5, .int .i64 a0_6, .int .i64 a0_7, .int .i64 a0_8, .int .i64 a0_9, .int .i64 a0_10, .int .i64 a0_11, .int .i64 a0_12, .int .i64 a0_13] ?_; intro gb218 hg w5 hbox hb; have BK218 := Gv.a0 (hbox); have GW218 := Gv.a0 ((Gv.ble hg Gv.bw : w.heap.size ≤ gb218)); have GE218 := Gv.a0 ((Gv.ble hg Gv.bw : w.heap.size ≤ gb218)); replace HB := Gv.a0 (below_step Gv.bw hb); clear hb hbox hg; obtain ⟨hcz6_0, hcz6_1, hcz6_2, hcz6_3, hcz6_4, hcz6_5, hcz6_6, hcz6_7, hcz6_8, hcz6_9, hcz6_10, hcz6_11, hcz6_12, hcz6_13⟩ := Gv.c14 BK218.out; obtain ⟨hfz6_0, hfz6_1, hfz6_2, hfz6_3, hfz6_4, hfz6_5, hfz6_6, hfz6_7, hfz6_8, hfz6_9, hfz6_10, hfz6_11, hfz6_12, hfz6_13⟩ := Gv.f14 BK218.out) | (go_at_call 42; (with_reducible refine (spec_KeyOk.calls a0_1 a0_2 a0_3 a0_4 a0_5 a0_6 a0_7 a0_8 a0_9 a0_10 a0_11 a0_12 a0_13 t219 _ A4.out).mono ?_); rintro e w7 ⟨rfl, hb⟩; replace BK218 := Gv.b1 BK218 hb; replace HB := Gv.a0 (below_step Gv.bw hb); clear hb))
  go_ret
  exact ⟨Gv.rt, Gv.bw⟩
 ·rw [if_neg c3] at H
  have c3b0 : decide (a0_0 ≤ 8) = false := decide_eq_false c3
  clear c3
  obtain rfl := Option.some.inj H
  go_enter Try.func13, Try.ntmps13
  go_wp2_with (first | ((with_reducible refine gate_dst (N := 1) rfl ?_); refine Gv.bev 1 33 #[.int .i64 a0_0, .int .i64 a0_1, .int .i64 a0_2, .int .i64 a0_3, .int .i64 a0_4, .int .i64 a0_5, .int .i64 a0_6, .int .i64 a0_7, .int .i64 a0_8, .int .i64 a0_9, .int .i64 a0_10, .int .i64 a0_11, .int .i64 a0_12, .int .i64 a0_13] ?_; intro gb218 hg w8 hbox hb; have BK218 := Gv.a0 (hbox); have GW218 := Gv.a0 ((Gv.ble hg Gv.bw : w.heap.size ≤ gb218)); have GE218 := Gv.a0 ((Gv.ble hg Gv.bw : w.heap.size ≤ gb218)); replace HB := Gv.a0 (below_step Gv.bw hb); clear hb hbox hg; obtain ⟨hcz9_0, hcz9_1, hcz9_2, hcz9_3, hcz9_4, hcz9_5, hcz9_6, hcz9_7, hcz9_8, hcz9_9, hcz9_10, hcz9_11, hcz9_12, hcz9_13⟩ := Gv.c14 BK218.out; obtain ⟨hfz9_0, hfz9_1, hfz9_2, hfz9_3, hfz9_4, hfz9_5, hfz9_6, hfz9_7, hfz9_8, hfz9_9, hfz9_10, hfz9_11, hfz9_12, hfz9_13⟩ := Gv.f14 BK218.out))
  go_ret
  exact ⟨Gv.rt, Gv.bw⟩
/-! ### spec_l11Count: function 53 -/
def spec_l11Count.l0 : Nat → Int → Int → Int → List (S75) → Option (Int)
 | 0, _, _, _, _ => none
 | k + 1, x3, x4, x221000, x221001 => if x4 < (x221001.length : Int) then (if 0 ≤ x4 then (if (rd_T75 x221001 x4).f0 = true then (spec_l11Count.l0 k (wrap64 (x3 + 1)) (wrap64 (x4 + 1)) x221000 x221001) else (spec_l11Count.l0 k x3 (wrap64 (x4 + 1)) x221000 x221001)) else (none)) else (some x3)
def spec_l11Count.f (k : Nat) (a0_0 : Int) (l0_1 : List (S75)) : Option (Int) := spec_l11Count.l0 k 0 0 a0_0 l0_1
set_option maxHeartbeats 8000000 in
set_option maxRecDepth 100000 in
theorem spec_l11Count.calls (k : Nat) (a0_0 : Int) (A0_1 : Option Addr) (c0_1 : Nat) (l0_1 : List (S75)) (r : Int) (w : World) (hr0_1 : Kd.C k75 w A0_1 l0_1.length l0_1) (hc0_1 : l0_1.length ≤ c0_1) (h : spec_l11Count.f k a0_0 l0_1 = some r) :
  Calls Try.prog 53 #[.agg #[.int .i64 a0_0, .slice A0_1 l0_1.length c0_1]] w fun e w' => e = .returned (.int .i64 r) ∧ Below w.heap.size w w' := by
 have hu40 := Try.underlying40
 have HR0_1 := Gv.a0 hr0_1
 have HC0_1 := Gv.a0 hc0_1
 clear hr0_1 hc0_1
 have HB := Gv.a0 (Below.refl w.heap.size w)
 have H : (spec_l11Count.l0 k 0 0 a0_0 l0_1) = some r := h
 clear h
 have H' := Gv.a0 H
 clear H
 go_enter Try.func53, Try.ntmps53
 go_wp2_with (first | ((with_reducible refine gate_dst (N := 1) rfl ?_); refine Gv.bev 1 40 #[.int .i64 a0_0, .slice A0_1 l0_1.length c0_1] ?_; intro gb220 hg w2 hbox hb; have BK220 := Gv.a0 (hbox); have GW220 := Gv.a0 ((Gv.ble hg Gv.bw : w.heap.size ≤ gb220)); have GE220 := Gv.a0 ((Gv.ble hg Gv.bw : w.heap.size ≤ gb220)); replace HB := Gv.a0 (below_step Gv.bw hb); clear hb hbox hg))
 go_loopg [3, 4] k (fun kq v3 v4 w' => ∃ (x3_1 : Int) (x4_1 : Int), v3 = .int .i64 x3_1 ∧ v4 = .int .i64 x4_1 ∧ Aside0 (spec_l11Count.l0 kq x3_1 x4_1 a0_0 l0_1 = some r) ∧ Aside0 (kq ≤ k) ∧ Aside0 (w'.heap[gb220]? = some (.cells #[.int .i64 a0_0, (.slice A0_1 l0_1.length c0_1)] 40 (0, 0))) ∧ Aside0 (Below w.heap.size w w'))
 case atStart => exact ⟨(0), (0), Gv.rq, Gv.rq, H', ⟨Nat.le_refl _⟩, ⟨by (with_reducible repeat (first | refine blk_drewN ?_ _ | refine blk_drew ?_ | refine blk_alloc ?_ _)); exact BK220.out⟩, ⟨Gv.bw⟩⟩
 case round =>
  clear H'
  try clear p2
  obtain ⟨x3_1, x4_1, rfl, rfl, HA, HK1, BK220, HB⟩ := hrel
  cases gk with
  | zero => exact absurd HA.out (by simp [spec_l11Count.l0])
  | succ k1 =>
   have H := HA.out
   clear HA
   simp only [spec_l11Count.l0] at H
   by_cases c3 : x4_1 < (l0_1.length : Int)
   rotate_left
   ·rw [if_neg c3] at H
    have c3b0 : decide (x4_1 < (l0_1.length : Int)) = false := decide_eq_false c3
    clear c3
    obtain rfl := Option.some.inj H
    have hcz9_0 : wr.cell? ⟨gb220, 0, none⟩ = some (.int .i64 a0_0) := (blk_cell BK220.out 0).trans rfl
    have hcz9_1 : wr.cell? ⟨gb220, 1, none⟩ = some (.slice A0_1 l0_1.length c0_1) := (blk_cell BK220.out 1).trans rfl
    have hfz9_0 := blk_frozen BK220.out 0
    have hfz9_1 := blk_frozen BK220.out 1
    go_wp2
    go_ret
    exact ⟨Gv.rt, Gv.bw⟩

   rw [if_pos c3] at H
   have c3b0 : decide (x4_1 < (l0_1.length : Int)) = true := decide_eq_true c3
   clear c3
   by_cases c4 : 0 ≤ x4_1
   rotate_left
   ·rw [if_neg c4] at H
    exact absurd H (by simp)
   rw [if_pos c4] at H
   have c4b0 : decide (0 ≤ x4_1) = true := decide_eq_true c4
   clear c4
   obtain ⟨bq5, hbq5⟩ : ∃ b_ : Bool, b_ = ((rd_T75 l0_1 x4_1).f0) := ⟨_, rfl⟩
   replace H : (if bq5 = true then (spec_l11Count.l0 k1 (wrap64 (x3_1 + 1)) (wrap64 (x4_1 + 1)) a0_0 l0_1) else (spec_l11Count.l0 k1 x3_1 (wrap64 (x4_1 + 1)) a0_0 l0_1)) = some r := by rw [← hbq5] at H; exact H
   have Nbq5 := Gv.a0 hbq5
   clear hbq5
   by_cases c6 : bq5 = true
   ·subst c6
    rw [if_pos rfl] at H
    (try dsimp only at H)
    have H' := Gv.a0 H
    clear H
    have hcz7_0 : wr.cell? ⟨gb220, 0, none⟩ = some (.int .i64 a0_0) := (blk_cell BK220.out 0).trans rfl
    have hcz7_1 : wr.cell? ⟨gb220, 1, none⟩ = some (.slice A0_1 l0_1.length c0_1) := (blk_cell BK220.out 1).trans rfl
    have hfz7_0 := blk_frozen BK220.out 0
    have hfz7_1 := blk_frozen BK220.out 1
    have p221 : 0 ≤ (x4_1 : Int) := of_decide_eq_true (by first | (with_reducible assumption) | assumption)
    have q221 : x4_1 < (l0_1.length : Int) := of_decide_eq_true (by first | (with_reducible assumption) | assumption)
    obtain ⟨ad221, e221, hx221_0, _, _, _, _, _, _, _, _, _, _, _, _, _, _, _⟩ := at_T75 HR0_1.out x4_1 p221 q221
    (try rw [← Nbq5.out] at hx221_0)
    cases e221
    replace hx221_0 := Gv.bx HB.out hx221_0
    replace p221 := eq_true p221
    replace q221 := eq_true q221
    go_wp2
    go_roundg k1
    case measure => have := HK1.out; omega
    case rel => exact ⟨(wrap64 (x3_1 + 1)), (wrap64 (x4_1 + 1)), Gv.rq, Gv.rq, H', ⟨by have := HK1.out; omega⟩, ⟨by (with_reducible repeat (first | refine blk_drewN ?_ _ | refine blk_drew ?_ | refine blk_alloc ?_ _)); exact BK220.out⟩, ⟨Gv.bw⟩⟩
   ·replace c6 := Bool.eq_false_iff.mpr c6
    subst c6
    rw [if_neg (show ¬ (false = true) by decide)] at H
    (try dsimp only at H)
    have H' := Gv.a0 H
    clear H
    have hcz8_0 : wr.cell? ⟨gb220, 0, none⟩ = some (.int .i64 a0_0) := (blk_cell BK220.out 0).trans rfl
    have hcz8_1 : wr.cell? ⟨gb220, 1, none⟩ = some (.slice A0_1 l0_1.length c0_1) := (blk_cell BK220.out 1).trans rfl
    have hfz8_0 := blk_frozen BK220.out 0
    have hfz8_1 := blk_frozen BK220.out 1
    have p221 : 0 ≤ (x4_1 : Int) := of_decide_eq_true (by first | (with_reducible assumption) | assumption)
    have q221 : x4_1 < (l0_1.length : Int) := of_decide_eq_true (by first | (with_reducible assumption) | assumption)
    obtain ⟨ad221, e221, hx221_0, _, _, _, _, _, _, _, _, _, _, _, _, _, _, _⟩ := at_T75 HR0_1.out x4_1 p221 q221
    (try rw [← Nbq5.out] at hx221_0)
    cases e221
    replace hx221_0 := Gv.bx HB.out hx221_0
    replace p221 := eq_true p221
    replace q221 := eq_true q221
    go_wp2
    go_roundg k1
    case measure => have := HK1.out; omega
    case rel => exact ⟨(x3_1), (wrap64 (x4_1 + 1)), Gv.rq, Gv.rq, H', ⟨by have := HK1.out; omega⟩, ⟨by (with_reducible repeat (first | refine blk_drewN ?_ _ | refine blk_drew ?_ | refine blk_alloc ?_ _)); exact BK220.out⟩, ⟨Gv.bw⟩⟩
/-! ### spec_l11Place: function 54 -/
def spec_l11Place.l0 : Nat → Int → Int → List (S75) → Int → Int → Int → Int → Int → Int → Int → Int → Int → Int → Int → Int → Int → Int → Option (Int)
 | 0, _, _, _, _, _, _, _, _, _, _, _, _, _, _, _, _, _ => none
 | k + 1, x5, x223000, x223001, x224000, x224001, x224002, x224003, x224004, x224005, x224006, x224007, x224008, x224009, x224010, x224011, x224012, x224013 => if x5 < (x223001.length : Int) then (if 0 ≤ x5 then (if (rd_T75 x223001 x5).f0 = true then (if (((rd_T75 x223001 x5).f1.f0) == x224000 && (((((rd_T75 x223001 x5).f1.f1.f0.f0) == x224001 && (((rd_T75 x223001 x5).f1.f1.f0.f1) == x224002 && (((rd_T75 x223001 x5).f1.f1.f0.f2) == x224003 && (((rd_T75 x223001 x5).f1.f1.f0.f3) == x224004 && (((rd_T75 x223001 x5).f1.f1.f0.f4) == x224005))))) && ((((rd_T75 x223001 x5).f1.f1.f1.f0) == x224006 && (((rd_T75 x223001 x5).f1.f1.f1.f1) == x224007 && (((rd_T75 x223001 x5).f1.f1.f1.f2) == x224008 && (((rd_T75 x223001 x5).f1.f1.f1.f3) == x224009 && (((rd_T75 x223001 x5).f1.f1.f1.f4) == x224010))))) && (((rd_T75 x223001 x5).f1.f1.f2) == x224011 && (((rd_T75 x223001 x5).f1.f1.f3) == x224012 && (((rd_T75 x223001 x5).f1.f1.f4) == x224013))))))) = true then (some x5) else (spec_l11Place.l0 k (wrap64 (x5 + 1)) x223000 x223001 x224000 x224001 x224002 x224003 x224004 x224005 x224006 x224007 x224008 x224009 x224010 x224011 x224012 x224013)) else (spec_l11Place.l0 k (wrap64 (x5 + 1)) x223000 x223001 x224000 x224001 x224002 x224003 x224004 x224005 x224006 x224007 x224008 x224009 x224010 x224011 x224012 x224013)) else (none)) else (some (-1))
def spec_l11Place.f (k : Nat) (a0_0 : Int) (l0_1 : List (S75)) (a1_0 : Int) (a1_1 : Int) (a1_2 : Int) (a1_3 : Int) (a1_4 : Int) (a1_5 : Int) (a1_6 : Int) (a1_7 : Int) (a1_8 : Int) (a1_9 : Int) (a1_10 : Int) (a1_11 : Int) (a1_12 : Int) (a1_13 : Int) : Option (Int) := spec_l11Place.l0 k 0 a0_0 l0_1 a1_0 a1_1 a1_2 a1_3 a1_4 a1_5 a1_6 a1_7 a1_8 a1_9 a1_10 a1_11 a1_12 a1_13
set_option maxHeartbeats 8000000 in
set_option maxRecDepth 100000 in
theorem spec_l11Place.calls (k : Nat) (a0_0 : Int) (A0_1 : Option Addr) (c0_1 : Nat) (l0_1 : List (S75)) (a1_0 : Int) (a1_1 : Int) (a1_2 : Int) (a1_3 : Int) (a1_4 : Int) (a1_5 : Int) (a1_6 : Int) (a1_7 : Int) (a1_8 : Int) (a1_9 : Int) (a1_10 : Int) (a1_11 : Int) (a1_12 : Int) (a1_13 : Int) (r : Int) (w : World) (hr0_1 : Kd.C k75 w A0_1 l0_1.length l0_1) (hc0_1 : l0_1.length ≤ c0_1) (h : spec_l11Place.f k a0_0 l0_1 a1_0 a1_1 a1_2 a1_3 a1_4 a1_5 a1_6 a1_7 a1_8 a1_9 a1_10 a1_11 a1_12 a1_13 = some r) :
  Calls Try.prog 54 #[.agg #[.int .i64 a0_0, .slice A0_1 l0_1.length c0_1], .agg #[.int .i64 a1_0, .int .i64 a1_1, .int .i64 a1_2, .int .i64 a1_3, .int .i64 a1_4, .int .i64 a1_5, .int .i64 a1_6, .int .i64 a1_7, .int .i64 a1_8, .int .i64 a1_9, .int .i64 a1_10, .int .i64 a1_11, .int .i64 a1_12, .int .i64 a1_13]] w fun e w' => e = .returned (.int .i64 r) ∧ Below w.heap.size w w' := by
 have hu40 := Try.underlying40
 have hu33 := Try.underlying33
 have HR0_1 := Gv.a0 hr0_1
 have HC0_1 := Gv.a0 hc0_1
 clear hr0_1 hc0_1
 have HB := Gv.a0 (Below.refl w.heap.size w)
 have H : (spec_l11Place.l0 k 0 a0_0 l0_1 a1_0 a1_1 a1_2 a1_3 a1_4 a1_5 a1_6 a1_7 a1_8 a1_9 a1_10 a1_11 a1_12 a1_13) = some r := h
 clear h
 have H' := Gv.a0 H
 clear H
 go_enter Try.func54, Try.ntmps54
 go_wp2_with (first | ((with_reducible refine gate_dst (N := 2) rfl ?_); refine Gv.bev 2 40 #[.int .i64 a0_0, .slice A0_1 l0_1.length c0_1] ?_; intro gb222 hg w3 hbox hb; have BK222 := Gv.a0 (hbox); have GW222 := Gv.a0 ((Gv.ble hg Gv.bw : w.heap.size ≤ gb222)); have GE222 := Gv.a0 ((Gv.ble hg Gv.bw : w.heap.size ≤ gb222)); replace HB := Gv.a0 (below_step Gv.bw hb); clear hb hbox hg) | ((with_reducible refine gate_dst (N := 3) rfl ?_); refine Gv.bev 3 33 #[.int .i64 a1_0, .int .i64 a1_1, .int .i64 a1_2, .int .i64 a1_3, .int .i64 a1_4, .int .i64 a1_5, .int .i64 a1_6, .int .i64 a1_7, .int .i64 a1_8, .int .i64 a1_9, .int .i64 a1_10, .int .i64 a1_11, .int .i64 a1_12, .int .i64 a1_13] ?_; intro gb223 hg w4 hbox hb; have BK223 := Gv.a0 (hbox); have GW223 := Gv.a0 ((Gv.ble hg Gv.bw : w.heap.size ≤ gb223)); have GE223 := Gv.a0 ((Gv.ble hg Gv.bw : w.heap.size ≤ gb223)); replace HB := Gv.a0 (below_step Gv.bw hb); have NB222_223 := Gv.a0 ((Gv.nlt hg (Gv.kb BK222.out) : gb222 ≠ gb223)); have NB223_222 := Gv.a0 ((Gv.ngt hg (Gv.kb BK222.out) : gb223 ≠ gb222)); replace BK222 := Gv.b1 BK222 hb; clear hb hbox hg))
 repeat (go_quiet (first | ((with_reducible refine gate_dst (N := 2) rfl ?_); refine Gv.bev 2 40 #[.int .i64 a0_0, .slice A0_1 l0_1.length c0_1] ?_; intro gb222 hg w3 hbox hb; have BK222 := Gv.a0 (hbox); have GW222 := Gv.a0 ((Gv.ble hg Gv.bw : w.heap.size ≤ gb222)); have GE222 := Gv.a0 ((Gv.ble hg Gv.bw : w.heap.size ≤ gb222)); replace HB := Gv.a0 (below_step Gv.bw hb); clear hb hbox hg) | ((with_reducible refine gate_dst (N := 3) rfl ?_); refine Gv.bev 3 33 #[.int .i64 a1_0, .int .i64 a1_1, .int .i64 a1_2, .int .i64 a1_3, .int .i64 a1_4, .int .i64 a1_5, .int .i64 a1_6, .int .i64 a1_7, .int .i64 a1_8, .int .i64 a1_9, .int .i64 a1_10, .int .i64 a1_11, .int .i64 a1_12, .int .i64 a1_13] ?_; intro gb223 hg w4 hbox hb; have BK223 := Gv.a0 (hbox); have GW223 := Gv.a0 ((Gv.ble hg Gv.bw : w.heap.size ≤ gb223)); have GE223 := Gv.a0 ((Gv.ble hg Gv.bw : w.heap.size ≤ gb223)); replace HB := Gv.a0 (below_step Gv.bw hb); have NB222_223 := Gv.a0 ((Gv.nlt hg (Gv.kb BK222.out) : gb222 ≠ gb223)); have NB223_222 := Gv.a0 ((Gv.ngt hg (Gv.kb BK222.out) : gb223 ≠ gb222)); replace BK222 := Gv.b1 BK222 hb; clear hb hbox hg)); try go_wp2_with (first | ((with_reducible refine gate_dst (N := 2) rfl ?_); refine Gv.bev 2 40 #[.int .i64 a0_0, .slice A0_1 l0_1.length c0_1] ?_; intro gb222 hg w3 hbox hb; have BK222 := Gv.a0 (hbox); have GW222 := Gv.a0 ((Gv.ble hg Gv.bw : w.heap.size ≤ gb222)); have GE222 := Gv.a0 ((Gv.ble hg Gv.bw : w.heap.size ≤ gb222)); replace HB := Gv.a0 (below_step Gv.bw hb); clear hb hbox hg) | ((with_reducible refine gate_dst (N := 3) rfl ?_); refine Gv.bev 3 33 #[.int .i64 a1_0, .int .i64 a1_1, .int .i64 a1_2, .int .i64 a1_3, .int .i64 a1_4, .int .i64 a1_5, .int .i64 a1_6, .int .i64 a1_7, .int .i64 a1_8, .int .i64 a1_9, .int .i64 a1_10, .int .i64 a1_11, .int .i64 a1_12, .int .i64 a1_13] ?_; intro gb223 hg w4 hbox hb; have BK223 := Gv.a0 (hbox); have GW223 := Gv.a0 ((Gv.ble hg Gv.bw : w.heap.size ≤ gb223)); have GE223 := Gv.a0 ((Gv.ble hg Gv.bw : w.heap.size ≤ gb223)); replace HB := Gv.a0 (below_step Gv.bw hb); have NB222_223 := Gv.a0 ((Gv.nlt hg (Gv.kb BK222.out) : gb222 ≠ gb223)); have NB223_222 := Gv.a0 ((Gv.ngt hg (Gv.kb BK222.out) : gb223 ≠ gb222)); replace BK222 := Gv.b1 BK222 hb; clear hb hbox hg)))
 go_loopg [5] k (fun kq v5 w' => ∃ (x5_1 : Int), v5 = .int .i64 x5_1 ∧ Aside0 (spec_l11Place.l0 kq x5_1 a0_0 l0_1 a1_0 a1_1 a1_2 a1_3 a1_4 a1_5 a1_6 a1_7 a1_8 a1_9 a1_10 a1_11 a1_12 a1_13 = some r) ∧ Aside0 (kq ≤ k) ∧ Aside0 (w'.heap[gb222]? = some (.cells #[.int .i64 a0_0, (.slice A0_1 l0_1.length c0_1)] 40 (0, 0))) ∧ Aside0 (w'.heap[gb223]? = some (.cells #[.int .i64 a1_0, .int .i64 a1_1, .int .i64 a1_2, .int .i64 a1_3, .int .i64 a1_4, .int .i64 a1_5, .int .i64 a1_6, .int .i64 a1_7, .int .i64 a1_8, .int .i64 a1_9, .int .i64 a1_10, .int .i64 a1_11, .int .i64 a1_12, .int .i64 a1_13] 33 (0, 0))) ∧ Aside0 (Below w.heap.size w w'))
 case atStart => exact ⟨(0), Gv.rq, H', ⟨Nat.le_refl _⟩, ⟨by (with_reducible repeat (first | refine blk_drewN ?_ _ | refine blk_drew ?_ | refine blk_alloc ?_ _)); exact BK222.out⟩, ⟨by (with_reducible repeat (first | refine blk_drewN ?_ _ | refine blk_drew ?_ | refine blk_alloc ?_ _)); exact BK223.out⟩, ⟨Gv.bw⟩⟩
 case round =>
  clear H'
  try clear p2
  obtain ⟨x5_1, rfl, HA, HK1, BK222, BK223, HB⟩ := hrel
  cases gk with
  | zero => exact absurd HA.out (by simp [spec_l11Place.l0])
  | succ k1 =>
   have H := HA.out
   clear HA
   simp only [spec_l11Place.l0] at H
   by_cases c5 : x5_1 < (l0_1.length : Int)
   ·rw [if_pos c5] at H
    have c5b0 : decide (x5_1 < (l0_1.length : Int)) = true := decide_eq_true c5
    clear c5
    by_cases c6 : 0 ≤ x5_1
    rotate_left
    ·rw [if_neg c6] at H
     exact absurd H (by simp)
    rw [if_pos c6] at H
    have c6b0 : decide (0 ≤ x5_1) = true := decide_eq_true c6
    clear c6
    obtain ⟨bq7, hbq7⟩ : ∃ b_ : Bool, b_ = ((rd_T75 l0_1 x5_1).f0) := ⟨_, rfl⟩
    replace H : (if bq7 = true then (if (((rd_T75 l0_1 x5_1).f1.f0) == a1_0 && (((((rd_T75 l0_1 x5_1).f1.f1.f0.f0) == a1_1 && (((rd_T75 l0_1 x5_1).f1.f1.f0.f1) == a1_2 && (((rd_T75 l0_1 x5_1).f1.f1.f0.f2) == a1_3 && (((rd_T75 l0_1 x5_1).f1.f1.f0.f3) == a1_4 && (((rd_T75 l0_1 x5_1).f1.f1.f0.f4) == a1_5))))) && ((((rd_T75 l0_1 x5_1).f1.f1.f1.f0) == a1_6 && (((rd_T75 l0_1 x5_1).f1.f1.f1.f1) == a1_7 && (((rd_T75 l0_1 x5_1).f1.f1.f1.f2) == a1_8 && (((rd_T75 l0_1 x5_1).f1.f1.f1.f3) == a1_9 && (((rd_T75 l0_1 x5_1).f1.f1.f1.f4) == a1_10))))) && (((rd_T75 l0_1 x5_1).f1.f1.f2) == a1_11 && (((rd_T75 l0_1 x5_1).f1.f1.f3) == a1_12 && (((rd_T75 l0_1 x5_1).f1.f1.f4) == a1_13))))))) = true then (some x5_1) else (spec_l11Place.l0 k1 (wrap64 (x5_1 + 1)) a0_0 l0_1 a1_0 a1_1 a1_2 a1_3 a1_4 a1_5 a1_6 a1_7 a1_8 a1_9 a1_10 a1_11 a1_12 a1_13)) else (spec_l11Place.l0 k1 (wrap64 (x5_1 + 1)) a0_0 l0_1 a1_0 a1_1 a1_2 a1_3 a1_4 a1_5 a1_6 a1_7 a1_8 a1_9 a1_10 a1_11 a1_12 a1_13)) = some r := by rw [← hbq7] at H; exact H
    have Nbq7 := Gv.a0 hbq7
    clear hbq7
    by_cases c8 : bq7 = true
    ·subst c8
     rw [if_pos rfl] at H
     (try simp only [Bool.false_or, Bool.true_and] at H)
     by_cases c9 : (((rd_T75 l0_1 x5_1).f1.f0) == a1_0 && (((((rd_T75 l0_1 x5_1).f1.f1.f0.f0) == a1_1 && (((rd_T75 l0_1 x5_1).f1.f1.f0.f1) == a1_2 && (((rd_T75 l0_1 x5_1).f1.f1.f0.f2) == a1_3 && (((rd_T75 l0_1 x5_1).f1.f1.f0.f3) == a1_4 && (((rd_T75 l0_1 x5_1).f1.f1.f0.f4) == a1_5))))) && ((((rd_T75 l0_1 x5_1).f1.f1.f1.f0) == a1_6 && (((rd_T75 l0_1 x5_1).f1.f1.f1.f1) == a1_7 && (((rd_T75 l0_1 x5_1).f1.f1.f1.f2) == a1_8 && (((rd_T75 l0_1 x5_1).f1.f1.f1.f3) == a1_9 && (((rd_T75 l0_1 x5_1).f1.f1.f1.f4) == a1_10))))) && (((rd_T75 l0_1 x5_1).f1.f1.f2) == a1_11 && (((rd_T75 l0_1 x5_1).f1.f1.f3) == a1_12 && (((rd_T75 l0_1 x5_1).f1.f1.f4) == a1_13))))))) = true
     ·rw [if_pos c9] at H
      have c9b0 : (((rd_T75 l0_1 x5_1).f1.f0) == a1_0 && (((((rd_T75 l0_1 x5_1).f1.f1.f0.f0) == a1_1 && (((rd_T75 l0_1 x5_1).f1.f1.f0.f1) == a1_2 && (((rd_T75 l0_1 x5_1).f1.f1.f0.f2) == a1_3 && (((rd_T75 l0_1 x5_1).f1.f1.f0.f3) == a1_4 && (((rd_T75 l0_1 x5_1).f1.f1.f0.f4) == a1_5))))) && ((((rd_T75 l0_1 x5_1).f1.f1.f1.f0) == a1_6 && (((rd_T75 l0_1 x5_1).f1.f1.f1.f1) == a1_7 && (((rd_T75 l0_1 x5_1).f1.f1.f1.f2) == a1_8 && (((rd_T75 l0_1 x5_1).f1.f1.f1.f3) == a1_9 && (((rd_T75 l0_1 x5_1).f1.f1.f1.f4) == a1_10))))) && (((rd_T75 l0_1 x5_1).f1.f1.f2) == a1_11 && (((rd_T75 l0_1 x5_1).f1.f1.f3) == a1_12 && (((rd_T75 l0_1 x5_1).f1.f1.f4) == a1_13))))))) = true := c9
      (try (have c9b1 : decide (((rd_T75 l0_1 x5_1).f1.f0) = a1_0 && (((((rd_T75 l0_1 x5_1).f1.f1.f0.f0) == a1_1 && (((rd_T75 l0_1 x5_1).f1.f1.f0.f1) == a1_2 && (((rd_T75 l0_1 x5_1).f1.f1.f0.f2) == a1_3 && (((rd_T75 l0_1 x5_1).f1.f1.f0.f3) == a1_4 && (((rd_T75 l0_1 x5_1).f1.f1.f0.f4) == a1_5))))) && ((((rd_T75 l0_1 x5_1).f1.f1.f1.f0) == a1_6 && (((rd_T75 l0_1 x5_1).f1.f1.f1.f1) == a1_7 && (((rd_T75 l0_1 x5_1).f1.f1.f1.f2) == a1_8 && (((rd_T75 l0_1 x5_1).f1.f1.f1.f3) == a1_9 && (((rd_T75 l0_1 x5_1).f1.f1.f1.f4) == a1_10))))) && (((rd_T75 l0_1 x5_1).f1.f1.f2) == a1_11 && (((rd_T75 l0_1 x5_1).f1.f1.f3) == a1_12 && (((rd_T75 l0_1 x5_1).f1.f1.f4) == a1_13))))))) = true := by simpa using c9))
      (try (have c9b2 : (((rd_T75 l0_1 x5_1).f1.f0) == a1_0 && (((((rd_T75 l0_1 x5_1).f1.f1.f0.f0) == a1_1 && (((rd_T75 l0_1 x5_1).f1.f1.f0.f1) == a1_2 && (((rd_T75 l0_1 x5_1).f1.f1.f0.f2) == a1_3 && (((rd_T75 l0_1 x5_1).f1.f1.f0.f3) == a1_4 && (((rd_T75 l0_1 x5_1).f1.f1.f0.f4) == a1_5))))) && ((((rd_T75 l0_1 x5_1).f1.f1.f1.f0) == a1_6 && (((rd_T75 l0_1 x5_1).f1.f1.f1.f1) == a1_7 && (((rd_T75 l0_1 x5_1).f1.f1.f1.f2) == a1_8 && (((rd_T75 l0_1 x5_1).f1.f1.f1.f3) == a1_9 && (((rd_T75 l0_1 x5_1).f1.f1.f1.f4) == a1_10))))) && (((rd_T75 l0_1 x5_1).f1.f1.f2) == a1_11 && (((rd_T75 l0_1 x5_1).f1.f1.f3) == a1_12 && (((rd_T75 l0_1 x5_1).f1.f1.f4) == a1_13))))))) = true := by simpa using c9))
      clear c9
      obtain rfl := Option.some.inj H
      have hnb10 := NB222_223.out
      have hnc10 := NB223_222.out
      have hcz11_0 : wr.cell? ⟨gb222, 0, none⟩ = some (.int .i64 a0_0) := (blk_cell BK222.out 0).trans rfl
      have hcz11_1 : wr.cell? ⟨gb222, 1, none⟩ = some (.slice A0_1 l0_1.length c0_1) := (blk_cell BK222.out 1).trans rfl
      have hfz11_0 := blk_frozen BK222.out 0
      have hfz11_1 := blk_frozen BK222.out 1
      have p224 : 0 ≤ (x5_1 : Int) := of_decide_eq_true (by first | (with_reducible assumption) | assumption)
      have q224 : x5_1 < (l0_1.length : Int) := of_decide_eq_true (by first | (with_reducible assumption) | assumption)
      obtain ⟨ad224, e224, hx224_0, _, _, _, _, _, _, _, _, _, _, _, _, _, _, _⟩ := at_T75 HR0_1.out x5_1 p224 q224
      (try rw [← Nbq7.out] at hx224_0)
      cases e224
      replace hx224_0 := Gv.bx HB.out hx224_0
      replace p224 := eq_true p224
      replace q224 := eq_true q224
      have p225 : 0 ≤ (x5_1 : Int) := of_decide_eq_true (by first | (with_reducible assumption) | assumption)
      have q225 : x5_1 < (l0_1.length : Int) := of_decide_eq_true (by first | (with_reducible assumption) | assumption)
      obtain ⟨ad225, e225, hx225_0, hx225_1, hx225_2, hx225_3, hx225_4, hx225_5, hx225_6, hx225_7, hx225_8, hx225_9, hx225_10, hx225_11, hx225_12, hx225_13, hx225_14, _⟩ := at_T75 HR0_1.out x5_1 p225 q225
      (try rw [← Nbq7.out] at hx225_0)
      obtain rfl : ad224 = ad225 := (by injection e225)
      replace hx225_0 := Gv.bx HB.out hx225_0
      replace hx225_1 := Gv.bx HB.out hx225_1
      replace hx225_2 := Gv.bx HB.out hx225_2
      replace hx225_3 := Gv.bx HB.out hx225_3
      replace hx225_4 := Gv.bx HB.out hx225_4
      replace hx225_5 := Gv.bx HB.out hx225_5
      replace hx225_6 := Gv.bx HB.out hx225_6
      replace hx225_7 := Gv.bx HB.out hx225_7
      replace hx225_8 := Gv.bx HB.out hx225_8
      replace hx225_9 := Gv.bx HB.out hx225_9
      replace hx225_10 := Gv.bx HB.out hx225_10
      replace hx225_11 := Gv.bx HB.out hx225_11
      replace hx225_12 := Gv.bx HB.out hx225_12
      replace hx225_13 := Gv.bx HB.out hx225_13
      replace hx225_14 := Gv.bx HB.out hx225_14
      replace p225 := eq_true p225
      replace q225 := eq_true q225
      obtain ⟨hcz12_0, hcz12_1, hcz12_2, hcz12_3, hcz12_4, hcz12_5, hcz12_6, hcz12_7, hcz12_8, hcz12_9, hcz12_10, hcz12_11, hcz12_12, hcz12_13⟩ := Gv.c14 BK223.out
      obtain ⟨hfz12_0, hfz12_1, hfz12_2, hfz12_3, hfz12_4, hfz12_5, hfz12_6, hfz12_7, hfz12_8, hfz12_9, hfz12_10, hfz12_11, hfz12_12, hfz12_13⟩ := Gv.f14 BK223.out
      go_wp2
      repeat (go_quiet (fail); try go_wp2)
      go_ret
      exact ⟨Gv.rt, Gv.bw⟩
     ·rw [if_neg c9] at H
      have c9b0 : (((rd_T75 l0_1 x5_1).f1.f0) == a1_0 && (((((rd_T75 l0_1 x5_1).f1.f1.f0.f0) == a1_1 && (((rd_T75 l0_1 x5_1).f1.f1.f0.f1) == a1_2 && (((rd_T75 l0_1 x5_1).f1.f1.f0.f2) == a1_3 && (((rd_T75 l0_1 x5_1).f1.f1.f0.f3) == a1_4 && (((rd_T75 l0_1 x5_1).f1.f1.f0.f4) == a1_5))))) && ((((rd_T75 l0_1 x5_1).f1.f1.f1.f0) == a1_6 && (((rd_T75 l0_1 x5_1).f1.f1.f1.f1) == a1_7 && (((rd_T75 l0_1 x5_1).f1.f1.f1.f2) == a1_8 && (((rd_T75 l0_1 x5_1).f1.f1.f1.f3) == a1_9 && (((rd_T75 l0_1 x5_1).f1.f1.f1.f4) == a1_10))))) && (((rd_T75 l0_1 x5_1).f1.f1.f2) == a1_11 && (((rd_T75 l0_1 x5_1).f1.f1.f3) == a1_12 && (((rd_T75 l0_1 x5_1).f1.f1.f4) == a1_13))))))) = false := by simpa using c9
      (try (have c9b1 : decide (((rd_T75 l0_1 x5_1).f1.f0) = a1_0 && (((((rd_T75 l0_1 x5_1).f1.f1.f0.f0) == a1_1 && (((rd_T75 l0_1 x5_1).f1.f1.f0.f1) == a1_2 && (((rd_T75 l0_1 x5_1).f1.f1.f0.f2) == a1_3 && (((rd_T75 l0_1 x5_1).f1.f1.f0.f3) == a1_4 && (((rd_T75 l0_1 x5_1).f1.f1.f0.f4) == a1_5))))) && ((((rd_T75 l0_1 x5_1).f1.f1.f1.f0) == a1_6 && (((rd_T75 l0_1 x5_1).f1.f1.f1.f1) == a1_7 && (((rd_T75 l0_1 x5_1).f1.f1.f1.f2) == a1_8 && (((rd_T75 l0_1 x5_1).f1.f1.f1.f3) == a1_9 && (((rd_T75 l0_1 x5_1).f1.f1.f1.f4) == a1_10))))) && (((rd_T75 l0_1 x5_1).f1.f1.f2) == a1_11 && (((rd_T75 l0_1 x5_1).f1.f1.f3) == a1_12 && (((rd_T75 l0_1 x5_1).f1.f1.f4) == a1_13))))))) = false := by simpa using c9))
      (try (have c9b2 : (((rd_T75 l0_1 x5_1).f1.f0) == a1_0 && (((((rd_T75 l0_1 x5_1).f1.f1.f0.f0) == a1_1 && (((rd_T75 l0_1 x5_1).f1.f1.f0.f1) == a1_2 && (((rd_T75 l0_1 x5_1).f1.f1.f0.f2) == a1_3 && (((rd_T75 l0_1 x5_1).f1.f1.f0.f3) == a1_4 && (((rd_T75 l0_1 x5_1).f1.f1.f0.f4) == a1_5))))) && ((((rd_T75 l0_1 x5_1).f1.f1.f1.f0) == a1_6 && (((rd_T75 l0_1 x5_1).f1.f1.f1.f1) == a1_7 && (((rd_T75 l0_1 x5_1).f1.f1.f1.f2) == a1_8 && (((rd_T75 l0_1 x5_1).f1.f1.f1.f3) == a1_9 && (((rd_T75 l0_1 x5_1).f1.f1.f1.f4) == a1_10))))) && (((rd_T75 l0_1 x5_1).f1.f1.f2) == a1_11 && (((rd_T75 l0_1 x5_1).f1.f1.f3) == a1_12 && (((rd_T75 l0_1 x5_1).f1.f1.f4) == a1_13))))))) = false := by simpa using c9))
      (try (have c9b3 : ¬ (((rd_T75 l0_1 x5_1).f1.f0) = a1_0 && (((((rd_T75 l0_1 x5_1).f1.f1.f0.f0) == a1_1 && (((rd_T75 l0_1 x5_1).f1.f1.f0.f1) == a1_2 && (((rd_T75 l0_1 x5_1).f1.f1.f0.f2) == a1_3 && (((rd_T75 l0_1 x5_1).f1.f1.f0.f3) == a1_4 && (((rd_T75 l0_1 x5_1).f1.f1.f0.f4) == a1_5))))) && ((((rd_T75 l0_1 x5_1).f1.f1.f1.f0) == a1_6 && (((rd_T75 l0_1 x5_1).f1.f1.f1.f1) == a1_7 && (((rd_T75 l0_1 x5_1).f1.f1.f1.f2) == a1_8 && (((rd_T75 l0_1 x5_1).f1.f1.f1.f3) == a1_9 && (((rd_T75 l0_1 x5_1).f1.f1.f1.f4) == a1_10))))) && (((rd_T75 l0_1 x5_1).f1.f1.f2) == a1_11 && (((rd_T75 l0_1 x5_1).f1.f1.f3) == a1_12 && (((rd_T75 l0_1 x5_1).f1.f1.f4) == a1_13))))))) := by simpa using c9))
      clear c9
      have H' := Gv.a0 H
      clear H
      have hnb13 := NB222_223.out
      have hnc13 := NB223_222.out
      have hcz14_0 : wr.cell? ⟨gb222, 0, none⟩ = some (.int .i64 a0_0) := (blk_cell BK222.out 0).trans rfl
      have hcz14_1 : wr.cell? ⟨gb222, 1, none⟩ = some (.slice A0_1 l0_1.length c0_1) := (blk_cell BK222.out 1).trans rfl
      have hfz14_0 := blk_frozen BK222.out 0
      have hfz14_1 := blk_frozen BK222.out 1
      have p224 : 0 ≤ (x5_1 : Int) := of_decide_eq_true (by first | (with_reducible assumption) | assumption)
      have q224 : x5_1 < (l0_1.length : Int) := of_decide_eq_true (by first | (with_reducible assumption) | assumption)
      obtain ⟨ad224, e224, hx224_0, _, _, _, _, _, _, _, _, _, _, _, _, _, _, _⟩ := at_T75 HR0_1.out x5_1 p224 q224
      (try rw [← Nbq7.out] at hx224_0)
      cases e224
      replace hx224_0 := Gv.bx HB.out hx224_0
      replace p224 := eq_true p224
      replace q224 := eq_true q224
      have p225 : 0 ≤ (x5_1 : Int) := of_decide_eq_true (by first | (with_reducible assumption) | assumption)
      have q225 : x5_1 < (l0_1.length : Int) := of_decide_eq_true (by first | (with_reducible assumption) | assumption)
      obtain ⟨ad225, e225, hx225_0, hx225_1, hx225_2, hx225_3, hx225_4, hx225_5, hx225_6, hx225_7, hx225_8, hx225_9, hx225_10, hx225_11, hx225_12, hx225_13, hx225_14, _⟩ := at_T75 HR0_1.out x5_1 p225 q225
      (try rw [← Nbq7.out] at hx225_0)
      obtain rfl : ad224 = ad225 := (by injection e225)
      replace hx225_0 := Gv.bx HB.out hx225_0
      replace hx225_1 := Gv.bx HB.out hx225_1
      replace hx225_2 := Gv.bx HB.out hx225_2
      replace hx225_3 := Gv.bx HB.out hx225_3
      replace hx225_4 := Gv.bx HB.out hx225_4
      replace hx225_5 := Gv.bx HB.out hx225_5
      replace hx225_6 := Gv.bx HB.out hx225_6
      replace hx225_7 := Gv.bx HB.out hx225_7
      replace hx225_8 := Gv.bx HB.out hx225_8
      replace hx225_9 := Gv.bx HB.out hx225_9
      replace hx225_10 := Gv.bx HB.out hx225_10
      replace hx225_11 := Gv.bx HB.out hx225_11
      replace hx225_12 := Gv.bx HB.out hx225_12
      replace hx225_13 := Gv.bx HB.out hx225_13
      replace hx225_14 := Gv.bx HB.out hx225_14
      replace p225 := eq_true p225
      replace q225 := eq_true q225
      obtain ⟨hcz15_0, hcz15_1, hcz15_2, hcz15_3, hcz15_4, hcz15_5, hcz15_6, hcz15_7, hcz15_8, hcz15_9, hcz15_10, hcz15_11, hcz15_12, hcz15_13⟩ := Gv.c14 BK223.out
      obtain ⟨hfz15_0, hfz15_1, hfz15_2, hfz15_3, hfz15_4, hfz15_5, hfz15_6, hfz15_7, hfz15_8, hfz15_9, hfz15_10, hfz15_11, hfz15_12, hfz15_13⟩ := Gv.f14 BK223.out
      go_wp2
      repeat (go_quiet (fail); try go_wp2)
      go_roundg k1
      case measure => have := HK1.out; omega
      case rel => exact ⟨(wrap64 (x5_1 + 1)), Gv.rq, H', ⟨by have := HK1.out; omega⟩, ⟨by (with_reducible repeat (first | refine blk_drewN ?_ _ | refine blk_drew ?_ | refine blk_alloc ?_ _)); exact BK222.out⟩, ⟨by (with_reducible repeat (first | refine blk_drewN ?_ _ | refine blk_drew ?_ | refine blk_alloc ?_ _)); exact BK223.out⟩, ⟨Gv.bw⟩⟩
    ·replace c8 := Bool.eq_false_iff.mpr c8
     subst c8
     rw [if_neg (show ¬ (false = true) by decide)] at H
     (try dsimp only at H)
     have H' := Gv.a0 H
     clear H
     have hnb16 := NB222_223.out
     have hnc16 := NB223_222.out
     have hcz17_0 : wr.cell? ⟨gb222, 0, none⟩ = some (.int .i64 a0_0) := (blk_cell BK222.out 0).trans rfl
     have hcz17_1 : wr.cell? ⟨gb222, 1, none⟩ = some (.slice A0_1 l0_1.length c0_1) := (blk_cell BK222.out 1).trans rfl
     have hfz17_0 := blk_frozen BK222.out 0
     have hfz17_1 := blk_frozen BK222.out 1
     have p224 : 0 ≤ (x5_1 : Int) := of_decide_eq_true (by first | (with_reducible assumption) | assumption)
     have q224 : x5_1 < (l0_1.length : Int) := of_decide_eq_true (by first | (with_reducible assumption) | assumption)
     obtain ⟨ad224, e224, hx224_0, _, _, _, _, _, _, _, _, _, _, _, _, _, _, _⟩ := at_T75 HR0_1.out x5_1 p224 q224
     (try rw [← Nbq7.out] at hx224_0)
     cases e224
     replace hx224_0 := Gv.bx HB.out hx224_0
     replace p224 := eq_true p224
     replace q224 := eq_true q224
     go_wp2
     repeat (go_quiet (fail); try go_wp2)
     go_roundg k1
     case measure => have := HK1.out; omega
     case rel => exact ⟨(wrap64 (x5_1 + 1)), Gv.rq, H', ⟨by have := HK1.out; omega⟩, ⟨by (with_reducible repeat (first | refine blk_drewN ?_ _ | refine blk_drew ?_ | refine blk_alloc ?_ _)); exact BK222.out⟩, ⟨by (with_reducible repeat (first | refine blk_drewN ?_ _ | refine blk_drew ?_ | refine blk_alloc ?_ _)); exact BK223.out⟩, ⟨Gv.bw⟩⟩
   ·rw [if_neg c5] at H
    have c5b0 : decide (x5_1 < (l0_1.length : Int)) = false := decide_eq_false c5
    clear c5
    obtain rfl := Option.some.inj H
    have hnb18 := NB222_223.out
    have hnc18 := NB223_222.out
    have hcz19_0 : wr.cell? ⟨gb222, 0, none⟩ = some (.int .i64 a0_0) := (blk_cell BK222.out 0).trans rfl
    have hcz19_1 : wr.cell? ⟨gb222, 1, none⟩ = some (.slice A0_1 l0_1.length c0_1) := (blk_cell BK222.out 1).trans rfl
    have hfz19_0 := blk_frozen BK222.out 0
    have hfz19_1 := blk_frozen BK222.out 1
    go_wp2
    repeat (go_quiet (fail); try go_wp2)
    go_ret
    exact ⟨Gv.rt, Gv.bw⟩

/-! ### spec_l01Low: function 84 -/
def spec_l01Low.f (a0 : Int) (a1 : Int) : Option (Int) := if a1 = 0 then (none) else (if (Int.tmod a0 a1) < 0 then (some (wrap64 ((Int.tmod a0 a1) + a1))) else (some (Int.tmod a0 a1)))
set_option maxHeartbeats 8000000 in
set_option maxRecDepth 100000 in
theorem spec_l01Low.calls (a0 : Int) (a1 : Int) (r : Int) (w : World) (h : spec_l01Low.f a0 a1 = some r) :
  Calls Try.prog 84 #[.int .i64 a0, .int .i64 a1] w fun e w' => e = .returned (.int .i64 r) ∧ Drawn0 w w' := by
 have H : (if a1 = 0 then (none) else (if (Int.tmod a0 a1) < 0 then (some (wrap64 ((Int.tmod a0 a1) + a1))) else (some (Int.tmod a0 a1)))) = some r := h
 clear h
 by_cases c3 : a1 = 0
 ·rw [if_pos c3] at H
  exact absurd H (by simp)
 ·rw [if_neg c3] at H
  have c3b0 : (a1 == 0) = false := beq_eq_false_iff_ne.mpr c3
  have c3b1 : (a1 != 0) = true := bne_iff_ne.mpr c3
  by_cases c4 : (Int.tmod a0 a1) < 0
  ·rw [if_pos c4] at H
   have c4b0 : decide ((Int.tmod a0 a1) < 0) = true := decide_eq_true c4
   clear c4
   obtain rfl := Option.some.inj H
   go_enter Try.func84, Try.ntmps84
   go_wp2
   go_ret
   exact ⟨by first | rfl | (simp; done) | (simp [Int.tdiv_eq_ediv_of_nonneg]; done) | (simp [*]; done), by repeat (first | exact Drawn0.refl _ | apply Drawn0.step)⟩
  ·rw [if_neg c4] at H
   have c4b0 : decide ((Int.tmod a0 a1) < 0) = false := decide_eq_false c4
   clear c4
   obtain rfl := Option.some.inj H
   go_enter Try.func84, Try.ntmps84
   go_wp2
   go_ret
   exact ⟨by first | rfl | (simp; done) | (simp [Int.tdiv_eq_ediv_of_nonneg]; done) | (simp [*]; done), by repeat (first | exact Drawn0.refl _ | apply Drawn0.step)⟩

/-! ### spec_Put16: function 72 -/
def spec_Put16.f (a0 : Int) : Option (List Int) := (spec_l01Low.f a0 65536).bind fun t226 => (some (([(wrap64 (Int.tdiv t226 256)) % 256, (Int.tmod t226 256) % 256] : List Int)))
set_option maxHeartbeats 8000000 in
set_option maxRecDepth 100000 in
theorem spec_Put16.calls (a0 : Int) (r : List Int) (w : World) (h : spec_Put16.f a0 = some r) :
  Calls Try.prog 72 #[.int .i64 a0] w fun e w' => ∃ v0_ : Value, e = .returned (v0_) ∧ Kd.R (Kd.int .u8) 5 w' w.heap.size (fun _ => True) v0_ r ∧ Below w.heap.size w w' := by
 have HB := Gv.a0 (Below.refl w.heap.size w)
 have H : ((spec_l01Low.f a0 65536).bind fun t226 => (some (([(wrap64 (Int.tdiv t226 256)) % 256, (Int.tmod t226 256) % 256] : List Int)))) = some r := h
 clear h
 replace H := Option.bind_eq_some_iff.mp H
 obtain ⟨t226, A20, H⟩ := H
 (try dsimp only at H)
 have A2 := Gv.a0 A20
 clear A20
 obtain ⟨y227, hy227⟩ : ∃ y_ : List Int, y_ = (([(wrap64 (Int.tdiv t226 256)) % 256, (Int.tmod t226 256) % 256] : List Int)) := ⟨_, rfl⟩
 replace H : (some y227) = some r := by first | (rw [hy227]; with_reducible exact H) | (have H2_ := (Option.bind_some _ _).symm.trans H; rw [hy227]; with_reducible exact H2_) | (have H2_ := (Option.bind_some _ _).symm.trans H; with_reducible exact H2_) | with_reducible exact H | (rw [hy227]; exact H) | exact H
 have Ny227 := Gv.a0 hy227
 clear hy227
 obtain rfl := Option.some.inj H
 go_enter Try.func72, Try.ntmps72
 go_wp2_with (first | ((with_reducible refine gate_callee (f := 84) rfl ?_); refine goesL_ (some 5) rfl rfl Try.func84 (by kernel_rfl) rfl #[.int .i64 a0, .int .i64 65536] rfl Gv.lm ?_; (with_reducible refine (spec_l01Low.calls a0 65536 t226 _ A2.out).mono ?_); rintro e w' ⟨rfl, ⟨nd, rfl⟩⟩; refine ⟨_, rfl, ?_⟩) | ((with_reducible refine gate_dst (N := 12) rfl ?_); refine Kd.R_lit (Kd.int .u8) _ 5 ?hg (N := 12) ?hd (xs := ([(wrap64 (Int.tdiv t226 256)) % 256, (Int.tmod t226 256) % 256] : List Int)) (inner := [.int .u8 ((wrap64 (Int.tdiv t226 256)) % 256), .int .u8 ((Int.tmod t226 256) % 256)]) (ok := fun _ => True) (okp := fun _ => True) ?hr ?hp (fun _ hk => hk) trivial (Below.refl _ _) (Nat.le_refl _) (by simp) ?_; (case hd => rfl); (case hg => rfl); (case hr => first | (go_simp; done) | (go_simp; rfl)); (case hp => exact (Reps.one (show Kd.M (Kd.int .u8) _ _ _ ((wrap64 (Int.tdiv t226 256)) % 256) [.int .u8 ((wrap64 (Int.tdiv t226 256)) % 256)] from rfl) (Reps.one (show Kd.M (Kd.int .u8) _ _ _ ((Int.tmod t226 256) % 256) [.int .u8 ((Int.tmod t226 256) % 256)] from rfl) (Reps.none _ _)))); intro v228 w3 ho4 hb hg_ hnew_; clear hg_ hnew_; (first | rw [← Ny227.out] at ho4 | (simp only [Int.reduceToNat] at ho4; rw [← Ny227.out] at ho4)); have HO229 := Gv.a0 (Kd.R_lower ho4 (below_size Gv.bw)); replace HB := Gv.a0 (below_step Gv.bw hb); clear hb ho4))
 go_ret
 exact ⟨_, Gv.rt, Gv.kr HO229.out, Gv.bw⟩

/-! ### spec_Put32: function 83 -/
def spec_Put32.f (a0 : Int) : Option (List Int) := (spec_l01Low.f a0 4294967296).bind fun t230 => ((spec_Put16.f (wrap64 (Int.tdiv t230 65536))).bind fun t231 => ((spec_Put16.f (Int.tmod t230 65536)).bind fun t234 => (if t231.length + t234.length < 140737488355328 then (some (t231 ++ t234)) else (none))))
set_option maxHeartbeats 8000000 in
set_option maxRecDepth 100000 in
theorem spec_Put32.calls (a0 : Int) (r : List Int) (w : World) (h : spec_Put32.f a0 = some r) :
  Calls Try.prog 83 #[.int .i64 a0] w fun e w' => ∃ v0_ : Value, e = .returned (v0_) ∧ Kd.R (Kd.int .u8) 5 w' w.heap.size (fun _ => True) v0_ r ∧ Below w.heap.size w w' := by
 have HB := Gv.a0 (Below.refl w.heap.size w)
 have H : ((spec_l01Low.f a0 4294967296).bind fun t230 => ((spec_Put16.f (wrap64 (Int.tdiv t230 65536))).bind fun t231 => ((spec_Put16.f (Int.tmod t230 65536)).bind fun t234 => (if t231.length + t234.length < 140737488355328 then (some (t231 ++ t234)) else (none))))) = some r := h
 clear h
 replace H := Option.bind_eq_some_iff.mp H
 obtain ⟨t230, A20, H⟩ := H
 (try dsimp only at H)
 have A2 := Gv.a0 A20
 clear A20
 replace H := Option.bind_eq_some_iff.mp H
 obtain ⟨t231, A30, H⟩ := H
 (try dsimp only at H)
 have A3 := Gv.a0 A30
 clear A30
 replace H := Option.bind_eq_some_iff.mp H
 obtain ⟨t234, A40, H⟩ := H
 (try dsimp only at H)
 have A4 := Gv.a0 A40
 clear A40
 by_cases c5 : t231.length + t234.length < 140737488355328
 ·rw [if_pos c5] at H
  have LMc5 := Gv.a0 c5
  clear c5
  obtain ⟨y237, hy237⟩ : ∃ y_ : List Int, y_ = (t231 ++ t234) := ⟨_, rfl⟩
  replace H : (some y237) = some r := by first | (rw [hy237]; with_reducible exact H) | (have H2_ := (Option.bind_some _ _).symm.trans H; rw [hy237]; with_reducible exact H2_) | (have H2_ := (Option.bind_some _ _).symm.trans H; with_reducible exact H2_) | with_reducible exact H | (rw [hy237]; exact H) | exact H
  have Ny237 := Gv.a0 hy237
  clear hy237
  obtain rfl := Option.some.inj H
  go_enter Try.func83, Try.ntmps83
  go_wp2_with (first | ((with_reducible refine gate_callee (f := 84) rfl ?_); refine goesL_ (some 5) rfl rfl Try.func84 (by kernel_rfl) rfl #[.int .i64 a0, .int .i64 4294967296] rfl Gv.lm ?_; (with_reducible refine (spec_l01Low.calls a0 4294967296 t230 _ A2.out).mono ?_); rintro e w' ⟨rfl, ⟨nd, rfl⟩⟩; refine ⟨_, rfl, ?_⟩) | ((with_reducible refine gate_callee (f := 72) rfl ?_); refine goesL_ (some 8) rfl rfl Try.func72 (by kernel_rfl) rfl #[.int .i64 (wrap64 (Int.tdiv t230 65536))] rfl Gv.lm ?_; (with_reducible refine (spec_Put16.calls (wrap64 (Int.tdiv t230 65536)) t231 _ A3.out).mono ?_); rintro e w6 ⟨v232, rfl, ho0, hb⟩; refine ⟨_, rfl, ?_⟩; have HO233 := Gv.a0 (Kd.R_lower ho0 (below_size Gv.bw)); replace HB := Gv.a0 (below_step Gv.bw hb); clear hb ho0) | ((with_reducible refine gate_callee (f := 72) rfl ?_); refine goesL_ (some 11) rfl rfl Try.func72 (by kernel_rfl) rfl #[.int .i64 (Int.tmod t230 65536)] rfl Gv.lm ?_; (with_reducible refine (spec_Put16.calls (Int.tmod t230 65536) t234 _ A4.out).mono ?_); rintro e w7 ⟨v235, rfl, ho0, hb⟩; refine ⟨_, rfl, ?_⟩; have HO236 := Gv.a0 (Kd.R_lower (Kd.R_new' ho0 (Kd.R_lt (Gv.kr HO233.out))) (below_size Gv.bw)); replace HO233 := Gv.a0 (Kd.R_elder' (Gv.kr HO233.out) (Kd.R_base ho0) hb); replace HB := Gv.a0 (below_step Gv.bw hb); clear hb ho0; obtain ⟨Ao9, co9, eo9⟩ := Kd.R_slice HO236.out; subst eo9) | ((with_reducible refine gate_builtin (b := .append) (xs := #[.tmp 8, .tmp 11]) rfl ?_); at_builtin; refine Kd.R_append_rows (Kd.int .u8) (w0 := w) w.heap.size rfl (.tmp 8) (.tmp 11) 68 5 (.int .u8 0) 1 rfl Try.underlying68 info5 rfl (by decide) (by omega) v232 t231 t234 _ _ _ (fun k_ => some k_ ≠ (.slice Ao9 t234.length co9 : Value).ownBlock) (fun _ => False) rfl rfl ?aO ?aR (fun _ _ h => h) (fun _ h => h.elim) ?aF ?aB ?aS ?aL ?_; (case aR => repeat (first | exact (Kd.R_reads' HO236.out).2.2 | (with_reducible refine Kd.C_alloc ?_ _) | (with_reducible refine Kd.C_drewN ?_ _) | (with_reducible refine Kd.C_drew ?_))); (case aB => exact Gv.bw); (case aF => exact (fun k_ hk => Kd.fresh' (Kd.R_lt (Gv.kr HO236.out)) k_ hk)); (case aO => exact (by (with_reducible repeat (first | apply Kd.R_alloc | apply Kd.R_drewN | apply Kd.R_drew)); exact Kd.R_mono HO233.out (fun _ hk => hk.2))); (case aS => exact (below_size Gv.bw)); (case aL => have := LMc5.out; omega); intro v238 w8 ho hb hg hat; rw [← Ny237.out] at ho; replace HO236 := Gv.a0 (Kd.R_after (ok := (fun _ => True)) (Gv.kr HO236.out) hg hat); replace HB := Gv.a0 (hb); have HO239 := Gv.a0 (ho); clear HO233 ho hb hg hat))
  go_ret
  exact ⟨_, Gv.rt, by (with_reducible repeat (first | apply Kd.R_alloc | apply Kd.R_drewN | apply Kd.R_drew)); exact Kd.R_mono HO239.out (fun _ hk => trivial), Gv.bw⟩
 ·rw [if_neg c5] at H
  exact absurd H (by simp)

end Go.Proofs.Ytfnpodebjejhpaa.PTp
